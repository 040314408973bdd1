/- wire.Encode, kind 3: what it computes. -/
import Derived.Test.YtgkmgdkmafbohaaEnc3
import Derived.Test.YtgkmgdkmafbohaaMsgC
set_option linter.unusedVariables false
set_option linter.unusedSimpArgs false
namespace Go.Proofs.Ytgkmgdkmafbohaa
open Go Go.RowKit

set_option maxRecDepth 100000 in
set_option maxHeartbeats 8000000 in
theorem wencode_3 {G : Nat → Prop} {d : Bytes} (f t ba bn : Int) (a1 : Option Addr) (ntx : Nat) (c1 : Nat) (ha hr : Int) (a2 : Option Addr) (nbs : Nat) (c2 : Nat) (a3 : Option Addr) (nps : Nat) (c3 : Nat) (sa sr : Int) (a4 : Option Addr) (c4 : Nat) (ca cr : Int) (a5 : Option Addr) (ncb : Nat) (c5 : Nat) (a6 : Option Addr) (ncp : Nat) (c6 : Nat) (a7 : Option Addr) (nvs : Nat) (c7 : Nat) (r : Int) (w : World)
    (hC : ∀ w', Below w.heap.size w w' → Calls Try.prog 18 #[.agg #[.int .i64 f, .int .i64 t, .int .i64 3, .int .i64 ba, .int .i64 bn, .slice a1 ntx c1, .int .i64 ha, .int .i64 hr, .slice a2 nbs c2, .slice a3 nps c3, .int .i64 sa, .int .i64 sr, .slice a4 d.length c4, .int .i64 ca, .int .i64 cr, .slice a5 ncb c5, .slice a6 ncp c6, .slice a7 nvs c7, .int .i64 r]] w' fun e w'' => e = .returned (.int .i64 0) ∧ Below w'.heap.size w' w'')
    (f0 : 0 ≤ f) (f1 : f < 4) (t0 : 0 ≤ t) (t1 : t < 4) (g4 : RdB G w (.slice a4 d.length c4) d) (k1 : d.length = 32) (z0 : 0 ≤ sa) (z1 : sa < 4) (z2 : 0 ≤ sr) (z3 : sr ≤ 1048576) :
    Calls Try.prog 20 #[.agg #[.int .i64 f, .int .i64 t, .int .i64 3, .int .i64 ba, .int .i64 bn, .slice a1 ntx c1, .int .i64 ha, .int .i64 hr, .slice a2 nbs c2, .slice a3 nps c3, .int .i64 sa, .int .i64 sr, .slice a4 d.length c4, .int .i64 ca, .int .i64 cr, .slice a5 ncb c5, .slice a6 ncp c6, .slice a7 nvs c7, .int .i64 r]] w fun e w' => ∃ v', e = .returned (.tuple #[v', .int .i64 0]) ∧
      w'.ownsRow w.heap.size 5 1 v' (byteZ 3 :: byteZ f :: byteZ t :: (byteZ sa :: (wideL sr ++ d))).length (byteVs (byteZ 3 :: byteZ f :: byteZ t :: (byteZ sa :: (wideL sr ++ d)))) ∧ Below w.heap.size w w' := by
  have G4 := Lib.hid (g4.low (by decide))
  have HC := Lib.hid hC
  have K1 := Lib.hid k1
  have d0 : 0 < d.length := by omega
  have d1 : d.length ≤ 32 := by omega
  clear g4 hC k1
  go_enter Try.func20, Try.ntmps20
  go_upto_region 1 with fail
  obtain ⟨w1, hw1⟩ : ∃ w1, w1 = w.alloc (.cells #[.int .i64 f, .int .i64 t, .int .i64 3, .int .i64 ba, .int .i64 bn, .slice a1 ntx c1, .int .i64 ha, .int .i64 hr, .slice a2 nbs c2, .slice a3 nps c3, .int .i64 sa, .int .i64 sr, .slice a4 d.length c4, .int .i64 ca, .int .i64 cr, .slice a5 ncb c5, .slice a6 ncp c6, .slice a7 nvs c7, .int .i64 r] 42) := ⟨_, rfl⟩
  have bx : BoxAt w1 w.heap.size [.int .i64 f, .int .i64 t, .int .i64 3, .int .i64 ba, .int .i64 bn, .slice a1 ntx c1, .int .i64 ha, .int .i64 hr, .slice a2 nbs c2, .slice a3 nps c3, .int .i64 sa, .int .i64 sr, .slice a4 d.length c4, .int .i64 ca, .int .i64 cr, .slice a5 ncb c5, .slice a6 ncp c6, .slice a7 nvs c7, .int .i64 r] 42 := by rw [hw1]; exact BoxAt.new w [.int .i64 f, .int .i64 t, .int .i64 3, .int .i64 ba, .int .i64 bn, .slice a1 ntx c1, .int .i64 ha, .int .i64 hr, .slice a2 nbs c2, .slice a3 nps c3, .int .i64 sa, .int .i64 sr, .slice a4 d.length c4, .int .i64 ca, .int .i64 cr, .slice a5 ncb c5, .slice a6 ncp c6, .slice a7 nvs c7, .int .i64 r] _
  have hb1 : Below w.heap.size w w1 := by rw [hw1]; exact (Below.refl _ _).alloc (Nat.le_refl _) _
  have zz1 : w1.heap.size = w.heap.size + 1 := by rw [hw1]; simp
  rw [← hw1]
  have HBX1 := Lib.hid bx
  have HB1 := Lib.hid hb1
  have HZ1 := Lib.hid zz1
  clear hw1 bx hb1 zz1
  go_wp2_with (refine wpList_load_box rfl 42 _ rfl w.heap.size rfl [.int .i64 f, .int .i64 t, .int .i64 3, .int .i64 ba, .int .i64 bn, .slice a1 ntx c1, .int .i64 ha, .int .i64 hr, .slice a2 nbs c2, .slice a3 nps c3, .int .i64 sa, .int .i64 sr, .slice a4 d.length c4, .int .i64 ca, .int .i64 cr, .slice a5 ncb c5, .slice a6 ncp c6, .slice a7 nvs c7, .int .i64 r] 42 HBX1.out Try.underlying42 rfl (by kernel_rfl) ?_)
  refine (HC.out w1 HB1.out).mono ?_
  rintro e w2 ⟨rfl, hb2⟩
  have bx2 := HBX1.out.belowS hb2
  have hbw2 : Below w.heap.size w w2 := HB1.out.trans (hb2.mono HB1.out.size)
  have hX2 : w.heap.size < w2.heap.size := bx2.lt
  have R4 := Lib.hid (G4.out.below hbw2 (fun _ h => h))
  have x0 := bx2.cell 0 rfl
  have x1 := bx2.cell 1 rfl
  have x2 := bx2.cell 2 rfl
  have x10 := bx2.cell 10 rfl
  have x11 := bx2.cell 11 rfl
  have x12 := bx2.cell 12 rfl
  have HBX := Lib.hid bx2
  have HBW := Lib.hid hbw2
  clear bx2 hbw2 hb2
  have hlit : ∀ (q : World), q.heap.size = w2.heap.size → byteVs [byteZ 3, byteZ f, byteZ t] = [Value.int .u8 3, .int .u8 f, .int .u8 t] := fun _ _ => by
    simp only [byteVs, List.map_cons, List.map_nil, byteZ_toNat, show (f % 256) = f by omega, show (t % 256) = t by omega, show ((3 : Int) % 256) = 3 by decide]
  have HLIT := Lib.hid (hlit w2 rfl)
  clear hlit
  have HOWN := Lib.hid (show (w2.alloc (.cells #[.int .u8 3, .int .u8 f, .int .u8 t] 5)).ownsRow w2.heap.size 5 1 (.slice (some ⟨w2.heap.size, 0, none⟩) 3 3) [byteZ 3, byteZ f, byteZ t].length (byteVs [byteZ 3, byteZ f, byteZ t]) by rw [HLIT.out]; exact lit_ownsN w2 [.int .u8 3, .int .u8 f, .int .u8 t] _)
  go_upto_region 11 with fail
  obtain ⟨wa, hwa⟩ : ∃ wa, wa = w2.alloc (.cells #[.int .u8 3, .int .u8 f, .int .u8 t] 5) := ⟨_, rfl⟩
  have HO := Lib.hid (show wa.ownsRow w2.heap.size 5 1 (.slice (some ⟨w2.heap.size, 0, none⟩) 3 3) 3 (byteVs [byteZ 3, byteZ f, byteZ t]) by rw [hwa]; exact HOWN.out)
  have hba : Below w2.heap.size w2 wa := by rw [hwa]; exact (Below.refl _ _).alloc (Nat.le_refl _) _
  have hsa : w2.heap.size < wa.heap.size := by rw [hwa]; simp
  rw [← hwa]
  have bxa := HBX.out.belowS hba
  have A4 := Lib.hid (R4.out.below hba (fun _ h => h))
  have HBA := Lib.hid (HBW.out.trans (hba.mono (Nat.le_of_lt hX2)))
  have HBXA := Lib.hid bxa
  clear hwa hba x0 x1 x2 x10 x11 x12
  have x10 := bxa.cell 10 rfl
  have x11 := bxa.cell 11 rfl
  have x12 := bxa.cell 12 rfl
  clear bxa
  have hXv : (.slice (some ⟨w2.heap.size, 0, none⟩) 3 3 : Value).ownBlock ≠ some w.heap.size := by simp [Value.ownBlock]; omega
  have hGv : ∀ b, (G b ∧ b < w.heap.size) → (.slice (some ⟨w2.heap.size, 0, none⟩) 3 3 : Value).ownBlock ≠ some b := fun b hb => by have := hb.2; simp [Value.ownBlock]; omega
  have HGV := Lib.hid hGv
  clear hGv
  have L1 := Lib.hid (show ([byteZ 3, byteZ f, byteZ t] ++ [byteZ sa]).length ≤ 1000000 by simp)
  have hL2 : ([byteZ 3, byteZ f, byteZ t] ++ [byteZ sa] ++ wideL sr).length ≤ 1000 := by simp [wideL]
  generalize hL2e : [byteZ 3, byteZ f, byteZ t] ++ [byteZ sa] ++ wideL sr = M2 at *
  have HL2E := Lib.hid hL2e
  clear hL2e
  go_region_held3 (fun w' => w'.cell? ⟨w.heap.size, 10, none⟩ = some (.int .i64 sa) ∧ w'.cell? ⟨w.heap.size, 11, none⟩ = some (.int .i64 sr) ∧ w'.cell? ⟨w.heap.size, 12, none⟩ = some (.slice a4 d.length c4)) (go_keep)
    (first
      | (refine step_append_at1 (by rfl) _ _ _ (by rfl) elemB w2.heap.size v4 M2.length (byteVs M2) (by rfl) HA4.out.own _ d.length (byteVs d) (by rfl) (by exact (A4.out.keep (HA4.out.keepG HGV.out) (fun _ h => h)).slCells) (oneCell_map _ _ (fun _ => rfl)) d0 (by unfold maxLen; omega) (by omega) (by omega) ?_; intro g5 cap5 w5 hown hgr hat hlt; have hA5 : AppB w2.heap.size 5 w4 v4 w5 (.slice (some ⟨g5, 0, none⟩) (M2.length + d.length) cap5) (M2 ++ d) := (AppB.of rfl rfl hown rfl hgr hat rfl (Below.refl _ _)); have hA := HA4.out.trans hA5; have HA5 := Lib.hid hA; have bxn := hA.box HBXA.out hXv; have u510 := bxn.cell 10 rfl; have u511 := bxn.cell 11 rfl; have u512 := bxn.cell 12 rfl; clear bxn; clear hA hA5 hown hgr hat)
      | (refine step_append_at1 (by rfl) _ _ _ (by rfl) elemB w2.heap.size (.slice (some ⟨w2.heap.size, 0, none⟩) 3 3) 3 (byteVs [byteZ 3, byteZ f, byteZ t]) (by rfl) (by exact ownsRow_below HO.out (by repeat (first | with_reducible exact Below.refl _ _ | with_reducible refine Below.drew ?_ | with_reducible refine Below.alloc ?_ (by first | omega | (simp <;> omega)) _))) _ 1 [.int .u8 (IntKind.u8.wrap sa)] (by rfl) (by first | exact (BoxAt.new _ [_] _).slCellsN rfl | exact ((BoxAt.new _ [_] _).drew).slCellsN rfl) (by simp [Value.oneCell']) (by decide) (by unfold maxLen; omega) (by omega) (by first | omega | (simp; omega)) ?_; intro g cap w3 hown hgr hat hlt; have hA : AppB w2.heap.size 5 wa (.slice (some ⟨w2.heap.size, 0, none⟩) 3 3) w3 (.slice (some ⟨g, 0, none⟩) (3 + 1) cap) ([byteZ 3, byteZ f, byteZ t] ++ [byteZ sa]) := (AppB.of rfl rfl hown (by simp [byteVs, byteZ_toNat, u8_wrap]) hgr hat rfl (by repeat (first | with_reducible exact Below.refl _ _ | with_reducible refine Below.drew ?_ | with_reducible refine Below.alloc ?_ (by first | omega | (simp <;> omega)) _))); have HA := Lib.hid hA; have bxn := hA.box HBXA.out hXv; have y10 := bxn.cell 10 rfl; have y11 := bxn.cell 11 rfl; have y12 := bxn.cell 12 rfl; clear bxn; have s3 := hA.size; clear hA hown hgr hat)
      | (go_at_call 37; refine (wide_any w2.heap.size _ ([byteZ 3, byteZ f, byteZ t] ++ [byteZ sa]) sr _ HA.out.own (by omega) L1.out z2 (by omega)).mono ?_; rintro e w4 ⟨v4, rfl, hA4⟩; have hA := HA.out.trans hA4; rw [HL2E.out] at hA; have HA4 := Lib.hid hA; have bxn := hA.box HBXA.out hXv; have q10 := bxn.cell 10 rfl; have q11 := bxn.cell 11 rfl; have q12 := bxn.cell 12 rfl; clear bxn; have s4 := hA.size; clear hA hA4))
  all_goals
    have hown := ownsRow_mono HA5.out.own (Nat.le_of_lt hX2)
    have hfin : Below w.heap.size w w5 := HA5.out.bel HBA.out (by omega) (fun k hk => by simp [Value.ownBlock] at hk; omega)
    have hle : byteZ 3 :: byteZ f :: byteZ t :: (byteZ sa :: (wideL sr ++ d)) = M2 ++ d := by rw [← HL2E.out]; simp
    rw [← hle] at hown
    have HOW := Lib.hid hown
    clear hown hle
    go_wp2
    refine bodyPost_ret (v := .tuple #[.slice (some ⟨g5, 0, none⟩) (M2.length + d.length) cap5, .int .i64 0]) (by simp [results, Try.results20, go_sem]) rfl ⟨_, rfl, HOW.out, hfin⟩
end Go.Proofs.Ytgkmgdkmafbohaa
