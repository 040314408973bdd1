/- wire.Encode, kind 3: what it computes. -/
import Derived.Test.YtgkmgdkmafbohaaRows
import Derived.Outline
import Derived.BigGuardPart
import Derived.Deep.DeepCutAuto
import Derived.Deep.RegionHeld3
import Derived.Deep.RegionLaw
import Derived.IntWalk
import Derived.Deep.CutBlock
import Derived.ProofKit
import Derived.OpenShut
import Derived.Deep.Slices
import Derived.SizedLaws
import Derived.Laws.BitsAllLaws
import Derived.Test.YtgkmgdkmafbohaaMessageBackPk1
/- wire.Encode, kind 3: what it computes. -/
set_option linter.unusedVariables false
set_option linter.unusedSimpArgs false
namespace Go.Proofs.Ytgkmgdkmafbohaa
open Go Go.RowKit

set_option maxRecDepth 100000 in
set_option maxHeartbeats 8000000 in
theorem wencode_3 {G : Nat → Prop} {d : Bytes} (f t ba bn : Int) (a1 : Option Addr) (ntx : Nat) (c1 : Nat) (ha hr : Int) (a2 : Option Addr) (nbs : Nat) (c2 : Nat) (a3 : Option Addr) (nps : Nat) (c3 : Nat) (sa sr : Int) (a4 : Option Addr) (c4 : Nat) (ca cr : Int) (a5 : Option Addr) (ncb : Nat) (c5 : Nat) (a6 : Option Addr) (ncp : Nat) (c6 : Nat) (a7 : Option Addr) (nvs : Nat) (c7 : Nat) (r : Int) (w : World)
    (hC : ∀ w', Below w.heap.size w w' → Calls Try.prog 18 #[.agg #[.int .i64 f, .int .i64 t, .int .i64 3, .int .i64 ba, .int .i64 bn, .slice a1 ntx c1, .int .i64 ha, .int .i64 hr, .slice a2 nbs c2, .slice a3 nps c3, .int .i64 sa, .int .i64 sr, .slice a4 d.length c4, .int .i64 ca, .int .i64 cr, .slice a5 ncb c5, .slice a6 ncp c6, .slice a7 nvs c7, .int .i64 r]] w' fun e w'' => e = .returned (.int .i64 0) ∧ Below w'.heap.size w' w'')
    (f0 : 0 ≤ f) (f1 : f < 4) (t0 : 0 ≤ t) (t1 : t < 4) (g4 : RdB G w (.slice a4 d.length c4) d) (k1 : d.length = 32) (z0 : 0 ≤ sa) (z1 : sa < 4) (z2 : 0 ≤ sr) (z3 : sr ≤ 1048576) :
    Calls Try.prog 20 #[.agg #[.int .i64 f, .int .i64 t, .int .i64 3, .int .i64 ba, .int .i64 bn, .slice a1 ntx c1, .int .i64 ha, .int .i64 hr, .slice a2 nbs c2, .slice a3 nps c3, .int .i64 sa, .int .i64 sr, .slice a4 d.length c4, .int .i64 ca, .int .i64 cr, .slice a5 ncb c5, .slice a6 ncp c6, .slice a7 nvs c7, .int .i64 r]] w fun e w' => ∃ v', e = .returned (.tuple #[v', .int .i64 0]) ∧
      w'.ownsRow w.heap.size 5 1 v' (byteZ 3 :: byteZ f :: byteZ t :: (byteZ sa :: (wideL sr ++ d))).length (byteVs (byteZ 3 :: byteZ f :: byteZ t :: (byteZ sa :: (wideL sr ++ d)))) ∧ Below w.heap.size w w' := by
  have G4 := Lib.hid (g4.low (by decide))
  have HC := Lib.hid hC
  have K1 := Lib.hid k1
  have d0 : 0 < d.length := by omega
  have d1 : d.length ≤ 32 := by omega
  clear g4 hC k1
  go_enter Try.func20, Try.ntmps20
  go_upto_region 1 with fail
  obtain ⟨w1, hw1⟩ : ∃ w1, w1 = w.alloc (.cells #[.int .i64 f, .int .i64 t, .int .i64 3, .int .i64 ba, .int .i64 bn, .slice a1 ntx c1, .int .i64 ha, .int .i64 hr, .slice a2 nbs c2, .slice a3 nps c3, .int .i64 sa, .int .i64 sr, .slice a4 d.length c4, .int .i64 ca, .int .i64 cr, .slice a5 ncb c5, .slice a6 ncp c6, .slice a7 nvs c7, .int .i64 r] 42) := ⟨_, rfl⟩
  have bx : BoxAt w1 w.heap.size [.int .i64 f, .int .i64 t, .int .i64 3, .int .i64 ba, .int .i64 bn, .slice a1 ntx c1, .int .i64 ha, .int .i64 hr, .slice a2 nbs c2, .slice a3 nps c3, .int .i64 sa, .int .i64 sr, .slice a4 d.length c4, .int .i64 ca, .int .i64 cr, .slice a5 ncb c5, .slice a6 ncp c6, .slice a7 nvs c7, .int .i64 r] 42 := by rw [hw1]; exact BoxAt.new w [.int .i64 f, .int .i64 t, .int .i64 3, .int .i64 ba, .int .i64 bn, .slice a1 ntx c1, .int .i64 ha, .int .i64 hr, .slice a2 nbs c2, .slice a3 nps c3, .int .i64 sa, .int .i64 sr, .slice a4 d.length c4, .int .i64 ca, .int .i64 cr, .slice a5 ncb c5, .slice a6 ncp c6, .slice a7 nvs c7, .int .i64 r] _
  have hb1 : Below w.heap.size w w1 := by rw [hw1]; exact (Below.refl _ _).alloc (Nat.le_refl _) _
  have zz1 : w1.heap.size = w.heap.size + 1 := by rw [hw1]; simp
  rw [← hw1]
  have HBX1 := Lib.hid bx
  have HB1 := Lib.hid hb1
  have HZ1 := Lib.hid zz1
  clear hw1 bx hb1 zz1
  go_wp2_with (refine wpList_load_box rfl 42 _ rfl w.heap.size rfl [.int .i64 f, .int .i64 t, .int .i64 3, .int .i64 ba, .int .i64 bn, .slice a1 ntx c1, .int .i64 ha, .int .i64 hr, .slice a2 nbs c2, .slice a3 nps c3, .int .i64 sa, .int .i64 sr, .slice a4 d.length c4, .int .i64 ca, .int .i64 cr, .slice a5 ncb c5, .slice a6 ncp c6, .slice a7 nvs c7, .int .i64 r] 42 HBX1.out Try.underlying42 rfl (by kernel_rfl) ?_)
  refine (HC.out w1 HB1.out).mono ?_
  rintro e w2 ⟨rfl, hb2⟩
  have bx2 := HBX1.out.belowS hb2
  have hbw2 : Below w.heap.size w w2 := HB1.out.trans (hb2.mono HB1.out.size)
  have hX2 : w.heap.size < w2.heap.size := bx2.lt
  have R4 := Lib.hid (G4.out.below hbw2 (fun _ h => h))
  have x0 := bx2.cell 0 rfl
  have x1 := bx2.cell 1 rfl
  have x2 := bx2.cell 2 rfl
  have x10 := bx2.cell 10 rfl
  have x11 := bx2.cell 11 rfl
  have x12 := bx2.cell 12 rfl
  have HBX := Lib.hid bx2
  have HBW := Lib.hid hbw2
  clear bx2 hbw2 hb2
  have hlit : ∀ (q : World), q.heap.size = w2.heap.size → byteVs [byteZ 3, byteZ f, byteZ t] = [Value.int .u8 3, .int .u8 f, .int .u8 t] := fun _ _ => by
    simp only [byteVs, List.map_cons, List.map_nil, byteZ_toNat, show (f % 256) = f by omega, show (t % 256) = t by omega, show ((3 : Int) % 256) = 3 by decide]
  have HLIT := Lib.hid (hlit w2 rfl)
  clear hlit
  have HOWN := Lib.hid (show (w2.alloc (.cells #[.int .u8 3, .int .u8 f, .int .u8 t] 5)).ownsRow w2.heap.size 5 1 (.slice (some ⟨w2.heap.size, 0, none⟩) 3 3) [byteZ 3, byteZ f, byteZ t].length (byteVs [byteZ 3, byteZ f, byteZ t]) by rw [HLIT.out]; exact lit_ownsN w2 [.int .u8 3, .int .u8 f, .int .u8 t] _)
  go_upto_region 11 with fail
  obtain ⟨wa, hwa⟩ : ∃ wa, wa = w2.alloc (.cells #[.int .u8 3, .int .u8 f, .int .u8 t] 5) := ⟨_, rfl⟩
  have HO := Lib.hid (show wa.ownsRow w2.heap.size 5 1 (.slice (some ⟨w2.heap.size, 0, none⟩) 3 3) 3 (byteVs [byteZ 3, byteZ f, byteZ t]) by rw [hwa]; exact HOWN.out)
  have hba : Below w2.heap.size w2 wa := by rw [hwa]; exact (Below.refl _ _).alloc (Nat.le_refl _) _
  have hsa : w2.heap.size < wa.heap.size := by rw [hwa]; simp
  rw [← hwa]
  have bxa := HBX.out.belowS hba
  have A4 := Lib.hid (R4.out.below hba (fun _ h => h))
  have HBA := Lib.hid (HBW.out.trans (hba.mono (Nat.le_of_lt hX2)))
  have HBXA := Lib.hid bxa
  clear hwa hba x0 x1 x2 x10 x11 x12
  have x10 := bxa.cell 10 rfl
  have x11 := bxa.cell 11 rfl
  have x12 := bxa.cell 12 rfl
  clear bxa
  have hXv : (.slice (some ⟨w2.heap.size, 0, none⟩) 3 3 : Value).ownBlock ≠ some w.heap.size := by simp [Value.ownBlock]; omega
  have hGv : ∀ b, (G b ∧ b < w.heap.size) → (.slice (some ⟨w2.heap.size, 0, none⟩) 3 3 : Value).ownBlock ≠ some b := fun b hb => by have := hb.2; simp [Value.ownBlock]; omega
  have HGV := Lib.hid hGv
  clear hGv
  have L1 := Lib.hid (show ([byteZ 3, byteZ f, byteZ t] ++ [byteZ sa]).length ≤ 1000000 by simp)
  have hL2 : ([byteZ 3, byteZ f, byteZ t] ++ [byteZ sa] ++ wideL sr).length ≤ 1000 := by simp [wideL]
  generalize hL2e : [byteZ 3, byteZ f, byteZ t] ++ [byteZ sa] ++ wideL sr = M2 at *
  have HL2E := Lib.hid hL2e
  clear hL2e
  go_region_held3 (fun w' => w'.cell? ⟨w.heap.size, 10, none⟩ = some (.int .i64 sa) ∧ w'.cell? ⟨w.heap.size, 11, none⟩ = some (.int .i64 sr) ∧ w'.cell? ⟨w.heap.size, 12, none⟩ = some (.slice a4 d.length c4)) (go_keep)
    (first
      | (refine step_append_at1 (by rfl) _ _ _ (by rfl) elemB w2.heap.size v4 M2.length (byteVs M2) (by rfl) HA4.out.own _ d.length (byteVs d) (by rfl) (by exact (A4.out.keep (HA4.out.keepG HGV.out) (fun _ h => h)).slCells) (oneCell_map _ _ (fun _ => rfl)) d0 (by unfold maxLen; omega) (by omega) (by omega) ?_; intro g5 cap5 w5 hown hgr hat hlt; have hA5 : AppB w2.heap.size 5 w4 v4 w5 (.slice (some ⟨g5, 0, none⟩) (M2.length + d.length) cap5) (M2 ++ d) := (AppB.of rfl rfl hown rfl hgr hat rfl (Below.refl _ _)); have hA := HA4.out.trans hA5; have HA5 := Lib.hid hA; have bxn := hA.box HBXA.out hXv; have u510 := bxn.cell 10 rfl; have u511 := bxn.cell 11 rfl; have u512 := bxn.cell 12 rfl; clear bxn; clear hA hA5 hown hgr hat)
      | (refine step_append_at1 (by rfl) _ _ _ (by rfl) elemB w2.heap.size (.slice (some ⟨w2.heap.size, 0, none⟩) 3 3) 3 (byteVs [byteZ 3, byteZ f, byteZ t]) (by rfl) (by exact ownsRow_below HO.out (by repeat (first | with_reducible exact Below.refl _ _ | with_reducible refine Below.drew ?_ | with_reducible refine Below.alloc ?_ (by first | omega | (simp <;> omega)) _))) _ 1 [.int .u8 (IntKind.u8.wrap sa)] (by rfl) (by first | exact (BoxAt.new _ [_] _).slCellsN rfl | exact ((BoxAt.new _ [_] _).drew).slCellsN rfl) (by simp [Value.oneCell']) (by decide) (by unfold maxLen; omega) (by omega) (by first | omega | (simp; omega)) ?_; intro g cap w3 hown hgr hat hlt; have hA : AppB w2.heap.size 5 wa (.slice (some ⟨w2.heap.size, 0, none⟩) 3 3) w3 (.slice (some ⟨g, 0, none⟩) (3 + 1) cap) ([byteZ 3, byteZ f, byteZ t] ++ [byteZ sa]) := (AppB.of rfl rfl hown (by simp [byteVs, byteZ_toNat, u8_wrap]) hgr hat rfl (by repeat (first | with_reducible exact Below.refl _ _ | with_reducible refine Below.drew ?_ | with_reducible refine Below.alloc ?_ (by first | omega | (simp <;> omega)) _))); have HA := Lib.hid hA; have bxn := hA.box HBXA.out hXv; have y10 := bxn.cell 10 rfl; have y11 := bxn.cell 11 rfl; have y12 := bxn.cell 12 rfl; clear bxn; have s3 := hA.size; clear hA hown hgr hat)
      | (go_at_call 37; refine (wide_any w2.heap.size _ ([byteZ 3, byteZ f, byteZ t] ++ [byteZ sa]) sr _ HA.out.own (by omega) L1.out z2 (by omega)).mono ?_; rintro e w4 ⟨v4, rfl, hA4⟩; have hA := HA.out.trans hA4; rw [HL2E.out] at hA; have HA4 := Lib.hid hA; have bxn := hA.box HBXA.out hXv; have q10 := bxn.cell 10 rfl; have q11 := bxn.cell 11 rfl; have q12 := bxn.cell 12 rfl; clear bxn; have s4 := hA.size; clear hA hA4))
  all_goals
    have hown := ownsRow_mono HA5.out.own (Nat.le_of_lt hX2)
    have hfin : Below w.heap.size w w5 := HA5.out.bel HBA.out (by omega) (fun k hk => by simp [Value.ownBlock] at hk; omega)
    have hle : byteZ 3 :: byteZ f :: byteZ t :: (byteZ sa :: (wideL sr ++ d)) = M2 ++ d := by rw [← HL2E.out]; simp
    rw [← hle] at hown
    have HOW := Lib.hid hown
    clear hown hle
    go_wp2
    refine bodyPost_ret (v := .tuple #[.slice (some ⟨g5, 0, none⟩) (M2.length + d.length) cap5, .int .i64 0]) (by simp [results, Try.results20, go_sem]) rfl ⟨_, rfl, HOW.out, hfin⟩
end Go.Proofs.Ytgkmgdkmafbohaa
/- wire.Encode, kind 4: what it computes. -/
set_option linter.unusedVariables false
set_option linter.unusedSimpArgs false
namespace Go.Proofs.Ytgkmgdkmafbohaa
open Go Go.RowKit

set_option maxRecDepth 100000 in
set_option maxHeartbeats 8000000 in
theorem wencode_4 {G : Nat → Prop} {bs ps : List Bytes} {vs : List Int} (f t ba bn : Int) (a1 : Option Addr) (ntx : Nat) (c1 : Nat) (ha hr : Int) (a2 : Option Addr) (nbs : Nat) (c2 : Nat) (a3 : Option Addr) (nps : Nat) (c3 : Nat) (sa sr : Int) (a4 : Option Addr) (nd : Nat) (c4 : Nat) (ca cr : Int) (a5 : Option Addr) (c5 : Nat) (a6 : Option Addr) (c6 : Nat) (a7 : Option Addr) (c7 : Nat) (r : Int) (w : World)
    (hC : ∀ w', Below w.heap.size w w' → Calls Try.prog 18 #[.agg #[.int .i64 f, .int .i64 t, .int .i64 4, .int .i64 ba, .int .i64 bn, .slice a1 ntx c1, .int .i64 ha, .int .i64 hr, .slice a2 nbs c2, .slice a3 nps c3, .int .i64 sa, .int .i64 sr, .slice a4 nd c4, .int .i64 ca, .int .i64 cr, .slice a5 bs.length c5, .slice a6 ps.length c6, .slice a7 vs.length c7, .int .i64 r]] w' fun e w'' => e = .returned (.int .i64 0) ∧ Below w'.heap.size w' w'')
    (f0 : 0 ≤ f) (f1 : f < 4) (t0 : 0 ≤ t) (t1 : t < 4) (g5 : RdBB G w (.slice a5 bs.length c5) bs) (g6 : RdBB G w (.slice a6 ps.length c6) ps) (g7 : RdI G w (.slice a7 vs.length c7) vs) (k1 : ∀ x ∈ bs, x.length = 32) (k2 : ∀ x ∈ ps, x.length = 32) (k3 : bs.length ≤ 10) (k4 : ps.length ≤ 10) (k5 : vs.length ≤ 4) (z0 : 0 ≤ ca) (z1 : ca < 4) (z2 : 0 ≤ cr) (z3 : cr ≤ 1048576) :
    Calls Try.prog 20 #[.agg #[.int .i64 f, .int .i64 t, .int .i64 4, .int .i64 ba, .int .i64 bn, .slice a1 ntx c1, .int .i64 ha, .int .i64 hr, .slice a2 nbs c2, .slice a3 nps c3, .int .i64 sa, .int .i64 sr, .slice a4 nd c4, .int .i64 ca, .int .i64 cr, .slice a5 bs.length c5, .slice a6 ps.length c6, .slice a7 vs.length c7, .int .i64 r]] w fun e w' => ∃ v', e = .returned (.tuple #[v', .int .i64 0]) ∧
      w'.ownsRow w.heap.size 5 1 v' (byteZ 4 :: byteZ f :: byteZ t :: (putHeaderL ⟨ca, cr, bs, ps⟩ ++ (byteZ vs.length :: vs.map byteZ))).length (byteVs (byteZ 4 :: byteZ f :: byteZ t :: (putHeaderL ⟨ca, cr, bs, ps⟩ ++ (byteZ vs.length :: vs.map byteZ)))) ∧ Below w.heap.size w w' := by
  have G5 := Lib.hid (g5.low (by decide))
  have G6 := Lib.hid (g6.low (by decide))
  have G7 := Lib.hid (g7.low (by decide))
  have HC := Lib.hid hC
  have K1 := Lib.hid k1
  have K2 := Lib.hid k2
  clear g5 g6 g7 hC k1 k2
  go_enter Try.func20, Try.ntmps20
  go_upto_region 1 with fail
  obtain ⟨w1, hw1⟩ : ∃ w1, w1 = w.alloc (.cells #[.int .i64 f, .int .i64 t, .int .i64 4, .int .i64 ba, .int .i64 bn, .slice a1 ntx c1, .int .i64 ha, .int .i64 hr, .slice a2 nbs c2, .slice a3 nps c3, .int .i64 sa, .int .i64 sr, .slice a4 nd c4, .int .i64 ca, .int .i64 cr, .slice a5 bs.length c5, .slice a6 ps.length c6, .slice a7 vs.length c7, .int .i64 r] 42) := ⟨_, rfl⟩
  have bx : BoxAt w1 w.heap.size [.int .i64 f, .int .i64 t, .int .i64 4, .int .i64 ba, .int .i64 bn, .slice a1 ntx c1, .int .i64 ha, .int .i64 hr, .slice a2 nbs c2, .slice a3 nps c3, .int .i64 sa, .int .i64 sr, .slice a4 nd c4, .int .i64 ca, .int .i64 cr, .slice a5 bs.length c5, .slice a6 ps.length c6, .slice a7 vs.length c7, .int .i64 r] 42 := by rw [hw1]; exact BoxAt.new w [.int .i64 f, .int .i64 t, .int .i64 4, .int .i64 ba, .int .i64 bn, .slice a1 ntx c1, .int .i64 ha, .int .i64 hr, .slice a2 nbs c2, .slice a3 nps c3, .int .i64 sa, .int .i64 sr, .slice a4 nd c4, .int .i64 ca, .int .i64 cr, .slice a5 bs.length c5, .slice a6 ps.length c6, .slice a7 vs.length c7, .int .i64 r] _
  have hb1 : Below w.heap.size w w1 := by rw [hw1]; exact (Below.refl _ _).alloc (Nat.le_refl _) _
  have zz1 : w1.heap.size = w.heap.size + 1 := by rw [hw1]; simp
  rw [← hw1]
  have HBX1 := Lib.hid bx
  have HB1 := Lib.hid hb1
  have HZ1 := Lib.hid zz1
  clear hw1 bx hb1 zz1
  go_wp2_with (refine wpList_load_box rfl 42 _ rfl w.heap.size rfl [.int .i64 f, .int .i64 t, .int .i64 4, .int .i64 ba, .int .i64 bn, .slice a1 ntx c1, .int .i64 ha, .int .i64 hr, .slice a2 nbs c2, .slice a3 nps c3, .int .i64 sa, .int .i64 sr, .slice a4 nd c4, .int .i64 ca, .int .i64 cr, .slice a5 bs.length c5, .slice a6 ps.length c6, .slice a7 vs.length c7, .int .i64 r] 42 HBX1.out Try.underlying42 rfl (by kernel_rfl) ?_)
  refine (HC.out w1 HB1.out).mono ?_
  rintro e w2 ⟨rfl, hb2⟩
  have bx2 := HBX1.out.belowS hb2
  have hbw2 : Below w.heap.size w w2 := HB1.out.trans (hb2.mono HB1.out.size)
  have hX2 : w.heap.size < w2.heap.size := bx2.lt
  have R5 := Lib.hid (G5.out.below hbw2 (fun _ h => h))
  have R6 := Lib.hid (G6.out.below hbw2 (fun _ h => h))
  have R7 := Lib.hid (G7.out.below hbw2 (fun _ h => h))
  have x0 := bx2.cell 0 rfl
  have x1 := bx2.cell 1 rfl
  have x2 := bx2.cell 2 rfl
  have x13 := bx2.cell 13 rfl
  have x14 := bx2.cell 14 rfl
  have x15 := bx2.cell 15 rfl
  have x16 := bx2.cell 16 rfl
  have x17 := bx2.cell 17 rfl
  have HBX := Lib.hid bx2
  have HBW := Lib.hid hbw2
  clear bx2 hbw2 hb2
  have hlit : ∀ (q : World), q.heap.size = w2.heap.size → byteVs [byteZ 4, byteZ f, byteZ t] = [Value.int .u8 4, .int .u8 f, .int .u8 t] := fun _ _ => by
    simp only [byteVs, List.map_cons, List.map_nil, byteZ_toNat, show (f % 256) = f by omega, show (t % 256) = t by omega, show ((4 : Int) % 256) = 4 by decide]
  have HLIT := Lib.hid (hlit w2 rfl)
  clear hlit
  have HOWN := Lib.hid (show (w2.alloc (.cells #[.int .u8 4, .int .u8 f, .int .u8 t] 5)).ownsRow w2.heap.size 5 1 (.slice (some ⟨w2.heap.size, 0, none⟩) 3 3) [byteZ 4, byteZ f, byteZ t].length (byteVs [byteZ 4, byteZ f, byteZ t]) by rw [HLIT.out]; exact lit_ownsN w2 [.int .u8 4, .int .u8 f, .int .u8 t] _)
  go_upto_region 13 with fail
  obtain ⟨wa, hwa⟩ : ∃ wa, wa = w2.alloc (.cells #[.int .u8 4, .int .u8 f, .int .u8 t] 5) := ⟨_, rfl⟩
  have HO := Lib.hid (show wa.ownsRow w2.heap.size 5 1 (.slice (some ⟨w2.heap.size, 0, none⟩) 3 3) 3 (byteVs [byteZ 4, byteZ f, byteZ t]) by rw [hwa]; exact HOWN.out)
  have hba : Below w2.heap.size w2 wa := by rw [hwa]; exact (Below.refl _ _).alloc (Nat.le_refl _) _
  have hsa : w2.heap.size < wa.heap.size := by rw [hwa]; simp
  rw [← hwa]
  have bxa := HBX.out.belowS hba
  have A5 := Lib.hid (R5.out.below hba (fun _ h => h))
  have A6 := Lib.hid (R6.out.below hba (fun _ h => h))
  have A7 := Lib.hid (R7.out.below hba (fun _ h => h))
  have HBA := Lib.hid (HBW.out.trans (hba.mono (Nat.le_of_lt hX2)))
  have HBXA := Lib.hid bxa
  clear hwa hba x0 x1 x2 x13 x14 x15 x16 x17
  have x13 := bxa.cell 13 rfl
  have x14 := bxa.cell 14 rfl
  have x15 := bxa.cell 15 rfl
  have x16 := bxa.cell 16 rfl
  have x17 := bxa.cell 17 rfl
  clear bxa
  have hXv : (.slice (some ⟨w2.heap.size, 0, none⟩) 3 3 : Value).ownBlock ≠ some w.heap.size := by simp [Value.ownBlock]; omega
  have hGv : ∀ b, (G b ∧ b < w.heap.size) → (.slice (some ⟨w2.heap.size, 0, none⟩) 3 3 : Value).ownBlock ≠ some b := fun b hb => by have := hb.2; simp [Value.ownBlock]; omega
  have HGV := Lib.hid hGv
  clear hGv
  have HPL := Lib.hid (show ([byteZ 4, byteZ f, byteZ t] ++ putHeaderL ⟨ca, cr, bs, ps⟩).length ≤ 700 by
    have e1 := putDigestsL_len K1.out k3; have e2 := putDigestsL_len K2.out k4
    have : ([byteZ 4, byteZ f, byteZ t] ++ putHeaderL ⟨ca, cr, bs, ps⟩).length = 3 + (1 + (3 + ((putDigestsL bs).length + (putDigestsL ps).length))) := by simp only [putHeaderL, List.length_append, List.length_cons, List.length_nil, wideL]; omega
    omega)
  have hM := HPL.out
  generalize hMe : [byteZ 4, byteZ f, byteZ t] ++ putHeaderL ⟨ca, cr, bs, ps⟩ = M at *
  have HME := Lib.hid hMe
  clear hMe HPL
  go_cut [5] (fun u wx => AppB w2.heap.size 5 wa (.slice (some ⟨w2.heap.size, 0, none⟩) 3 3) wx u (M ++ [byteZ vs.length]))
  case first =>
    go_region_held3 (fun w' => w'.cell? ⟨w.heap.size, 13, none⟩ = some (.int .i64 ca) ∧ w'.cell? ⟨w.heap.size, 14, none⟩ = some (.int .i64 cr) ∧ w'.cell? ⟨w.heap.size, 15, none⟩ = some (.slice a5 bs.length c5) ∧ w'.cell? ⟨w.heap.size, 16, none⟩ = some (.slice a6 ps.length c6) ∧ w'.cell? ⟨w.heap.size, 17, none⟩ = some (.slice a7 vs.length c7)) (go_keep)
      (first
        | (refine step_append_at1 (by rfl) _ _ _ (by rfl) elemB w2.heap.size v3 M.length (byteVs M) (by rfl) (by first | exact HA3.out.own | exact ownsRow_below HA3.out.own ((Below.refl _ _).alloc (Nat.le_refl _) _)) _ 1 [.int .u8 (IntKind.u8.wrap (vs.length : Int))] (by rfl) (by first | exact HL3.out.slCellsN rfl | exact (BoxAt.new _ [_] _).slCellsN rfl) (by simp [Value.oneCell']) (by decide) (by unfold maxLen; omega) (by omega) (by first | omega | (simp; omega)) ?_; intro g4 cap4 w4 hown hgr hat hlt; have hA4 : AppB w2.heap.size 5 w3 v3 w4 (.slice (some ⟨g4, 0, none⟩) (M.length + 1) cap4) (M ++ [byteZ vs.length]) := (AppB.of rfl rfl hown (by simp [byteVs, byteZ_toNat, u8_wrap]) hgr hat rfl (by first | exact Below.refl _ _ | exact (Below.refl _ _).alloc (Nat.le_refl _) _)); have hA := HA3.out.trans hA4; have HA4 := Lib.hid hA; have bxn := hA.box HBXA.out hXv; have u413 := bxn.cell 13 rfl; have u414 := bxn.cell 14 rfl; have u415 := bxn.cell 15 rfl; have u416 := bxn.cell 16 rfl; have u417 := bxn.cell 17 rfl; clear bxn; clear hA hA4 hown hgr hat)
        | (go_at_call 36; refine (putHeader_any (G := fun b => G b ∧ b < w.heap.size) w2.heap.size _ [byteZ 4, byteZ f, byteZ t] ca cr _ _ bs ps _ (by exact ownsRow_below HO.out (by repeat (first | with_reducible exact Below.refl _ _ | with_reducible refine Below.drew ?_ | with_reducible refine Below.alloc ?_ (by first | omega | (simp <;> omega)) _))) (by first | omega | (simp; omega)) (by simp) (A5.out.keep (G' := fun b => G b ∧ b < w.heap.size) (Keep.below (by repeat (first | with_reducible exact Below.refl _ _ | with_reducible refine Below.drew ?_ | with_reducible refine Below.alloc ?_ (by first | omega | (simp <;> omega)) _))) (fun _ h => h)) (A6.out.keep (G' := fun b => G b ∧ b < w.heap.size) (Keep.below (by repeat (first | with_reducible exact Below.refl _ _ | with_reducible refine Below.drew ?_ | with_reducible refine Below.alloc ?_ (by first | omega | (simp <;> omega)) _))) (fun _ h => h)) K1.out K2.out k3 k4 HGV.out z0 z1 z2 z3).mono ?_; rintro e w3 ⟨v3, rfl, hA3⟩; (try (have HL3 := Lib.hid (hA3.box (show BoxAt _ wa.heap.size [.int .u8 (IntKind.u8.wrap (vs.length : Int))] 5 from (by first | exact BoxAt.new _ [_] _ | exact (BoxAt.new _ [_] _).drew)) (by simp [Value.ownBlock]; omega)))); have hA := AppB.before (w0 := wa) (by repeat (first | with_reducible exact Below.refl _ _ | with_reducible refine Below.drew ?_ | with_reducible refine Below.alloc ?_ (by first | omega | (simp <;> omega)) _)) hA3; rw [HME.out] at hA; have HA3 := Lib.hid hA; have bxn := hA.box HBXA.out hXv; have y13 := bxn.cell 13 rfl; have y14 := bxn.cell 14 rfl; have y15 := bxn.cell 15 rfl; have y16 := bxn.cell 16 rfl; have y17 := bxn.cell 17 rfl; clear bxn; have s3 := hA.size; clear hA hA3))
    all_goals
      go_wp2_with fail
      go_meet
      exact HA4.out
  case rest =>
    have hA0 := hcut
    clear hcut
    have HA0 := Lib.hid hA0
    have HBXC := Lib.hid (hA0.box HBXA.out hXv)
    have c17 := HBXC.out.cell 17 rfl
    have AC := Lib.hid (A7.out.keep (hA0.keepG HGV.out) (fun _ h => h))
    clear hA0 x13 x14 x15 x16 x17
    go_wp2_with fail
    go_loopw [5, 72] (fun vw i wr => ∃ k : Nat, k ≤ vs.length ∧ i = .int .i64 k ∧ AppB w2.heap.size 5 wa (.slice (some ⟨w2.heap.size, 0, none⟩) 3 3) wr vw (M ++ [byteZ vs.length] ++ (vs.take k).map byteZ)) (fun _ i _ => vs.length - (intOf i).toNat)
    case atStart => exact ⟨0, Nat.zero_le _, rfl, HA0.out.list (by simp)⟩
    case round =>
      obtain ⟨k, hk, rfl, hR⟩ := hrel
      have HR := Lib.hid hR
      by_cases hlt : k < vs.length
      · have hrd := A7.out.keep (G' := fun _ => True) (hR.keepG HGV.out) (fun _ _ => trivial)
        obtain ⟨b, o, rfl, -, hc⟩ := hrd.cell k hlt
        have hll : (M ++ [byteZ vs.length] ++ (vs.take k).map byteZ).length ≤ 800 := by simp only [List.length_append, List.length_cons, List.length_nil, List.length_map, List.length_take]; omega
        have hs := hR.size
        have HTS := Lib.hid (show (vs.take (k + 1)).map byteZ = (vs.take k).map byteZ ++ [byteZ vs[k]] by rw [List.take_succ_eq_append_getElem hlt, List.map_append]; rfl)
        clear hR hrd
        generalize hx : vs[k] = x at *
        generalize hLk : M ++ [byteZ vs.length] ++ (vs.take k).map byteZ = Lk at *
        have HLk := Lib.hid hLk
        clear hx hLk
        go_wp2_with (at_builtin; refine wpList_append_at1 rfl _ _ 26 rfl elemB w2.heap.size _ rfl Lk.length (byteVs Lk) (by exact ownsRow_below HR.out.own ((Below.refl _ _).alloc (Nat.le_refl _) _)) _ rfl 1 [.int .u8 (x % 256)] (by exact (BoxAt.new wr [_] _).slCellsN rfl) (by simp [Value.oneCell']) (by decide) (by unfold maxLen; omega) (by omega) (by simp; omega) _ rfl ?_; intro g2 cap2 w5 hown hgr hat hlt2)
        have hA1 := HR.out.trans (AppB.of (w := wr) rfl rfl hown (show [Value.int .u8 (x % 256)] = byteVs [byteZ x] by simp [byteVs, byteZ_toNat]) hgr hat rfl ((Below.refl _ _).alloc (Nat.le_refl _) _))
        have HA2 := Lib.hid hA1
        clear hA1 hown hgr hat
        go_wp2_with fail
        go_roundw
        case rel => exact ⟨k + 1, by omega, by go_num, HA2.out.list (by rw [HTS.out, ← HLk.out]; simp)⟩
        case measure => simp [intOf]; omega
      · have hke : k = vs.length := by omega
        subst hke
        rw [List.take_length] at HR
        have hown := ownsRow_mono HR.out.own (Nat.le_of_lt hX2)
        have hfin : Below w.heap.size w wr := HR.out.bel HBA.out (by omega) (fun k hk => by simp [Value.ownBlock] at hk; omega)
        have hle : byteZ 4 :: byteZ f :: byteZ t :: (putHeaderL ⟨ca, cr, bs, ps⟩ ++ (byteZ vs.length :: vs.map byteZ)) = M ++ [byteZ vs.length] ++ vs.map byteZ := by rw [← HME.out]; simp
        rw [← hle] at hown
        have HOW := Lib.hid hown
        clear hown hle
        go_wp2
        refine bodyPost_ret (by simp [results, Try.results20, go_sem]) rfl ⟨_, rfl, HOW.out, hfin⟩
end Go.Proofs.Ytgkmgdkmafbohaa
/- wire.Encode, kind 5: what it computes. -/
set_option linter.unusedVariables false
set_option linter.unusedSimpArgs false
namespace Go.Proofs.Ytgkmgdkmafbohaa
open Go Go.RowKit

set_option maxRecDepth 100000 in
set_option maxHeartbeats 8000000 in
theorem wencode_5 {G : Nat → Prop} (f t ba bn : Int) (a1 : Option Addr) (ntx : Nat) (c1 : Nat) (ha hr : Int) (a2 : Option Addr) (nbs : Nat) (c2 : Nat) (a3 : Option Addr) (nps : Nat) (c3 : Nat) (sa sr : Int) (a4 : Option Addr) (nd : Nat) (c4 : Nat) (ca cr : Int) (a5 : Option Addr) (ncb : Nat) (c5 : Nat) (a6 : Option Addr) (ncp : Nat) (c6 : Nat) (a7 : Option Addr) (nvs : Nat) (c7 : Nat) (r : Int) (w : World)
    (hC : ∀ w', Below w.heap.size w w' → Calls Try.prog 18 #[.agg #[.int .i64 f, .int .i64 t, .int .i64 5, .int .i64 ba, .int .i64 bn, .slice a1 ntx c1, .int .i64 ha, .int .i64 hr, .slice a2 nbs c2, .slice a3 nps c3, .int .i64 sa, .int .i64 sr, .slice a4 nd c4, .int .i64 ca, .int .i64 cr, .slice a5 ncb c5, .slice a6 ncp c6, .slice a7 nvs c7, .int .i64 r]] w' fun e w'' => e = .returned (.int .i64 0) ∧ Below w'.heap.size w' w'')
    (f0 : 0 ≤ f) (f1 : f < 4) (t0 : 0 ≤ t) (t1 : t < 4)  (z2 : 0 ≤ r) (z3 : r ≤ 1048576) :
    Calls Try.prog 20 #[.agg #[.int .i64 f, .int .i64 t, .int .i64 5, .int .i64 ba, .int .i64 bn, .slice a1 ntx c1, .int .i64 ha, .int .i64 hr, .slice a2 nbs c2, .slice a3 nps c3, .int .i64 sa, .int .i64 sr, .slice a4 nd c4, .int .i64 ca, .int .i64 cr, .slice a5 ncb c5, .slice a6 ncp c6, .slice a7 nvs c7, .int .i64 r]] w fun e w' => ∃ v', e = .returned (.tuple #[v', .int .i64 0]) ∧
      w'.ownsRow w.heap.size 5 1 v' (byteZ 5 :: byteZ f :: byteZ t :: (wideL r)).length (byteVs (byteZ 5 :: byteZ f :: byteZ t :: (wideL r))) ∧ Below w.heap.size w w' := by
  have HC := Lib.hid hC
  clear  hC
  go_enter Try.func20, Try.ntmps20
  go_upto_region 1 with fail
  obtain ⟨w1, hw1⟩ : ∃ w1, w1 = w.alloc (.cells #[.int .i64 f, .int .i64 t, .int .i64 5, .int .i64 ba, .int .i64 bn, .slice a1 ntx c1, .int .i64 ha, .int .i64 hr, .slice a2 nbs c2, .slice a3 nps c3, .int .i64 sa, .int .i64 sr, .slice a4 nd c4, .int .i64 ca, .int .i64 cr, .slice a5 ncb c5, .slice a6 ncp c6, .slice a7 nvs c7, .int .i64 r] 42) := ⟨_, rfl⟩
  have bx : BoxAt w1 w.heap.size [.int .i64 f, .int .i64 t, .int .i64 5, .int .i64 ba, .int .i64 bn, .slice a1 ntx c1, .int .i64 ha, .int .i64 hr, .slice a2 nbs c2, .slice a3 nps c3, .int .i64 sa, .int .i64 sr, .slice a4 nd c4, .int .i64 ca, .int .i64 cr, .slice a5 ncb c5, .slice a6 ncp c6, .slice a7 nvs c7, .int .i64 r] 42 := by rw [hw1]; exact BoxAt.new w [.int .i64 f, .int .i64 t, .int .i64 5, .int .i64 ba, .int .i64 bn, .slice a1 ntx c1, .int .i64 ha, .int .i64 hr, .slice a2 nbs c2, .slice a3 nps c3, .int .i64 sa, .int .i64 sr, .slice a4 nd c4, .int .i64 ca, .int .i64 cr, .slice a5 ncb c5, .slice a6 ncp c6, .slice a7 nvs c7, .int .i64 r] _
  have hb1 : Below w.heap.size w w1 := by rw [hw1]; exact (Below.refl _ _).alloc (Nat.le_refl _) _
  have zz1 : w1.heap.size = w.heap.size + 1 := by rw [hw1]; simp
  rw [← hw1]
  have HBX1 := Lib.hid bx
  have HB1 := Lib.hid hb1
  have HZ1 := Lib.hid zz1
  clear hw1 bx hb1 zz1
  go_wp2_with (refine wpList_load_box rfl 42 _ rfl w.heap.size rfl [.int .i64 f, .int .i64 t, .int .i64 5, .int .i64 ba, .int .i64 bn, .slice a1 ntx c1, .int .i64 ha, .int .i64 hr, .slice a2 nbs c2, .slice a3 nps c3, .int .i64 sa, .int .i64 sr, .slice a4 nd c4, .int .i64 ca, .int .i64 cr, .slice a5 ncb c5, .slice a6 ncp c6, .slice a7 nvs c7, .int .i64 r] 42 HBX1.out Try.underlying42 rfl (by kernel_rfl) ?_)
  refine (HC.out w1 HB1.out).mono ?_
  rintro e w2 ⟨rfl, hb2⟩
  have bx2 := HBX1.out.belowS hb2
  have hbw2 : Below w.heap.size w w2 := HB1.out.trans (hb2.mono HB1.out.size)
  have hX2 : w.heap.size < w2.heap.size := bx2.lt
  have x0 := bx2.cell 0 rfl
  have x1 := bx2.cell 1 rfl
  have x2 := bx2.cell 2 rfl
  have x18 := bx2.cell 18 rfl
  have HBX := Lib.hid bx2
  have HBW := Lib.hid hbw2
  clear bx2 hbw2 hb2
  have hlit : ∀ (q : World), q.heap.size = w2.heap.size → byteVs [byteZ 5, byteZ f, byteZ t] = [Value.int .u8 5, .int .u8 f, .int .u8 t] := fun _ _ => by
    simp only [byteVs, List.map_cons, List.map_nil, byteZ_toNat, show (f % 256) = f by omega, show (t % 256) = t by omega, show ((5 : Int) % 256) = 5 by decide]
  have HLIT := Lib.hid (hlit w2 rfl)
  clear hlit
  have HOWN := Lib.hid (show (w2.alloc (.cells #[.int .u8 5, .int .u8 f, .int .u8 t] 5)).ownsRow w2.heap.size 5 1 (.slice (some ⟨w2.heap.size, 0, none⟩) 3 3) [byteZ 5, byteZ f, byteZ t].length (byteVs [byteZ 5, byteZ f, byteZ t]) by rw [HLIT.out]; exact lit_ownsN w2 [.int .u8 5, .int .u8 f, .int .u8 t] _)
  go_wp2_with fail
  refine (wide_any w2.heap.size _ [byteZ 5, byteZ f, byteZ t] r _ HOWN.out (by simp) (by simp) z2 (by omega)).mono ?_
  rintro e w3 ⟨v3, rfl, hA⟩
  have hown := ownsRow_mono hA.own (Nat.le_of_lt hX2)
  have hfin : Below w.heap.size w w3 := hA.bel (HBW.out.alloc (Nat.le_of_lt hX2) _) (by simp; omega) (fun k hk => by simp [Value.ownBlock] at hk; omega)
  have HOW := Lib.hid hown
  clear hA hown
  go_wp2
  refine bodyPost_ret (v := .tuple #[v3, .int .i64 0]) (by simp [results, Try.results20, go_sem]) rfl ⟨_, rfl, by simpa using HOW.out, hfin⟩
end Go.Proofs.Ytgkmgdkmafbohaa
/- wire.Encode: what it computes, of every message. -/
set_option linter.unusedVariables false
set_option linter.unusedSimpArgs false
namespace Go.Proofs.Ytgkmgdkmafbohaa
open Go Go.RowKit

def bodyL (m : Msg) : Bytes :=
  if m.k = 1 then putBatchL m.b else if m.k = 2 then putHeaderL m.h else if m.k = 3 then byteZ m.s.a :: (wideL m.s.r ++ m.s.d) else if m.k = 4 then putHeaderL m.c.h ++ (byteZ m.c.vs.length :: m.c.vs.map byteZ) else wideL m.r
def encL (m : Msg) : Bytes := byteZ m.k :: byteZ m.f :: byteZ m.t :: bodyL m

theorem nodeOk_iff {n : Int} (h : nodeOk n = true) : 0 ≤ n ∧ n < 4 := by unfold nodeOk at h; simpa using h
theorem countOk_iff {n : Int} (h : countOk n = true) : 1 ≤ n ∧ n ≤ 1048576 := by unfold countOk at h; simpa using h
theorem batCode_iff {b : Bat} (h : batCode b = 0) : nodeOk b.a = true ∧ countOk b.n = true ∧ 1 ≤ b.txs.length ∧ b.txs.length ≤ 4 ∧ ∀ t ∈ b.txs, txLen t = true := by
  unfold batCode at h
  split at h
  · simp at h
  · rename_i h1
    split at h
    · simp at h
    · rename_i h2
      split at h
      · rename_i h3
        refine ⟨?_, ?_, by omega, by omega, List.all_eq_true.1 h3⟩
        · cases q : nodeOk b.a; exact absurd (.inl q) h1; rfl
        · cases q : countOk b.n; exact absurd (.inr q) h1; rfl
      · simp at h
theorem hdrCode_iff {b : Hdr} (h : hdrCode b = 0) : nodeOk b.a = true ∧ countOk b.r = true ∧ b.bs.length ≤ 3 ∧ b.ps.length ≤ 4 ∧ digCode b.bs = 0 ∧ digCode b.ps = 0 := by
  unfold hdrCode at h
  split at h
  · simp at h
  · rename_i h1
    split at h
    · simp at h
    · rename_i h2
      split at h
      · rename_i h3; exact absurd h h3
      · rename_i h3
        split at h
        · rename_i h4; exact absurd h h4
        · rename_i h4
          refine ⟨?_, ?_, by omega, by omega, by simpa using h3, by simpa using h4⟩
          · cases q : nodeOk b.a; exact absurd (.inl q) h1; rfl
          · cases q : countOk b.r; exact absurd (.inr q) h1; rfl
theorem sltCode_iff {a r : Int} {n : Nat} (h : sltCode a r n = 0) : nodeOk a = true ∧ countOk r = true ∧ n = 32 := by
  unfold sltCode at h
  split at h
  · simp at h
  · rename_i h1
    split at h
    · simp at h
    · rename_i h2
      refine ⟨?_, ?_, by omega⟩
      · cases q : nodeOk a; exact absurd (.inl q) h1; rfl
      · cases q : countOk r; exact absurd (.inr q) h1; rfl
theorem crtCode_iff {c : Crt} (h : crtCode c = 0) : hdrCode c.h = 0 ∧ c.vs.length ≤ 4 ∧ votGo none c.vs = 0 ∧ 3 ≤ c.vs.length := by
  unfold crtCode at h
  split at h
  · rename_i h1; exact absurd h h1
  · rename_i h1
    split at h
    · simp at h
    · rename_i h2
      split at h
      · rename_i h3; exact absurd h h3
      · rename_i h3
        split at h
        · simp at h
        · rename_i h4; exact ⟨by simpa using h1, by omega, by simpa using h3, by omega⟩
theorem msgCode_iff {m : Msg} (h : msgCode m = 0) : nodeOk m.f = true ∧ nodeOk m.t = true ∧ 1 ≤ m.k ∧ m.k ≤ 5 ∧ msgPart m = 0 ∧ noneM m.less = true := by
  unfold msgCode at h
  split at h
  · simp at h
  · rename_i h1
    split at h
    · simp at h
    · rename_i h2
      split at h
      · rename_i h3; exact absurd h h3
      · rename_i h3
        split at h
        · rename_i h4
          refine ⟨?_, ?_, by omega, by omega, by simpa using h3, h4⟩
          · cases q : nodeOk m.f; exact absurd (.inl q) h1; rfl
          · cases q : nodeOk m.t; exact absurd (.inr q) h1; rfl
        · simp at h

theorem wencode_ok {G : Nat → Prop} (m : Msg) (v : MV) (w : World) (h : RdM G w v m) (ok : MsgOk m) (h0 : msgCode m = 0) :
    Calls Try.prog 20 #[.agg (msgCells m v).toArray] w fun e w' => ∃ v', e = .returned (.tuple #[v', .int .i64 0]) ∧ w'.ownsRow w.heap.size 5 1 v' (encL m).length (byteVs (encL m)) ∧ Below w.heap.size w w' := by
  have hC : ∀ w', Below w.heap.size w w' → Calls Try.prog 18 #[.agg (msgCells m v).toArray] w' fun e w'' => e = .returned (.int .i64 0) ∧ Below w'.heap.size w' w'' := fun w' hb => by
    have := wcheck_any m v w' (h.below hb (fun _ h => h)) ok
    rwa [h0] at this
  obtain ⟨e1, e2, e3, e4, e5, -⟩ := msgCode_iff h0
  obtain ⟨f, t, k, ⟨ba, bn, txs⟩, ⟨ha, hr, bs, ps⟩, ⟨sa, sr, sd⟩, ⟨⟨ca, cr, cb, cp⟩, vs⟩, r⟩ := m
  obtain ⟨x1, x2, x3, x4, x5, x6, x7⟩ := v
  obtain ⟨h1, h2, h3, h4, h5, h6, h7⟩ := h
  obtain ⟨a1, c1, rfl, -, -⟩ := h1.form
  obtain ⟨a2, c2, rfl, -, -⟩ := h2.form
  obtain ⟨a3, c3, rfl, -, -⟩ := h3.form
  obtain ⟨a4, c4, rfl, -, -⟩ := h4.form
  obtain ⟨a5, c5, rfl, -, -⟩ := h5.form
  obtain ⟨a6, c6, rfl, -, -⟩ := h6.form
  obtain ⟨a7, c7, rfl, -, -⟩ := h7.form
  simp only at h1 h2 h3 h4 h5 h6 h7 e1 e2 e3 e4
  obtain ⟨f0, f1⟩ := nodeOk_iff e1
  obtain ⟨t0, t1⟩ := nodeOk_iff e2
  obtain rfl | rfl | rfl | rfl | rfl : k = 1 ∨ k = 2 ∨ k = 3 ∨ k = 4 ∨ k = 5 := by omega
  · have e5' : batCode ⟨ba, bn, txs⟩ = 0 := e5
    obtain ⟨n1, n2, n3, n4, n5⟩ := batCode_iff e5'
    obtain ⟨p0, p1⟩ := nodeOk_iff n1
    obtain ⟨q0, q1⟩ := countOk_iff n2
    exact wencode_1 f t ba bn a1 c1 ha hr a2 _ c2 a3 _ c3 sa sr a4 _ c4 ca cr a5 _ c5 a6 _ c6 a7 _ c7 r w hC f0 f1 t0 t1 h1 n5 n4 p0 p1 (by simp only at q0; omega) q1
  · have e5' : hdrCode ⟨ha, hr, bs, ps⟩ = 0 := e5
    obtain ⟨n1, n2, n3, n4, n5, n6⟩ := hdrCode_iff e5'
    obtain ⟨p0, p1⟩ := nodeOk_iff n1
    obtain ⟨q0, q1⟩ := countOk_iff n2
    exact wencode_2 f t ba bn a1 _ c1 ha hr a2 c2 a3 c3 sa sr a4 _ c4 ca cr a5 _ c5 a6 _ c6 a7 _ c7 r w hC f0 f1 t0 t1 h2 h3 ((digCode_zero _).1 n5).1 ((digCode_zero _).1 n6).1 (Nat.le_trans n3 (by decide)) (Nat.le_trans n4 (by decide)) p0 p1 (by simp only at q0; omega) q1
  · have e5' : sltCode sa sr sd.length = 0 := e5
    obtain ⟨n1, n2, n3⟩ := sltCode_iff e5'
    obtain ⟨p0, p1⟩ := nodeOk_iff n1
    obtain ⟨q0, q1⟩ := countOk_iff n2
    exact wencode_3 f t ba bn a1 _ c1 ha hr a2 _ c2 a3 _ c3 sa sr a4 c4 ca cr a5 _ c5 a6 _ c6 a7 _ c7 r w hC f0 f1 t0 t1 h4 n3 p0 p1 (by omega) q1
  · have e5' : crtCode ⟨⟨ca, cr, cb, cp⟩, vs⟩ = 0 := e5
    obtain ⟨m1, m2, m3, m4⟩ := crtCode_iff e5'
    obtain ⟨n1, n2, n3, n4, n5, n6⟩ := hdrCode_iff m1
    obtain ⟨p0, p1⟩ := nodeOk_iff n1
    obtain ⟨q0, q1⟩ := countOk_iff n2
    exact wencode_4 f t ba bn a1 _ c1 ha hr a2 _ c2 a3 _ c3 sa sr a4 _ c4 ca cr a5 c5 a6 c6 a7 c7 r w hC f0 f1 t0 t1 h5 h6 h7 ((digCode_zero _).1 n5).1 ((digCode_zero _).1 n6).1 (Nat.le_trans n3 (by decide)) (Nat.le_trans n4 (by decide)) m2 p0 p1 (by simp only at q0; omega) q1
  · have e5' : (if countOk r = true then (0 : Int) else 2) = 0 := e5
    have n2 : countOk r = true := by cases q : countOk r; simp [q] at e5'; rfl
    obtain ⟨q0, q1⟩ := countOk_iff n2
    exact wencode_5 (G := G) f t ba bn a1 _ c1 ha hr a2 _ c2 a3 _ c3 sa sr a4 _ c4 ca cr a5 _ c5 a6 _ c6 a7 _ c7 r w hC f0 f1 t0 t1 (by omega) q1

set_option maxRecDepth 100000 in
set_option maxHeartbeats 4000000 in
theorem wencode_bad (f t k ba bn : Int) (a1 : Option Addr) (ntx c1 : Nat) (ha hr : Int) (a2 : Option Addr) (nbs c2 : Nat) (a3 : Option Addr) (nps c3 : Nat) (sa sr : Int) (a4 : Option Addr) (nd c4 : Nat) (ca cr : Int) (a5 : Option Addr) (ncb c5 : Nat) (a6 : Option Addr) (ncp c6 : Nat) (a7 : Option Addr) (nvs c7 : Nat) (r : Int) (w : World) (c : Int) (h0 : c ≠ 0)
    (hC : ∀ w', Below w.heap.size w w' → Calls Try.prog 18 #[msgAgg f t k ba bn (.slice a1 ntx c1) ha hr (.slice a2 nbs c2) (.slice a3 nps c3) sa sr (.slice a4 nd c4) ca cr (.slice a5 ncb c5) (.slice a6 ncp c6) (.slice a7 nvs c7) r] w' fun e w'' => e = .returned (.int .i64 c) ∧ Below w'.heap.size w' w'') :
    Calls Try.prog 20 #[msgAgg f t k ba bn (.slice a1 ntx c1) ha hr (.slice a2 nbs c2) (.slice a3 nps c3) sa sr (.slice a4 nd c4) ca cr (.slice a5 ncb c5) (.slice a6 ncp c6) (.slice a7 nvs c7) r] w fun e w' => e = .returned (.tuple #[.slice none 0 0, .int .i64 c]) ∧ Below w.heap.size w w' := by
  have HC := Lib.hid hC
  have hc : (c != 0) = true := by rw [bne_iff_ne]; exact h0
  clear hC h0
  go_enter Try.func20, Try.ntmps20
  unfold msgAgg
  go_upto_region 1 with fail
  obtain ⟨w1, hw1⟩ : ∃ w1, w1 = w.alloc (.cells #[.int .i64 f, .int .i64 t, .int .i64 k, .int .i64 ba, .int .i64 bn, .slice a1 ntx c1, .int .i64 ha, .int .i64 hr, .slice a2 nbs c2, .slice a3 nps c3, .int .i64 sa, .int .i64 sr, .slice a4 nd c4, .int .i64 ca, .int .i64 cr, .slice a5 ncb c5, .slice a6 ncp c6, .slice a7 nvs c7, .int .i64 r] 42) := ⟨_, rfl⟩
  have bx : BoxAt w1 w.heap.size [.int .i64 f, .int .i64 t, .int .i64 k, .int .i64 ba, .int .i64 bn, .slice a1 ntx c1, .int .i64 ha, .int .i64 hr, .slice a2 nbs c2, .slice a3 nps c3, .int .i64 sa, .int .i64 sr, .slice a4 nd c4, .int .i64 ca, .int .i64 cr, .slice a5 ncb c5, .slice a6 ncp c6, .slice a7 nvs c7, .int .i64 r] 42 := by rw [hw1]; exact BoxAt.new w [_, _, _, _, _, _, _, _, _, _, _, _, _, _, _, _, _, _, _] _
  have hb1 : Below w.heap.size w w1 := by rw [hw1]; exact (Below.refl _ _).alloc (Nat.le_refl _) _
  rw [← hw1]
  have HBX1 := Lib.hid bx
  have HB1 := Lib.hid hb1
  clear hw1 bx hb1
  go_wp2_with (refine wpList_load_box rfl 42 _ rfl w.heap.size rfl [.int .i64 f, .int .i64 t, .int .i64 k, .int .i64 ba, .int .i64 bn, .slice a1 ntx c1, .int .i64 ha, .int .i64 hr, .slice a2 nbs c2, .slice a3 nps c3, .int .i64 sa, .int .i64 sr, .slice a4 nd c4, .int .i64 ca, .int .i64 cr, .slice a5 ncb c5, .slice a6 ncp c6, .slice a7 nvs c7, .int .i64 r] 42 HBX1.out Try.underlying42 rfl (by kernel_rfl) ?_)
  refine (HC.out w1 HB1.out).mono ?_
  rintro e w2 ⟨rfl, hb2⟩
  have HB2 := Lib.hid (HB1.out.trans (hb2.mono HB1.out.size))
  clear hb2
  go_wp2
  refine bodyPost_ret (v := .tuple #[.slice none 0 0, .int .i64 c]) (by simp [results, Try.results20, go_sem]) rfl ⟨rfl, HB2.out⟩
theorem wencode_no {G : Nat → Prop} (m : Msg) (v : MV) (w : World) (h : RdM G w v m) (ok : MsgOk m) {c : Int} (hc : msgCode m = c) (h0 : c ≠ 0) :
    Calls Try.prog 20 #[.agg (msgCells m v).toArray] w fun e w' => e = .returned (.tuple #[.slice none 0 0, .int .i64 c]) ∧ Below w.heap.size w w' := by
  have hC : ∀ w', Below w.heap.size w w' → Calls Try.prog 18 #[.agg (msgCells m v).toArray] w' fun e w'' => e = .returned (.int .i64 c) ∧ Below w'.heap.size w' w'' := fun w' hb => by
    have := wcheck_any m v w' (h.below hb (fun _ h => h)) ok
    rwa [hc] at this
  obtain ⟨f, t, k, ⟨ba, bn, txs⟩, ⟨ha, hr, bs, ps⟩, ⟨sa, sr, sd⟩, ⟨⟨ca, cr, cb, cp⟩, vs⟩, r⟩ := m
  obtain ⟨x1, x2, x3, x4, x5, x6, x7⟩ := v
  obtain ⟨h1, h2, h3, h4, h5, h6, h7⟩ := h
  obtain ⟨a1, c1, rfl, -, -⟩ := h1.form
  obtain ⟨a2, c2, rfl, -, -⟩ := h2.form
  obtain ⟨a3, c3, rfl, -, -⟩ := h3.form
  obtain ⟨a4, c4, rfl, -, -⟩ := h4.form
  obtain ⟨a5, c5, rfl, -, -⟩ := h5.form
  obtain ⟨a6, c6, rfl, -, -⟩ := h6.form
  obtain ⟨a7, c7, rfl, -, -⟩ := h7.form
  exact wencode_bad f t k ba bn a1 _ c1 ha hr a2 _ c2 a3 _ c3 sa sr a4 _ c4 ca cr a5 _ c5 a6 _ c6 a7 _ c7 r w c h0 hC
/-- No slices. -/
def mv0 : MV := ⟨.slice none 0 0, .slice none 0 0, .slice none 0 0, .slice none 0 0, .slice none 0 0, .slice none 0 0, .slice none 0 0⟩
theorem rdM_want (G : Nat → Prop) (w : World) (f t r : Int) : RdM G w mv0 ⟨f, t, 5, bat0, hdr0, slt0, crt0, r⟩ := ⟨RdS.nil _ _ _, RdS.nil _ _ _, RdS.nil _ _ _, RdS.nil _ _ _, RdS.nil _ _ _, RdS.nil _ _ _, RdS.nil _ _ _⟩
theorem rdM_bundle {G : Nat → Prop} {w : World} {v : Value} {b : Bat} (f t k : Int) (h : RdT G w v b.txs) : RdM G w { mv0 with tx := v } ⟨f, t, k, b, hdr0, slt0, crt0, 0⟩ := ⟨h, RdS.nil _ _ _, RdS.nil _ _ _, RdS.nil _ _ _, RdS.nil _ _ _, RdS.nil _ _ _, RdS.nil _ _ _⟩
theorem rdM_offer {G : Nat → Prop} {w : World} {v v' : Value} {b : Hdr} (f t k : Int) (h : RdBB G w v b.bs) (h' : RdBB G w v' b.ps) : RdM G w { mv0 with bs := v, ps := v' } ⟨f, t, k, bat0, b, slt0, crt0, 0⟩ := ⟨RdS.nil _ _ _, h, h', RdS.nil _ _ _, RdS.nil _ _ _, RdS.nil _ _ _, RdS.nil _ _ _⟩
theorem rdM_vote {G : Nat → Prop} {w : World} {v : Value} {b : Slt} (f t k : Int) (h : RdB G w v b.d) : RdM G w { mv0 with d := v } ⟨f, t, k, bat0, hdr0, b, crt0, 0⟩ := ⟨RdS.nil _ _ _, RdS.nil _ _ _, RdS.nil _ _ _, h, RdS.nil _ _ _, RdS.nil _ _ _, RdS.nil _ _ _⟩
theorem rdM_proof {G : Nat → Prop} {w : World} {v v' vv : Value} {b : Crt} (f t k : Int) (h : RdBB G w v b.h.bs) (h' : RdBB G w v' b.h.ps) (hv : RdI G w vv b.vs) : RdM G w { mv0 with cbs := v, cps := v', vs := vv } ⟨f, t, k, bat0, hdr0, slt0, b, 0⟩ := ⟨RdS.nil _ _ _, RdS.nil _ _ _, RdS.nil _ _ _, RdS.nil _ _ _, h, h', hv⟩
theorem rdB_lit (w : World) (cs : List Value) (l : Bytes) (T : TypeId) {n : Nat} (h : cs = byteVs l) (hn : l.length = n) (hm : n ≤ 1000) : RdB (fun b => b = w.heap.size) (w.alloc (.cells cs.toArray T)) (.slice (some ⟨w.heap.size, 0, none⟩) n n) l := by
  subst hn
  have hb : BoxAt (w.alloc (.cells cs.toArray T)) w.heap.size (l.map fun c => Value.int .u8 c.toNat) T := by rw [← show cs = l.map (fun c => Value.int .u8 c.toNat) from h]; exact BoxAt.new w cs T
  exact RdS.of_box (f := fun c : UInt8 => Value.int .u8 c.toNat) (G := fun b => b = w.heap.size) (l := l) (cap := l.length) hb rfl (Nat.le_refl _) (by unfold maxLen; omega)
theorem nodeOk_0 : nodeOk 0 = true := rfl
theorem msgOk_want (f t r : Int) : MsgOk ⟨f, t, 5, bat0, hdr0, slt0, crt0, r⟩ := ⟨fun t ht => by simp [bat0] at ht, by simp [hdr0], by simp [crt0, hdr0]⟩
theorem msgCode_want {f t r : Int} (h1 : nodeOk f = true) (h2 : nodeOk t = true) : msgCode ⟨f, t, 5, bat0, hdr0, slt0, crt0, r⟩ = if countOk r = true then 0 else 2 := by
  unfold msgCode
  rw [if_neg (by simp [h1, h2]), if_neg (by show ¬ ((5 : Int) < 1 ∨ (5 : Int) < 5); omega)]
  show (if (if countOk r = true then (0 : Int) else 2) ≠ 0 then (if countOk r = true then 0 else 2) else _) = _
  cases countOk r
  · rfl
  · rfl
theorem msgCode_part {m : Msg} (h1 : nodeOk m.f = true) (h2 : nodeOk m.t = true) (h3 : 1 ≤ m.k) (h4 : m.k ≤ 5) (h5 : noneM m.less = true) : msgCode m = msgPart m := by
  unfold msgCode
  rw [if_neg (by simp [h1, h2]), if_neg (by omega)]
  by_cases h : msgPart m ≠ 0
  · rw [if_pos h]
  · rw [if_neg h, if_pos h5]; exact (Classical.not_not.1 h).symm
theorem msgCode_bundle {f t : Int} {b : Bat} (h1 : nodeOk f = true) (h2 : nodeOk t = true) : msgCode ⟨f, t, 1, b, hdr0, slt0, crt0, 0⟩ = batCode b := msgCode_part h1 h2 (by show (1 : Int) ≤ 1; omega) (by show (1 : Int) ≤ 5; omega) rfl
theorem msgCode_offer {f t : Int} {b : Hdr} (h1 : nodeOk f = true) (h2 : nodeOk t = true) : msgCode ⟨f, t, 2, bat0, b, slt0, crt0, 0⟩ = hdrCode b := msgCode_part h1 h2 (by show (1 : Int) ≤ 2; omega) (by show (2 : Int) ≤ 5; omega) rfl
theorem msgCode_vote {f t : Int} {b : Slt} (h1 : nodeOk f = true) (h2 : nodeOk t = true) : msgCode ⟨f, t, 3, bat0, hdr0, b, crt0, 0⟩ = sltCode b.a b.r b.d.length := msgCode_part h1 h2 (by show (1 : Int) ≤ 3; omega) (by show (3 : Int) ≤ 5; omega) rfl
theorem msgCode_proof {f t : Int} {b : Crt} (h1 : nodeOk f = true) (h2 : nodeOk t = true) : msgCode ⟨f, t, 4, bat0, hdr0, slt0, b, 0⟩ = crtCode b := msgCode_part h1 h2 (by show (1 : Int) ≤ 4; omega) (by show (4 : Int) ≤ 5; omega) rfl
theorem msgOk_bundle {f t k : Int} {b : Bat} (h : ∀ x ∈ b.txs, x.length ≤ 9223372036854775807) : MsgOk ⟨f, t, k, b, hdr0, slt0, crt0, 0⟩ := ⟨h, by simp [hdr0], by simp [crt0, hdr0]⟩
theorem msgOk_offer {f t k : Int} {b : Hdr} (h : b.bs.length + b.ps.length ≤ 9223372036854775807) : MsgOk ⟨f, t, k, bat0, b, slt0, crt0, 0⟩ := ⟨fun t ht => by simp [bat0] at ht, h, by simp [crt0, hdr0]⟩
theorem msgOk_vote {f t k : Int} {b : Slt} : MsgOk ⟨f, t, k, bat0, hdr0, b, crt0, 0⟩ := ⟨fun t ht => by simp [bat0] at ht, by simp [hdr0], by simp [crt0, hdr0]⟩
theorem msgOk_proof {f t k : Int} {b : Crt} (h : b.h.bs.length + b.h.ps.length ≤ 9223372036854775807) : MsgOk ⟨f, t, k, bat0, hdr0, slt0, b, 0⟩ := ⟨fun t ht => by simp [bat0] at ht, by simp [hdr0], h⟩
end Go.Proofs.Ytgkmgdkmafbohaa
/- sheaveskeep: cut, tx. -/
set_option linter.unusedVariables false
set_option linter.unusedSimpArgs false
namespace Go.Proofs.Ytgkmgdkmafbohaa
open Go Go.RowKit

theorem extract_take (s : List UInt8) (k : Nat) : (ByteArray.mk s.toArray).extract 0 k = ⟨(s.take k).toArray⟩ := by
  apply WideShapes.bytes_inj
  simp

theorem cut_any (s : List UInt8) (m : Int) (w : World) (h0 : 0 ≤ m) (h1 : m ≤ 9223372036854775807) (hs : s.length ≤ 9223372036854775807) :
    Calls Try.prog 50 #[strV s, .int .i64 m] w fun e w' => e = .returned (strV (s.take m.toNat)) ∧ w = w' := by
  go_enter Try.func50, Try.ntmps50
  go_wp2
  · go_ret
    exact ⟨by rw [extract_take]; rfl, rfl⟩
  · go_ret
    refine ⟨?_, rfl⟩
    rw [extract_take, List.take_of_length_le (Nat.le_refl _), List.take_of_length_le (show s.length ≤ m.toNat by omega)]
    rfl

/-- A transaction of a raw text. -/
def txOf (s : List UInt8) : List UInt8 := if s = [] then [120] else s.take 20
theorem txOf_ok (s : List UInt8) : 1 ≤ (txOf s).length ∧ (txOf s).length ≤ 20 := by
  unfold txOf
  by_cases h : s = []
  · simp [h]
  · rw [if_neg h]; have := List.length_pos_iff.2 h; simp; omega

theorem ktx_any (s : List UInt8) (w : World) (hs : s.length ≤ 9223372036854775807) :
    Calls Try.prog 38 #[strV s] w fun e w' => e = .returned (strV (txOf s)) ∧ w = w' := by
  by_cases h : s = []
  · subst h
    go_enter Try.func38, Try.ntmps38
    go_wp2
    go_ret
    exact ⟨rfl, rfl⟩
  · have he : s.isEmpty = false := by simpa using h
    have HT := Lib.hid (show txOf s = s.take 20 by unfold txOf; rw [if_neg h])
    clear h
    go_enter Try.func38, Try.ntmps38
    go_wp2_with (go_at_call 50; refine (cut_any _ _ _ (by omega) (by omega) hs).mono ?_; rintro e w' ⟨rfl, rfl⟩)
    go_ret
    exact ⟨by rw [HT.out]; rfl, rfl⟩
end Go.Proofs.Ytgkmgdkmafbohaa
/- sheaveskeep.Batch: a batch of raw numbers. -/
set_option linter.unusedVariables false
set_option linter.unusedSimpArgs false
attribute [local go_sem ↓] Go.wp_at_zero Go.wp_at_succ
namespace Go.Proofs.Ytgkmgdkmafbohaa
open Go Go.RowKit

theorem elemTx : ElemOk Try.prog 22 9 1 16 := elemOk_of (z := .string ByteArray.empty) (by kernel_rfl) (by kernel_rfl) rfl (by decide)
/-- The batch of raw numbers and texts. -/
def batTx (l : List Bytes) : List Bytes := (l.take 4).map txOf
def batOf (A B : Int) (l : List Bytes) : Bat := ⟨pickedZ A 4, 1 + pickedZ B 9, if l.length = 0 then [[116]] else batTx l⟩
theorem batTx_take (l : List Bytes) (k : Nat) : ((l.take 4).take k).map txOf = (batTx l).take k := by unfold batTx; rw [List.map_take]

set_option maxRecDepth 100000 in
set_option maxHeartbeats 4000000 in
theorem batch_any {G : Nat → Prop} (K A B C : Int) (vt : Value) (l : List Bytes) (w : World) (a1 : -9223372036854775808 ≤ A) (a2 : A ≤ 9223372036854775807) (b1 : -9223372036854775808 ≤ B) (b2 : B ≤ 9223372036854775807)
    (hr : RdT G w vt l) (hs : ∀ t ∈ l, t.length ≤ 9223372036854775807) :
    Calls Try.prog 22 #[.agg #[.int .i64 K, .int .i64 A, .int .i64 B, .int .i64 C, vt]] w fun e w' => ∃ ad cap,
      e = .returned (.agg #[.int .i64 (batOf A B l).a, .int .i64 (batOf A B l).n, .slice ad (batOf A B l).txs.length cap]) ∧
      RdT (fun b => w.heap.size ≤ b) w' (.slice ad (batOf A B l).txs.length cap) (batOf A B l).txs ∧ Below w.heap.size w w' := by
  obtain ⟨pa1, pa2⟩ := pickedZ_range A 4 (by omega)
  obtain ⟨pb1, pb2⟩ := pickedZ_range B 9 (by omega)
  have l1 : IntKind.i64.wrap (1 + pickedZ B 9) = 1 + pickedZ B 9 := IntWalk.i64_in _ (by omega)
  obtain ⟨adr, capr, rfl, hlc, hcm⟩ := hr.form
  unfold maxLen at hcm
  have HRD := Lib.hid (hr.low (by decide))
  have HS := Lib.hid hs
  clear hr hs
  obtain ⟨X, hX⟩ : ∃ X, X = w.heap.size + 1 + 1 := ⟨_, rfl⟩
  have hXl : w.heap.size + 2 = X := by omega
  have HX := Lib.hid hX
  clear hX hXl
  go_enter Try.func22, Try.ntmps22
  go_upto_region 1 with fail
  go_cut [3] (fun p wx => p = .pointer (some ⟨X, 0, none⟩) ∧ BoxAt wx X [.int .i64 (pickedZ A 4), .int .i64 (1 + pickedZ B 9), .slice none 0 0] 34 ∧
      BoxAt wx w.heap.size [.int .i64 K, .int .i64 A, .int .i64 B, .int .i64 C, .slice adr l.length capr] 24 ∧ BoxAt wx (w.heap.size + 1) [.int .i64 0, .int .i64 0, .slice none 0 0] 34 ∧ Below w.heap.size w wx)
  case first =>
    go_region_held3 (fun w' => w'.cell? ⟨w.heap.size, 1, none⟩ = some (.int .i64 A) ∧ w'.cell? ⟨w.heap.size, 2, none⟩ = some (.int .i64 B)) (go_keep)
      ((go_at_call 15; refine (picked_any _ _ _ (by omega) (by omega) (by omega) (by omega)).mono ?_; rintro e w' ⟨rfl, rfl⟩))
    all_goals
      go_wp2_with fail
      go_meet
      refine ⟨by rw [HX.out], ?_, ?_, ?_, ?_⟩
      · rw [HX.out]; exact (BoxAt.newAt ((w.alloc _).alloc _) [_, _, _] _ (by simp)).drew
      · exact (((BoxAt.new w [_, _, _, _, _] _).alloc _).alloc _).drew
      · exact ((BoxAt.newAt (w.alloc _) [_, _, _] _ (by simp)).alloc _).drew
      · exact ((((Below.refl _ w).alloc (Nat.le_refl _) _).alloc (by simp) _).alloc (by simp; omega) _).drew
  case rest =>
    obtain ⟨rfl, bX, bR, bH, hB⟩ := hcut
    have hXw : w.heap.size + 1 < X := by have := HX.out; omega
    go_wp2_with fail
    go_loopw [4] (fun i wr => ∃ (k : Nat) (ad : Option Addr) (cap : Nat), k ≤ l.length ∧ k ≤ 4 ∧ i = .int .i64 k ∧ BoxAt wr X [.int .i64 (pickedZ A 4), .int .i64 (1 + pickedZ B 9), .slice ad k cap] 34 ∧
        BoxAt wr w.heap.size [.int .i64 K, .int .i64 A, .int .i64 B, .int .i64 C, .slice adr l.length capr] 24 ∧ BoxAt wr (w.heap.size + 1) [.int .i64 0, .int .i64 0, .slice none 0 0] 34 ∧
        wr.ownsRow (X + 1) 9 1 (.slice ad k cap) k (((batTx l).take k).map fun s => strV s) ∧ Below w.heap.size w wr)
      (fun i _ => l.length - (intOf i).toNat)
    case atStart => exact ⟨0, none, 0, Nat.zero_le _, Nat.zero_le _, rfl, bX, bR, bH, ⟨by simp, .inl ⟨rfl, rfl⟩⟩, hB⟩
    case round =>
      clear bX bR bH hB
      obtain ⟨k, ad, cap, hk, hk4, rfl, bX, bR, bH, hown, hB⟩ := hrel
      have zX := bX.lt
      have HBX := Lib.hid bX
      have HBR := Lib.hid bR
      have HBH := Lib.hid bH
      have HBW := Lib.hid hB
      have HO := Lib.hid hown
      have hvlt := hown.lt
      by_cases hlt : k < l.length ∧ k < 4
      · obtain ⟨h1, h2⟩ := hlt
        obtain ⟨b, o, rfl, hG, hcl⟩ := HRD.out.cell k h1
        have hcl' : wr.cell? ⟨b, o + k, none⟩ = some (strV l[k]) := by
          rw [hB.cell (p := ⟨b, o + k, none⟩) (World.block_lt_of_cell? w _ hcl)]; exact hcl
        have hbw : b < w.heap.size := hG.2
        have hsk := HS.out l[k] (List.getElem_mem h1)
        have hT := fun w => ktx_any l[k] w hsk
        have HTK := Lib.hid (show (batTx l).take (k + 1) = (batTx l).take k ++ [txOf l[k]] by
          have hkl : k < (batTx l).length := by unfold batTx; simp; omega
          rw [List.take_succ_eq_append_getElem hkl]; congr 2; unfold batTx; simp)
        generalize txOf l[k] = t at *
        generalize hlk : l[k] = s at *
        have HTT := Lib.hid hT
        have x2 := bX.cell 2 rfl
        have x2f := bX.free 2
        have r4 := bR.cell 4 rfl
        have i0 : (k : Int) < (l.length : Int) := by omega
        have i1 : (k : Int) < 4 := by omega
        have i2 : (0 : Int) ≤ (k : Int) := by omega
        have nX : X ≠ w.heap.size := by omega
        have nXb : b ≠ X := by omega
        clear hT hlk hcl hown bX bR bH hB
        go_wp2_with fail
        go_region_law
          (first
            | ((refine step_append_one (by rfl) _ _ _ (by rfl) elemTx (X + 1) (.slice ad k cap) k _ (by rfl) (by exact ownsRow_below HO.out (by repeat (first | with_reducible exact Below.refl _ _ | with_reducible refine Below.drew ?_ | with_reducible refine Below.alloc ?_ (by first | omega | (simp <;> omega)) _))) _ 9 [strV t] (by rfl) (by first | exact BoxAt.new _ [_] _ | exact (BoxAt.new _ [_] _).drew) rfl (by simp [Value.oneCell']) (by unfold maxLen; omega) (by omega) (by simp; omega) ?_; intro g cap3 w3 hown3 hgr hat hlt3;
                have bX3 := (HBX.out.drew.alloc (.cells #[strV t] 9)).grown (w' := w3) hgr (fun e => by have := (hvlt _ e).1; omega);
                have x2 := bX3.cell 2 rfl; have f2 := bX3.free 2))
            | ((go_simp; go_at_call 38; refine (HTT.out _).mono ?_; rintro e w' ⟨rfl, rfl⟩)))
        all_goals
          have bR3 := (HBR.out.drew.alloc (.cells #[strV t] 9)).grown (w' := w3) hgr (fun e => by have := (hvlt _ e).1; omega)
          have bH3 := (HBH.out.drew.alloc (.cells #[strV t] 9)).grown (w' := w3) hgr (fun e => by have := (hvlt _ e).1; omega)
          have hB3 : Below w.heap.size w w3 := (HBW.out.drew.alloc (by have := HBW.out.size; simp; omega) _).grown hgr (by simp; have := HBW.out.size; omega) (fun k hk => by have := (hvlt _ hk).1; omega)
          have HQ1 := Lib.hid hown3
          have HQ2 := Lib.hid hB3
          clear hB3 hown3
          go_wp2
          go_roundw
          case rel => exact ⟨k + 1, some ⟨g, 0, none⟩, cap3, by omega, by omega, by go_num, bX3.set 2 _, bR3.setOther (by simp; omega) _, bH3.setOther (by simp; omega) _, by rw [HTK.out, List.map_append]; exact ownsRow_setCell HQ1.out (by simp) _, HQ2.out.setCell (by simp; omega) _⟩
          case measure => simp [intOf]; omega
      · have x0 := bX.cell 0 rfl
        have x1 := bX.cell 1 rfl
        have x2 := bX.cell 2 rfl
        have xf := bX.free 2
        have r4 := bR.cell 4 rfl
        have y0 := bH.cell 0 rfl
        have y1 := bH.cell 1 rfl
        have y2 := bH.cell 2 rfl
        have f0 := bH.free 0
        have f1 := bH.free 1
        have f2 := bH.free 2
        have ne1 : w.heap.size + 1 ≠ X := by omega
        have ne2 : X ≠ w.heap.size + 1 := by omega
        have ne3 : wr.heap.size ≠ X := by omega
        have zB := hB.size
        have zH := bH.lt
        have ne4 : wr.heap.size ≠ w.heap.size + 1 := by omega
        by_cases hk0 : k = 0
        · have hl0 : l.length = 0 := by omega
          have HT := Lib.hid (show (batOf A B l).txs = [[116]] by unfold batOf; rw [if_pos hl0])
          subst hk0
          have t1 : ¬ ((0 : Nat) : Int) < (l.length : Int) := by omega
          have bH9 := ((((bH.setOther (p := ⟨X, 2, none⟩) ne1 (.slice (some ⟨wr.heap.size, 0, none⟩) 1 1)).set 0 (.int .i64 (pickedZ A 4))).set 1 (.int .i64 (1 + pickedZ B 9))).set 2 (.slice (some ⟨wr.heap.size, 0, none⟩) 1 1)).alloc (.cells #[strV [116]] 9)
          have HBH9 := Lib.hid bH9
          have HB9 := Lib.hid hB
          clear hlt bX bR bH hown hB hk hk4 bH9
          go_wp2_with fail
          have g0 := HBH9.out.cell 0 rfl
          have g1 := HBH9.out.cell 1 rfl
          have g2 := HBH9.out.cell 2 rfl
          refine bodyPost_ret (v := .agg #[.int .i64 (pickedZ A 4), .int .i64 (1 + pickedZ B 9), .slice (some ⟨wr.heap.size, 0, none⟩) 1 1]) (by simp [results, Try.results22, go_sem, g0, g1, g2]) rfl ⟨some ⟨wr.heap.size, 0, none⟩, 1, by rw [HT.out]; rfl, ?_, ?_⟩
          · rw [HT.out]
            have := lit_ownsN ((((wr.setCell ⟨X, 2, none⟩ (.slice (some ⟨wr.heap.size, 0, none⟩) 1 1)).setCell ⟨w.heap.size + 1, 0, none⟩ (.int .i64 (pickedZ A 4))).setCell ⟨w.heap.size + 1, 1, none⟩ (.int .i64 (1 + pickedZ B 9))).setCell ⟨w.heap.size + 1, 2, none⟩ (.slice (some ⟨wr.heap.size, 0, none⟩) 1 1)) [strV [116]] 9
            exact RdS.of_owns (base := wr.heap.size) (e := 9) (n := 1) (l := [[116]]) (by simpa using this) (fun b hb => by omega)
          · exact ((((HB9.out.setCell (by simp; omega) _).setCell (by simp) _).setCell (by simp) _).setCell (by simp) _).alloc (by simp; omega) _
        · have hkl : k = (batTx l).length := by unfold batTx; simp; omega
          have HT := Lib.hid (show (batOf A B l).txs = batTx l by unfold batOf; rw [if_neg (by omega)])
          have hrd : RdT (fun b => X + 1 ≤ b) wr (.slice ad k cap) (batTx l) := by
            have := RdS.of_owns (G := fun b => X + 1 ≤ b) HO.out (fun _ h => h)
            rwa [hkl, List.take_length, ← hkl] at this
          have HR := Lib.hid hrd
          have HKL := Lib.hid hkl
          have e0 : ((k : Int) == 0) = false := by rw [beq_eq_false_iff_ne]; omega
          have HB9 := Lib.hid hB
          have hc : ¬ (k : Int) < (l.length : Int) ∨ ((k : Int) < (l.length : Int) ∧ ¬ (k : Int) < 4) := by omega
          clear hlt bX bR bH hown hB hk hk4 hrd hkl hk0
          rcases hc with t1 | ⟨t1, t2⟩
          all_goals
            go_wp2_with fail
            refine bodyPost_ret (v := .agg #[.int .i64 (pickedZ A 4), .int .i64 (1 + pickedZ B 9), .slice ad k cap]) (by simp [results, Try.results22, go_sem, y0, y1, y2]) rfl ⟨ad, cap, by rw [HT.out, ← HKL.out]; rfl, ?_, ?_⟩
            · rw [HT.out, ← HKL.out]
              refine HR.out.keep ?_ (fun b hb => by omega)
              repeat (first | with_reducible exact Keep.refl _ _ | with_reducible refine Keep.setCell' ?_ (by simp; omega) _)
            · repeat (first | with_reducible exact HB9.out | with_reducible refine Below.setCell ?_ (by simp) _)
end Go.Proofs.Ytgkmgdkmafbohaa
/- What is plain about a batch of raw numbers. -/
set_option linter.unusedVariables false
set_option linter.unusedSimpArgs false
namespace Go.Proofs.Ytgkmgdkmafbohaa
open Go Go.RowKit

theorem batTx_txLen (l : List Bytes) : ∀ t ∈ batTx l, txLen t = true := fun t ht => by
  unfold batTx at ht
  obtain ⟨s, -, rfl⟩ := List.mem_map.1 ht
  unfold txLen; simpa using txOf_ok s
theorem batOf_txs (A B : Int) (l : List Bytes) : (∀ t ∈ (batOf A B l).txs, txLen t = true) ∧ 1 ≤ (batOf A B l).txs.length ∧ (batOf A B l).txs.length ≤ 4 := by
  unfold batOf
  by_cases h : l.length = 0
  · rw [if_pos h]; exact ⟨fun t ht => by simp at ht; subst ht; rfl, by simp, by simp⟩
  · rw [if_neg h]; exact ⟨batTx_txLen l, by unfold batTx; simp; omega, by unfold batTx; simp; omega⟩
theorem batOf_ok (A B : Int) (l : List Bytes) : batCode (batOf A B l) = 0 := by
  obtain ⟨h1, h2, h3⟩ := batOf_txs A B l
  obtain ⟨pa1, pa2⟩ := pickedZ_range A 4 (by omega)
  obtain ⟨pb1, pb2⟩ := pickedZ_range B 9 (by omega)
  exact bat_ok_at (a := pickedZ A 4) (n := 1 + pickedZ B 9) (by unfold nodeOk; simp; omega) (by unfold countOk; simp; omega) h2 h3 (fun j t ht => h1 t (List.mem_of_getElem? ht))
theorem batOf_nums (A B : Int) (l : List Bytes) : 1 ≤ (batOf A B l).n ∧ (batOf A B l).n ≤ 9 ∧ 0 ≤ (batOf A B l).a ∧ (batOf A B l).a < 4 := by
  obtain ⟨x1, x2⟩ := pickedZ_range B 9 (by omega)
  obtain ⟨x3, x4⟩ := pickedZ_range A 4 (by omega)
  refine ⟨?_, ?_, x3, x4⟩
  · show 1 ≤ 1 + pickedZ B 9; omega
  · show 1 + pickedZ B 9 ≤ 9; omega
end Go.Proofs.Ytgkmgdkmafbohaa
/- sheaveskeep.Header: what it makes. -/
set_option linter.unusedVariables false
set_option linter.unusedSimpArgs false
attribute [local go_sem ↓] Go.wp_at_zero Go.wp_at_succ
namespace Go.Proofs.Ytgkmgdkmafbohaa
open Go Go.RowKit

def hdrB (C : Int) (k : Nat) : List Bytes := (List.range k).map fun (i : Nat) => someL C (i : Int)
def hdrP (A : Int) (k : Nat) : List Bytes := (List.range k).map fun (i : Nat) => someL A (10 + (i : Int))
theorem hdrB_succ (C : Int) (k : Nat) : hdrB C (k + 1) = hdrB C k ++ [someL C (k : Int)] := by unfold hdrB; rw [List.range_succ, List.map_append]; rfl
theorem hdrP_succ (A : Int) (k : Nat) : hdrP A (k + 1) = hdrP A k ++ [someL A (10 + (k : Int))] := by unfold hdrP; rw [List.range_succ, List.map_append]; rfl
theorem hdrB_len (C : Int) (k : Nat) : (hdrB C k).length = k := by simp [hdrB]
theorem hdrP_len (C : Int) (k : Nat) : (hdrP C k).length = k := by simp [hdrP]
/-- The header of raw numbers. -/
def hdrOf (A B C : Int) : Hdr := ⟨pickedZ A 4, 1 + pickedZ B 9, hdrB C (pickedZ C 4).toNat, if 1 < 1 + pickedZ B 9 then hdrP A (3 + pickedZ C 2).toNat else []⟩
theorem elemBB : ElemOk Try.prog 35 26 1 24 := elemOk_of (z := .slice none 0 0) (by kernel_rfl) (by kernel_rfl) rfl (by decide)

set_option maxRecDepth 100000 in
set_option maxHeartbeats 2000000 in
theorem header_any (K A B C : Int) (vt : Value) (w : World) (a1 : -9223372036854775808 ≤ A) (a2 : A ≤ 9223372036854775807) (b1 : -9223372036854775808 ≤ B) (b2 : B ≤ 9223372036854775807) (c1 : -9223372036854775808 ≤ C) (c2 : C ≤ 9223372036854775807) (hvt : vt.oneCell' = true) :
    Calls Try.prog 23 #[.agg #[.int .i64 K, .int .i64 A, .int .i64 B, .int .i64 C, vt]] w fun e w' => ∃ adb capb adp capp,
      e = .returned (.agg #[.int .i64 (hdrOf A B C).a, .int .i64 (hdrOf A B C).r, .slice adb (hdrOf A B C).bs.length capb, .slice adp (hdrOf A B C).ps.length capp]) ∧
      RdBB (fun b => w.heap.size ≤ b) w' (.slice adb (hdrOf A B C).bs.length capb) (hdrOf A B C).bs ∧ RdBB (fun b => w.heap.size ≤ b) w' (.slice adp (hdrOf A B C).ps.length capp) (hdrOf A B C).ps ∧ Below w.heap.size w w' := by
  obtain ⟨pa1, pa2⟩ := pickedZ_range A 4 (by omega)
  obtain ⟨pb1, pb2⟩ := pickedZ_range B 9 (by omega)
  obtain ⟨pc1, pc2⟩ := pickedZ_range C 4 (by omega)
  obtain ⟨pd1, pd2⟩ := pickedZ_range C 2 (by omega)
  have l1 : IntKind.i64.wrap (1 + pickedZ B 9) = 1 + pickedZ B 9 := IntWalk.i64_in _ (by omega)
  have hq : ∀ L : List Value, (Value.slice none 0 0).oneCell' = true := fun _ => rfl
  clear hq
  obtain ⟨X, hX⟩ : ∃ X, X = w.heap.size + 1 + 1 := ⟨_, rfl⟩
  obtain ⟨nB, hnB⟩ : ∃ nB : Nat, pickedZ C 4 = (nB : Int) := ⟨(pickedZ C 4).toNat, by omega⟩
  obtain ⟨q, hq⟩ : ∃ q : Nat, pickedZ C 2 = (q : Int) := ⟨(pickedZ C 2).toNat, by omega⟩
  obtain ⟨nP, hnP⟩ : ∃ nP : Nat, nP = 3 + q := ⟨_, rfl⟩
  have hnP1 : nP ≤ 3 + q := by omega
  have hnP2 : 3 + q ≤ nP := by omega
  have hq1 : q ≤ 1 := by omega
  have hXl : w.heap.size + 2 = X := by omega
  have HX := Lib.hid hX
  have hnB4 : nB ≤ 4 := by omega
  have hnP5 : nP ≤ 5 := by omega
  have HB := Lib.hid hnB
  have HP := Lib.hid hq
  have HD1 := Lib.hid (show (hdrOf A B C).bs = hdrB C nB by unfold hdrOf; simp only [hnB, Int.toNat_natCast])
  have HD2 := Lib.hid (show 1 < 1 + pickedZ B 9 → (hdrOf A B C).ps = hdrP A nP by intro h; unfold hdrOf; rw [if_pos h, show (3 + pickedZ C 2).toNat = nP by rw [hq]; omega])
  have HD3 := Lib.hid (show ¬ 1 < 1 + pickedZ B 9 → (hdrOf A B C).ps = [] by intro h; unfold hdrOf; simp only [if_neg h])
  have HD4 := Lib.hid (show (hdrOf A B C).a = pickedZ A 4 from rfl)
  have HD5 := Lib.hid (show (hdrOf A B C).r = 1 + pickedZ B 9 from rfl)
  generalize hdrOf A B C = D at *
  clear hnB hnP hq hX hXl
  go_enter Try.func23, Try.ntmps23
  go_upto_region 1 with fail
  go_cut [3] (fun p wx => p = .pointer (some ⟨X, 0, none⟩) ∧ BoxAt wx X [.int .i64 (pickedZ A 4), .int .i64 (1 + pickedZ B 9), .slice none 0 0, .slice none 0 0] 37 ∧
      BoxAt wx w.heap.size [.int .i64 K, .int .i64 A, .int .i64 B, .int .i64 C, vt] 24 ∧ BoxAt wx (w.heap.size + 1) [.int .i64 0, .int .i64 0, .slice none 0 0, .slice none 0 0] 37 ∧ Below w.heap.size w wx)
  case first =>
    go_region_held3 (fun w' => w'.cell? ⟨w.heap.size, 1, none⟩ = some (.int .i64 A) ∧ w'.cell? ⟨w.heap.size, 2, none⟩ = some (.int .i64 B)) (go_keep)
      ((go_at_call 15; refine (picked_any _ _ _ (by omega) (by omega) (by omega) (by omega)).mono ?_; rintro e w' ⟨rfl, rfl⟩))
    all_goals
      go_wp2_with fail
      go_meet
      refine ⟨by rw [HX.out], ?_, ?_, ?_, ?_⟩
      · rw [HX.out]; exact (BoxAt.newAt ((w.alloc _).alloc _) [_, _, _, _] _ (by simp)).drew
      · exact (((BoxAt.new w [_, _, _, _, _] _).alloc _).alloc _).drew
      · exact ((BoxAt.newAt (w.alloc _) [_, _, _, _] _ (by simp)).alloc _).drew
      · exact ((((Below.refl _ w).alloc (Nat.le_refl _) _).alloc (by simp) _).alloc (by simp; omega) _).drew
  case rest =>
    obtain ⟨rfl, bX, bR, bH, hB⟩ := hcut
    have zX := bX.lt
    have hXw : w.heap.size + 1 < X := by have := HX.out; omega
    go_wp2_with fail
    go_loopw [4] (fun i wr => ∃ (k : Nat) (adb : Option Addr) (capb : Nat), k ≤ nB ∧ i = .int .i64 k ∧ BoxAt wr X [.int .i64 (pickedZ A 4), .int .i64 (1 + pickedZ B 9), .slice adb k capb, .slice none 0 0] 37 ∧
        BoxAt wr w.heap.size [.int .i64 K, .int .i64 A, .int .i64 B, .int .i64 C, vt] 24 ∧ BoxAt wr (w.heap.size + 1) [.int .i64 0, .int .i64 0, .slice none 0 0, .slice none 0 0] 37 ∧ LstO RBytes (fun b => X < b) (X + 1) 26 wr (.slice adb k capb) (hdrB C k) ∧ Below w.heap.size w wr)
      (fun i _ => nB - (intOf i).toNat)
    case atStart => exact ⟨0, none, 0, Nat.zero_le _, rfl, bX, bR, bH, LstO.nil _ _ _ _ _, hB⟩
    case round =>
      clear bX bR bH hB zX
      obtain ⟨k, adb, capb, hk, rfl, bX, bR, bH, hL, hB⟩ := hrel
      have zX := bX.lt
      have HBB := Lib.hid hB
      have HBX := Lib.hid bX
      have HBR := Lib.hid bR
      have HBH := Lib.hid bH
      have p3 := bR.cell 3 rfl
      by_cases hlt : (k : Int) < (nB : Int)
      · obtain ⟨vals, hv⟩ := hL.valsOf
        have HV := Lib.hid hv
        have HVl := Lib.hid (hdrB_len C k)
        have hvlt := hv.lt
        have x2 := bX.cell 2 rfl
        clear hv hL bX bR bH hB
        go_wp2_with (go_at_call 15; refine (picked_any _ _ _ (by omega) (by omega) (by omega) (by omega)).mono ?_; rintro e w' ⟨rfl, rfl⟩; rw [HB.out])
        go_region_law
          (first
            | ((refine step_append_one (by rfl) _ _ _ (by rfl) elemBB (X + 1) _ k vals (by rfl) (by have h := HW1.out.own; rw [HVl.out] at h; first | exact h.alloc _ | exact (h.alloc _).drew) _ 26 [.slice (some ⟨wr.heap.size, 0, none⟩) 32 32] (by rfl) (by first | exact BoxAt.new _ [_] _ | exact (BoxAt.new _ [_] _).drew) rfl (by simp [Value.oneCell']) (by unfold maxLen; omega) (by omega) (by simp; omega) ?_; intro g cap w3 hown3 hgr hat hlt3;
                have bX3 := ((HBX2.out.alloc (.cells #[.slice (some ⟨wr.heap.size, 0, none⟩) 32 32] 26)).grown (w' := w3) hgr (fun e => by have := (hvlt _ e).1; omega));
                have x2 := bX3.cell 2 rfl; have f2 := bX3.free 2; have r3 := ((HBR2.out.alloc (.cells #[.slice (some ⟨wr.heap.size, 0, none⟩) 32 32] 26)).grown (w' := w3) hgr (fun e => by have := (hvlt _ e).1; omega)).cell 3 rfl))
            | ((go_simp; go_at_call 16; refine (some_any _ _ _ (by omega) (by omega)).mono ?_; rintro e w2 ⟨rfl, hbox2, hb2⟩;
                have hb2' : Below wr.heap.size wr w2 := (by first | exact (Below.refl _ _).drew.trans hb2 | exact hb2);
                have HW1 := Lib.hid (HV.out.below hb2'); have HBH2 := Lib.hid (HBH.out.belowS hb2'); have HB2 := Lib.hid (show BoxAt w2 wr.heap.size _ _ from hbox2); have HBX2 := Lib.hid (HBX.out.belowS hb2'); have HBR2 := Lib.hid (HBR.out.belowS hb2'); have HBe := Lib.hid hb2'; have z2 := hb2'.size; have z2' := HB2.out.lt;
                have x2 := HBX2.out.cell 2 rfl; have r3 := HBR2.out.cell 3 rfl; have x2f := HBX2.out.free 2; have y2 := HBX2.out.lt; have y3 := HBR2.out.lt; clear hbox2 hb2 hb2')))
        all_goals
          have bR3 := ((HBR2.out.alloc (.cells #[.slice (some ⟨wr.heap.size, 0, none⟩) 32 32] 26)).grown (w' := w3) hgr (fun e => by have := (hvlt _ e).1; omega))
          have bH3 := ((HBH2.out.alloc (.cells #[.slice (some ⟨wr.heap.size, 0, none⟩) 32 32] 26)).grown (w' := w3) hgr (fun e => by have := (hvlt _ e).1; omega))
          have hx := RdS.of_box (G := fun b => X < b ∧ b < (w2.alloc (.cells #[.slice (some ⟨wr.heap.size, 0, none⟩) 32 32] 26)).heap.size ∧ (Value.slice adb k capb).ownBlock ≠ some b) (cap := 32) (HB2.out.alloc (.cells #[.slice (some ⟨wr.heap.size, 0, none⟩) 32 32] 26)) ⟨zX, by simp; omega, fun e => by have := (hvlt _ e).2; omega⟩ (Nat.le_of_eq (someL_length _ _)) (by unfold maxLen; omega)
          have hP := (HW1.out.alloc (.cells #[.slice (some ⟨wr.heap.size, 0, none⟩) 32 32] 26)).push (x := someL C k) (cs := [.slice (some ⟨wr.heap.size, 0, none⟩) 32 32]) ⟨_, rfl, hx⟩ (by rw [HVl.out]; exact hown3) hgr hat
          rw [HVl.out, ← hdrB_succ] at hP
          have hB3 : Below w.heap.size w w3 := ((HBB.out.trans (HBe.out.mono HBB.out.size)).alloc (by have := HBB.out.size; omega) _).grown hgr (by simp; have := HBB.out.size; omega) (fun k hk => by have := (hvlt _ hk).1; omega)
          have HQ1 := Lib.hid hP
          have HQ2 := Lib.hid hB3
          clear hx hP hB3
          go_wp2
          go_roundw
          case rel => exact ⟨k + 1, some ⟨g, 0, none⟩, cap, by omega, by go_num, bX3.set 2 _, bR3.setOther (by simp; omega) _, bH3.setOther (by simp; omega) _, HQ1.out.setCell (by simp) (by simp) _, HQ2.out.setCell (by simp; omega) _⟩
          case measure => simp [intOf]; omega
      · obtain rfl : k = nB := by omega
        have HRB := Lib.hid (hL.rd (G' := fun b => X < b ∧ b < wr.heap.size) (by decide) (fun b h1 h2 => ⟨h1, h2⟩) (fun b h1 h2 => ⟨h1, h2⟩))
        by_cases hr : 1 < 1 + pickedZ B 9
        · have HLP := Lib.hid (HD2.out hr)
          have x1 := bX.cell 1 rfl
          obtain ⟨w5, rfl⟩ : ∃ w5 : World, w5 = wr := ⟨_, rfl⟩
          clear hL bX bR bH hB
          go_wp2_with (go_at_call 15; refine (picked_any _ _ _ (by omega) (by omega) (by omega) (by omega)).mono ?_; rintro e w' ⟨rfl, rfl⟩; rw [HB.out])
          go_loopw [5] (fun i wr => ∃ (j : Nat) (adp : Option Addr) (capp : Nat), j ≤ nP ∧ i = .int .i64 j ∧ BoxAt wr X [.int .i64 (pickedZ A 4), .int .i64 (1 + pickedZ B 9), .slice adb k capb, .slice adp j capp] 37 ∧
              BoxAt wr w.heap.size [.int .i64 K, .int .i64 A, .int .i64 B, .int .i64 C, vt] 24 ∧ BoxAt wr (w.heap.size + 1) [.int .i64 0, .int .i64 0, .slice none 0 0, .slice none 0 0] 37 ∧ RdBB (fun b => X < b ∧ b < w5.heap.size) wr (.slice adb k capb) (hdrB C k) ∧ LstO RBytes (fun b => w5.heap.size ≤ b) w5.heap.size 26 wr (.slice adp j capp) (hdrP A j) ∧ Below w.heap.size w wr ∧ w5.heap.size ≤ wr.heap.size)
            (fun i _ => nP - (intOf i).toNat)
          case atStart => exact ⟨0, none, 0, Nat.zero_le _, rfl, HBX.out, HBR.out, HBH.out, HRB.out, LstO.nil _ _ _ _ _, HBB.out, Nat.le_refl _⟩
          case round =>
            clear HRB HBX HBR HBH HBB p3 x1
            obtain ⟨j, adp, capp, hj, rfl, bX, bR, bH, hRB, hL, hB, h5⟩ := hrel
            have zX5 := zX
            have zX := bX.lt
            have HBB := Lib.hid hB
            have HBX := Lib.hid bX
            have HBR := Lib.hid bR
            have HBH := Lib.hid bH
            have HRB := Lib.hid hRB
            have p3 := bR.cell 3 rfl
            have p1 := bR.cell 1 rfl
            by_cases hlt : (j : Int) < 3 + (q : Int)
            · obtain ⟨vals, hv⟩ := hL.valsOf
              have HV := Lib.hid hv
              have HVl := Lib.hid (hdrP_len A j)
              have hvlt := hv.lt
              have x3 := bX.cell 3 rfl
              have l2 : IntKind.i64.wrap (10 + (j : Int)) = 10 + (j : Int) := IntWalk.i64_in _ (by omega)
              clear hv hL bX bR bH hB hRB
              go_wp2_with (go_at_call 15; refine (picked_any _ _ _ (by omega) (by omega) (by omega) (by omega)).mono ?_; rintro e w' ⟨rfl, rfl⟩; rw [HP.out])
              go_region_law
                (first
                  | ((refine step_append_one (by rfl) _ _ _ (by rfl) elemBB w5.heap.size _ j vals (by rfl) (by have h := HW1.out.own; rw [HVl.out] at h; first | exact h.alloc _ | exact (h.alloc _).drew) _ 26 [.slice (some ⟨wr.heap.size, 0, none⟩) 32 32] (by rfl) (by first | exact BoxAt.new _ [_] _ | exact (BoxAt.new _ [_] _).drew) rfl (by simp [Value.oneCell']) (by unfold maxLen; omega) (by omega) (by simp; omega) ?_; intro g cap w3 hown3 hgr hat hlt3;
                      have bX3 := ((HBX2.out.alloc (.cells #[.slice (some ⟨wr.heap.size, 0, none⟩) 32 32] 26)).grown (w' := w3) hgr (fun e => by have := (hvlt _ e).1; omega));
                      have x3 := bX3.cell 3 rfl; have f3 := bX3.free 3; have r1 := ((HBR2.out.alloc (.cells #[.slice (some ⟨wr.heap.size, 0, none⟩) 32 32] 26)).grown (w' := w3) hgr (fun e => by have := (hvlt _ e).1; omega)).cell 1 rfl))
                  | ((go_simp; go_at_call 16; refine (some_any _ _ _ (by omega) (by omega)).mono ?_; rintro e w2 ⟨rfl, hbox2, hb2⟩;
                      have hb2' : Below wr.heap.size wr w2 := (by first | exact (Below.refl _ _).drew.trans hb2 | exact hb2);
                      have HW1 := Lib.hid (HV.out.below hb2'); have HBH2 := Lib.hid (HBH.out.belowS hb2'); have HB2 := Lib.hid (show BoxAt w2 wr.heap.size _ _ from hbox2); have HBX2 := Lib.hid (HBX.out.belowS hb2'); have HBR2 := Lib.hid (HBR.out.belowS hb2'); have HRB2 := Lib.hid (HRB.out.below hb2' (fun _ h => h)); have HBe := Lib.hid hb2'; have z2 := hb2'.size; have z2' := HB2.out.lt;
                      have x3 := HBX2.out.cell 3 rfl; have r1 := HBR2.out.cell 1 rfl; have x3f := HBX2.out.free 3; have y2 := HBX2.out.lt; have y3 := HBR2.out.lt; clear hbox2 hb2 hb2')))
              all_goals
                have bR3 := ((HBR2.out.alloc (.cells #[.slice (some ⟨wr.heap.size, 0, none⟩) 32 32] 26)).grown (w' := w3) hgr (fun e => by have := (hvlt _ e).1; omega))
                have bH3 := ((HBH2.out.alloc (.cells #[.slice (some ⟨wr.heap.size, 0, none⟩) 32 32] 26)).grown (w' := w3) hgr (fun e => by have := (hvlt _ e).1; omega))
                have hx := RdS.of_box (G := fun b => w5.heap.size ≤ b ∧ b < (w2.alloc (.cells #[.slice (some ⟨wr.heap.size, 0, none⟩) 32 32] 26)).heap.size ∧ (Value.slice adp j capp).ownBlock ≠ some b) (cap := 32) (HB2.out.alloc (.cells #[.slice (some ⟨wr.heap.size, 0, none⟩) 32 32] 26)) ⟨h5, by simp; omega, fun e => by have := (hvlt _ e).2; omega⟩ (Nat.le_of_eq (someL_length _ _)) (by unfold maxLen; omega)
                have hP := (HW1.out.alloc (.cells #[.slice (some ⟨wr.heap.size, 0, none⟩) 32 32] 26)).push (x := someL A (10 + (j : Int))) (cs := [.slice (some ⟨wr.heap.size, 0, none⟩) 32 32]) ⟨_, rfl, hx⟩ (by rw [HVl.out]; exact hown3) hgr hat
                rw [HVl.out, ← hdrP_succ] at hP
                have hB3 : Below w.heap.size w w3 := ((HBB.out.trans (HBe.out.mono HBB.out.size)).alloc (by have := HBB.out.size; omega) _).grown hgr (by simp; have := HBB.out.size; omega) (fun k hk => by have := (hvlt _ hk).1; omega)
                have hRB3 : RdBB (fun b => X < b ∧ b < w5.heap.size) w3 (.slice adb k capb) (hdrB C k) := (HRB2.out.keep (Keep.alloc _ _ (.cells #[.slice (some ⟨wr.heap.size, 0, none⟩) 32 32] 26)) (fun _ h => h)).keep (Keep.grown hgr (fun k hk hb => by have := (hvlt _ hk).1; omega)) (fun _ h => h)
                have hs3 : w2.heap.size ≤ w3.heap.size := by have := hgr.size; simp at this; omega
                have HQ1 := Lib.hid hP
                have HQ2 := Lib.hid hB3
                have HQ3 := Lib.hid hRB3
                clear hx hP hB3 hRB3
                go_wp2
                go_roundw
                case rel => exact ⟨j + 1, some ⟨g, 0, none⟩, cap, by omega, by go_num, bX3.set 3 _, bR3.setOther (by simp; omega) _, bH3.setOther (by simp; omega) _, HQ3.out.keep (Keep.setCell (by simp) _) (fun _ h => h), HQ1.out.setCell (by simp; omega) (by simp; omega) _, HQ2.out.setCell (by simp; omega) _, by simp; omega⟩
                case measure => simp [intOf]; omega
            · obtain rfl : j = nP := by omega
              have HRP := Lib.hid (hL.rd (G' := fun b => w5.heap.size ≤ b) (by decide) (fun b h1 h2 => h1) (fun b h1 h2 => h1))
              have x0 := bX.cell 0 rfl
              have x1 := bX.cell 1 rfl
              have x2 := bX.cell 2 rfl
              have x3 := bX.cell 3 rfl
              have y0 := bH.cell 0 rfl
              have y1 := bH.cell 1 rfl
              have y2 := bH.cell 2 rfl
              have y3 := bH.cell 3 rfl
              have f0 := bH.free 0
              have f1 := bH.free 1
              have f2 := bH.free 2
              have f3 := bH.free 3
              have ne1 : w.heap.size + 1 ≠ X := by omega
              have ne2 : w.heap.size ≠ w.heap.size + 1 := by omega
              clear bX bR bH hB hL
              go_wp2_with (go_at_call 15; refine (picked_any _ _ _ (by omega) (by omega) (by omega) (by omega)).mono ?_; rintro e w' ⟨rfl, rfl⟩; rw [HP.out])
              refine bodyPost_ret (v := .agg #[.int .i64 (pickedZ A 4), .int .i64 (1 + pickedZ B 9), .slice adb k capb, .slice adp j capp]) (by simp [results, Try.results23, go_sem, y0, y1, y2, y3]) rfl ⟨adb, capb, adp, capp, ?_, ?_, ?_, ?_⟩
              · rw [HD4.out, HD5.out, HD1.out, hdrB_len, HLP.out, hdrP_len]
              · rw [HD1.out, hdrB_len]
                refine HRB.out.keep ?_ (fun b hb => by have := hb.1; omega)
                repeat (first | with_reducible exact Keep.refl _ _ | with_reducible refine Keep.setCell' ?_ (by simp; omega) _)
              · rw [HLP.out, hdrP_len]
                refine HRP.out.keep ?_ (fun b hb => by omega)
                repeat (first | with_reducible exact Keep.refl _ _ | with_reducible refine Keep.setCell' ?_ (by simp; omega) _)
              · repeat (first | with_reducible exact HBB.out | with_reducible refine Below.setCell ?_ (by simp) _)
        · have HLP := Lib.hid (HD3.out (by omega))
          have x0 := bX.cell 0 rfl
          have x1 := bX.cell 1 rfl
          have x2 := bX.cell 2 rfl
          have x3 := bX.cell 3 rfl
          have y0 := bH.cell 0 rfl
          have y1 := bH.cell 1 rfl
          have y2 := bH.cell 2 rfl
          have y3 := bH.cell 3 rfl
          have f0 := bH.free 0
          have f1 := bH.free 1
          have f2 := bH.free 2
          have f3 := bH.free 3
          have ne1 : w.heap.size + 1 ≠ X := by omega
          have ne2 : w.heap.size ≠ w.heap.size + 1 := by omega
          clear bX bR bH hB hL
          go_wp2_with (go_at_call 15; refine (picked_any _ _ _ (by omega) (by omega) (by omega) (by omega)).mono ?_; rintro e w' ⟨rfl, rfl⟩; rw [HB.out])
          refine bodyPost_ret (v := .agg #[.int .i64 (pickedZ A 4), .int .i64 (1 + pickedZ B 9), .slice adb k capb, .slice none 0 0]) (by simp [results, Try.results23, go_sem, y0, y1, y2, y3]) rfl ⟨adb, capb, none, 0, ?_, ?_, ?_, ?_⟩
          · rw [HD4.out, HD5.out, HD1.out, hdrB_len, HLP.out]; try rfl
          · rw [HD1.out, hdrB_len]
            refine HRB.out.keep ?_ (fun b hb => by have := hb.1; omega)
            repeat (first | with_reducible exact Keep.refl _ _ | with_reducible refine Keep.setCell' ?_ (by simp; omega) _)
          · rw [HLP.out]; exact RdS.nil _ _ _
          · repeat (first | with_reducible exact HBB.out | with_reducible refine Below.setCell ?_ (by simp) _)
end Go.Proofs.Ytgkmgdkmafbohaa
/- What is plain about the header of raw numbers and its voters. -/
set_option linter.unusedVariables false
set_option linter.unusedSimpArgs false
namespace Go.Proofs.Ytgkmgdkmafbohaa
open Go Go.RowKit

theorem someL_ne {C m m' : Int} (h : m % 256 ≠ m' % 256) : someL C m ≠ someL C m' := by
  intro e
  unfold someL at e
  simp only [List.cons.injEq] at e
  have := congrArg (fun u : UInt8 => (u.toNat : Int)) e.2.1
  simp only [byteZ_toNat] at this
  exact h this
theorem nodup_some (A c : Int) (hc : 0 ≤ c) : ∀ k : Nat, c + k ≤ 256 → ((List.range k).map fun (i : Nat) => someL A (c + (i : Int))).Nodup := by
  intro k hk
  rw [List.nodup_iff_pairwise_ne]
  rw [List.pairwise_map]
  refine List.Pairwise.imp_of_mem ?_ List.pairwise_lt_range
  intro a b ha hb hab
  simp only [List.mem_range] at ha hb
  exact someL_ne (by omega)
theorem hdrB_eq (C : Int) (k : Nat) : hdrB C k = (List.range k).map fun (i : Nat) => someL C (0 + (i : Int)) := by unfold hdrB; simp
theorem dig_hdrB (C : Int) (k : Nat) (hk : k ≤ 10) : digCode (hdrB C k) = 0 := by
  rw [digCode_zero, hdrB_eq]
  refine ⟨fun d hd => ?_, nodup_some C 0 (by omega) k (by omega)⟩
  obtain ⟨i, _, rfl⟩ := List.mem_map.1 hd
  exact someL_length _ _
theorem dig_hdrP (A : Int) (k : Nat) (hk : k ≤ 10) : digCode (hdrP A k) = 0 := by
  rw [digCode_zero]
  unfold hdrP
  refine ⟨fun d hd => ?_, nodup_some A 10 (by omega) k (by omega)⟩
  obtain ⟨i, _, rfl⟩ := List.mem_map.1 hd
  exact someL_length _ _
theorem hdrOf_ok (A B C : Int) : hdrCode (hdrOf A B C) = 0 := by
  obtain ⟨pa1, pa2⟩ := pickedZ_range A 4 (by omega)
  obtain ⟨pb1, pb2⟩ := pickedZ_range B 9 (by omega)
  obtain ⟨pc1, pc2⟩ := pickedZ_range C 4 (by omega)
  obtain ⟨pd1, pd2⟩ := pickedZ_range C 2 (by omega)
  unfold hdrCode
  have h1 : nodeOk (hdrOf A B C).a = true := by show nodeOk (pickedZ A 4) = true; unfold nodeOk; simp; omega
  have h2 : countOk (hdrOf A B C).r = true := by show countOk (1 + pickedZ B 9) = true; unfold countOk; simp; omega
  have h3 : (hdrOf A B C).bs.length = (pickedZ C 4).toNat := hdrB_len _ _
  have h5 : digCode (hdrOf A B C).bs = 0 := dig_hdrB _ _ (by omega)
  have h6 : digCode (hdrOf A B C).ps = 0 := by
    show digCode (if 1 < 1 + pickedZ B 9 then hdrP A (3 + pickedZ C 2).toNat else []) = 0
    split
    · exact dig_hdrP _ _ (by omega)
    · rfl
  rw [if_neg (by simp [h1, h2])]
  by_cases hr : 1 < 1 + pickedZ B 9
  · have h4 : (hdrOf A B C).ps.length = (3 + pickedZ C 2).toNat := by
      show (if 1 < 1 + pickedZ B 9 then hdrP A (3 + pickedZ C 2).toNat else []).length = _
      rw [if_pos hr, hdrP_len]
    rw [if_neg (by rw [h3, h4]; omega), if_neg (by simp [h5]), if_neg (by simp [h6]), if_neg]
    rw [h4]
    show ¬ ((1 + pickedZ B 9 = 1 ∧ _) ∨ (1 < 1 + pickedZ B 9 ∧ _))
    omega
  · have h4 : (hdrOf A B C).ps = [] := by
      show (if 1 < 1 + pickedZ B 9 then hdrP A (3 + pickedZ C 2).toNat else []) = _
      rw [if_neg hr]
    rw [if_neg (by rw [h3, h4]; simp; omega), if_neg (by simp [h5]), if_neg (by simp [h6]), if_neg]
    rw [h4]
    show ¬ ((1 + pickedZ B 9 = 1 ∧ _) ∨ (1 < 1 + pickedZ B 9 ∧ _))
    simp; omega
theorem voters_cases (C : Int) : votersL C ∈ [[1, 2, 3], [0, 2, 3], [0, 1, 3], [0, 1, 2], [0, 1, 2, 3]] := by
  obtain ⟨h0, h1⟩ := pickedZ_range C 5 (by omega)
  unfold votersL
  rcases vot_cases _ h0 h1 with e | e | e | e | e <;> rw [e] <;> decide
theorem crt_of_hdr {h : Hdr} {vs : List Int} (h0 : hdrCode h = 0) : crtCode ⟨h, vs⟩ = if 4 < vs.length then 1 else if votGo none vs ≠ 0 then votGo none vs else if vs.length < 3 then 10 else 0 := by
  unfold crtCode; rw [if_neg (by simp [h0])]
theorem crtOf_ok (A B C : Int) : crtCode ⟨hdrOf A B C, votersL C⟩ = 0 := by
  rw [crt_of_hdr (hdrOf_ok A B C)]
  have := voters_cases C
  generalize votersL C = l at *
  simp only [List.mem_cons, List.not_mem_nil, or_false] at this
  rcases this with rfl | rfl | rfl | rfl | rfl <;> decide
theorem voters_len3 (C : Int) : 3 ≤ (votersL C).length := by
  have := voters_cases C
  generalize votersL C = l at *
  simp only [List.mem_cons, List.not_mem_nil, or_false] at this
  rcases this with rfl | rfl | rfl | rfl | rfl <;> decide
theorem voters_len4 (C : Int) : (votersL C).length ≤ 4 := by
  have := voters_cases C
  generalize votersL C = l at *
  simp only [List.mem_cons, List.not_mem_nil, or_false] at this
  rcases this with rfl | rfl | rfl | rfl | rfl <;> decide
/-- The four faults of voters. -/
theorem crt_few (A B C : Int) : crtCode ⟨hdrOf A B C, (votersL C).take 2⟩ = 10 := by
  rw [crt_of_hdr (hdrOf_ok A B C)]
  have := voters_cases C
  generalize votersL C = l at *
  simp only [List.mem_cons, List.not_mem_nil, or_false] at this
  rcases this with rfl | rfl | rfl | rfl | rfl <;> decide
theorem crt_order (A B C : Int) (h : 0 < (votersL C).length) : crtCode ⟨hdrOf A B C, (votersL C).set 1 (votersL C)[0]⟩ = 9 := by
  rw [crt_of_hdr (hdrOf_ok A B C)]
  have := voters_cases C
  generalize votersL C = l at *
  simp only [List.mem_cons, List.not_mem_nil, or_false] at this
  rcases this with rfl | rfl | rfl | rfl | rfl <;> (simp only [List.getElem_cons_zero]; rfl)
theorem crt_range (A B C : Int) : crtCode ⟨hdrOf A B C, (votersL C).set 0 (-1)⟩ = 2 := by
  rw [crt_of_hdr (hdrOf_ok A B C)]
  have := voters_cases C
  generalize votersL C = l at *
  simp only [List.mem_cons, List.not_mem_nil, or_false] at this
  rcases this with rfl | rfl | rfl | rfl | rfl <;> decide
theorem crt_size (A B C : Int) : crtCode ⟨hdrOf A B C, [0, 1, 2, 3, 3]⟩ = 1 := by
  rw [crt_of_hdr (hdrOf_ok A B C)]
  decide
theorem RdS.setElt {α : Type} {f : α → Value} {G : Nat → Prop} {w : World} {l : List α} {b o n cap : Nat} (h : RdS (flat f) G w (.slice (some ⟨b, o, none⟩) n cap) l) (k : Nat) (x : α) : RdS (flat f) G (w.setCell ⟨b, o + k, none⟩ (f x)) (.slice (some ⟨b, o, none⟩) n cap) (l.set k x) := by
  obtain ⟨h0, h1, h2, h3⟩ := h.len
  refine ⟨_, cap, by rw [List.length_set, h0], by simp; omega, h2, fun h => by simp at h, fun j y hy => ?_⟩
  have hj : j < l.length := by
    rcases Nat.lt_or_ge j l.length with h | h
    · exact h
    · rw [List.getElem?_eq_none (by simpa using h)] at hy; simp at hy
  obtain ⟨b', o', ha, hg, hc⟩ := h.cell j hj
  simp only [Option.some.injEq, Addr.mk.injEq, and_true] at ha
  obtain ⟨rfl, rfl⟩ := ha
  refine ⟨b, o, [f y], rfl, hg, fun t c ht => ?_, rfl⟩
  match t, ht with
  | 0, ht =>
    simp at ht; subst ht
    show (w.setCell ⟨b, o + k, none⟩ (f x)).cell? ⟨b, o + (j * 1 + 0), none⟩ = _
    simp only [Nat.mul_one, Nat.add_zero]
    by_cases e : k = j
    · subst e
      rw [List.getElem?_set_self hj] at hy
      obtain rfl := Option.some.inj hy
      exact World.cell?_setCell_same _ _ _ hc
    · rw [List.getElem?_set_ne e, List.getElem?_eq_getElem hj] at hy
      obtain rfl := Option.some.inj hy
      rw [World.cell?_setCell_other _ _ _ _ (by intro h; injection h with _ h; omega)]
      exact hc
end Go.Proofs.Ytgkmgdkmafbohaa
/- Lemmas for a certificate that is made of raw numbers. No program is named. -/
set_option linter.unusedVariables false
set_option linter.unusedSimpArgs false
namespace Go.Proofs.Ytgkmgdkmafbohaa
open Go Go.RowKit

theorem RdS.free_of_own {w : World} {base e n : Nat} {v : Value} {xs : List Value} (h : w.ownsRow base e 1 v n xs) (h0 : 0 < n) : ∃ g cap, v = .slice (some ⟨g, 0, none⟩) n cap ∧ base ≤ g ∧ g < w.heap.size ∧ ∀ j, w.frozen? ⟨g, j, none⟩ = false := by
  rcases h.2 with ⟨_, h1⟩ | ⟨g, cap, cur, hv, hb, hg, _⟩
  · omega
  · exact ⟨g, cap, hv, hb, lt_of_block hg, fun j => by simp [World.frozen?, hg]⟩

theorem BoxAt.set5 {w : World} {b : Nat} {a0 a1 a2 a3 a4 : Value} {T : TypeId} (h : BoxAt w b [a0, a1, a2, a3, a4] T) (u0 u1 u2 u3 u4 : Value) :
    BoxAt (((((w.setCell ⟨b, 0, none⟩ u0).setCell ⟨b, 1, none⟩ u1).setCell ⟨b, 2, none⟩ u2).setCell ⟨b, 3, none⟩ u3).setCell ⟨b, 4, none⟩ u4) b [u0, u1, u2, u3, u4] T := ((((h.set 0 u0).set 1 u1).set 2 u2).set 3 u3).set 4 u4
theorem RdS.atBlock {α : Type} {f : α → Value} {G : Nat → Prop} {w : World} {l : List α} {g o n cap : Nat} (h : RdS (flat f) G w (.slice (some ⟨g, o, none⟩) n cap) l) : RdS (flat f) (fun b => b = g) w (.slice (some ⟨g, o, none⟩) n cap) l := by
  obtain ⟨h0, h1, h2, h3⟩ := h.len
  subst h0
  refine ⟨_, cap, rfl, h1, h2, fun h => by simp at h, fun j x hx => ?_⟩
  have hj : j < l.length := by
    rcases Nat.lt_or_ge j l.length with h | h
    · exact h
    · simp [List.getElem?_eq_none h] at hx
  obtain ⟨b, o', cs, ha, hg, hc, hr⟩ := h.at j hj
  simp only [Option.some.injEq, Addr.mk.injEq, and_true] at ha
  obtain ⟨rfl, rfl⟩ := ha
  have hx' : l[j] = x := by rw [List.getElem?_eq_getElem hj] at hx; exact Option.some.inj hx
  exact ⟨_, _, cs, rfl, rfl, hc, hx' ▸ hr⟩
end Go.Proofs.Ytgkmgdkmafbohaa
/- Results that lie in memory; single operations of a walk. No program is named. -/
set_option linter.unusedVariables false
set_option linter.unusedSimpArgs false
namespace Go.Proofs.Ytgkmgdkmafbohaa
open Go Go.RowKit

theorem results_cell_tmp {P : Program} {fn : Func} {p q : Tmp} {ty : TypeId} (h : fn.results = #[.cell p ty, .tmp q]) (tmps : Array Value) (w : World) (g : Nat) (T : TypeId) (cs : List Value) (d : TypeDesc) (y : Value)
    (hp : tmps.getD p undef = .pointer (some ⟨g, 0, none⟩)) (hq : tmps.getD q undef = y) (hg : BoxAt w g cs T)
    (hu : P.underlying ty = some d) (hd : (match d with | .struct _ | .array _ _ => true | _ => false) = true) (hi : (P.info? ty).map (·.size) = some cs.toArray.size) :
    (results fn tmps).run P w = .ok (.tuple #[.agg cs.toArray, y]) w := by
  have hp' : tmps[p]?.getD undef = .pointer (some ⟨g, 0, none⟩) := by simpa [Array.getD_eq_getD_getElem?] using hp
  have hq' : tmps[q]?.getD undef = y := by simpa [Array.getD_eq_getD_getElem?] using hq
  simp [results, h, hp', hq', asAddr, run_loadVar_row w g T ty cs.toArray (0, 0) d hg hu hd hi]
/-- A slice literal of one element. -/
theorem wp_build1 {P : Program} {w : World} {o : Oper} {a : Act} {K : Act → World → Prop} {Q : Exit → Act → World → Prop} {t e : TypeId} (x : Operand) (ho : o.op = .buildSlice t 1 #[(0, x)]) {v : Value}
    (hr : ∀ w, (Instr.buildSlice t 1 #[(0, v)]).run P w = .ok (.slice (some ⟨w.heap.size, 0, none⟩) 1 1) (w.alloc (.cells #[v] e))) (hx : a.eval x = v)
    (h : K (a.put o.dst (.slice (some ⟨w.heap.size, 0, none⟩) 1 1)) (w.alloc (.cells #[v] e))) : Oper.wp P o a w K Q := by
  subst hx
  have := hr w
  unfold Oper.wp execOp
  simp only [ho, Sem.run_bind, List.map_toArray, List.map_cons, List.map_nil, this, Result.andThen_ok]
  exact h
/-- append of one element, at the operation itself. -/
theorem wp_append_oneK {P : Program} {w : World} {o : Oper} {a : Act} {K : Act → World → Prop} {Q : Exit → Act → World → Prop} (s x : Operand) (t : TypeId)
    (ho : o.op = .call { callee := .builtin .append, args := #[s, x], argTypes := #[t, t] })
    {e : TypeId} {size bytes : Nat} (hE : ElemOk P t e size bytes) (base : Nat) (v : Value) (n : Nat) (xs : List Value) (hs : a.eval s = v) (hown : w.ownsRow base e size v n xs)
    (b : Nat) (T : TypeId) (cs : List Value) (hx : a.eval x = .slice (some ⟨b, 0, none⟩) 1 1) (hbox : BoxAt w b cs T) (hl : cs.length = size) (h1 : ∀ u ∈ cs, u.oneCell' = true)
    (h63 : n + 1 ≤ maxLen) (hbytes : (n + 1) * bytes ≤ 140737488355328) (hbase : base ≤ w.heap.size)
    (h : ∀ g cap w', w'.ownsRow base e size (.slice (some ⟨g, 0, none⟩) (n + 1) cap) (n + 1) (xs ++ cs) → w.grownBy w' v.ownBlock → (v.ownBlock = some g ∨ g = w.heap.size) → g < w'.heap.size → K (a.put o.dst (.slice (some ⟨g, 0, none⟩) (n + 1) cap)) w') : Oper.wp P o a w K Q := by
  obtain ⟨ht, i, z, hi, hz, hsize, hby, hzs, hsz⟩ := hE
  exact wp_append_lies w s x t ho base e i z size bytes ht hi hz hsize hby hzs hsz v n xs hs hown ⟨b, 0, none⟩ 1 1 cs hx (by omega) hbox.newsAt h1 (by omega) h63 hbytes hbase _ rfl h
theorem wpList_store_boxG {P : Program} {w : World} {ops : Array Oper} {rest : List Oper} {o : Oper} {a : Act} {Q : Exit → Act → World → Prop} (hgd : o.guard = none) (ty : TypeId) (x y : Operand) (ho : o.op = .store ty x y)
    (b : Nat) (cs : List Value) (hx : a.eval x = .pointer (some ⟨b, 0, none⟩)) (hy : a.eval y = .agg cs.toArray) (T : TypeId) (old : List Value) (hb : BoxAt w b old T)
    (hi : (P.info? ty).map (·.size) = some cs.toArray.size) (hl : old.length = cs.length) (h1 : cs.all (·.oneCell') = true)
    (h : ∀ w', BoxAt w' b cs T → Below b w w' → w.grownBy w' (some b) → wpList P ops Q rest (a.put o.dst undef) w') : wpList P ops Q (o :: rest) a w :=
  wpList_store_row hgd ty x y ho b cs.toArray hx hy T old.toArray hb hi (by simpa using hl) (by simpa using h1)
    (h _ (setRow_heap w b old.toArray cs.toArray T _ hb) (below_setRow (Below.refl _ _) (Nat.le_refl _) _)
      ⟨(below_setRow (Below.refl b w) (Nat.le_refl _) _).os, (below_setRow (Below.refl b w) (Nat.le_refl _) _).tape, (below_setRow (Below.refl b w) (Nat.le_refl _) _).output, by simp, fun k hk hne => setRow_other w b k _ (fun e => hne (by rw [e]))⟩)
theorem msgCells_one {G : Nat → Prop} {w : World} {v : MV} {m : Msg} (h : RdM G w v m) : (msgCells m v).all (·.oneCell') = true := by
  obtain ⟨h1, h2, h3, h4, h5, h6, h7⟩ := h
  obtain ⟨x1, x2, x3, x4, x5, x6, x7⟩ := v
  obtain ⟨a1, c1, rfl, -, -⟩ := h1.form
  obtain ⟨a2, c2, rfl, -, -⟩ := h2.form
  obtain ⟨a3, c3, rfl, -, -⟩ := h3.form
  obtain ⟨a4, c4, rfl, -, -⟩ := h4.form
  obtain ⟨a5, c5, rfl, -, -⟩ := h5.form
  obtain ⟨a6, c6, rfl, -, -⟩ := h6.form
  obtain ⟨a7, c7, rfl, -, -⟩ := h7.form
  rfl
end Go.Proofs.Ytgkmgdkmafbohaa
/- sheaveskeep.Message: a message of raw numbers. -/
set_option linter.unusedVariables false
set_option linter.unusedSimpArgs false
namespace Go.Proofs.Ytgkmgdkmafbohaa
open Go Go.RowKit

def msgOf (K A B C : Int) (l : List Bytes) : Msg :=
  if 1 + pickedZ K 5 = 1 then ⟨pickedZ C 4, pickedZ B 4, 1 + pickedZ K 5, batOf A B l, hdr0, slt0, crt0, 0⟩
  else if 1 + pickedZ K 5 = 2 then ⟨pickedZ C 4, pickedZ B 4, 1 + pickedZ K 5, bat0, hdrOf A B C, slt0, crt0, 0⟩
  else if 1 + pickedZ K 5 = 3 then ⟨pickedZ C 4, pickedZ B 4, 1 + pickedZ K 5, bat0, hdr0, ⟨pickedZ A 4, 1 + pickedZ B 9, someL C A⟩, crt0, 0⟩
  else if 1 + pickedZ K 5 = 4 then ⟨pickedZ C 4, pickedZ B 4, 1 + pickedZ K 5, bat0, hdr0, slt0, ⟨hdrOf A B C, votersL C⟩, 0⟩
  else ⟨pickedZ C 4, pickedZ B 4, 1 + pickedZ K 5, bat0, hdr0, slt0, crt0, 1 + pickedZ B 9⟩
theorem wp_store_newD {P : Program} {w : World} {o : Oper} {a : Act} {K : Act → World → Prop} {Q : Exit → Act → World → Prop} (ty : TypeId) (x y : Operand) (ho : o.op = .store ty x y)
    (cs : List Value) (T : TypeId) (old : List Value) (hx : a.eval x = .pointer (some ⟨w.heap.size, 0, none⟩)) (hy : a.eval y = .agg cs.toArray)
    (hi : (P.info? ty).map (·.size) = some cs.toArray.size) (hl : old.length = cs.length) (h1 : cs.all (·.oneCell') = true)
    (h : ∀ w', BoxAt w' w.heap.size cs T → Below w.heap.size w w' → w'.heap.size = w.heap.size + 1 → K (a.put o.dst undef) w') : Oper.wp P o a ((w.alloc (.cells old.toArray T)).drew) K Q := by
  have hb : BoxAt ((w.alloc (.cells old.toArray T)).drew) w.heap.size old T := (BoxAt.new w old T).drew
  refine wp_store_row ty x y ho w.heap.size cs.toArray hx hy T old.toArray hb hi (by simpa using hl) (by simpa using h1) ?_
  exact h _ (setRow_heap _ _ _ _ _ _ hb) (below_setRow (((Below.refl _ w).alloc (Nat.le_refl _) _).drew) (Nat.le_refl _) _) (by simp)
theorem cell_of_below {w w' : World} {b o : Nat} (h : Below w.heap.size w w') (hb : b < w.heap.size) : w'.cell? ⟨b, o, none⟩ = w.cell? ⟨b, o, none⟩ := h.cell (p := ⟨b, o, none⟩) hb
set_option maxRecDepth 100000 in
set_option maxHeartbeats 16000000 in
theorem message_any {Gx : Nat → Prop} (K A B C : Int) (vt : Value) (l : List Bytes) (w : World) (k1 : -9223372036854775808 ≤ K) (k2 : K ≤ 9223372036854775807) (a1 : -9223372036854775808 ≤ A) (a2 : A ≤ 9223372036854775807) (b1 : -9223372036854775808 ≤ B) (b2 : B ≤ 9223372036854775807) (c1 : -9223372036854775808 ≤ C) (c2 : C ≤ 9223372036854775807)
    (hr : RdT Gx w vt l) (hs : ∀ t ∈ l, t.length ≤ 9223372036854775807) :
    Calls Try.prog 19 #[.agg #[.int .i64 K, .int .i64 A, .int .i64 B, .int .i64 C, vt]] w fun e w' => ∃ mv, e = .returned (.agg (msgCells (msgOf K A B C l) mv).toArray) ∧ RdM (fun b => w.heap.size ≤ b) w' mv (msgOf K A B C l) ∧ Below w.heap.size w w' := by
  have hvt : vt.oneCell' = true := by obtain ⟨ad, cap, rfl, _⟩ := hr.form; rfl
  obtain ⟨pk0, pk1⟩ := pickedZ_range K 5 (by omega)
  obtain ⟨pf0, pf1⟩ := pickedZ_range C 4 (by omega)
  obtain ⟨pt0, pt1⟩ := pickedZ_range B 4 (by omega)
  have hMO : msgOf K A B C l = if 1 + pickedZ K 5 = 1 then ⟨pickedZ C 4, pickedZ B 4, 1 + pickedZ K 5, batOf A B l, hdr0, slt0, crt0, 0⟩ else if 1 + pickedZ K 5 = 2 then ⟨pickedZ C 4, pickedZ B 4, 1 + pickedZ K 5, bat0, hdrOf A B C, slt0, crt0, 0⟩ else if 1 + pickedZ K 5 = 3 then ⟨pickedZ C 4, pickedZ B 4, 1 + pickedZ K 5, bat0, hdr0, ⟨pickedZ A 4, 1 + pickedZ B 9, someL C A⟩, crt0, 0⟩ else if 1 + pickedZ K 5 = 4 then ⟨pickedZ C 4, pickedZ B 4, 1 + pickedZ K 5, bat0, hdr0, slt0, ⟨hdrOf A B C, votersL C⟩, 0⟩ else ⟨pickedZ C 4, pickedZ B 4, 1 + pickedZ K 5, bat0, hdr0, slt0, crt0, 1 + pickedZ B 9⟩ := rfl
  have HMO := Lib.hid hMO
  have HV := Lib.hid (hr.low (by decide))
  have HL := Lib.hid hs
  clear hMO hr hs
  generalize hk : pickedZ K 5 = k at *
  generalize hf : pickedZ C 4 = f at *
  generalize ht : pickedZ B 4 = t at *
  have HK := Lib.hid hk
  have HF := Lib.hid hf
  have HT := Lib.hid ht
  have l1 : IntKind.i64.wrap (1 + k) = 1 + k := IntWalk.i64_in _ (by omega)
  clear hk hf ht
  obtain ⟨w1, hw1⟩ : ∃ w1, w1 = (w.alloc (.cells #[.int .i64 K, .int .i64 A, .int .i64 B, .int .i64 C, vt] 24)).alloc (.cells zeroMsg.toArray 42) := ⟨_, rfl⟩
  have hb1 : Below w.heap.size w w1 := by rw [hw1]; exact ((Below.refl _ _).alloc (Nat.le_refl _) _).alloc (by simp) _
  have bR : BoxAt w1 w.heap.size [.int .i64 K, .int .i64 A, .int .i64 B, .int .i64 C, vt] 24 := by rw [hw1]; exact (BoxAt.new w [_, _, _, _, _] _).alloc _
  have bZ : BoxAt w1 (w.heap.size + 1) zeroMsg 42 := by rw [hw1]; exact BoxAt.newAt (w.alloc _) zeroMsg _ (by simp)
  have x0 := bR.cell 0 rfl
  have x2 := bR.cell 2 rfl
  have x3 := bR.cell 3 rfl
  have hx0 := bR.lt
  have hx := bZ.lt
  have hz1 : w.heap.size + 1 < w1.heap.size := hx
  have hn1 : w1.heap.size ≠ w.heap.size := by omega
  have HB1 := Lib.hid hb1
  have HBR := Lib.hid bR
  have HBZ := Lib.hid bZ
  have hBa : Below w1.heap.size w1 ((w1.alloc (.cells zeroMsg.toArray 42)).drew) := ((Below.refl _ _).alloc (Nat.le_refl _) _).drew
  go_enter Try.func19, Try.ntmps19
  go_upto_region 1 with fail
  rw [← hw1]
  clear hw1 hb1 bR bZ
  go_cut [3] (fun p wx => ∃ X : Nat, p = .pointer (some ⟨X, 0, none⟩) ∧ w.heap.size + 1 < X ∧ BoxAt wx X (msgCells ⟨f, t, 1 + k, bat0, hdr0, slt0, crt0, 0⟩ mv0) 42 ∧ BoxAt wx w.heap.size [.int .i64 K, .int .i64 A, .int .i64 B, .int .i64 C, vt] 24 ∧ BoxAt wx (w.heap.size + 1) zeroMsg 42 ∧ Below w.heap.size w wx)
  case first =>
    refine wp_region_held_drew (S := fun w' => w'.cell? ⟨w.heap.size, 0, none⟩ = some (.int .i64 K) ∧ w'.cell? ⟨w.heap.size, 2, none⟩ = some (.int .i64 B) ∧ w'.cell? ⟨w.heap.size, 3, none⟩ = some (.int .i64 C)) (by kernel_rfl) (by exact ⟨x0, x2, x3⟩) (fun hHeld => ?_)
    refine wpAnyH_take (i := 0) (v := .pointer (some ⟨w.heap.size, 3, none⟩)) rfl (by kernel_rfl) (by kernel_rfl) (by kernel_rfl) (fun _ _ _ h => h) (Or.inl ⟨by rfl, fun w hSw => ?_⟩) hHeld ?_
    · (try dsimp only at hSw); go_split_ands; go_simp; all_goals (try rfl)
    try simp only [Act.put, List.getElem_toArray, List.getElem_cons_succ, List.getElem_cons_zero, List.setIfInBounds_toArray, List.set_cons_zero, List.set_cons_succ]
    refine wpAnyH_take (i := 1) (v := .int .i64 C) rfl (by kernel_rfl) (by kernel_rfl) (by kernel_rfl) (fun _ _ _ h => h) (Or.inl ⟨by rfl, fun w hSw => ?_⟩) hHeld ?_
    · (try dsimp only at hSw); go_split_ands; go_simp; all_goals (try rfl)
    try simp only [Act.put, List.getElem_toArray, List.getElem_cons_succ, List.getElem_cons_zero, List.setIfInBounds_toArray, List.set_cons_zero, List.set_cons_succ]
    refine wpAnyH_take (i := 3) (v := .pointer (some ⟨w.heap.size, 2, none⟩)) rfl (by kernel_rfl) (by kernel_rfl) (by kernel_rfl) (fun _ _ _ h => h) (Or.inl ⟨by rfl, fun w hSw => ?_⟩) hHeld ?_
    · (try dsimp only at hSw); go_split_ands; go_simp; all_goals (try rfl)
    try simp only [Act.put, List.getElem_toArray, List.getElem_cons_succ, List.getElem_cons_zero, List.setIfInBounds_toArray, List.set_cons_zero, List.set_cons_succ]
    refine wpAnyH_take (i := 4) (v := .int .i64 B) rfl (by kernel_rfl) (by kernel_rfl) (by kernel_rfl) (fun _ _ _ h => h) (Or.inl ⟨by rfl, fun w hSw => ?_⟩) hHeld ?_
    · (try dsimp only at hSw); go_split_ands; go_simp; all_goals (try rfl)
    try simp only [Act.put, List.getElem_toArray, List.getElem_cons_succ, List.getElem_cons_zero, List.setIfInBounds_toArray, List.set_cons_zero, List.set_cons_succ]
    refine wpAnyH_take (i := 6) (v := .pointer (some ⟨w.heap.size, 0, none⟩)) rfl (by kernel_rfl) (by kernel_rfl) (by kernel_rfl) (fun _ _ _ h => h) (Or.inl ⟨by rfl, fun w hSw => ?_⟩) hHeld ?_
    · (try dsimp only at hSw); go_split_ands; go_simp; all_goals (try rfl)
    try simp only [Act.put, List.getElem_toArray, List.getElem_cons_succ, List.getElem_cons_zero, List.setIfInBounds_toArray, List.set_cons_zero, List.set_cons_succ]
    refine wpAnyH_take (i := 7) (v := .int .i64 K) rfl (by kernel_rfl) (by kernel_rfl) (by kernel_rfl) (fun _ _ _ h => h) (Or.inl ⟨by rfl, fun w hSw => ?_⟩) hHeld ?_
    · (try dsimp only at hSw); go_split_ands; go_simp; all_goals (try rfl)
    try simp only [Act.put, List.getElem_toArray, List.getElem_cons_succ, List.getElem_cons_zero, List.setIfInBounds_toArray, List.set_cons_zero, List.set_cons_succ]
    refine wpAnyH_ready (rs := [2, 11]) (by kernel_rfl) (by simp) ?_
    refine AllReadyH.cons rfl (fun K hK => ?_) ?_
    · rw [if_pos (by rfl)]
      go_simp
      go_at_call 15
      refine (picked_any _ _ _ (by omega) (by omega) (by omega) (by omega)).mono ?_
      rintro e w' ⟨rfl, rfl⟩
      rw [HF.out]
      show K _ _
      refine hK.out _ _ (by exact hHeld) (fun hHeld => ?_)
      clear hK K
      try simp only [Act.put, List.getElem_toArray, List.getElem_cons_succ, List.getElem_cons_zero, List.setIfInBounds_toArray, List.set_cons_zero, List.set_cons_succ]
      refine wpAnyH_ready (rs := [5, 11]) (by kernel_rfl) (by simp) ?_
      refine AllReadyH.cons rfl (fun K hK => ?_) ?_
      · rw [if_pos (by rfl)]
        go_simp
        go_at_call 15
        refine (picked_any _ _ _ (by omega) (by omega) (by omega) (by omega)).mono ?_
        rintro e w' ⟨rfl, rfl⟩
        rw [HT.out]
        show K _ _
        refine hK.out _ _ (by exact hHeld) (fun hHeld => ?_)
        clear hK K
        try simp only [Act.put, List.getElem_toArray, List.getElem_cons_succ, List.getElem_cons_zero, List.setIfInBounds_toArray, List.set_cons_zero, List.set_cons_succ]
        refine wpAnyH_ready (rs := [8, 11]) (by kernel_rfl) (by simp) ?_
        refine AllReadyH.cons rfl (fun K hK => ?_) ?_
        · rw [if_pos (by rfl)]
          go_simp
          go_at_call 15
          refine (picked_any _ _ _ (by omega) (by omega) (by omega) (by omega)).mono ?_
          rintro e w' ⟨rfl, rfl⟩
          rw [HK.out]
          show K _ _
          refine hK.out _ _ (by exact hHeld) (fun hHeld => ?_)
          clear hK K
          try simp only [Act.put, List.getElem_toArray, List.getElem_cons_succ, List.getElem_cons_zero, List.setIfInBounds_toArray, List.set_cons_zero, List.set_cons_succ]
          refine wpAnyH_take (i := 9) (v := .int .i64 (1 + k)) rfl (by kernel_rfl) (by kernel_rfl) (by kernel_rfl) (fun _ _ _ h => h) (Or.inl ⟨by rfl, fun w hSw => ?_⟩) hHeld ?_
          · (try dsimp only at hSw); go_split_ands; go_simp; all_goals (try rfl)
          try simp only [Act.put, List.getElem_toArray, List.getElem_cons_succ, List.getElem_cons_zero, List.setIfInBounds_toArray, List.set_cons_zero, List.set_cons_succ]
          refine wpAnyH_take (i := 10) (v := .agg (msgCells ⟨f, t, 1 + k, bat0, hdr0, slt0, crt0, 0⟩ mv0).toArray) rfl (by kernel_rfl) (by kernel_rfl) (by kernel_rfl) (fun _ _ _ h => h) (Or.inl ⟨by rfl, fun w hSw => ?_⟩) hHeld ?_
          · (try dsimp only at hSw); go_split_ands; go_simp; all_goals (try rfl)
          try simp only [Act.put, List.getElem_toArray, List.getElem_cons_succ, List.getElem_cons_zero, List.setIfInBounds_toArray, List.set_cons_zero, List.set_cons_succ]
          refine wpAnyH_ready (rs := [11]) (by kernel_rfl) (by simp) ?_
          refine AllReadyH.cons rfl (fun K hK => ?_) ?_
          · rw [if_pos (by rfl)]
            go_simp
            refine hK.out _ _ (by exact ⟨(cell_of_below hBa (by omega)).trans x0, (cell_of_below hBa (by omega)).trans x2, (cell_of_below hBa (by omega)).trans x3⟩) (fun hHeld => ?_)
            clear hK K
            try simp only [Act.put, List.getElem_toArray, List.getElem_cons_succ, List.getElem_cons_zero, List.setIfInBounds_toArray, List.set_cons_zero, List.set_cons_succ]
            refine wpAnyH_ready (rs := [12]) (by kernel_rfl) (by simp) ?_
            refine AllReadyH.cons rfl (fun K hK => ?_) ?_
            · rw [if_pos (by rfl)]
              refine wp_store_newD 42 _ _ (by rfl) (msgCells ⟨f, t, 1 + k, bat0, hdr0, slt0, crt0, 0⟩ mv0) 42 zeroMsg (by rfl) (by rfl) (by kernel_rfl) rfl rfl ?_
              intro w2 hb2 hB2 hs2
              refine hK.out _ _ (by exact ⟨((bcellAt hB2 _ hx0).1 0).trans x0, ((bcellAt hB2 _ hx0).1 2).trans x2, ((bcellAt hB2 _ hx0).1 3).trans x3⟩) (fun hHeld => ?_)
              clear hK K
              try simp only [Act.put, List.getElem_toArray, List.getElem_cons_succ, List.getElem_cons_zero, List.setIfInBounds_toArray, List.set_cons_zero, List.set_cons_succ]
              refine wpAnyH_done (by kernel_rfl) ?_ _
              go_wp2_with fail
              go_meet
              exact ⟨w1.heap.size, rfl, hz1, hb2, HBR.out.belowS hB2, HBZ.out.belowS hB2, HB1.out.trans (hB2.mono HB1.out.size)⟩
            exact AllReadyH.nil
          exact AllReadyH.nil
        refine AllReadyH.cons rfl (fun K hK => ?_) ?_
        · rw [if_pos (by rfl)]
          go_simp
          refine hK.out _ _ (by exact ⟨(cell_of_below hBa (by omega)).trans x0, (cell_of_below hBa (by omega)).trans x2, (cell_of_below hBa (by omega)).trans x3⟩) (fun hHeld => ?_)
          clear hK K
          try simp only [Act.put, List.getElem_toArray, List.getElem_cons_succ, List.getElem_cons_zero, List.setIfInBounds_toArray, List.set_cons_zero, List.set_cons_succ]
          refine wpAnyH_ready (rs := [8]) (by kernel_rfl) (by simp) ?_
          refine AllReadyH.cons rfl (fun K hK => ?_) ?_
          · rw [if_pos (by rfl)]
            go_simp
            go_at_call 15
            refine (picked_any _ _ _ (by omega) (by omega) (by omega) (by omega)).mono ?_
            rintro e w' ⟨rfl, rfl⟩
            rw [HK.out]
            show K _ _
            refine hK.out _ _ (by exact hHeld) (fun hHeld => ?_)
            clear hK K
            try simp only [Act.put, List.getElem_toArray, List.getElem_cons_succ, List.getElem_cons_zero, List.setIfInBounds_toArray, List.set_cons_zero, List.set_cons_succ]
            refine wpAnyH_take (i := 9) (v := .int .i64 (1 + k)) rfl (by kernel_rfl) (by kernel_rfl) (by kernel_rfl) (fun _ _ _ h => h) (Or.inl ⟨by rfl, fun w hSw => ?_⟩) hHeld ?_
            · (try dsimp only at hSw); go_split_ands; go_simp; all_goals (try rfl)
            try simp only [Act.put, List.getElem_toArray, List.getElem_cons_succ, List.getElem_cons_zero, List.setIfInBounds_toArray, List.set_cons_zero, List.set_cons_succ]
            refine wpAnyH_take (i := 10) (v := .agg (msgCells ⟨f, t, 1 + k, bat0, hdr0, slt0, crt0, 0⟩ mv0).toArray) rfl (by kernel_rfl) (by kernel_rfl) (by kernel_rfl) (fun _ _ _ h => h) (Or.inl ⟨by rfl, fun w hSw => ?_⟩) hHeld ?_
            · (try dsimp only at hSw); go_split_ands; go_simp; all_goals (try rfl)
            try simp only [Act.put, List.getElem_toArray, List.getElem_cons_succ, List.getElem_cons_zero, List.setIfInBounds_toArray, List.set_cons_zero, List.set_cons_succ]
            refine wpAnyH_ready (rs := [12]) (by kernel_rfl) (by simp) ?_
            refine AllReadyH.cons rfl (fun K hK => ?_) ?_
            · rw [if_pos (by rfl)]
              refine wp_store_newD 42 _ _ (by rfl) (msgCells ⟨f, t, 1 + k, bat0, hdr0, slt0, crt0, 0⟩ mv0) 42 zeroMsg (by rfl) (by rfl) (by kernel_rfl) rfl rfl ?_
              intro w2 hb2 hB2 hs2
              refine hK.out _ _ (by exact ⟨((bcellAt hB2 _ hx0).1 0).trans x0, ((bcellAt hB2 _ hx0).1 2).trans x2, ((bcellAt hB2 _ hx0).1 3).trans x3⟩) (fun hHeld => ?_)
              clear hK K
              try simp only [Act.put, List.getElem_toArray, List.getElem_cons_succ, List.getElem_cons_zero, List.setIfInBounds_toArray, List.set_cons_zero, List.set_cons_succ]
              refine wpAnyH_done (by kernel_rfl) ?_ _
              go_wp2_with fail
              go_meet
              exact ⟨w1.heap.size, rfl, hz1, hb2, HBR.out.belowS hB2, HBZ.out.belowS hB2, HB1.out.trans (hB2.mono HB1.out.size)⟩
            exact AllReadyH.nil
          exact AllReadyH.nil
        exact AllReadyH.nil
      refine AllReadyH.cons rfl (fun K hK => ?_) ?_
      · rw [if_pos (by rfl)]
        go_simp
        refine hK.out _ _ (by exact ⟨(cell_of_below hBa (by omega)).trans x0, (cell_of_below hBa (by omega)).trans x2, (cell_of_below hBa (by omega)).trans x3⟩) (fun hHeld => ?_)
        clear hK K
        try simp only [Act.put, List.getElem_toArray, List.getElem_cons_succ, List.getElem_cons_zero, List.setIfInBounds_toArray, List.set_cons_zero, List.set_cons_succ]
        refine wpAnyH_ready (rs := [5]) (by kernel_rfl) (by simp) ?_
        refine AllReadyH.cons rfl (fun K hK => ?_) ?_
        · rw [if_pos (by rfl)]
          go_simp
          go_at_call 15
          refine (picked_any _ _ _ (by omega) (by omega) (by omega) (by omega)).mono ?_
          rintro e w' ⟨rfl, rfl⟩
          rw [HT.out]
          show K _ _
          refine hK.out _ _ (by exact hHeld) (fun hHeld => ?_)
          clear hK K
          try simp only [Act.put, List.getElem_toArray, List.getElem_cons_succ, List.getElem_cons_zero, List.setIfInBounds_toArray, List.set_cons_zero, List.set_cons_succ]
          refine wpAnyH_ready (rs := [8]) (by kernel_rfl) (by simp) ?_
          refine AllReadyH.cons rfl (fun K hK => ?_) ?_
          · rw [if_pos (by rfl)]
            go_simp
            go_at_call 15
            refine (picked_any _ _ _ (by omega) (by omega) (by omega) (by omega)).mono ?_
            rintro e w' ⟨rfl, rfl⟩
            rw [HK.out]
            show K _ _
            refine hK.out _ _ (by exact hHeld) (fun hHeld => ?_)
            clear hK K
            try simp only [Act.put, List.getElem_toArray, List.getElem_cons_succ, List.getElem_cons_zero, List.setIfInBounds_toArray, List.set_cons_zero, List.set_cons_succ]
            refine wpAnyH_take (i := 9) (v := .int .i64 (1 + k)) rfl (by kernel_rfl) (by kernel_rfl) (by kernel_rfl) (fun _ _ _ h => h) (Or.inl ⟨by rfl, fun w hSw => ?_⟩) hHeld ?_
            · (try dsimp only at hSw); go_split_ands; go_simp; all_goals (try rfl)
            try simp only [Act.put, List.getElem_toArray, List.getElem_cons_succ, List.getElem_cons_zero, List.setIfInBounds_toArray, List.set_cons_zero, List.set_cons_succ]
            refine wpAnyH_take (i := 10) (v := .agg (msgCells ⟨f, t, 1 + k, bat0, hdr0, slt0, crt0, 0⟩ mv0).toArray) rfl (by kernel_rfl) (by kernel_rfl) (by kernel_rfl) (fun _ _ _ h => h) (Or.inl ⟨by rfl, fun w hSw => ?_⟩) hHeld ?_
            · (try dsimp only at hSw); go_split_ands; go_simp; all_goals (try rfl)
            try simp only [Act.put, List.getElem_toArray, List.getElem_cons_succ, List.getElem_cons_zero, List.setIfInBounds_toArray, List.set_cons_zero, List.set_cons_succ]
            refine wpAnyH_ready (rs := [12]) (by kernel_rfl) (by simp) ?_
            refine AllReadyH.cons rfl (fun K hK => ?_) ?_
            · rw [if_pos (by rfl)]
              refine wp_store_newD 42 _ _ (by rfl) (msgCells ⟨f, t, 1 + k, bat0, hdr0, slt0, crt0, 0⟩ mv0) 42 zeroMsg (by rfl) (by rfl) (by kernel_rfl) rfl rfl ?_
              intro w2 hb2 hB2 hs2
              refine hK.out _ _ (by exact ⟨((bcellAt hB2 _ hx0).1 0).trans x0, ((bcellAt hB2 _ hx0).1 2).trans x2, ((bcellAt hB2 _ hx0).1 3).trans x3⟩) (fun hHeld => ?_)
              clear hK K
              try simp only [Act.put, List.getElem_toArray, List.getElem_cons_succ, List.getElem_cons_zero, List.setIfInBounds_toArray, List.set_cons_zero, List.set_cons_succ]
              refine wpAnyH_done (by kernel_rfl) ?_ _
              go_wp2_with fail
              go_meet
              exact ⟨w1.heap.size, rfl, hz1, hb2, HBR.out.belowS hB2, HBZ.out.belowS hB2, HB1.out.trans (hB2.mono HB1.out.size)⟩
            exact AllReadyH.nil
          exact AllReadyH.nil
        exact AllReadyH.nil
      exact AllReadyH.nil
    refine AllReadyH.cons rfl (fun K hK => ?_) ?_
    · rw [if_pos (by rfl)]
      go_simp
      refine hK.out _ _ (by exact ⟨(cell_of_below hBa (by omega)).trans x0, (cell_of_below hBa (by omega)).trans x2, (cell_of_below hBa (by omega)).trans x3⟩) (fun hHeld => ?_)
      clear hK K
      try simp only [Act.put, List.getElem_toArray, List.getElem_cons_succ, List.getElem_cons_zero, List.setIfInBounds_toArray, List.set_cons_zero, List.set_cons_succ]
      refine wpAnyH_ready (rs := [2]) (by kernel_rfl) (by simp) ?_
      refine AllReadyH.cons rfl (fun K hK => ?_) ?_
      · rw [if_pos (by rfl)]
        go_simp
        go_at_call 15
        refine (picked_any _ _ _ (by omega) (by omega) (by omega) (by omega)).mono ?_
        rintro e w' ⟨rfl, rfl⟩
        rw [HF.out]
        show K _ _
        refine hK.out _ _ (by exact hHeld) (fun hHeld => ?_)
        clear hK K
        try simp only [Act.put, List.getElem_toArray, List.getElem_cons_succ, List.getElem_cons_zero, List.setIfInBounds_toArray, List.set_cons_zero, List.set_cons_succ]
        refine wpAnyH_ready (rs := [5]) (by kernel_rfl) (by simp) ?_
        refine AllReadyH.cons rfl (fun K hK => ?_) ?_
        · rw [if_pos (by rfl)]
          go_simp
          go_at_call 15
          refine (picked_any _ _ _ (by omega) (by omega) (by omega) (by omega)).mono ?_
          rintro e w' ⟨rfl, rfl⟩
          rw [HT.out]
          show K _ _
          refine hK.out _ _ (by exact hHeld) (fun hHeld => ?_)
          clear hK K
          try simp only [Act.put, List.getElem_toArray, List.getElem_cons_succ, List.getElem_cons_zero, List.setIfInBounds_toArray, List.set_cons_zero, List.set_cons_succ]
          refine wpAnyH_ready (rs := [8]) (by kernel_rfl) (by simp) ?_
          refine AllReadyH.cons rfl (fun K hK => ?_) ?_
          · rw [if_pos (by rfl)]
            go_simp
            go_at_call 15
            refine (picked_any _ _ _ (by omega) (by omega) (by omega) (by omega)).mono ?_
            rintro e w' ⟨rfl, rfl⟩
            rw [HK.out]
            show K _ _
            refine hK.out _ _ (by exact hHeld) (fun hHeld => ?_)
            clear hK K
            try simp only [Act.put, List.getElem_toArray, List.getElem_cons_succ, List.getElem_cons_zero, List.setIfInBounds_toArray, List.set_cons_zero, List.set_cons_succ]
            refine wpAnyH_take (i := 9) (v := .int .i64 (1 + k)) rfl (by kernel_rfl) (by kernel_rfl) (by kernel_rfl) (fun _ _ _ h => h) (Or.inl ⟨by rfl, fun w hSw => ?_⟩) hHeld ?_
            · (try dsimp only at hSw); go_split_ands; go_simp; all_goals (try rfl)
            try simp only [Act.put, List.getElem_toArray, List.getElem_cons_succ, List.getElem_cons_zero, List.setIfInBounds_toArray, List.set_cons_zero, List.set_cons_succ]
            refine wpAnyH_take (i := 10) (v := .agg (msgCells ⟨f, t, 1 + k, bat0, hdr0, slt0, crt0, 0⟩ mv0).toArray) rfl (by kernel_rfl) (by kernel_rfl) (by kernel_rfl) (fun _ _ _ h => h) (Or.inl ⟨by rfl, fun w hSw => ?_⟩) hHeld ?_
            · (try dsimp only at hSw); go_split_ands; go_simp; all_goals (try rfl)
            try simp only [Act.put, List.getElem_toArray, List.getElem_cons_succ, List.getElem_cons_zero, List.setIfInBounds_toArray, List.set_cons_zero, List.set_cons_succ]
            refine wpAnyH_ready (rs := [12]) (by kernel_rfl) (by simp) ?_
            refine AllReadyH.cons rfl (fun K hK => ?_) ?_
            · rw [if_pos (by rfl)]
              refine wp_store_newD 42 _ _ (by rfl) (msgCells ⟨f, t, 1 + k, bat0, hdr0, slt0, crt0, 0⟩ mv0) 42 zeroMsg (by rfl) (by rfl) (by kernel_rfl) rfl rfl ?_
              intro w2 hb2 hB2 hs2
              refine hK.out _ _ (by exact ⟨((bcellAt hB2 _ hx0).1 0).trans x0, ((bcellAt hB2 _ hx0).1 2).trans x2, ((bcellAt hB2 _ hx0).1 3).trans x3⟩) (fun hHeld => ?_)
              clear hK K
              try simp only [Act.put, List.getElem_toArray, List.getElem_cons_succ, List.getElem_cons_zero, List.setIfInBounds_toArray, List.set_cons_zero, List.set_cons_succ]
              refine wpAnyH_done (by kernel_rfl) ?_ _
              go_wp2_with fail
              go_meet
              exact ⟨w1.heap.size, rfl, hz1, hb2, HBR.out.belowS hB2, HBZ.out.belowS hB2, HB1.out.trans (hB2.mono HB1.out.size)⟩
            exact AllReadyH.nil
          exact AllReadyH.nil
        exact AllReadyH.nil
      exact AllReadyH.nil
    exact AllReadyH.nil
  case rest =>
    clear x0 x2 x3 hBa HB1 HBR HBZ hn1 hz1 hx hx0
    obtain ⟨X, rfl, hX, bX, bR, bZ, hB⟩ := hcut
    generalize hkk : 1 + k = kk at *
    have hk : kk = 1 ∨ kk = 2 ∨ kk = 3 ∨ kk = 4 ∨ kk = 5 := by omega
    clear hkk l1 HK
    generalize wc = w2 at *
    have HBX := Lib.hid bX
    have HBR2 := Lib.hid bR
    have HBZ2 := Lib.hid bZ
    have HB2 := Lib.hid hB
    have q2 : w2.cell? ⟨X, 2, none⟩ = some (.int .i64 kk) := bX.cell 2 rfl
    have r0 := bR.cell 0 rfl
    have r1 := bR.cell 1 rfl
    have r2 := bR.cell 2 rfl
    have r3 := bR.cell 3 rfl
    have r4 := bR.cell 4 rfl
    have zX2 := bX.lt
    have zB2 := hB.size
    clear bX bR bZ hB
    obtain rfl | rfl | rfl | rfl | rfl := hk
    · have HM := Lib.hid (show msgOf K A B C l = ⟨f, t, 1, batOf A B l, hdr0, slt0, crt0, 0⟩ by rw [HMO.out]; rfl)
      go_wp2_with fail
      refine (batch_any _ _ _ _ _ l _ a1 a2 b1 b2 (HV.out.below HB2.out (fun _ h => h)) HL.out).mono ?_
      rintro e w7 ⟨ad7, cap7, rfl, hv7, hb7⟩
      generalize hbb : batOf A B l = bb at *
      clear hbb
      have bX7 := HBX.out.belowS hb7
      have bZ7 := HBZ2.out.belowS hb7
      have c3 : w7.cell? ⟨X, 3, none⟩ = some _ := bX7.cell 3 rfl
      have g3 := bX7.free 3
      have c4 : w7.cell? ⟨X, 4, none⟩ = some _ := bX7.cell 4 rfl
      have g4 := bX7.free 4
      have c5 : w7.cell? ⟨X, 5, none⟩ = some _ := bX7.cell 5 rfl
      have g5 := bX7.free 5
      have HBX7 := Lib.hid ((((bX7.set 3 (.int .i64 bb.a)).set 4 (.int .i64 bb.n)).set 5 (.slice ad7 bb.txs.length cap7)))
      have HBZ7 := Lib.hid ((((bZ7.setOther (p := ⟨X, 3, none⟩) (by simp; omega) (.int .i64 bb.a)).setOther (p := ⟨X, 4, none⟩) (by simp; omega) (.int .i64 bb.n)).setOther (p := ⟨X, 5, none⟩) (by simp; omega) (.slice ad7 bb.txs.length cap7)))
      have HB7 := Lib.hid (((((HB2.out.trans (hb7.mono HB2.out.size)).setCell (p := ⟨X, 3, none⟩) (by simp; omega) (.int .i64 bb.a)).setCell (p := ⟨X, 4, none⟩) (by simp; omega) (.int .i64 bb.n)).setCell (p := ⟨X, 5, none⟩) (by simp; omega) (.slice ad7 bb.txs.length cap7)))
      have HV7 := Lib.hid (hv7.keep (Keep.setCell' (Keep.setCell' (Keep.setCell (p := ⟨X, 3, none⟩) (by simp; omega) (.int .i64 bb.a)) (p := ⟨X, 4, none⟩) (by simp; omega) (.int .i64 bb.n)) (p := ⟨X, 5, none⟩) (by simp; omega) (.slice ad7 bb.txs.length cap7)) (G' := fun b => X < b) (fun b hb => by omega))
      have z7 := hb7.size
      clear bX7 bZ7 hv7 hb7
      go_wp2_with (first
        | (refine wpList_load_box rfl 42 _ rfl X rfl (msgCells ⟨f, t, 1, bb, hdr0, slt0, crt0, 0⟩ { mv0 with tx := .slice ad7 bb.txs.length cap7 }) 42 HBX7.out Try.underlying42 rfl (by kernel_rfl) ?_)
        | (refine wpList_store_boxG rfl 42 _ _ rfl (w.heap.size + 1) (msgCells ⟨f, t, 1, bb, hdr0, slt0, crt0, 0⟩ { mv0 with tx := .slice ad7 bb.txs.length cap7 }) rfl rfl 42 zeroMsg HBZ7.out (by kernel_rfl) rfl rfl ?_; intro w9 hb9 hB9 hg9))
      exact bodyPost_ret (results_cell_row Try.results19 _ w9 (w.heap.size + 1) 42 (msgCells ⟨f, t, 1, bb, hdr0, slt0, crt0, 0⟩ { mv0 with tx := .slice ad7 bb.txs.length cap7 }).toArray _ _ rfl hb9 Try.underlying42 rfl (by kernel_rfl)) rfl ⟨{ mv0 with tx := .slice ad7 bb.txs.length cap7 }, by rw [HM.out], by rw [HM.out]; exact rdM_bundle _ _ _ (HV7.out.keep (Keep.grown hg9 (fun k e => by simp only [Option.some.injEq] at e; omega)) (fun b hb => by omega)), HB7.out.trans (hB9.mono (by omega))⟩
    · have HM := Lib.hid (show msgOf K A B C l = ⟨f, t, 2, bat0, hdrOf A B C, slt0, crt0, 0⟩ by rw [HMO.out]; rfl)
      go_wp2_with fail
      refine (header_any _ _ _ _ _ _ a1 a2 b1 b2 c1 c2 hvt).mono ?_
      rintro e w7 ⟨adb, capb, adp, capp, rfl, hvb, hvp, hb7⟩
      generalize hhh : hdrOf A B C = hh at *
      clear hhh
      have bX7 := HBX.out.belowS hb7
      have bZ7 := HBZ2.out.belowS hb7
      have c6 : w7.cell? ⟨X, 6, none⟩ = some _ := bX7.cell 6 rfl
      have g6 := bX7.free 6
      have c7 : w7.cell? ⟨X, 7, none⟩ = some _ := bX7.cell 7 rfl
      have g7 := bX7.free 7
      have c8 : w7.cell? ⟨X, 8, none⟩ = some _ := bX7.cell 8 rfl
      have g8 := bX7.free 8
      have c9 : w7.cell? ⟨X, 9, none⟩ = some _ := bX7.cell 9 rfl
      have g9 := bX7.free 9
      have HBX7 := Lib.hid (((((bX7.set 6 (.int .i64 hh.a)).set 7 (.int .i64 hh.r)).set 8 (.slice adb hh.bs.length capb)).set 9 (.slice adp hh.ps.length capp)))
      have HBZ7 := Lib.hid (((((bZ7.setOther (p := ⟨X, 6, none⟩) (by simp; omega) (.int .i64 hh.a)).setOther (p := ⟨X, 7, none⟩) (by simp; omega) (.int .i64 hh.r)).setOther (p := ⟨X, 8, none⟩) (by simp; omega) (.slice adb hh.bs.length capb)).setOther (p := ⟨X, 9, none⟩) (by simp; omega) (.slice adp hh.ps.length capp)))
      have HB7 := Lib.hid ((((((HB2.out.trans (hb7.mono HB2.out.size)).setCell (p := ⟨X, 6, none⟩) (by simp; omega) (.int .i64 hh.a)).setCell (p := ⟨X, 7, none⟩) (by simp; omega) (.int .i64 hh.r)).setCell (p := ⟨X, 8, none⟩) (by simp; omega) (.slice adb hh.bs.length capb)).setCell (p := ⟨X, 9, none⟩) (by simp; omega) (.slice adp hh.ps.length capp)))
      have HVB := Lib.hid (hvb.keep (Keep.setCell' (Keep.setCell' (Keep.setCell' (Keep.setCell (p := ⟨X, 6, none⟩) (by simp; omega) (.int .i64 hh.a)) (p := ⟨X, 7, none⟩) (by simp; omega) (.int .i64 hh.r)) (p := ⟨X, 8, none⟩) (by simp; omega) (.slice adb hh.bs.length capb)) (p := ⟨X, 9, none⟩) (by simp; omega) (.slice adp hh.ps.length capp)) (G' := fun b => X < b) (fun b hb => by omega))
      have HVP := Lib.hid (hvp.keep (Keep.setCell' (Keep.setCell' (Keep.setCell' (Keep.setCell (p := ⟨X, 6, none⟩) (by simp; omega) (.int .i64 hh.a)) (p := ⟨X, 7, none⟩) (by simp; omega) (.int .i64 hh.r)) (p := ⟨X, 8, none⟩) (by simp; omega) (.slice adb hh.bs.length capb)) (p := ⟨X, 9, none⟩) (by simp; omega) (.slice adp hh.ps.length capp)) (G' := fun b => X < b) (fun b hb => by omega))
      have z7 := hb7.size
      clear bX7 bZ7 hvb hvp hb7
      go_wp2_with (first
        | (refine wpList_load_box rfl 42 _ rfl X rfl (msgCells ⟨f, t, 2, bat0, hh, slt0, crt0, 0⟩ { mv0 with bs := .slice adb hh.bs.length capb, ps := .slice adp hh.ps.length capp }) 42 HBX7.out Try.underlying42 rfl (by kernel_rfl) ?_)
        | (refine wpList_store_boxG rfl 42 _ _ rfl (w.heap.size + 1) (msgCells ⟨f, t, 2, bat0, hh, slt0, crt0, 0⟩ { mv0 with bs := .slice adb hh.bs.length capb, ps := .slice adp hh.ps.length capp }) rfl rfl 42 zeroMsg HBZ7.out (by kernel_rfl) rfl rfl ?_; intro w9 hb9 hB9 hg9))
      exact bodyPost_ret (results_cell_row Try.results19 _ w9 (w.heap.size + 1) 42 (msgCells ⟨f, t, 2, bat0, hh, slt0, crt0, 0⟩ { mv0 with bs := .slice adb hh.bs.length capb, ps := .slice adp hh.ps.length capp }).toArray _ _ rfl hb9 Try.underlying42 rfl (by kernel_rfl)) rfl ⟨{ mv0 with bs := .slice adb hh.bs.length capb, ps := .slice adp hh.ps.length capp }, by rw [HM.out], by rw [HM.out]; exact rdM_offer _ _ _ (HVB.out.keep (Keep.grown hg9 (fun k e => by simp only [Option.some.injEq] at e; omega)) (fun b hb => by omega)) (HVP.out.keep (Keep.grown hg9 (fun k e => by simp only [Option.some.injEq] at e; omega)) (fun b hb => by omega)), HB7.out.trans (hB9.mono (by omega))⟩
    · have HM := Lib.hid (show msgOf K A B C l = ⟨f, t, 3, bat0, hdr0, ⟨pickedZ A 4, 1 + pickedZ B 9, someL C A⟩, crt0, 0⟩ by rw [HMO.out]; rfl)
      obtain ⟨pr0, pr1⟩ := pickedZ_range B 9 (by omega)
      obtain ⟨pa0, pa1⟩ := pickedZ_range A 4 (by omega)
      generalize hrr : pickedZ B 9 = rr at *
      generalize haa : pickedZ A 4 = a at *
      have HRR := Lib.hid hrr
      have HAA := Lib.hid haa
      have l2 : IntKind.i64.wrap (1 + rr) = 1 + rr := IntWalk.i64_in _ (by omega)
      clear hrr haa
      have bXf := HBX.out.free
      have e10 : w2.cell? ⟨X, 10, none⟩ = some (.int .i64 0) := HBX.out.cell 10 rfl
      have e11 : w2.cell? ⟨X, 11, none⟩ = some (.int .i64 0) := HBX.out.cell 11 rfl
      have e12 : w2.cell? ⟨X, 12, none⟩ = some (.slice none 0 0) := HBX.out.cell 12 rfl
      have f10 := HBX.out.free 10
      have f11 := HBX.out.free 11
      have f12 := HBX.out.free 12
      clear bXf
      go_upto_region 8 with fail
      go_region_held3 (fun w' => w'.cell? ⟨w.heap.size, 1, none⟩ = some (.int .i64 A) ∧ w'.cell? ⟨w.heap.size, 2, none⟩ = some (.int .i64 B) ∧ w'.cell? ⟨w.heap.size, 3, none⟩ = some (.int .i64 C)) (first | go_keep | exact ⟨y1, y2, y3⟩ | exact ⟨z1', z2', z3'⟩)
        (first
          | (go_at_call 15; refine (picked_any _ _ _ (by omega) (by omega) (by omega) (by omega)).mono ?_; rintro e w' ⟨rfl, rfl⟩; (first | rw [HAA.out] | rw [HRR.out]))
          | (go_at_call 16; refine (some_any _ _ _ c1 c2).mono ?_; rintro e w7 ⟨rfl, hbox, hb7⟩; have hb7' : Below w2.heap.size w2 w7 := ((Below.refl _ _).drew).trans hb7; have y1 := ((bcellAt hb7' _ HBR2.out.lt).1 1).trans r1; have y2 := ((bcellAt hb7' _ HBR2.out.lt).1 2).trans r2; have y3 := ((bcellAt hb7' _ HBR2.out.lt).1 3).trans r3; have hx7 := HBX.out.lt; have c10 := ((bcellAt hb7' _ hx7).1 10).trans e10; have c11 := ((bcellAt hb7' _ hx7).1 11).trans e11; have c12 := ((bcellAt hb7' _ hx7).1 12).trans e12; have g10 := ((bcellAt hb7' _ hx7).2 10).trans f10; have g11 := ((bcellAt hb7' _ hx7).2 11).trans f11; have g12 := ((bcellAt hb7' _ hx7).2 12).trans f12; have nXR : X ≠ w.heap.size := (by omega)))
      all_goals
        have bX7 := HBX.out.belowS hb7'
        have bZ7 := HBZ2.out.belowS hb7'
        have HBX7 := Lib.hid ((((bX7.set 10 (.int .i64 a)).set 11 (.int .i64 (1 + rr))).set 12 (.slice (some ⟨w2.heap.size, 0, none⟩) 32 32)))
        have HBZ7 := Lib.hid ((((bZ7.setOther (p := ⟨X, 10, none⟩) (by simp; omega) (.int .i64 a)).setOther (p := ⟨X, 11, none⟩) (by simp; omega) (.int .i64 (1 + rr))).setOther (p := ⟨X, 12, none⟩) (by simp; omega) (.slice (some ⟨w2.heap.size, 0, none⟩) 32 32)))
        have HB7 := Lib.hid (((((HB2.out.trans (hb7'.mono HB2.out.size)).setCell (p := ⟨X, 10, none⟩) (by simp; omega) (.int .i64 a)).setCell (p := ⟨X, 11, none⟩) (by simp; omega) (.int .i64 (1 + rr))).setCell (p := ⟨X, 12, none⟩) (by simp; omega) (.slice (some ⟨w2.heap.size, 0, none⟩) 32 32)))
        have HVD : Hid (RdB (fun b => X < b) _ (.slice (some ⟨w2.heap.size, 0, none⟩) 32 32) (someL C A)) := Lib.hid ((RdS.of_box (f := fun c : UInt8 => Value.int .u8 c.toNat) (G := fun b => X < b) (l := someL C A) (cap := 32) hbox (by exact zX2) (by rw [someL_length]; omega) (by unfold maxLen; omega)).keep (Keep.setCell' (Keep.setCell' (Keep.setCell (p := ⟨X, 10, none⟩) (by simp) (.int .i64 a)) (p := ⟨X, 11, none⟩) (by simp) (.int .i64 (1 + rr))) (p := ⟨X, 12, none⟩) (by simp) (.slice (some ⟨w2.heap.size, 0, none⟩) 32 32)) (fun _ h => h))
        have z7 := hb7'.size
        clear bX7 bZ7 hb7 hb7' hbox y1 y2 y3 c10 c11 c12 g10 g11 g12
        go_wp2_with (first
          | (refine wpList_load_box rfl 42 _ rfl X rfl (msgCells ⟨f, t, 3, bat0, hdr0, ⟨a, 1 + rr, someL C A⟩, crt0, 0⟩ { mv0 with d := .slice (some ⟨w2.heap.size, 0, none⟩) 32 32 }) 42 HBX7.out Try.underlying42 rfl (by kernel_rfl) ?_)
          | (refine wpList_store_boxG rfl 42 _ _ rfl (w.heap.size + 1) (msgCells ⟨f, t, 3, bat0, hdr0, ⟨a, 1 + rr, someL C A⟩, crt0, 0⟩ { mv0 with d := .slice (some ⟨w2.heap.size, 0, none⟩) 32 32 }) rfl rfl 42 zeroMsg HBZ7.out (by kernel_rfl) rfl rfl ?_; intro w9 hb9 hB9 hg9))
        exact bodyPost_ret (results_cell_row Try.results19 _ w9 (w.heap.size + 1) 42 (msgCells ⟨f, t, 3, bat0, hdr0, ⟨a, 1 + rr, someL C A⟩, crt0, 0⟩ { mv0 with d := .slice (some ⟨w2.heap.size, 0, none⟩) 32 32 }).toArray _ _ rfl hb9 Try.underlying42 rfl (by kernel_rfl)) rfl ⟨{ mv0 with d := .slice (some ⟨w2.heap.size, 0, none⟩) 32 32 }, by rw [HM.out], by rw [HM.out]; exact rdM_vote (b := ⟨a, 1 + rr, someL C A⟩) _ _ _ (HVD.out.keep (Keep.grown hg9 (fun k e => by simp only [Option.some.injEq] at e; omega)) (fun b hb => by omega)), HB7.out.trans (hB9.mono (by omega))⟩
    · have HM := Lib.hid (show msgOf K A B C l = ⟨f, t, 4, bat0, hdr0, slt0, ⟨hdrOf A B C, votersL C⟩, 0⟩ by rw [HMO.out]; rfl)
      obtain ⟨hh, hhh⟩ : ∃ hh, hh = hdrOf A B C := ⟨_, rfl⟩
      have HHH := Lib.hid hhh
      clear hhh
      go_upto_region 10 with fail
      have zX := HBX.out.lt
      replace HBX := Lib.hid (HBX.out.drew)
      replace HBR2 := Lib.hid (HBR2.out.drew)
      replace HBZ2 := Lib.hid (HBZ2.out.drew)
      replace HB2 := Lib.hid (HB2.out.drew)
      go_region_held3 (fun w' => w'.cell? ⟨w.heap.size, 0, none⟩ = some (.int .i64 K) ∧ w'.cell? ⟨w.heap.size, 1, none⟩ = some (.int .i64 A) ∧ w'.cell? ⟨w.heap.size, 2, none⟩ = some (.int .i64 B) ∧ w'.cell? ⟨w.heap.size, 3, none⟩ = some (.int .i64 C) ∧ w'.cell? ⟨w.heap.size, 4, none⟩ = some (vt)) (first | go_keep | exact ⟨y0, y1, y2, y3, y4⟩)
        (first
          | (go_at_call 23; refine (header_any _ _ _ _ _ _ a1 a2 b1 b2 c1 c2 hvt).mono ?_; rintro e w7 ⟨adb, capb, adp, capp, rfl, hvb, hvp, hb⟩; rw [← HHH.out] at hvb hvp ⊢; have HVB := Lib.hid (hvb.mono (G' := fun b => X < b) (fun b hb => Nat.lt_of_lt_of_le zX hb)); have HVP := Lib.hid (hvp.mono (G' := fun b => X < b) (fun b hb => Nat.lt_of_lt_of_le zX hb)); clear hvb hvp; (try replace HVS := Lib.hid (HVS.out.below hb (fun _ h => h))); replace HBX := Lib.hid (HBX.out.belowS hb); replace HBR2 := Lib.hid (HBR2.out.belowS hb); replace HBZ2 := Lib.hid (HBZ2.out.belowS hb); replace HB2 := Lib.hid (HB2.out.trans (hb.mono HB2.out.size)); have zX := HBX.out.lt; have bR := HBR2.out; have y0 := bR.cell 0 rfl; have y1 := bR.cell 1 rfl; have y2 := bR.cell 2 rfl; have y3 := bR.cell 3 rfl; have y4 := bR.cell 4 rfl; clear bR; have nXR : X ≠ w.heap.size := (by omega); have c13 := HBX.out.cell 13 rfl; have g13 := HBX.out.free 13; have c14 := HBX.out.cell 14 rfl; have g14 := HBX.out.free 14; have c15 := HBX.out.cell 15 rfl; have g15 := HBX.out.free 15; have c16 := HBX.out.cell 16 rfl; have g16 := HBX.out.free 16; have c17 := HBX.out.cell 17 rfl; have g17 := HBX.out.free 17; clear hb)
          | (go_at_call 24; refine (voters_any _ _ c1 c2).mono ?_; rintro e w8 ⟨vv, rfl, hown, hb⟩; obtain ⟨ad8, cap8, rfl⟩ := ownsRow_form hown; have HVS := Lib.hid (RdS.of_owns (f := Value.int .i64) (G := fun b => X < b) hown (fun b hb => Nat.lt_of_lt_of_le zX hb)); clear hown; (try replace HVB := Lib.hid (HVB.out.below hb (fun _ h => h))); (try replace HVP := Lib.hid (HVP.out.below hb (fun _ h => h))); replace HBX := Lib.hid (HBX.out.belowS hb); replace HBR2 := Lib.hid (HBR2.out.belowS hb); replace HBZ2 := Lib.hid (HBZ2.out.belowS hb); replace HB2 := Lib.hid (HB2.out.trans (hb.mono HB2.out.size)); have zX := HBX.out.lt; have bR := HBR2.out; have y0 := bR.cell 0 rfl; have y1 := bR.cell 1 rfl; have y2 := bR.cell 2 rfl; have y3 := bR.cell 3 rfl; have y4 := bR.cell 4 rfl; clear bR; have nXR : X ≠ w.heap.size := (by omega); have c13 := HBX.out.cell 13 rfl; have g13 := HBX.out.free 13; have c14 := HBX.out.cell 14 rfl; have g14 := HBX.out.free 14; have c15 := HBX.out.cell 15 rfl; have g15 := HBX.out.free 15; have c16 := HBX.out.cell 16 rfl; have g16 := HBX.out.free 16; have c17 := HBX.out.cell 17 rfl; have g17 := HBX.out.free 17; clear hb))
      all_goals
        have HBX7 := Lib.hid ((((((HBX.out.set 13 (.int .i64 hh.a)).set 14 (.int .i64 hh.r)).set 15 (.slice adb hh.bs.length capb)).set 16 (.slice adp hh.ps.length capp)).set 17 (.slice ad8 (votersL C).length cap8)))
        have HBZ7 := Lib.hid ((((((HBZ2.out.setOther (p := ⟨X, 13, none⟩) (by simp; omega) (.int .i64 hh.a)).setOther (p := ⟨X, 14, none⟩) (by simp; omega) (.int .i64 hh.r)).setOther (p := ⟨X, 15, none⟩) (by simp; omega) (.slice adb hh.bs.length capb)).setOther (p := ⟨X, 16, none⟩) (by simp; omega) (.slice adp hh.ps.length capp)).setOther (p := ⟨X, 17, none⟩) (by simp; omega) (.slice ad8 (votersL C).length cap8)))
        have HB7 := Lib.hid ((((((HB2.out.setCell (p := ⟨X, 13, none⟩) (by simp; omega) (.int .i64 hh.a)).setCell (p := ⟨X, 14, none⟩) (by simp; omega) (.int .i64 hh.r)).setCell (p := ⟨X, 15, none⟩) (by simp; omega) (.slice adb hh.bs.length capb)).setCell (p := ⟨X, 16, none⟩) (by simp; omega) (.slice adp hh.ps.length capp)).setCell (p := ⟨X, 17, none⟩) (by simp; omega) (.slice ad8 (votersL C).length cap8)))
        replace HVB := Lib.hid (HVB.out.keep (Keep.setCell' (Keep.setCell' (Keep.setCell' (Keep.setCell' (Keep.setCell (p := ⟨X, 13, none⟩) (by simp) (.int .i64 hh.a)) (p := ⟨X, 14, none⟩) (by simp) (.int .i64 hh.r)) (p := ⟨X, 15, none⟩) (by simp) (.slice adb hh.bs.length capb)) (p := ⟨X, 16, none⟩) (by simp) (.slice adp hh.ps.length capp)) (p := ⟨X, 17, none⟩) (by simp) (.slice ad8 (votersL C).length cap8)) (G' := fun b => X < b) (fun _ h => h))
        replace HVP := Lib.hid (HVP.out.keep (Keep.setCell' (Keep.setCell' (Keep.setCell' (Keep.setCell' (Keep.setCell (p := ⟨X, 13, none⟩) (by simp) (.int .i64 hh.a)) (p := ⟨X, 14, none⟩) (by simp) (.int .i64 hh.r)) (p := ⟨X, 15, none⟩) (by simp) (.slice adb hh.bs.length capb)) (p := ⟨X, 16, none⟩) (by simp) (.slice adp hh.ps.length capp)) (p := ⟨X, 17, none⟩) (by simp) (.slice ad8 (votersL C).length cap8)) (G' := fun b => X < b) (fun _ h => h))
        replace HVS := Lib.hid (HVS.out.keep (Keep.setCell' (Keep.setCell' (Keep.setCell' (Keep.setCell' (Keep.setCell (p := ⟨X, 13, none⟩) (by simp) (.int .i64 hh.a)) (p := ⟨X, 14, none⟩) (by simp) (.int .i64 hh.r)) (p := ⟨X, 15, none⟩) (by simp) (.slice adb hh.bs.length capb)) (p := ⟨X, 16, none⟩) (by simp) (.slice adp hh.ps.length capp)) (p := ⟨X, 17, none⟩) (by simp) (.slice ad8 (votersL C).length cap8)) (G' := fun b => X < b) (fun _ h => h))
        clear HBX HBZ2 HBR2 HB2 y0 y1 y2 y3 y4
        go_wp2_with (first
          | (refine wpList_load_box rfl 42 _ rfl X rfl (msgCells ⟨f, t, 4, bat0, hdr0, slt0, ⟨hh, votersL C⟩, 0⟩ { mv0 with cbs := .slice adb hh.bs.length capb, cps := .slice adp hh.ps.length capp, vs := .slice ad8 (votersL C).length cap8 }) 42 HBX7.out Try.underlying42 rfl (by kernel_rfl) ?_)
          | (refine wpList_store_boxG rfl 42 _ _ rfl (w.heap.size + 1) (msgCells ⟨f, t, 4, bat0, hdr0, slt0, ⟨hh, votersL C⟩, 0⟩ { mv0 with cbs := .slice adb hh.bs.length capb, cps := .slice adp hh.ps.length capp, vs := .slice ad8 (votersL C).length cap8 }) rfl rfl 42 zeroMsg HBZ7.out (by kernel_rfl) rfl rfl ?_; intro w9 hb9 hB9 hg9))
        exact bodyPost_ret (results_cell_row Try.results19 _ w9 (w.heap.size + 1) 42 (msgCells ⟨f, t, 4, bat0, hdr0, slt0, ⟨hh, votersL C⟩, 0⟩ { mv0 with cbs := .slice adb hh.bs.length capb, cps := .slice adp hh.ps.length capp, vs := .slice ad8 (votersL C).length cap8 }).toArray _ _ rfl hb9 Try.underlying42 rfl (by kernel_rfl)) rfl ⟨{ mv0 with cbs := .slice adb hh.bs.length capb, cps := .slice adp hh.ps.length capp, vs := .slice ad8 (votersL C).length cap8 }, by rw [HM.out, HHH.out], by rw [HM.out, ← HHH.out]; exact rdM_proof (b := ⟨hh, votersL C⟩) _ _ _ (HVB.out.keep (Keep.grown hg9 (fun k e => by simp only [Option.some.injEq] at e; omega)) (fun b hb => by omega)) (HVP.out.keep (Keep.grown hg9 (fun k e => by simp only [Option.some.injEq] at e; omega)) (fun b hb => by omega)) (HVS.out.keep (Keep.grown hg9 (fun k e => by simp only [Option.some.injEq] at e; omega)) (fun b hb => by omega)), HB7.out.trans (hB9.mono (by omega))⟩
    · have HM := Lib.hid (show msgOf K A B C l = ⟨f, t, 5, bat0, hdr0, slt0, crt0, 1 + pickedZ B 9⟩ by rw [HMO.out]; rfl)
      obtain ⟨pr0, pr1⟩ := pickedZ_range B 9 (by omega)
      generalize hrr : pickedZ B 9 = rr at *
      have HRR := Lib.hid hrr
      have l2 : IntKind.i64.wrap (1 + rr) = 1 + rr := IntWalk.i64_in _ (by omega)
      clear hrr
      obtain ⟨w7, hw7⟩ : ∃ w7, w7 = w2 := ⟨_, rfl⟩
      have hb7 : Below w2.heap.size w2 w7 := by rw [hw7]; exact Below.refl _ _
      rw [← hw7]
      have y2 := ((bcellAt hb7 _ HBR2.out.lt).1 2).trans r2
      have bX7 := HBX.out.belowS hb7
      have bZ7 := HBZ2.out.belowS hb7
      have c18 : w7.cell? ⟨X, 18, none⟩ = some _ := bX7.cell 18 rfl
      have g18 := bX7.free 18
      have HBX7 := Lib.hid ((bX7.set 18 (.int .i64 (1 + rr))))
      have HBZ7 := Lib.hid ((bZ7.setOther (p := ⟨X, 18, none⟩) (by simp; omega) (.int .i64 (1 + rr))))
      have HB7 := Lib.hid (((HB2.out.trans (hb7.mono HB2.out.size)).setCell (p := ⟨X, 18, none⟩) (by simp; omega) (.int .i64 (1 + rr))))
      have q7 : w7.cell? ⟨X, 2, none⟩ = some (.int .i64 5) := bX7.cell 2 rfl
      have z7 := hb7.size
      clear bX7 bZ7 hb7 hw7
      go_wp2_with (first
        | (go_at_call 15; refine (picked_any _ _ _ (by omega) (by omega) (by omega) (by omega)).mono ?_; rintro e w' ⟨rfl, rfl⟩; rw [HRR.out])
        | (refine wpList_load_box rfl 42 _ rfl X rfl (msgCells ⟨f, t, 5, bat0, hdr0, slt0, crt0, 1 + rr⟩ mv0) 42 HBX7.out Try.underlying42 rfl (by kernel_rfl) ?_)
        | (refine wpList_store_boxG rfl 42 _ _ rfl (w.heap.size + 1) (msgCells ⟨f, t, 5, bat0, hdr0, slt0, crt0, 1 + rr⟩ mv0) rfl rfl 42 zeroMsg HBZ7.out (by kernel_rfl) rfl rfl ?_; intro w9 hb9 hB9 hg9))
      exact bodyPost_ret (results_cell_row Try.results19 _ w9 (w.heap.size + 1) 42 (msgCells ⟨f, t, 5, bat0, hdr0, slt0, crt0, 1 + rr⟩ mv0).toArray _ _ rfl hb9 Try.underlying42 rfl (by kernel_rfl)) rfl ⟨mv0, by rw [HM.out], by rw [HM.out]; exact rdM_want _ _ _ _ _, HB7.out.trans (hB9.mono (by omega))⟩
end Go.Proofs.Ytgkmgdkmafbohaa
/- How the arguments of a law are opened: what reads as data is a list of the call's own kind. No program is named. -/
set_option linter.unusedVariables false
set_option linter.unusedSimpArgs false
namespace Go.Proofs.Ytgkmgdkmafbohaa
open Go Go.RowKit

/-- Whatever reads as data of the type T is an R. -/
def Opens {α : Type} (P : Program) (T : TypeId) (R : Rel α) : Prop :=
  ∀ (H : Type) (enc : TypeId × Value → H) (w : World) (held : Bool) (fuel : Nat) (cs : List Value) (x : DataW H × List MemPlace), DataW.trod enc P w 0 (fun _ => true) held fuel T cs = some x → ∃ a, R.rd (fun _ => True) w cs a

theorem spot_of_cell {w : World} {a : Addr} {v : Value} (h : w.cell? a = some v) : a.spot = none := by
  unfold World.cell? at h
  split at h
  · split at h
    · simp at h
    · rename_i hs; simpa using hs
  · simp at h

theorem cells_at {w : World} {base n : Nat} {a : Addr} {cs : List Value} (h : w.cells? base a n = some cs) (j : Nat) (v : Value) (hj : cs[j]? = some v) : w.cell? (a.add j) = some v := by
  obtain ⟨_, hl, hc⟩ := World.cells?_some h
  have hjl : j < cs.length := by
    rcases Nat.lt_or_ge j cs.length with h | h
    · exact h
    · simp [List.getElem?_eq_none h] at hj
  have := hc j (by omega)
  rw [this, hj]

theorem Opens.slice {α : Type} {P : Program} {t e : TypeId} {R : Rel α} (ht : P.underlying t = some (.slice e)) (hc : P.cellsOf e = R.size) (hs : 0 < R.size) (h : Opens P e R) :
    ∀ (H : Type) (enc : TypeId × Value → H) (w : World) (held : Bool) (fuel : Nat) (cs : List Value) (x : DataW H × List MemPlace), DataW.trod enc P w 0 (fun _ => true) held fuel t cs = some x →
      ∃ v l, cs = [v] ∧ RdS R (fun _ => True) w v l := by
  intro H enc w held fuel cs x hx
  rcases Go.Deep.open_slice ht hx with ⟨rfl, _⟩ | ⟨a, len, cap, m, n, D, Pl, rfl, _, hl, hm, hmm, _, hi⟩
  · exact ⟨_, [], rfl, RdS.nil _ _ _⟩
  · have hi' : ∀ i, i < len → ∃ a, ∃ cs', w.cells? 0 (Addr.add ‹Addr› (i * P.cellsOf e)) (P.cellsOf e) = some cs' ∧ R.rd (fun _ => True) w cs' a := fun i hil => by
      obtain ⟨cs', h1, h2⟩ := hi i (by simp at hmm; omega)
      obtain ⟨y, hy⟩ := h H enc w held n cs' _ h2
      exact ⟨y, cs', h1, hy⟩
    obtain ⟨f, hf⟩ : ∃ f : Fin len → α, ∀ i : Fin len, ∃ cs', w.cells? 0 (a.add (i.val * P.cellsOf e)) (P.cellsOf e) = some cs' ∧ R.rd (fun _ => True) w cs' (f i) :=
      ⟨fun i => (hi' i.val i.isLt).choose, fun i => (hi' i.val i.isLt).choose_spec⟩
    refine ⟨_, List.ofFn f, rfl, some a, cap, by simp, by simpa using hl, hm, fun h => by simp at h, fun j y hy => ?_⟩
    have hj : j < len := by
      rcases Nat.lt_or_ge j len with h | h
      · exact h
      · rw [List.getElem?_eq_none (by simpa using h)] at hy; simp at hy
    obtain ⟨cs', h1, h2⟩ := hf ⟨j, hj⟩
    have hy' : f ⟨j, hj⟩ = y := by simpa [List.getElem?_ofFn, hj] using hy
    rw [hy'] at h2
    have hlen := R.len h2
    have hcell := cells_at h1
    have hspot : a.spot = none ∨ 0 < j * P.cellsOf e := by
      rcases Nat.eq_zero_or_pos (j * P.cellsOf e) with h0 | h0
      · left
        have := hcell 0 _ (List.getElem?_eq_getElem (by omega))
        have := spot_of_cell this
        simpa [Addr.add, h0] using this
      · exact Or.inr h0
    have hspot0 : a.spot = none := by
      have hz : 0 < len := by omega
      obtain ⟨c0, k1, k2⟩ := hf ⟨0, hz⟩
      have := cells_at k1 0 _ (List.getElem?_eq_getElem (by have := R.len k2; omega))
      have := spot_of_cell this
      simpa [Addr.add] using this
    obtain ⟨b, o, sp⟩ := a
    simp only at hspot0
    subst hspot0
    refine ⟨b, o, cs', rfl, trivial, fun t c hct => ?_, h2⟩
    have := hcell t c hct
    rw [Go.Deep.add_add] at this
    rw [← hc]
    unfold Addr.add at this
    split at this
    · rename_i hz; rw [hz]; simpa using this
    · exact this

/-- A text, no longer than a text may be. -/
def RTextB : Rel (List UInt8) where
  size := 1
  rd := fun _ _ cs x => cs = [strV x] ∧ x.length ≤ 9223372036854775807
  len := fun h => by simp [h.1]
  keep := fun h _ _ => h
  low := fun h => h
theorem opens_text {P : Program} {T : TypeId} (h : P.underlying T = some .string) : Opens P T RTextB := by
  intro H enc w held fuel cs x hx
  obtain ⟨s, rfl, _, hs⟩ := DataW.trod_string h hx
  refine ⟨s.data.toList, rfl, ?_⟩
  have : s.size ≤ maxLen := hs
  unfold maxLen at this
  have e : s.size = s.data.toList.length := rfl
  omega
/-- An int, within its bounds. -/
def RIntB : Rel Int where
  size := 1
  rd := fun _ _ cs x => cs = [.int .i64 x] ∧ -9223372036854775808 ≤ x ∧ x ≤ 9223372036854775807
  len := fun h => by simp [h.1]
  keep := fun h _ _ => h
  low := fun h => h
theorem wf_i64 {x : Int} (h : (Lit.int .i64 x).wf = true) : -9223372036854775808 ≤ x ∧ x ≤ 9223372036854775807 := by
  exact bounds_i64 h
theorem opens_int {P : Program} {T : TypeId} (h : P.underlying T = some (.int .i64)) : Opens P T RIntB := by
  intro H enc w held fuel cs x hx
  obtain ⟨a, e0, rfl, wa⟩ := DataW.trod_int h hx
  exact ⟨a, e0, wf_i64 wa⟩
def RByteB : Rel UInt8 := RByte
theorem opens_byte {P : Program} {T : TypeId} (h : P.underlying T = some (.int .u8)) : Opens P T RByte := by
  intro H enc w held fuel cs x hx
  obtain ⟨a, e0, rfl, wa⟩ := DataW.trod_int h hx
  have := bounds_u8 wa
  subst e0
  refine ⟨UInt8.ofNat a.toNat, ?_⟩
  show [Value.int .u8 a] = [Value.int .u8 ((UInt8.ofNat a.toNat).toNat : Int)]
  have : ((UInt8.ofNat a.toNat).toNat : Int) = a := by
    rw [UInt8.toNat_ofNat']; omega
  rw [this]

/-- From one relation of elements to a weaker one, and a fact on each element. -/
theorem RdS.weaken {α : Type} {R R' : Rel α} {p : α → Prop} {G : Nat → Prop} {w : World} {v : Value} {l : List α} (hs : R.size = R'.size) (hi : ∀ {G w cs x}, R.rd G w cs x → R'.rd G w cs x ∧ p x) (h : RdS R G w v l) : RdS R' G w v l ∧ ∀ x ∈ l, p x := by
  obtain ⟨ad, cap, rfl, h1, h2, h0, h3⟩ := h
  refine ⟨⟨ad, cap, rfl, h1, h2, h0, fun j x hx => ?_⟩, fun x hx => ?_⟩
  · obtain ⟨b, o, cs, ha, hb, hc, hr⟩ := h3 j x hx
    exact ⟨b, o, cs, ha, hb, by rw [← hs]; exact hc, (hi hr).1⟩
  · obtain ⟨j, hj, e⟩ := List.mem_iff_getElem.1 hx
    obtain ⟨b, o, cs, ha, hb, hc, hr⟩ := h3 j x (by simp [hj, e])
    exact (hi hr).2

/-- The arguments read behind the call as before it. -/
theorem argBack {H : Type} {enc : TypeId × Value → H} {P : Program} {t : TypeId} {W W' : World} {v : Value} {d : DataW H} {ps : List MemPlace} (hl : laidOutB P = true) (hr : P.readableRec t = true) (hrow : t < P.types.size)
    (h : DataW.Trod enc P W 0 (fun _ => true) true t v d ps) (hb : Below W.heap.size W W') : DataW.Trod enc P W' 0 (fun b => decide (b < W.heap.size)) true t v d ps :=
  Below.trod hl hr hrow h hb (by obtain ⟨m, hm⟩ := h; exact DataW.trod_lt m _ _ _ hm)
/-- A list of texts. -/
theorem open_textsL {H : Type} {enc : TypeId × Value → H} {P : Program} {t e : TypeId} {W : World} {v : Value} {d : DataW H} {ps : List MemPlace} (ht : P.underlying t = some (.slice e)) (he : P.underlying e = some .string) (hc : P.cellsOf e = 1)
    {a : Option Addr} {n c : Nat} (hv : v = .slice a n c) (h : DataW.Trod enc P W 0 (fun _ => true) true t v d ps) : ∃ l : List (List UInt8), RdT (fun _ => True) W v l ∧ ∀ s ∈ l, s.length ≤ 9223372036854775807 := by
  subst hv
  obtain ⟨fuel, hf⟩ := h
  obtain ⟨v', l, e1, h1⟩ := (opens_text he).slice ht hc (by decide) H enc W true fuel _ _ hf
  simp only [Value.cells, List.cons.injEq, and_true] at e1
  subst e1
  exact ⟨l, RdS.weaken (R := RTextB) (R' := RStr) (p := fun s => s.length ≤ 9223372036854775807) rfl (fun hx => ⟨hx.1, hx.2⟩) h1⟩
/-- A list of ints. -/
theorem open_intsL {H : Type} {enc : TypeId × Value → H} {P : Program} {t e : TypeId} {W : World} {v : Value} {d : DataW H} {ps : List MemPlace} (ht : P.underlying t = some (.slice e)) (he : P.underlying e = some (.int .i64)) (hc : P.cellsOf e = 1)
    {a : Option Addr} {n c : Nat} (hv : v = .slice a n c) (h : DataW.Trod enc P W 0 (fun _ => true) true t v d ps) : ∃ l : List Int, RdI (fun _ => True) W v l ∧ ∀ s ∈ l, -9223372036854775808 ≤ s ∧ s ≤ 9223372036854775807 := by
  subst hv
  obtain ⟨fuel, hf⟩ := h
  obtain ⟨v', l, e1, h1⟩ := (opens_int he).slice ht hc (by decide) H enc W true fuel _ _ hf
  simp only [Value.cells, List.cons.injEq, and_true] at e1
  subst e1
  exact ⟨l, RdS.weaken (R := RIntB) (R' := RInt) (p := fun s => -9223372036854775808 ≤ s ∧ s ≤ 9223372036854775807) rfl (fun hx => ⟨hx.1, hx.2⟩) h1⟩
/-- Bytes. -/
theorem open_bytesL {H : Type} {enc : TypeId × Value → H} {P : Program} {t e : TypeId} {W : World} {v : Value} {d : DataW H} {ps : List MemPlace} (ht : P.underlying t = some (.slice e)) (he : P.underlying e = some (.int .u8)) (hc : P.cellsOf e = 1)
    {a : Option Addr} {n c : Nat} (hv : v = .slice a n c) (h : DataW.Trod enc P W 0 (fun _ => true) true t v d ps) : ∃ l : List UInt8, RdB (fun _ => True) W v l := by
  subst hv
  obtain ⟨fuel, hf⟩ := h
  obtain ⟨v', l, e1, h1⟩ := (opens_byte he).slice ht hc (by decide) H enc W true fuel _ _ hf
  simp only [Value.cells, List.cons.injEq, and_true] at e1
  subst e1
  exact ⟨l, h1⟩
end Go.Proofs.Ytgkmgdkmafbohaa
/- How raw numbers that come in are opened. -/
set_option linter.unusedVariables false
set_option linter.unusedSimpArgs false
namespace Go.Proofs.Ytgkmgdkmafbohaa
open Go Go.RowKit Go.ChangeShapes Go.WideShapes Go.Deep

structure RawD where
  k : Int
  a : Int
  b : Int
  c : Int
  txs : List (List UInt8)
def i64In (x : Int) : Prop := -9223372036854775808 ≤ x ∧ x ≤ 9223372036854775807
/-- A raw's texts read, its numbers are within their bounds. -/
def RawOk (G : Nat → Prop) (w : World) (vt : Value) (x : RawD) : Prop :=
  i64In x.k ∧ i64In x.a ∧ i64In x.b ∧ i64In x.c ∧ RdT G w vt x.txs ∧ ∀ t ∈ x.txs, t.length ≤ 9223372036854775807
def RRaw : Rel RawD where
  size := 5
  rd := fun G w cs x => ∃ v, cs = [.int .i64 x.k, .int .i64 x.a, .int .i64 x.b, .int .i64 x.c, v] ∧ RawOk G w v x
  len := fun ⟨_, h, _⟩ => by simp [h]
  keep := fun ⟨v, h, a, b, c, d, e, f⟩ hk hg => ⟨v, h, a, b, c, d, e.keep hk hg, f⟩
  low := fun ⟨v, h, a, b, c, d, e, f⟩ => ⟨v, h, a, b, c, d, e.low (by decide), f⟩
theorem RawOk.keep {G G' : Nat → Prop} {w w' : World} {vt : Value} {x : RawD} (h : RawOk G w vt x) (hk : Keep G w w') (hg : ∀ b, G b → G' b) : RawOk G' w' vt x :=
  ⟨h.1, h.2.1, h.2.2.1, h.2.2.2.1, h.2.2.2.2.1.keep hk hg, h.2.2.2.2.2⟩
theorem RawOk.one {G : Nat → Prop} {w : World} {vt : Value} {x : RawD} (h : RawOk G w vt x) : vt.oneCell' = true := by
  obtain ⟨ad, cap, rfl, _⟩ := h.2.2.2.2.1.form
  rfl
set_option maxRecDepth 100000 in
theorem opens_raw : Opens Try.prog 24 RRaw := by
  intro H enc w held fuel cs x hx
  obtain ⟨xs, n, _, hx', hlen, hyl, hg⟩ := DataW.trod_struct Try.underlying24 hx
  have hl : cs.length = 5 := hlen.trans (by kernel_rfl)
  have hc3 : Try.prog.cellsOf 3 = 1 := by kernel_rfl
  have hcT : Try.prog.cellsOf 22 = 1 := by kernel_rfl
  match cs, hl with
  | [c0, c1, c2, c3, c4], _ =>
    match xs, hyl with
    | [y0, y1, y2, y3, y4], _ =>
      have g0 := hg 0 _ rfl
      have g1 := hg 1 _ rfl
      have g2 := hg 2 _ rfl
      have g3 := hg 3 _ rfl
      have g4 := hg 4 _ rfl
      simp only [List.getElem_toArray, List.getElem_cons_zero, List.getElem_cons_succ, hc3, hcT, List.drop_zero, List.drop_succ_cons, List.take_succ_cons, List.take_zero, List.getElem?_cons_zero, List.getElem?_cons_succ] at g0 g1 g2 g3 g4
      obtain ⟨a0, e0, _, b0⟩ := DataW.trod_int Try.underlying3 g0
      obtain ⟨a1, e1, _, b1⟩ := DataW.trod_int Try.underlying3 g1
      obtain ⟨a2, e2, _, b2⟩ := DataW.trod_int Try.underlying3 g2
      obtain ⟨a3, e3, _, b3⟩ := DataW.trod_int Try.underlying3 g3
      obtain ⟨v, l, e4, hl4⟩ := (opens_text (P := Try.prog) (T := 9) Try.underlying9).slice Try.underlying22 (by kernel_rfl) (by decide) H enc w held n _ _ g4
      simp only [List.cons.injEq, and_true] at e0 e1 e2 e3 e4
      subst e0 e1 e2 e3 e4
      obtain ⟨r1, r2⟩ := RdS.weaken (R := RTextB) (R' := RStr) (p := fun s => s.length ≤ 9223372036854775807) rfl (fun hx => ⟨hx.1, hx.2⟩) hl4
      exact ⟨⟨a0, a1, a2, a3, l⟩, c4, rfl, wf_i64 b0, wf_i64 b1, wf_i64 b2, wf_i64 b3, r1, r2⟩
set_option maxRecDepth 100000 in
theorem open_raw {H : Type} {enc : TypeId × Value → H} {W : World} {r : Reach} {b0 : Nat} {v : Value} {d : DataW H} {ps : List MemPlace} (hv : Value.okWide Try.prog W r b0 24 v)
    (h : DataW.Trod enc Try.prog W 0 (fun _ => true) true 24 v d ps) : ∃ (vt : Value) (x : RawD), v = .agg #[.int .i64 x.k, .int .i64 x.a, .int .i64 x.b, .int .i64 x.c, vt] ∧ RawOk (fun _ => True) W vt x := by
  obtain ⟨cs, rfl, hsz⟩ := okWide_struct Try.underlying24 hv
  obtain ⟨fuel, hf⟩ := h
  obtain ⟨x, v, e, hx⟩ := opens_raw H enc W true fuel _ _ hf
  have e' : cs.toList = [.int .i64 x.k, .int .i64 x.a, .int .i64 x.b, .int .i64 x.c, v] := e
  refine ⟨v, x, ?_, hx⟩
  rw [← Array.toArray_toList (xs := cs), e']
end Go.Proofs.Ytgkmgdkmafbohaa
/- What is plain about the message of raw numbers. -/
set_option linter.unusedVariables false
set_option linter.unusedSimpArgs false
namespace Go.Proofs.Ytgkmgdkmafbohaa
open Go Go.RowKit

/-- The five kinds. -/
theorem msgOf_cases (K A B C : Int) (l : List Bytes) :
    (1 + pickedZ K 5 = 1 ∧ msgOf K A B C l = ⟨pickedZ C 4, pickedZ B 4, 1, batOf A B l, hdr0, slt0, crt0, 0⟩) ∨
    (1 + pickedZ K 5 = 2 ∧ msgOf K A B C l = ⟨pickedZ C 4, pickedZ B 4, 2, bat0, hdrOf A B C, slt0, crt0, 0⟩) ∨
    (1 + pickedZ K 5 = 3 ∧ msgOf K A B C l = ⟨pickedZ C 4, pickedZ B 4, 3, bat0, hdr0, ⟨pickedZ A 4, 1 + pickedZ B 9, someL C A⟩, crt0, 0⟩) ∨
    (1 + pickedZ K 5 = 4 ∧ msgOf K A B C l = ⟨pickedZ C 4, pickedZ B 4, 4, bat0, hdr0, slt0, ⟨hdrOf A B C, votersL C⟩, 0⟩) ∨
    (1 + pickedZ K 5 = 5 ∧ msgOf K A B C l = ⟨pickedZ C 4, pickedZ B 4, 5, bat0, hdr0, slt0, crt0, 1 + pickedZ B 9⟩) := by
  obtain ⟨pk0, pk1⟩ := pickedZ_range K 5 (by omega)
  have h : 1 + pickedZ K 5 = 1 ∨ 1 + pickedZ K 5 = 2 ∨ 1 + pickedZ K 5 = 3 ∨ 1 + pickedZ K 5 = 4 ∨ 1 + pickedZ K 5 = 5 := by omega
  unfold msgOf
  generalize 1 + pickedZ K 5 = k at *
  obtain rfl | rfl | rfl | rfl | rfl := h
  · exact .inl ⟨rfl, rfl⟩
  · exact .inr (.inl ⟨rfl, rfl⟩)
  · exact .inr (.inr (.inl ⟨rfl, rfl⟩))
  · exact .inr (.inr (.inr (.inl ⟨rfl, rfl⟩)))
  · exact .inr (.inr (.inr (.inr ⟨rfl, rfl⟩)))
theorem nodeOk_picked (C : Int) : nodeOk (pickedZ C 4) = true := by
  obtain ⟨x1, x2⟩ := pickedZ_range C 4 (by omega)
  unfold nodeOk; simp; omega
theorem countOk_picked (C : Int) : countOk (1 + pickedZ C 9) = true := by
  obtain ⟨x1, x2⟩ := pickedZ_range C 9 (by omega)
  unfold countOk; simp; omega
theorem sltOf_ok (A B C : Int) : sltCode (pickedZ A 4) (1 + pickedZ B 9) (someL C A).length = 0 := by
  unfold sltCode
  rw [someL_length, nodeOk_picked, countOk_picked]
  rfl
theorem hdrOf_lens (A B C : Int) : (hdrOf A B C).bs.length ≤ 3 ∧ (hdrOf A B C).ps.length ≤ 4 := by
  obtain ⟨-, -, h3, h4, -, -⟩ := hdrCode_iff (hdrOf_ok A B C)
  exact ⟨h3, h4⟩
theorem msgOf_code (K A B C : Int) (l : List Bytes) : msgCode (msgOf K A B C l) = 0 := by
  obtain ⟨-, h⟩ | ⟨-, h⟩ | ⟨-, h⟩ | ⟨-, h⟩ | ⟨-, h⟩ := msgOf_cases K A B C l
  · rw [h, msgCode_bundle (nodeOk_picked C) (nodeOk_picked B)]; exact batOf_ok A B l
  · rw [h, msgCode_offer (nodeOk_picked C) (nodeOk_picked B)]; exact hdrOf_ok A B C
  · rw [h, msgCode_vote (nodeOk_picked C) (nodeOk_picked B)]; exact sltOf_ok A B C
  · rw [h, msgCode_proof (nodeOk_picked C) (nodeOk_picked B)]; exact crtOf_ok A B C
  · rw [h, msgCode_want (nodeOk_picked C) (nodeOk_picked B), if_pos (countOk_picked B)]
theorem msgOf_size (K A B C : Int) (l : List Bytes) : MsgOk (msgOf K A B C l) := by
  obtain ⟨-, h⟩ | ⟨-, h⟩ | ⟨-, h⟩ | ⟨-, h⟩ | ⟨-, h⟩ := msgOf_cases K A B C l
  · rw [h]; exact msgOk_bundle fun x hx => by
      have := (batOf_txs A B l).1 x hx
      unfold txLen at this
      simp at this
      omega
  · rw [h]; exact msgOk_offer (by have := hdrOf_lens A B C; omega)
  · rw [h]; exact msgOk_vote
  · rw [h]; exact msgOk_proof (by have := hdrOf_lens A B C; show (hdrOf A B C).bs.length + (hdrOf A B C).ps.length ≤ _; omega)
  · rw [h]; exact msgOk_want _ _ _
theorem msgCode_from (m : Msg) (h : nodeOk m.f = false) : msgCode m = 2 := by unfold msgCode; rw [if_pos (.inl h)]
theorem msgCode_to (m : Msg) (h : nodeOk m.t = false) : msgCode m = 2 := by unfold msgCode; rw [if_pos (.inr h)]
theorem MsgOk.setF {m : Msg} (h : MsgOk m) (x : Int) : MsgOk { m with f := x } := ⟨h.tx, h.h, h.c⟩
theorem MsgOk.setT {m : Msg} (h : MsgOk m) (x : Int) : MsgOk { m with t := x } := ⟨h.tx, h.h, h.c⟩
theorem RdM.setF {G : Nat → Prop} {w : World} {v : MV} {m : Msg} (h : RdM G w v m) (x : Int) : RdM G w v { m with f := x } := ⟨h.tx, h.bs, h.ps, h.d, h.cbs, h.cps, h.vs⟩
theorem RdM.setT {G : Nat → Prop} {w : World} {v : MV} {m : Msg} (h : RdM G w v m) (x : Int) : RdM G w v { m with t := x } := ⟨h.tx, h.bs, h.ps, h.d, h.cbs, h.cps, h.vs⟩
end Go.Proofs.Ytgkmgdkmafbohaa
/- What wire.Decode reads, as plain functions on bytes. No program is named. -/
set_option linter.unusedVariables false
set_option linter.unusedSimpArgs false
namespace Go.Proofs.Ytgkmgdkmafbohaa
open Go Go.RowKit

structure Rdr where
  rest : Bytes
  short : Bool
def Rdr.ends (r : Rdr) (n : Nat) : Bool := r.short || decide (r.rest.length < n)
def Rdr.take (r : Rdr) (n : Nat) : Bytes × Rdr := if r.ends n = true then ([], ⟨r.rest, true⟩) else (r.rest.take n, ⟨r.rest.drop n, false⟩)
/-- Bytes as a number. -/
def numL (l : Bytes) : Int := l.foldl (fun n c => n * 256 + (c.toNat : Int)) 0
def Rdr.num (r : Rdr) (n : Nat) : Int × Rdr := (numL (r.take n).1, (r.take n).2)
/-- So many, each read by f, till they end too early. -/
def Rdr.many {α : Type} (f : Rdr → α × Rdr) : Nat → Rdr → List α × Rdr
  | 0, r => ([], r)
  | k + 1, r => if r.short = true then ([], r) else ((f r).1 :: (Rdr.many f k (f r).2).1, (Rdr.many f k (f r).2).2)
def Rdr.text (r : Rdr) : Bytes × Rdr := (r.num 1).2.take (r.num 1).1.toNat
def Rdr.list {α : Type} (f : Rdr → α × Rdr) (r : Rdr) : List α × Rdr := Rdr.many f (r.num 1).1.toNat (r.num 1).2
def Rdr.batch (r : Rdr) : Bat × Rdr :=
  (⟨(r.num 1).1, ((r.num 1).2.num 3).1, (Rdr.list Rdr.text ((r.num 1).2.num 3).2).1⟩, (Rdr.list Rdr.text ((r.num 1).2.num 3).2).2)
def Rdr.digests (r : Rdr) : List Bytes × Rdr := Rdr.list (fun r => r.take 32) r
def Rdr.header (r : Rdr) : Hdr × Rdr :=
  let a := r.num 1
  let n := a.2.num 3
  let b := n.2.digests
  let p := b.2.digests
  (⟨a.1, n.1, b.1, p.1⟩, p.2)
def msg0 : Msg := ⟨0, 0, 0, bat0, hdr0, slt0, crt0, 0⟩
def Rdr.slot (r : Rdr) : Slt × Rdr :=
  let a := r.num 1
  let n := a.2.num 3
  let d := n.2.take 32
  (⟨a.1, n.1, d.1⟩, d.2)
def Rdr.cert (r : Rdr) : Crt × Rdr :=
  let h := r.header
  let v := Rdr.list (fun r => r.num 1) h.2
  (⟨h.1, v.1⟩, v.2)
/-- The body of a message of a kind. -/
def Rdr.body (m : Msg) (r : Rdr) : Msg × Rdr :=
  if m.k = 1 then ({ m with b := r.batch.1 }, r.batch.2) else if m.k = 2 then ({ m with h := r.header.1 }, r.header.2) else if m.k = 3 then ({ m with s := r.slot.1 }, r.slot.2)
  else if m.k = 4 then ({ m with c := r.cert.1 }, r.cert.2) else if m.k = 5 then ({ m with r := (r.num 3).1 }, (r.num 3).2) else (m, r)
/-- The message and what is left, before it is checked. -/
def decM (b : Bytes) : Msg × Rdr :=
  let r0 : Rdr := ⟨b, false⟩
  let k := r0.num 1
  let f := k.2.num 1
  let t := f.2.num 1
  Rdr.body { msg0 with k := k.1, f := f.1, t := t.1 } t.2
def decK (b : Bytes) : Int := ((⟨b, false⟩ : Rdr).num 1).1
/-- What wire.Decode answers. -/
def decode (b : Bytes) : Msg × Int :=
  if 4000 < b.length then (msg0, 1)
  else if 0 < b.length ∧ (decK b < 1 ∨ 5 < decK b) then (msg0, 3)
  else if (decM b).2.short = true ∨ b.length = 0 then (msg0, 5)
  else if 0 < (decM b).2.rest.length then (msg0, 4)
  else if msgCode (decM b).1 ≠ 0 then (msg0, msgCode (decM b).1)
  else ((decM b).1, 0)

/-! ### Small facts -/
theorem numL_nil : numL [] = 0 := rfl
theorem numL_snoc (l : Bytes) (c : UInt8) : numL (l ++ [c]) = numL l * 256 + (c.toNat : Int) := by unfold numL; rw [List.foldl_append]; rfl
theorem numL_fold : ∀ (l : Bytes) (a : Int), 0 ≤ a → 0 ≤ l.foldl (fun n c => n * 256 + (c.toNat : Int)) a ∧ l.foldl (fun n c => n * 256 + (c.toNat : Int)) a < (a + 1) * 256 ^ l.length
  | [], a, h => by simp; omega
  | c :: l, a, h => by
    have hc : c.toNat < 256 := c.toNat_lt
    have ih := numL_fold l (a * 256 + (c.toNat : Int)) (by omega)
    simp only [List.foldl_cons, List.length_cons]
    refine ⟨ih.1, Int.lt_of_lt_of_le ih.2 ?_⟩
    rw [Int.pow_succ, Int.mul_comm (256 ^ l.length) 256, ← Int.mul_assoc]
    exact Int.mul_le_mul_of_nonneg_right (by omega) (Int.pow_nonneg (by decide))
theorem numL_bound (l : Bytes) : 0 ≤ numL l ∧ numL l < 256 ^ l.length := by
  have h := numL_fold l 0 (Int.le_refl _)
  simpa [numL] using h
theorem Rdr.take_ends {r : Rdr} {n : Nat} (h : r.ends n = true) : r.take n = ([], ⟨r.rest, true⟩) := by unfold Rdr.take; rw [if_pos h]
theorem Rdr.take_ok {r : Rdr} {n : Nat} (h : r.ends n = false) : r.take n = (r.rest.take n, ⟨r.rest.drop n, false⟩) := by unfold Rdr.take; rw [if_neg (by simp [h])]
theorem Rdr.ends_iff {r : Rdr} {n : Nat} : r.ends n = false ↔ r.short = false ∧ n ≤ r.rest.length := by unfold Rdr.ends; simp
theorem Rdr.take_len (r : Rdr) (n : Nat) : (r.take n).1.length ≤ n := by
  unfold Rdr.take
  split
  · exact Nat.zero_le _
  · exact List.length_take_le _ _
theorem Rdr.take_rest (r : Rdr) (n : Nat) : (r.take n).2.rest.length ≤ r.rest.length := by
  unfold Rdr.take
  split
  · exact Nat.le_refl _
  · show (r.rest.drop n).length ≤ _
    rw [List.length_drop]; omega
theorem Rdr.num_rest (r : Rdr) (n : Nat) : (r.num n).2.rest.length ≤ r.rest.length := r.take_rest n
theorem pow256_le (a c : Nat) : (256 : Int) ^ a ≤ 256 ^ (a + c) := by
  induction c with
  | zero => exact Int.le_refl _
  | succ c ih =>
    have hp : (0 : Int) < 256 ^ (a + c) := Int.pow_pos (by decide)
    rw [show a + (c + 1) = (a + c) + 1 by omega, Int.pow_succ]
    omega
theorem Rdr.num_bound (r : Rdr) (n : Nat) : 0 ≤ (r.num n).1 ∧ (r.num n).1 < 256 ^ n := by
  have h := numL_bound (r.take n).1
  have h2 : (256 : Int) ^ (r.take n).1.length ≤ 256 ^ n := by
    have := pow256_le (r.take n).1.length (n - (r.take n).1.length)
    rwa [show (r.take n).1.length + (n - (r.take n).1.length) = n by have := r.take_len n; omega] at this
  exact ⟨h.1, by show numL (r.take n).1 < _; omega⟩
theorem Rdr.many_zero {α : Type} (f : Rdr → α × Rdr) (r : Rdr) : Rdr.many f 0 r = ([], r) := rfl
theorem Rdr.many_short {α : Type} (f : Rdr → α × Rdr) (k : Nat) (r : Rdr) (h : r.short = true) : Rdr.many f k r = ([], r) := by
  cases k
  · rfl
  · unfold Rdr.many; rw [if_pos h]
theorem Rdr.many_next {α : Type} (f : Rdr → α × Rdr) (k : Nat) (r : Rdr) (h : r.short = false) : Rdr.many f (k + 1) r = ((f r).1 :: (Rdr.many f k (f r).2).1, (Rdr.many f k (f r).2).2) := by
  rw [Rdr.many, if_neg (by simp [h])]
theorem Rdr.many_len {α : Type} (f : Rdr → α × Rdr) : ∀ (k : Nat) (r : Rdr), (Rdr.many f k r).1.length ≤ k
  | 0, r => by simp [Rdr.many_zero]
  | k + 1, r => by
    cases h : r.short
    · rw [Rdr.many_next f k r h]; simpa using Rdr.many_len f k _
    · rw [Rdr.many_short f _ r h]; simp
end Go.Proofs.Ytgkmgdkmafbohaa
/- What decode answers: plain laws. -/
set_option linter.unusedVariables false
set_option linter.unusedSimpArgs false
namespace Go.Proofs.Ytgkmgdkmafbohaa
open Go Go.RowKit

theorem body_k (m : Msg) (r : Rdr) : (Rdr.body m r).1.k = m.k := by
  unfold Rdr.body
  split
  · rfl
  split
  · rfl
  split
  · rfl
  split
  · rfl
  split
  · rfl
  · rfl
theorem decM_k (l : Bytes) : (decM l).1.k = decK l := body_k _ _
theorem batCode_ne3 (b : Bat) : batCode b ≠ 3 := by
  unfold batCode
  split
  · decide
  split
  · decide
  split
  · decide
  · decide
theorem hdrCode_ne3 (h : Hdr) : hdrCode h ≠ 3 := by
  unfold hdrCode
  split
  · decide
  split
  · decide
  split
  · rcases digGo_form_at h.bs [] with e | e | e <;> (unfold digCode; rw [e]; decide)
  split
  · rcases digGo_form_at h.ps [] with e | e | e <;> (unfold digCode; rw [e]; decide)
  split
  · decide
  · decide
theorem votGo_ne3 : ∀ (l : List Int) (o : Option Int), votGo o l ≠ 3
  | [], o => by unfold votGo; decide
  | v :: t, none => by
    have ih := votGo_ne3 t (some v)
    unfold votGo
    cases nodeOk v
    · rw [if_pos rfl]; decide
    · rw [if_neg (by decide)]; exact ih
  | v :: t, some u => by
    have ih := votGo_ne3 t (some v)
    unfold votGo
    cases nodeOk v
    · rw [if_pos rfl]; decide
    · rw [if_neg (by decide)]
      by_cases h : decide (v ≤ u) = true
      · rw [if_pos h]; decide
      · rw [if_neg h]; exact ih
theorem sltCode_ne3 (a r : Int) (n : Nat) : sltCode a r n ≠ 3 := by
  unfold sltCode
  split
  · decide
  split
  · decide
  · decide
theorem crtCode_ne3 (c : Crt) : crtCode c ≠ 3 := by
  unfold crtCode
  split
  · exact hdrCode_ne3 _
  split
  · decide
  split
  · exact votGo_ne3 _ _
  split
  · decide
  · decide
theorem msgPart_ne3 (m : Msg) : msgPart m ≠ 3 := by
  unfold msgPart
  split
  · exact batCode_ne3 _
  split
  · exact hdrCode_ne3 _
  split
  · exact sltCode_ne3 _ _ _
  split
  · exact crtCode_ne3 _
  split
  · decide
  · decide
theorem msgCode_ne3 (m : Msg) (h1 : 1 ≤ m.k) (h2 : m.k ≤ 5) : msgCode m ≠ 3 := by
  unfold msgCode
  split
  · decide
  split
  · omega
  split
  · exact msgPart_ne3 _
  split
  · decide
  · decide
theorem decK_cons (k : UInt8) (l : Bytes) : decK (k :: l) = (k.toNat : Int) := by
  unfold decK Rdr.num
  rw [Rdr.take_ok (by unfold Rdr.ends; simp)]
  simp [numL]
/-- KindBad's law. -/
theorem decode_kind (k : UInt8) (l : Bytes) (h : l.length ≤ 50) : decide ((decode (k :: l)).2 = 3) = decide (k.toNat < 1 ∨ 5 < k.toNat) := by
  have hk := decK_cons k l
  have hm := decM_k (k :: l)
  have hl : (k :: l).length = l.length + 1 := rfl
  unfold decode
  rw [if_neg (by omega)]
  by_cases h1 : k.toNat < 1 ∨ 5 < k.toNat
  · rw [if_pos ⟨by omega, by omega⟩, decide_eq_true h1]; rfl
  · rw [if_neg (by omega)]
    have : decide (k.toNat < 1 ∨ 5 < k.toNat) = false := by simp only [decide_eq_false_iff_not]; exact h1
    rw [this]
    simp only [decide_eq_false_iff_not]
    split
    · decide
    split
    · decide
    split
    · exact msgCode_ne3 _ (by omega) (by omega)
    · show ¬ (0 : Int) = 3
      decide
end Go.Proofs.Ytgkmgdkmafbohaa
/- Decoding undoes encoding: plain laws. -/
set_option linter.unusedVariables false
set_option linter.unusedSimpArgs false
namespace Go.Proofs.Ytgkmgdkmafbohaa
open Go Go.RowKit

theorem byteZ_nat (c : UInt8) : byteZ (c.toNat : Int) = c := by
  have h : c.toNat < 256 := c.toNat_lt
  unfold byteZ
  rw [show ((c.toNat : Int) % 256).toNat = c.toNat by omega]
  simp
theorem byteZ_of {n : Int} (h0 : 0 ≤ n) (h1 : n < 256) : ((byteZ n).toNat : Int) = n := by rw [byteZ_toNat]; omega
abbrev rdr (l : Bytes) : Rdr := ⟨l, false⟩
theorem take_app (a b : Bytes) {n : Nat} (h : a.length = n) : (rdr (a ++ b)).take n = (a, rdr b) := by
  subst h
  rw [Rdr.take_ok (by rw [Rdr.ends_iff]; exact ⟨rfl, by simp⟩)]
  simp [rdr]
theorem num_one (c : UInt8) (b : Bytes) : (rdr (c :: b)).num 1 = ((c.toNat : Int), rdr b) := by
  unfold Rdr.num
  rw [show (rdr (c :: b)).take 1 = ([c], rdr b) from take_app [c] b rfl]
  simp [numL]
theorem num_byte {n : Int} (h0 : 0 ≤ n) (h1 : n < 256) (b : Bytes) : (rdr (byteZ n :: b)).num 1 = (n, rdr b) := by rw [num_one, byteZ_of h0 h1]
theorem numL_wide {n : Int} (h0 : 0 ≤ n) (h1 : n < 16777216) : numL (wideL n) = n := by
  unfold numL wideL
  simp only [List.foldl_cons, List.foldl_nil, byteZ_toNat]
  omega
theorem num_wide {n : Int} (h0 : 0 ≤ n) (h1 : n < 16777216) (b : Bytes) : (rdr (wideL n ++ b)).num 3 = (n, rdr b) := by
  unfold Rdr.num
  rw [show (rdr (wideL n ++ b)).take 3 = (wideL n, rdr b) from take_app (wideL n) b rfl, numL_wide h0 h1]
theorem many_app {α : Type} (f : Rdr → α × Rdr) (e : α → Bytes) : ∀ (l : List α) (s : Bytes), (∀ x ∈ l, ∀ s, f (rdr (e x ++ s)) = (x, rdr s)) → Rdr.many f l.length (rdr ((l.map e).flatten ++ s)) = (l, rdr s)
  | [], s, _ => rfl
  | x :: t, s, h => by
    have hx := h x (by simp) ((t.map e).flatten ++ s)
    have ih := many_app f e t s (fun y hy => h y (by simp [hy]))
    rw [List.length_cons, Rdr.many_next f _ _ rfl, List.map_cons, List.flatten_cons, List.append_assoc, hx]
    simp only [ih]
theorem list_app {α : Type} (f : Rdr → α × Rdr) (e : α → Bytes) (l : List α) (s : Bytes) (hl : l.length < 256) (h : ∀ x ∈ l, ∀ s, f (rdr (e x ++ s)) = (x, rdr s)) :
    Rdr.list f (rdr (byteZ l.length :: ((l.map e).flatten ++ s))) = (l, rdr s) := by
  unfold Rdr.list
  rw [num_byte (by omega) (by omega)]
  simp only [Int.toNat_natCast]
  exact many_app f e l s h
theorem text_app (t s : Bytes) (h : t.length < 256) : Rdr.text (rdr ((byteZ t.length :: t) ++ s)) = (t, rdr s) := by
  unfold Rdr.text
  rw [List.cons_append, num_byte (by omega) (by omega)]
  simp only [Int.toNat_natCast]
  exact take_app t s rfl
theorem batch_app (b : Bat) (s : Bytes) (h : batCode b = 0) : (rdr (putBatchL b ++ s)).batch = (b, rdr s) := by
  obtain ⟨h1, h2, h3, h4, h5⟩ := batCode_iff h
  have ha := nodeOk_iff h1
  have hn := countOk_iff h2
  have ht : ∀ t ∈ b.txs, t.length ≤ 20 := fun t ht => by have := h5 t ht; simp [txLen] at this; omega
  have e : putBatchL b ++ s = byteZ b.a :: (wideL b.n ++ (byteZ b.txs.length :: ((b.txs.map fun t => byteZ t.length :: t).flatten ++ s))) := by
    unfold putBatchL putTxs; simp
  unfold Rdr.batch
  rw [e, num_byte (by omega) (by omega)]
  simp only [num_wide (show 0 ≤ b.n by omega) (show b.n < 16777216 by omega)]
  rw [list_app Rdr.text (fun t => byteZ t.length :: t) b.txs s (by omega) (fun t h s => text_app t s (by have := ht t h; omega))]
theorem digests_app (l : List Bytes) (s : Bytes) (h : ∀ d ∈ l, d.length = 32) (hl : l.length < 256) : (rdr (putDigestsL l ++ s)).digests = (l, rdr s) := by
  unfold Rdr.digests putDigestsL
  have := list_app (fun r => r.take 32) (fun d => d) l s hl (fun d hd s => take_app d s (h d hd))
  simpa using this
theorem header_app (h : Hdr) (s : Bytes) (hc : hdrCode h = 0) : (rdr (putHeaderL h ++ s)).header = (h, rdr s) := by
  obtain ⟨h1, h2, h3, h4, h5, h6⟩ := hdrCode_iff hc
  have ha := nodeOk_iff h1
  have hn := countOk_iff h2
  have h5 := ((digCode_zero _).1 h5).1
  have h6 := ((digCode_zero _).1 h6).1
  have e : putHeaderL h ++ s = byteZ h.a :: (wideL h.r ++ (putDigestsL h.bs ++ (putDigestsL h.ps ++ s))) := by
    unfold putHeaderL; simp
  unfold Rdr.header
  rw [e, num_byte (by omega) (by omega)]
  simp only [num_wide (show 0 ≤ h.r by omega) (show h.r < 16777216 by omega)]
  rw [digests_app h.bs _ h5 (by omega)]
  simp only
  rw [digests_app h.ps _ h6 (by omega)]
theorem slot_app (x : Slt) (s : Bytes) (hc : sltCode x.a x.r x.d.length = 0) : (rdr (byteZ x.a :: (wideL x.r ++ (x.d ++ s)))).slot = (x, rdr s) := by
  obtain ⟨h1, h2, h3⟩ := sltCode_iff hc
  have ha := nodeOk_iff h1
  have hn := countOk_iff h2
  unfold Rdr.slot
  rw [num_byte (by omega) (by omega)]
  simp only [num_wide (show 0 ≤ x.r by omega) (show x.r < 16777216 by omega)]
  rw [take_app x.d s h3]
theorem flat_single (l : List Int) : (l.map fun v => [byteZ v]).flatten = l.map byteZ := by
  induction l with
  | nil => rfl
  | cons a t ih => simp [ih]
theorem votGo_nodes : ∀ (l : List Int) (o : Option Int), votGo o l = 0 → ∀ v ∈ l, 0 ≤ v ∧ v < 4
  | [], _, _ => fun v hv => by simp at hv
  | u :: t, o, h => by
    have hn : nodeOk u = true := by
      cases q : nodeOk u
      · unfold votGo at h; rw [if_pos q] at h; simp at h
      · rfl
    have ht : votGo (some u) t = 0 := by
      unfold votGo at h
      rw [if_neg (by simp [hn])] at h
      cases o with
      | none => simpa using h
      | some x =>
        simp only at h
        by_cases q : decide (u ≤ x) = true
        · rw [if_pos q] at h; simp at h
        · rw [if_neg q] at h; exact h
    have ih := votGo_nodes t (some u) ht
    intro v hv
    rcases List.mem_cons.1 hv with rfl | hv
    · exact nodeOk_iff hn
    · exact ih v hv
theorem cert_app (c : Crt) (s : Bytes) (hc : crtCode c = 0) : (rdr (putHeaderL c.h ++ (byteZ c.vs.length :: (c.vs.map byteZ ++ s)))).cert = (c, rdr s) := by
  obtain ⟨h1, h2, h3, h4⟩ := crtCode_iff hc
  unfold Rdr.cert
  rw [header_app c.h _ h1]
  simp only
  have := list_app (fun r => r.num 1) (fun v => [byteZ v]) c.vs s (by omega) (fun v hv s => by
    have := votGo_nodes _ _ h3 v hv
    exact num_byte (by omega) (by omega) s)
  rw [flat_single] at this
  rw [this]
theorem noneM_parts {m : Msg} (h : noneM m = true) : m.b = bat0 ∧ m.h = hdr0 ∧ m.s = slt0 ∧ m.c = crt0 ∧ m.r = 0 := by
  obtain ⟨f, t, k, ⟨ba, bn, bt⟩, ⟨ha, hr, hb, hp⟩, ⟨sa, sr, sd⟩, ⟨⟨ca, cr, cb, cp⟩, cv⟩, r⟩ := m
  simp [noneM, noHdr, nhB] at h
  simp [bat0, hdr0, slt0, crt0]
  simp_all
theorem decM_app (m : Msg) (s : Bytes) (h : msgCode m = 0) : decM (encL m ++ s) = (m, rdr s) := by
  obtain ⟨h1, h2, h3, h4, h5, h6⟩ := msgCode_iff h
  have hf := nodeOk_iff h1
  have ht := nodeOk_iff h2
  have e : encL m ++ s = byteZ m.k :: (byteZ m.f :: (byteZ m.t :: (bodyL m ++ s))) := by unfold encL; simp
  have e1 : ∀ b : Bytes, (⟨byteZ m.k :: b, false⟩ : Rdr).num 1 = (m.k, ⟨b, false⟩) := fun b => num_byte (by omega) (by omega) b
  have e2 : ∀ b : Bytes, (⟨byteZ m.f :: b, false⟩ : Rdr).num 1 = (m.f, ⟨b, false⟩) := fun b => num_byte (by omega) (by omega) b
  have e3 : ∀ b : Bytes, (⟨byteZ m.t :: b, false⟩ : Rdr).num 1 = (m.t, ⟨b, false⟩) := fun b => num_byte (by omega) (by omega) b
  unfold decM
  rw [e]
  simp only [e1, e2, e3]
  clear e e1 e2 e3 h
  obtain ⟨f, t, k, b, hh, x, c, r⟩ := m
  simp only at *
  have hk : k = 1 ∨ k = 2 ∨ k = 3 ∨ k = 4 ∨ k = 5 := by omega
  obtain rfl | rfl | rfl | rfl | rfl := hk
  · obtain ⟨-, p2, p3, p4, p5⟩ := noneM_parts h6
    simp only [Msg.less, if_pos] at p2 p3 p4 p5
    subst p2 p3 p4 p5
    show Rdr.body ⟨f, t, 1, bat0, hdr0, slt0, crt0, 0⟩ (rdr (putBatchL b ++ s)) = _
    unfold Rdr.body
    rw [if_pos rfl, batch_app b s h5]
  · obtain ⟨p1, -, p3, p4, p5⟩ := noneM_parts h6
    simp [Msg.less] at p1 p3 p4 p5
    subst p1 p3 p4 p5
    show Rdr.body ⟨f, t, 2, bat0, hdr0, slt0, crt0, 0⟩ (rdr (putHeaderL hh ++ s)) = _
    unfold Rdr.body
    rw [if_neg (show ¬ (2 : Int) = 1 by decide), if_pos rfl, header_app hh s h5]
  · obtain ⟨p1, p2, -, p4, p5⟩ := noneM_parts h6
    simp [Msg.less] at p1 p2 p4 p5
    subst p1 p2 p4 p5
    show Rdr.body ⟨f, t, 3, bat0, hdr0, slt0, crt0, 0⟩ (rdr ((byteZ x.a :: (wideL x.r ++ x.d)) ++ s)) = _
    unfold Rdr.body
    rw [if_neg (show ¬ (3 : Int) = 1 by decide), if_neg (show ¬ (3 : Int) = 2 by decide), if_pos rfl, show (byteZ x.a :: (wideL x.r ++ x.d)) ++ s = byteZ x.a :: (wideL x.r ++ (x.d ++ s)) by simp, slot_app x s h5]
  · obtain ⟨p1, p2, p3, -, p5⟩ := noneM_parts h6
    simp [Msg.less] at p1 p2 p3 p5
    subst p1 p2 p3 p5
    show Rdr.body ⟨f, t, 4, bat0, hdr0, slt0, crt0, 0⟩ (rdr ((putHeaderL c.h ++ (byteZ c.vs.length :: c.vs.map byteZ)) ++ s)) = _
    unfold Rdr.body
    rw [if_neg (show ¬ (4 : Int) = 1 by decide), if_neg (show ¬ (4 : Int) = 2 by decide), if_neg (show ¬ (4 : Int) = 3 by decide), if_pos rfl, show (putHeaderL c.h ++ (byteZ c.vs.length :: c.vs.map byteZ)) ++ s = putHeaderL c.h ++ (byteZ c.vs.length :: (c.vs.map byteZ ++ s)) by simp, cert_app c s h5]
  · obtain ⟨p1, p2, p3, p4, -⟩ := noneM_parts h6
    simp [Msg.less] at p1 p2 p3 p4
    subst p1 p2 p3 p4
    have h5' : countOk r = true := by
      cases q : countOk r
      · simp [msgPart, q] at h5
      · rfl
    have hr := countOk_iff h5'
    show Rdr.body ⟨f, t, 5, bat0, hdr0, slt0, crt0, 0⟩ (rdr (wideL r ++ s)) = _
    unfold Rdr.body
    rw [if_neg (show ¬ (5 : Int) = 1 by decide), if_neg (show ¬ (5 : Int) = 2 by decide), if_neg (show ¬ (5 : Int) = 3 by decide), if_neg (show ¬ (5 : Int) = 4 by decide), if_pos rfl, num_wide (by omega) (by omega)]
theorem putTxs_len20 (l : List Bytes) (h : ∀ t ∈ l, t.length ≤ 20) : (putTxs l).length ≤ 21 * l.length := by
  unfold putTxs
  induction l with
  | nil => simp
  | cons t l ih =>
    have := ih (fun x hx => h x (by simp [hx]))
    have h0 := h t (by simp)
    simp only [List.map_cons, List.flatten_cons, List.length_append, List.length_cons]
    omega
theorem digestsL_len (l : List Bytes) (h : ∀ d ∈ l, d.length = 32) : (putDigestsL l).length = 1 + 32 * l.length := by
  unfold putDigestsL
  rw [List.length_cons, flatten_len h]; omega
theorem headerL_len {b : Hdr} (h : hdrCode b = 0) : (putHeaderL b).length ≤ 230 := by
  obtain ⟨h1, h2, h3, h4, h5, h6⟩ := hdrCode_iff h
  unfold putHeaderL
  have e1 := digestsL_len b.bs ((digCode_zero _).1 h5).1
  have e2 := digestsL_len b.ps ((digCode_zero _).1 h6).1
  simp only [List.length_cons, List.length_append, e1, e2, wideL, List.length_nil]
  omega
theorem encL_len {m : Msg} (h : msgCode m = 0) : 4 ≤ (encL m).length ∧ (encL m).length ≤ 300 := by
  obtain ⟨h1, h2, h3, h4, h5, h6⟩ := msgCode_iff h
  have : 1 ≤ (bodyL m).length ∧ (bodyL m).length ≤ 290 := by
    unfold bodyL
    unfold msgPart at h5
    split
    · rename_i q
      rw [if_pos q] at h5
      obtain ⟨-, -, a3, a4, a5⟩ := batCode_iff h5
      have := putTxs_len20 m.b.txs (fun t ht => by have := a5 t ht; simp [txLen] at this; omega)
      simp only [putBatchL, wideL, List.length_cons, List.length_append, List.length_nil]
      omega
    split
    · rename_i q1 q
      rw [if_neg q1, if_pos q] at h5
      have := headerL_len h5
      simp only [putHeaderL, List.length_cons] at *
      omega
    split
    · rename_i q2 q1 q
      rw [if_neg q2, if_neg q1, if_pos q] at h5
      obtain ⟨-, -, a3⟩ := sltCode_iff h5
      simp only [wideL, List.length_cons, List.length_append, List.length_nil]
      omega
    split
    · rename_i q3 q2 q1 q
      rw [if_neg q3, if_neg q2, if_neg q1, if_pos q] at h5
      obtain ⟨a1, a2, -, -⟩ := crtCode_iff h5
      have := headerL_len a1
      simp only [List.length_cons, List.length_append, List.length_map]
      omega
    · simp [wideL]
  unfold encL
  simp only [List.length_cons]
  omega
theorem decK_enc (m : Msg) (s : Bytes) (h : msgCode m = 0) : decK (encL m ++ s) = m.k := by
  obtain ⟨h1, h2, h3, h4, h5, h6⟩ := msgCode_iff h
  show decK (byteZ m.k :: _) = _
  rw [decK_cons, byteZ_of (by omega) (by omega)]
/-- MessageBack's law. -/
theorem decode_enc (m : Msg) (h : msgCode m = 0) : decode (encL m) = (m, 0) := by
  obtain ⟨h1, h2, h3, h4, h5, h6⟩ := msgCode_iff h
  have hl := encL_len h
  have hk := decK_enc m [] h
  have hd := decM_app m [] h
  rw [List.append_nil] at hk hd
  unfold decode
  rw [hd, hk, if_neg (by omega), if_neg (by omega), if_neg (by simp [rdr]; intro e; simp [e] at hl), if_neg (by simp [rdr]), if_neg (by simp [h])]
theorem decode_tail (m : Msg) (c : UInt8) (h : msgCode m = 0) : decode (encL m ++ [c]) = (msg0, 4) := by
  obtain ⟨h1, h2, h3, h4, h5, h6⟩ := msgCode_iff h
  have hl := encL_len h
  have hk := decK_enc m [c] h
  have hd := decM_app m [c] h
  have hn : (encL m ++ [c]).length = (encL m).length + 1 := by simp
  unfold decode
  rw [hd, hk, if_neg (by omega), if_neg (by omega), if_neg (by simp [rdr]), if_pos (by simp [rdr])]
end Go.Proofs.Ytgkmgdkmafbohaa
/- wire's reader: take, number: what they compute. -/
set_option linter.unusedVariables false
set_option linter.unusedSimpArgs false
namespace Go.Proofs.Ytgkmgdkmafbohaa
open Go Go.RowKit

/-- A reader in memory. -/
def RdrAt (R : Nat) (w : World) (r : Rdr) : Prop :=
  ∃ v, BoxAt w R [v, .bool r.short] 75 ∧ RdB (fun b => b < R) w v r.rest
theorem grownBy_refl (w : World) (r : Option Nat) : w.grownBy w r := ⟨rfl, rfl, rfl, Nat.le_refl _, fun _ _ _ => rfl⟩
theorem grownBy_setCell (w : World) (R j : Nat) (u : Value) : w.grownBy (w.setCell ⟨R, j, none⟩ u) (some R) := by
  have h := (Below.refl R w).setCell (p := ⟨R, j, none⟩) (Nat.le_refl _) u
  refine ⟨h.os, h.tape, h.output, ?_, fun k hk hne => Below.heap_setCell w _ u k (fun e => hne (by rw [e]))⟩
  simp [World.setCell]
theorem RdrAt.grown {R : Nat} {w w' : World} {r : Rdr} {row : Option Nat} (h : RdrAt R w r) (hg : w.grownBy w' row) (hr : ∀ k, row = some k → R < k) : RdrAt R w' r := by
  obtain ⟨v, hb, hv⟩ := h
  exact ⟨v, hb.grown hg (fun e => by have := hr R e; omega), hv.keep (Keep.grown hg (fun k e hh => by have := hr k e; omega)) (fun b hh => hh)⟩
theorem RdrAt.below {R : Nat} {w w' : World} {r : Rdr} (h : RdrAt R w r) (hb : Below w.heap.size w w') : RdrAt R w' r :=
  h.grown (grownBy_of_below hb none) (fun k e => by simp at e)
theorem RdrAt.lt {R : Nat} {w : World} {r : Rdr} (h : RdrAt R w r) : R < w.heap.size := by obtain ⟨v, hb, -⟩ := h; exact hb.lt

theorem RdS.sliceL {α : Type} {R : Rel α} {G : Nat → Prop} {w : World} {l : List α} {ad : Option Addr} {m cap : Nat} (h : RdS R G w (.slice ad m cap) l) (n : Nat) (hn : n ≤ l.length) :
    RdS R G w (.slice (if cap = n then ad else ad.map (·.add (n * R.size))) (m - n) (cap - n)) (l.drop n) := by
  obtain ⟨h0, h1, h2, hn0⟩ := h.len
  refine ⟨_, _, by rw [List.length_drop, h0], by rw [List.length_drop]; omega, by omega, fun e => ?_, fun j x hx => ?_⟩
  · split at e
    · have := hn0 e; omega
    · simp at e; have := hn0 e; omega
  · rw [List.getElem?_drop] at hx
    have hj : n + j < l.length := by
      rcases Nat.lt_or_ge (n + j) l.length with h | h
      · exact h
      · simp [List.getElem?_eq_none h] at hx
    obtain ⟨b, o, cs, rfl, hb, hc, hr⟩ := h.at (n + j) hj
    have hx' : x = l[n + j]'hj := by rw [List.getElem?_eq_getElem hj] at hx; exact (Option.some.inj hx).symm
    subst hx'
    rw [if_neg (by omega)]
    refine ⟨b, o + n * R.size, cs, ?_, hb, fun t c ht => ?_, hr⟩
    · unfold Addr.add
      by_cases h0 : n * R.size = 0
      · simp [h0]
      · simp [h0]
    · have := hc t c ht
      rw [show o + n * R.size + (j * R.size + t) = o + ((n + j) * R.size + t) by rw [Nat.add_mul]; omega]; exact this
set_option maxRecDepth 100000 in
set_option maxHeartbeats 1000000 in
theorem rtake_ends (R : Nat) (r : Rdr) (n : Nat) (w : World) (h : RdrAt R w r) (he : r.ends n = true) :
    Calls Try.prog 44 #[.pointer (some ⟨R, 0, none⟩), .int .i64 (n : Int)] w fun e w' => e = .returned (.slice none 0 0) ∧ RdrAt R w' ⟨r.rest, true⟩ ∧ w.grownBy w' (some R) := by
  obtain ⟨rest, short⟩ := r
  obtain ⟨v, hb, hv⟩ := h
  obtain ⟨ad, cap, rfl, -, -⟩ := hv.form
  have c0 := hb.cell 0 rfl
  have c1 := hb.cell 1 rfl
  have f1 := hb.free 1
  have HB := Lib.hid hb
  have HV := Lib.hid hv
  have hs : short = true ∨ (short = false ∧ (rest.length : Int) < (n : Int)) := by
    unfold Rdr.ends at he
    cases short
    · right; simp at he; exact ⟨rfl, by omega⟩
    · exact .inl rfl
  simp only at c0 c1
  clear hb hv he
  go_enter Try.func44, Try.ntmps44
  rcases hs with rfl | ⟨rfl, hlt⟩
  all_goals
    go_wp2
    go_ret
    exact ⟨rfl, ⟨_, HB.out.set 1 (.bool true), HV.out.keep (Keep.setCell (by exact Nat.lt_irrefl R) _) (fun _ h => h)⟩, grownBy_setCell _ _ _ _⟩
set_option maxRecDepth 100000 in
set_option maxHeartbeats 1000000 in
theorem rtake_ok (R : Nat) (r : Rdr) (n : Nat) (w : World) (h : RdrAt R w r) (he : r.ends n = false) (hn : n ≤ 1000) :
    Calls Try.prog 44 #[.pointer (some ⟨R, 0, none⟩), .int .i64 (n : Int)] w fun e w' => ∃ v, e = .returned v ∧ RdB (fun b => w.heap.size ≤ b) w' v (r.rest.take n) ∧ RdrAt R w' ⟨r.rest.drop n, false⟩ ∧ w.grownBy w' (some R) := by
  obtain ⟨rest, short⟩ := r
  obtain ⟨v, hb, hv⟩ := h
  obtain ⟨ad, cap, rfl, hc1, hc2, hc0⟩ := hv.form0
  obtain ⟨hs, hl⟩ := Rdr.ends_iff.1 he
  simp only at hs hl
  subst hs
  have c0 := hb.cell 0 rfl
  have c1 := hb.cell 1 rfl
  have zR := hb.lt
  have HB := Lib.hid hb
  have HV := Lib.hid hv
  have HT := Lib.hid (hv.take n hl)
  have hlen : (rest.take n).length = n := by simp; omega
  have n0 : (0 : Int) ≤ (n : Int) := by omega
  have n1 : (n : Int) ≤ (rest.length : Int) := by omega
  have n2 : (n : Int) ≤ (cap : Int) := by simp only at hc1; omega
  have n3 : ¬ (rest.length : Int) < (n : Int) := by omega
  simp only at c0 c1 hc1
  have HC0 := Lib.hid hc0
  unfold maxLen at hc2
  clear hb hv he hc0
  by_cases hcap : cap = n
  · subst hcap
    obtain rfl : rest.length = cap := by omega
    go_enter Try.func44, Try.ntmps44
    go_wp2_with fail
    refine (cloneB_any _ _ HT.out (by omega)).mono ?_
    rintro e w2 ⟨v2, rfl, hown, hb2⟩
    have HO := Lib.hid hown
    have HB2 := Lib.hid hb2
    have d0 := ((bcellAt hb2 R zR).1 0).trans c0
    have g0 := ((bcellAt hb2 R zR).2 0).trans (HB.out.free 0)
    clear c0 c1 hown hb2
    go_wp2
    go_ret
    have HS := HV.out.sliceL rest.length hl
    rw [if_pos rfl, Nat.sub_self] at HS
    refine ⟨v2, rfl, RdS.of_owns (base := w.heap.size) (ownsRow_setCell HO.out (by exact zR) _) (fun b hb => hb), ⟨_, (HB.out.belowS HB2.out).set 0 _, (HS.below HB2.out (fun _ h => h)).keep (G' := fun b => b < R) (Keep.setCell (p := ⟨R, 0, none⟩) (by exact Nat.lt_irrefl R) _) (fun _ h => h)⟩, grownBy_trans (grownBy_of_below HB2.out (some R)) (grownBy_setCell _ _ _ _) (.inl rfl)⟩
  · go_enter Try.func44, Try.ntmps44
    go_wp2_with fail
    refine (cloneB_any _ _ HT.out (by omega)).mono ?_
    rintro e w2 ⟨v2, rfl, hown, hb2⟩
    have HO := Lib.hid hown
    have HB2 := Lib.hid hb2
    have d0 := ((bcellAt hb2 R zR).1 0).trans c0
    have g0 := ((bcellAt hb2 R zR).2 0).trans (HB.out.free 0)
    clear c0 c1 hown hb2
    go_wp2
    go_ret
    have HS := HV.out.sliceL n hl
    rw [if_neg hcap] at HS
    simp only [show RByte.size = 1 from rfl, Nat.mul_one] at HS
    refine ⟨v2, rfl, RdS.of_owns (base := w.heap.size) (ownsRow_setCell HO.out (by exact zR) _) (fun b hb => hb), ⟨_, (HB.out.belowS HB2.out).set 0 _, (HS.below HB2.out (fun _ h => h)).keep (G' := fun b => b < R) (Keep.setCell (p := ⟨R, 0, none⟩) (by exact Nat.lt_irrefl R) _) (fun _ h => h)⟩, grownBy_trans (grownBy_of_below HB2.out (some R)) (grownBy_setCell _ _ _ _) (.inl rfl)⟩
/-- take, whatever it finds. -/
theorem rtake_any (R : Nat) (r : Rdr) (n : Nat) (w : World) (h : RdrAt R w r) (hn : n ≤ 1000) :
    Calls Try.prog 44 #[.pointer (some ⟨R, 0, none⟩), .int .i64 (n : Int)] w fun e w' => ∃ v, e = .returned v ∧ RdB (fun b => w.heap.size ≤ b) w' v (r.take n).1 ∧ RdrAt R w' (r.take n).2 ∧ w.grownBy w' (some R) := by
  cases he : r.ends n
  · rw [Rdr.take_ok he]; exact rtake_ok R r n w h he hn
  · rw [Rdr.take_ends he]
    exact (rtake_ends R r n w h he).mono fun e w' ⟨h1, h2, h3⟩ => ⟨_, h1, RdS.nil _ _ _, h2, h3⟩
end Go.Proofs.Ytgkmgdkmafbohaa
/- wire's reader: number: what it computes. -/
set_option linter.unusedVariables false
set_option linter.unusedSimpArgs false
namespace Go.Proofs.Ytgkmgdkmafbohaa
open Go Go.RowKit

theorem i64_or_byte (X y : Int) (h0 : 0 ≤ X) (h1 : X < 16777216) (h2 : 0 ≤ y) (h3 : y < 256) : bits .or .i64 (X * 256) y = X * 256 + y := by
  obtain ⟨a, rfl⟩ := Int.eq_ofNat_of_zero_le h0
  obtain ⟨b, rfl⟩ := Int.eq_ofNat_of_zero_le h2
  have e : ((a : Int) * 256) = ((a * 256 : Nat) : Int) := by omega
  rw [e]
  show IntKind.i64.wrap ((BitVec.ofInt 64 ((a * 256 : Nat) : Int) ||| BitVec.ofInt 64 (b : Int)).toNat : Int) = _
  rw [BitVec.toNat_or, ofInt_u64 _ (by omega), ofInt_u64 _ (by omega), nat_join 8 (a * 256) b (by omega) (by omega), IntWalk.i64_in _ (by omega)]
  omega
theorem numL_take_succ {l : Bytes} {k : Nat} (h : k < l.length) : numL (l.take (k + 1)) = numL (l.take k) * 256 + (l[k].toNat : Int) := by
  rw [List.take_succ_eq_append_getElem h, numL_snoc]
theorem numL_take_bound (l : Bytes) (k : Nat) (h : k ≤ 3) : 0 ≤ numL (l.take k) ∧ numL (l.take k) < 16777216 := by
  have h1 := numL_bound (l.take k)
  have h2 := pow256_le (l.take k).length (3 - (l.take k).length)
  have h3 : (l.take k).length ≤ 3 := by rw [List.length_take]; omega
  rw [show (l.take k).length + (3 - (l.take k).length) = 3 by omega] at h2
  omega
set_option maxRecDepth 100000 in
set_option maxHeartbeats 1000000 in
theorem rnum_any (R : Nat) (r : Rdr) (n : Nat) (w : World) (h : RdrAt R w r) (hn : n ≤ 3) :
    Calls Try.prog 41 #[.pointer (some ⟨R, 0, none⟩), .int .i64 (n : Int)] w fun e w' => e = .returned (.int .i64 (r.num n).1) ∧ RdrAt R w' (r.num n).2 ∧ w.grownBy w' (some R) := by
  have hl := r.take_len n
  have HR := Lib.hid (show r.num n = (numL (r.take n).1, (r.take n).2) from rfl)
  go_enter Try.func41, Try.ntmps41
  go_wp2_with fail
  refine (rtake_any R r n _ h (by omega)).mono ?_
  rintro e w2 ⟨v, rfl, hv, hr, hg⟩
  generalize hB : (r.take n).1 = l at *
  generalize hR : (r.take n).2 = r2 at *
  have HBB := Lib.hid hB
  have HRR := Lib.hid hR
  have Hr := Lib.hid hr
  have Hg := Lib.hid hg
  obtain ⟨ad, cap, rfl, hc1, hc2⟩ := hv.form
  unfold maxLen at hc2
  have HV := Lib.hid hv
  clear hB hR hr hg hv h
  go_wp2_with fail
  go_loop [5, 12] (fun s i => ∃ k : Nat, k ≤ l.length ∧ i = .int .i64 k ∧ s = .int .i64 (numL (l.take k))) (fun _ i => l.length - (intOf i).toNat)
  case atStart => exact ⟨0, Nat.zero_le _, rfl, rfl⟩
  case round =>
    obtain ⟨k, hk, rfl, rfl⟩ := hrel
    obtain ⟨b0, b1⟩ := numL_take_bound l k (by omega)
    by_cases hlt : k < l.length
    · obtain ⟨b, o, rfl, -, hc⟩ := HV.out.cell k hlt
      have HS := Lib.hid (numL_take_succ hlt)
      have hb := l[k].toNat_lt
      generalize hX : numL (l.take k) = X at *
      generalize hY : l[k] = y at *
      have HX := Lib.hid hX
      have HY := Lib.hid hY
      clear hX hY
      go_wp2
      refine ⟨⟨k + 1, by omega, by go_num, ?_⟩, by simp [intOf]; omega⟩
      rw [HS.out, i64_or_byte X y.toNat b0 b1 (by omega) (by omega)]
    · have hke : k = l.length := by omega
      subst hke
      rw [List.take_length]
      go_wp2
      go_ret
      exact ⟨by rw [HR.out]; rfl, by rw [HR.out]; exact Hr.out, Hg.out⟩
end Go.Proofs.Ytgkmgdkmafbohaa
/- wire's reader: digests, batch: what they compute. -/
set_option linter.unusedVariables false
set_option linter.unusedSimpArgs false
namespace Go.Proofs.Ytgkmgdkmafbohaa
open Go Go.RowKit

theorem ownsRow_grown {w w' : World} {base e size n : Nat} {v : Value} {xs : List Value} {row : Option Nat} (h : w.ownsRow base e size v n xs) (hg : w.grownBy w' row) (hr : ∀ k, row = some k → k < base) : w'.ownsRow base e size v n xs := by
  obtain ⟨h1, h2⟩ := h
  refine ⟨h1, ?_⟩
  rcases h2 with h2 | ⟨g, cap, cur, hv, hb, hh, r⟩
  · exact Or.inl h2
  · refine Or.inr ⟨g, cap, cur, hv, hb, ?_, r⟩
    rw [hg.block g (lt_of_block hh) (fun e => by have := hr g e.symm; omega)]; exact hh
theorem LstO.grown {α : Type} {R : Rel α} {G : Nat → Prop} {base e : Nat} {w w' : World} {v : Value} {l : List α} {row : Option Nat} (h : LstO R G base e w v l) (hg : w.grownBy w' row) (hr : ∀ k, row = some k → k < base ∧ ¬ G k) : LstO R G base e w' v l := by
  obtain ⟨vals, h1, h2⟩ := h
  exact ⟨vals, ownsRow_grown h1 hg (fun k hk => (hr k hk).1), fun j x hx => R.keep (h2 j x hx) (Keep.grown hg (fun k hk hh => (hr k hk).2 hh.1)) (fun b hb' => ⟨hb'.1, Nat.lt_of_lt_of_le hb'.2.1 hg.size, hb'.2.2⟩)⟩
theorem elemBBr : ElemOk Try.prog 35 26 1 24 := elemOk_of (z := .slice none 0 0) (by kernel_rfl) (by kernel_rfl) rfl (by decide)

set_option maxRecDepth 100000 in
set_option maxHeartbeats 2000000 in
theorem rdigests_any (R : Nat) (r : Rdr) (w : World) (h : RdrAt R w r) :
    Calls Try.prog 51 #[.pointer (some ⟨R, 0, none⟩)] w fun e w' => ∃ v, e = .returned v ∧ LstO RBytes (fun b => w.heap.size ≤ b) w.heap.size 26 w' v r.digests.1 ∧ RdrAt R w' r.digests.2 ∧ w.grownBy w' (some R) := by
  have zR := h.lt
  have hb := r.num_bound 1
  have HE := Lib.hid (show r.digests = Rdr.many (fun r => r.take 32) (r.num 1).1.toNat (r.num 1).2 from rfl)
  go_enter Try.func51, Try.ntmps51
  go_wp2_with fail
  refine (rnum_any R r 1 _ h (by omega)).mono ?_
  rintro e w2 ⟨rfl, hr, hg⟩
  generalize hN : (r.num 1).1 = n at *
  generalize hR2 : (r.num 1).2 = r2 at *
  obtain ⟨m, rfl⟩ := Int.eq_ofNat_of_zero_le hb.1
  have hm : m < 256 := by have := hb.2; simp at this; omega
  rw [Int.toNat_natCast] at HE
  have HN := Lib.hid hN
  have HR2 := Lib.hid hR2
  have Hr := Lib.hid hr
  have Hg := Lib.hid hg
  clear hN hR2 hr hg h hb
  go_wp2_with fail
  go_loopw [3, 4] (fun v i wx => ∃ (k : Nat) (l : List Bytes) (rk : Rdr), k ≤ m ∧ i = .int .i64 k ∧ LstO RBytes (fun b => w.heap.size ≤ b) w.heap.size 26 wx v l ∧ l.length + k ≤ m ∧ RdrAt R wx rk ∧ w.grownBy wx (some R) ∧ Hid (r.digests = (l ++ (Rdr.many (fun r => r.take 32) k rk).1, (Rdr.many (fun r => r.take 32) k rk).2))) (fun _ i _ => (intOf i).toNat)
  case atStart => exact ⟨m, [], r2, Nat.le_refl _, rfl, LstO.nil _ _ _ _ _, by simp, Hr.out, Hg.out, Lib.hid (by rw [HE.out]; rfl)⟩
  case round =>
    obtain ⟨k, l, rk, hk, rfl, hL, hlk, hr, hg, HEQ⟩ := hrel
    have HL := Lib.hid hL
    have Hr' := Lib.hid hr
    have Hg' := Lib.hid hg
    have c1 : wr.cell? ⟨R, 1, none⟩ = some (.bool rk.short) := by obtain ⟨v, hb, -⟩ := hr; exact hb.cell 1 rfl
    have zr := hr.lt
    have zg := hg.size
    clear hL hr hg
    by_cases hk0 : k = 0
    · subst hk0
      have HF := Lib.hid (show r.digests = (l, rk) by rw [HEQ.out, Rdr.many_zero]; simp)
      go_wp2
      go_ret
      exact ⟨_, rfl, by rw [HF.out]; exact HL.out, by rw [HF.out]; exact Hr'.out, Hg'.out⟩
    obtain ⟨j, rfl⟩ : ∃ j, k = j + 1 := ⟨k - 1, by omega⟩
    have k1 : (0 : Int) < ((j + 1 : Nat) : Int) := by omega
    cases hsh : rk.short
    · have HF := Lib.hid (show r.digests = ((l ++ [(rk.take 32).1]) ++ (Rdr.many (fun r => r.take 32) j (rk.take 32).2).1, (Rdr.many (fun r => r.take 32) j (rk.take 32).2).2) by rw [HEQ.out, Rdr.many_next _ _ _ hsh]; simp)
      rw [hsh] at c1
      clear hsh
      have HN := Lib.hid (Lib.hid hlk)
      have lk : l.length ≤ 256 := by omega
      go_wp2_with fail
      refine (rtake_any R rk 32 _ Hr'.out (by omega)).mono ?_
      rintro e w2 ⟨v2, rfl, hv2, hr2, hg2⟩
      obtain ⟨ad2, cap2, rfl, -, -⟩ := hv2.form
      have z2 := hg2.size
      obtain ⟨vals, hLV⟩ := (HL.out.grown hg2 (fun k e => by simp only [Option.some.injEq] at e; subst e; exact ⟨zR, by omega⟩)).valsOf
      have hlt := hLV.lt
      have HLV := Lib.hid hLV
      obtain ⟨vals0, hO0⟩ := HL.out.own
      have HLV2 := Lib.hid (fun b (e : u3.ownBlock = some b) => (hO0.lt b e).2)
      clear hO0
      have HV2 := Lib.hid hv2
      have Hr2 := Lib.hid hr2
      have Hg2 := Lib.hid (grownBy_trans Hg'.out hg2 (.inl rfl))
      clear hLV hv2 hr2 hg2
      go_wp2_with (at_builtin; refine wpList_append_one rfl _ _ 35 rfl elemBBr w.heap.size _ l.length vals rfl (by exact (HLV.out.own).alloc _) w2.heap.size 26 [.slice ad2 (rk.take 32).1.length cap2] rfl (BoxAt.new w2 [_] _) rfl (by simp [Value.oneCell']) (by unfold maxLen; omega) (by omega) (by simp; omega) ?_; intro g cap w3 hown hgr hat hlt3)
      have hx : RBytes.rd (fun b => w.heap.size ≤ b ∧ b < (w2.alloc (.cells #[.slice ad2 (rk.take 32).1.length cap2] 26)).heap.size ∧ u3.ownBlock ≠ some b) (w2.alloc (.cells #[.slice ad2 (rk.take 32).1.length cap2] 26)) [.slice ad2 (rk.take 32).1.length cap2] (rk.take 32).1 :=
        ⟨_, rfl, (HV2.out.low (by decide)).keep (Keep.alloc _ _ _) (fun b hb => ⟨by omega, by simp; omega, fun e => by have := HLV2.out b e; omega⟩)⟩
      have hP := (HLV.out.alloc (.cells #[.slice ad2 (rk.take 32).1.length cap2] 26)).push (x := (rk.take 32).1) (cs := [.slice ad2 (rk.take 32).1.length cap2]) hx hown hgr hat
      have hrow : ∀ k, u3.ownBlock = some k → w.heap.size ≤ k := fun k e => (hlt k e).1
      have HP := Lib.hid hP
      have HR3 := Lib.hid ((Hr2.out.below ((Below.refl _ _).alloc (Nat.le_refl _) (.cells #[.slice ad2 (rk.take 32).1.length cap2] 26))).grown hgr (fun k e => by have := hrow k e; omega))
      have HG3 := Lib.hid (grownBy_trans (grownBy_trans Hg2.out (World.grownBy_alloc w2 (.cells #[.slice ad2 (rk.take 32).1.length cap2] 26) (some R)) (.inl rfl)) hgr (.inr hrow))
      clear hx hP hown hgr hat hlt hrow
      go_wp2_with fail
      go_roundw
      case rel => exact ⟨j, l ++ [(rk.take 32).1], (rk.take 32).2, by omega, by go_num, HP.out, by simp; omega, HR3.out, HG3.out, HF⟩
      case measure => simp [intOf]
    · have HF := Lib.hid (show r.digests = (l, rk) by rw [HEQ.out, Rdr.many_short _ _ _ hsh]; simp)
      rw [hsh] at c1
      clear hsh
      go_wp2
      go_ret
      exact ⟨_, rfl, by rw [HF.out]; exact HL.out, by rw [HF.out]; exact Hr'.out, Hg'.out⟩
end Go.Proofs.Ytgkmgdkmafbohaa
/- wire's reader: batch, header: what they compute. -/
set_option linter.unusedVariables false
set_option linter.unusedSimpArgs false
namespace Go.Proofs.Ytgkmgdkmafbohaa
open Go Go.RowKit

theorem conv_bytes_str {P : Program} {src dst e : TypeId} (hs : P.underlying src = some (.slice e)) (he : P.underlying e = some (.int .u8)) (hd : P.underlying dst = some .string) {G : Nat → Prop} {w : World} {v : Value} {l : Bytes} (hr : RdB G w v l) :
    (convert src dst v).run P w = .ok (strV l) w := by
  obtain ⟨ad, cap, hf, _⟩ := hr.form
  have h2 := run_bytesToString_rd (P := P) hr
  rw [hf] at h2 ⊢
  rw [run_convert_bytes_string (P := P) w src dst e ad _ cap hs he hd]
  exact h2
theorem elemTx' : ElemOk Try.prog 22 9 1 16 := elemOk_of (z := .string ⟨#[]⟩) (by kernel_rfl) (by kernel_rfl) rfl (by decide)
theorem num1_nat (r : Rdr) : ∃ m : Nat, (r.num 1).1 = (m : Int) ∧ m < 256 := by
  have hb := r.num_bound 1
  obtain ⟨m, hm⟩ := Int.eq_ofNat_of_zero_le hb.1
  exact ⟨m, hm, by have := hb.2; simp at this; omega⟩

theorem RdrAt.set {R b j : Nat} {w : World} {r : Rdr} (h : RdrAt R w r) (hb : R < b) (u : Value) : RdrAt R (w.setCell ⟨b, j, none⟩ u) r :=
  h.grown (grownBy_setCell w b j u) (fun k e => by simp only [Option.some.injEq] at e; omega)
theorem grownBy_set' {w w' : World} {row : Option Nat} {b j : Nat} (h : w.grownBy w' row) (hb : w.heap.size ≤ b) (u : Value) : w.grownBy (w'.setCell ⟨b, j, none⟩ u) row :=
  grownBy_trans h (grownBy_setCell w' b j u) (.inr fun k e => by simp only [Option.some.injEq] at e; omega)
set_option maxRecDepth 100000 in
set_option maxHeartbeats 4000000 in
theorem rbatch_any (R : Nat) (r : Rdr) (w : World) (h : RdrAt R w r) :
    Calls Try.prog 42 #[.pointer (some ⟨R, 0, none⟩)] w fun e w' => ∃ v, e = .returned (.agg #[.int .i64 r.batch.1.a, .int .i64 r.batch.1.n, v]) ∧
      w'.ownsRow w.heap.size 9 1 v r.batch.1.txs.length (r.batch.1.txs.map fun s => strV s) ∧ RdrAt R w' r.batch.2 ∧ w.grownBy w' (some R) := by
  have zR := h.lt
  have HE := Lib.hid (show r.batch = (⟨(r.num 1).1, ((r.num 1).2.num 3).1, (Rdr.many Rdr.text (((r.num 1).2.num 3).2.num 1).1.toNat (((r.num 1).2.num 3).2.num 1).2).1⟩, (Rdr.many Rdr.text (((r.num 1).2.num 3).2.num 1).1.toNat (((r.num 1).2.num 3).2.num 1).2).2) from rfl)
  have hb0 := r.num_bound 1
  have hb1 := (r.num 1).2.num_bound 3
  obtain ⟨m, hm, hm2⟩ := num1_nat ((r.num 1).2.num 3).2
  go_enter Try.func42, Try.ntmps42
  go_wp2_with fail
  refine (rnum_any R r 1 _ (h.below ((Below.refl _ _).alloc (Nat.le_refl _) _)) (by omega)).mono ?_
  rintro e w2 ⟨rfl, hr2, hg2⟩
  go_wp2_with fail
  refine (rnum_any R _ 3 _ hr2 (by omega)).mono ?_
  rintro e w3 ⟨rfl, hr3, hg3⟩
  go_upto_region 2 with fail
  obtain ⟨w4, hw4⟩ : ∃ w4, w4 = w3.alloc (.cells #[.int .i64 (r.num 1).1, .int .i64 ((r.num 1).2.num 3).1, .slice none 0 0] 34) := ⟨_, rfl⟩
  have hb4 : Below w3.heap.size w3 w4 := by rw [hw4]; exact (Below.refl _ _).alloc (Nat.le_refl _) _
  have bX : BoxAt w4 w3.heap.size [.int .i64 (r.num 1).1, .int .i64 ((r.num 1).2.num 3).1, .slice none 0 0] 34 := by rw [hw4]; exact BoxAt.new w3 [_, _, _] _
  rw [← hw4]
  have hg23 := grownBy_trans hg2 hg3 (.inl rfl)
  have hrow : ∀ k, some R = some k → w.heap.size ≠ k := fun k e => by simp only [Option.some.injEq] at e; omega
  have bH : BoxAt w4 w.heap.size [.int .i64 0, .int .i64 0, .slice none 0 0] 34 := ((BoxAt.new w [_, _, _] _).grown hg23 (fun e => hrow _ e rfl)).belowS hb4
  have hg4 : w.grownBy w4 (some R) := grownBy_trans (grownBy_trans (World.grownBy_alloc w _ _) hg23 (.inl rfl)) (grownBy_of_below hb4 _) (.inl rfl)
  have hX : w.heap.size < w3.heap.size := by have := hg23.size; simp at this; omega
  generalize hXX : w3.heap.size = X at *
  generalize hA : (r.num 1).1 = a at *
  generalize hN : ((r.num 1).2.num 3).1 = nn at *
  have hr4 := hr3.below (w' := w4) (by rw [hXX]; exact hb4)
  generalize hR4 : ((r.num 1).2.num 3).2 = r4 at *
  have HBX := Lib.hid bX
  have HBH := Lib.hid bH
  have Hg4 := Lib.hid hg4
  clear hXX hA hN hR4 hw4 hb4 hg23 hrow bX bH hg4 hg2 hg3 hr2 hr3 h
  go_wp2_with fail
  refine (rnum_any R r4 1 _ hr4 (by omega)).mono ?_
  rintro e w5 ⟨rfl, hr5, hg5⟩
  rw [hm]
  rw [hm, Int.toNat_natCast] at HE
  generalize hR5 : (r4.num 1).2 = r5 at *
  have HBX5 := Lib.hid (HBX.out.grown hg5 (fun e => by simp only [Option.some.injEq] at e; omega))
  have HBH5 := Lib.hid (HBH.out.grown hg5 (fun e => by simp only [Option.some.injEq] at e; omega))
  have Hg5 := Lib.hid (grownBy_trans Hg4.out hg5 (.inl rfl))
  have Hr5 := Lib.hid hr5
  clear hR5 hm hg5 hr5 hr4 HBX HBH Hg4
  go_wp2_with fail
  go_loopw [4] (fun i wx => ∃ (k : Nat) (l : List Bytes) (vt : Value) (rk : Rdr), k ≤ m ∧ i = .int .i64 k ∧ BoxAt wx X [.int .i64 a, .int .i64 nn, vt] 34 ∧ BoxAt wx w.heap.size [.int .i64 0, .int .i64 0, .slice none 0 0] 34 ∧
      wx.ownsRow (X + 1) 9 1 vt l.length (l.map fun s => strV s) ∧ l.length + k ≤ m ∧ RdrAt R wx rk ∧ w.grownBy wx (some R) ∧ Hid (r.batch = (⟨a, nn, l ++ (Rdr.many Rdr.text k rk).1⟩, (Rdr.many Rdr.text k rk).2))) (fun i _ => (intOf i).toNat)
  case atStart => exact ⟨m, [], _, r5, Nat.le_refl _, rfl, HBX5.out, HBH5.out, World.ownsRow_nil _ _ _ _, by simp, Hr5.out, Hg5.out, Lib.hid HE.out⟩
  case round =>
    clear HBX5 HBH5 Hg5 Hr5
    obtain ⟨k, l, vt, rk, hk, rfl, bX, bH, hown, hlk, hr, hg, HEQ⟩ := hrel
    obtain ⟨ad, cap, rfl⟩ := ownsRow_form hown
    have HBX := Lib.hid bX
    have HBH := Lib.hid bH
    have HO := Lib.hid hown
    have Hr := Lib.hid hr
    have Hg := Lib.hid hg
    have hvlt := hown.lt
    have c1 : wr.cell? ⟨R, 1, none⟩ = some (.bool rk.short) := by obtain ⟨v, hb, -⟩ := hr; exact hb.cell 1 rfl
    have zr := hr.lt
    have zX := bX.lt
    have hz := hg.size
    by_cases hstop : k = 0 ∨ rk.short = true
    · have HF := Lib.hid (show r.batch = (⟨a, nn, l⟩, rk) by
        rw [HEQ.out]
        rcases hstop with e | e
        · subst e; rw [Rdr.many_zero]; simp
        · rw [Rdr.many_short _ _ _ e]; simp)
      have x0 := bX.cell 0 rfl
      have x1 := bX.cell 1 rfl
      have x2 := bX.cell 2 rfl
      have y0 := bH.cell 0 rfl
      have y1 := bH.cell 1 rfl
      have y2 := bH.cell 2 rfl
      have f0 := bH.free 0
      have f1 := bH.free 1
      have f2 := bH.free 2
      have n1 : w.heap.size ≠ X := by omega
      clear bX bH hown hr hg
      clear HEQ hvlt
      rcases Nat.eq_zero_or_pos k with e | e1
      · subst e
        clear hstop c1
        go_wp2
        have HY := ((HBH.out.set 0 (.int .i64 a)).set 1 (.int .i64 nn)).set 2 (.slice ad l.length cap)
        have g0 := HY.cell 0 rfl
        have g1 := HY.cell 1 rfl
        have g2 := HY.cell 2 rfl
        refine bodyPost_ret (v := .agg #[.int .i64 a, .int .i64 nn, .slice ad l.length cap]) (by simp [results, Try.results42, go_sem, g0, g1, g2]) rfl ⟨.slice ad l.length cap, by rw [HF.out], ?_, by rw [HF.out]; exact ((Hr.out.set zR _).set zR _).set zR _, grownBy_set' (grownBy_set' (grownBy_set' Hg.out (Nat.le_refl _) _) (Nat.le_refl _) _) (Nat.le_refl _) _⟩
        rw [HF.out]
        exact ownsRow_mono (ownsRow_setCell (ownsRow_setCell (ownsRow_setCell HO.out (by simp; omega) _) (by simp; omega) _) (by simp; omega) _) (by omega)
      · have e2 : rk.short = true := by rcases hstop with e | e; omega; exact e
        have k1 : (0 : Int) < (k : Int) := by omega
        rw [e2] at c1
        clear hstop e2
        go_wp2
        have HY := ((HBH.out.set 0 (.int .i64 a)).set 1 (.int .i64 nn)).set 2 (.slice ad l.length cap)
        have g0 := HY.cell 0 rfl
        have g1 := HY.cell 1 rfl
        have g2 := HY.cell 2 rfl
        refine bodyPost_ret (v := .agg #[.int .i64 a, .int .i64 nn, .slice ad l.length cap]) (by simp [results, Try.results42, go_sem, g0, g1, g2]) rfl ⟨.slice ad l.length cap, by rw [HF.out], ?_, by rw [HF.out]; exact ((Hr.out.set zR _).set zR _).set zR _, grownBy_set' (grownBy_set' (grownBy_set' Hg.out (Nat.le_refl _) _) (Nat.le_refl _) _) (Nat.le_refl _) _⟩
        rw [HF.out]
        exact ownsRow_mono (ownsRow_setCell (ownsRow_setCell (ownsRow_setCell HO.out (by simp; omega) _) (by simp; omega) _) (by simp; omega) _) (by omega)
    · obtain ⟨j, rfl⟩ : ∃ j, k = j + 1 := ⟨k - 1, by omega⟩
      have hsh : rk.short = false := by cases q : rk.short; rfl; exact absurd (.inr q) hstop
      have k1 : (0 : Int) < ((j + 1 : Nat) : Int) := by omega
      rw [hsh] at c1
      have HF := Lib.hid (show r.batch = (⟨a, nn, (l ++ [rk.text.1]) ++ (Rdr.many Rdr.text j rk.text.2).1⟩, (Rdr.many Rdr.text j rk.text.2).2) by rw [HEQ.out, Rdr.many_next _ _ _ hsh]; simp)
      obtain ⟨q, hq, hq2⟩ := num1_nat rk
      have HT := Lib.hid (show rk.text = (rk.num 1).2.take q by unfold Rdr.text; rw [hq, Int.toNat_natCast])
      generalize rk.text = T at *
      have x2 := bX.cell 2 rfl
      have f2 := bX.free 2
      have lk : l.length ≤ 256 := by omega
      have nXR : X ≠ R := by omega
      clear bX bH hown hr hg hstop hsh HEQ
      have HH := Lib.hid hlk
      clear hlk
      go_wp2_with fail
      go_region_law
        (first
          | ((refine step_append_one (by rfl) _ _ _ (by rfl) elemTx' (X + 1) (.slice ad l.length cap) l.length _ (by rfl) (by exact HO7.out.alloc _) _ 9 [strV T.1] (by rfl) (by exact BoxAt.new _ [_] _) rfl (by simp [Value.oneCell']) (by unfold maxLen; omega) (by omega) (by simp; omega) ?_; intro g cap3 w8 hown8 hgr hat hlt8;
              have bX8 := ((HBX7.out).alloc (.cells #[strV T.1] 9)).grown (w' := w8) hgr (fun e => by have := (hvlt _ e).1; omega);
              have x2 := bX8.cell 2 rfl; have f2 := bX8.free 2))
          | ((go_simp; go_at_call 41; refine (rnum_any R rk 1 _ (Hr.out.below (Below.refl _ _).drew) (by omega)).mono ?_; rintro e w6 ⟨rfl, hr6, hg6⟩; rw [hq]; have x2 := ((HBX.out.drew).grown hg6 (fun e => by simp only [Option.some.injEq] at e; omega)).cell 2 rfl; have Hr6 := Lib.hid hr6; have Hg6 := Lib.hid hg6; clear hr6 hg6))
          | ((go_simp; go_at_call 44; refine (rtake_any R _ q _ Hr6.out (by omega)).mono ?_; rintro e w7 ⟨v7, rfl, hv7, hr7, hg7⟩; rw [← HT.out] at hv7 hr7; have hcv := conv_bytes_str (P := Try.prog) Try.underlying26 Try.underlying5 Try.underlying9 hv7; have Hg7 := Lib.hid (grownBy_trans (grownBy_trans (grownBy_of_below (Below.refl wr.heap.size wr).drew _) Hg6.out (.inl rfl)) hg7 (.inl rfl)); have HBX7 := Lib.hid (HBX.out.grown Hg7.out (fun e => by simp only [Option.some.injEq] at e; omega)); have HO7 := Lib.hid (ownsRow_grown HO.out Hg7.out (fun k e => by simp only [Option.some.injEq] at e; omega)); have x2 := HBX7.out.cell 2 rfl; have z7 := HBX7.out.lt; have Hr7 := Lib.hid hr7; clear hv7 hr7 hg7)))
      all_goals
        have hrow : ∀ k, (Value.slice ad l.length cap).ownBlock = some k → X < k := fun k e => by have := (hvlt k e).1; omega
        have HB8 := Lib.hid (bX8.set 2 (.slice (some ⟨g, 0, none⟩) (l.length + 1) cap3))
        have HH8 := Lib.hid ((((HBH.out.grown Hg7.out (fun e => by simp only [Option.some.injEq] at e; omega)).alloc (.cells #[strV T.1] 9)).grown hgr (fun e => by have := hrow _ e; omega)).setOther (p := ⟨X, 2, none⟩) (by simp; omega) (.slice (some ⟨g, 0, none⟩) (l.length + 1) cap3))
        have HO8 := Lib.hid (ownsRow_setCell (p := ⟨X, 2, none⟩) hown8 (by simp) (.slice (some ⟨g, 0, none⟩) (l.length + 1) cap3))
        have HR8 := Lib.hid (((Hr7.out.below ((Below.refl _ _).alloc (Nat.le_refl _) (.cells #[strV T.1] 9))).grown hgr (fun k e => by have := hrow k e; omega)).set (b := X) (j := 2) (by omega) (.slice (some ⟨g, 0, none⟩) (l.length + 1) cap3))
        have HG8 := Lib.hid (grownBy_set' (b := X) (j := 2) (grownBy_trans (grownBy_trans (grownBy_trans Hg.out Hg7.out (.inl rfl)) (World.grownBy_alloc w7 (.cells #[strV T.1] 9) (some R)) (.inl rfl)) hgr (.inr fun k e => by have := hrow k e; omega)) (by omega) (.slice (some ⟨g, 0, none⟩) (l.length + 1) cap3))
        clear hown8 hgr hat bX8 hvlt hrow
        go_wp2
        go_roundw
        case rel => exact ⟨j, l ++ [T.1], _, T.2, by omega, by go_num, HB8.out, HH8.out, by rw [List.length_append, List.map_append]; exact HO8.out, by have := HH.out; simp; omega, HR8.out, HG8.out, HF⟩
        case measure => simp [intOf]
end Go.Proofs.Ytgkmgdkmafbohaa
/- wire's reader: header: what it computes. -/
set_option linter.unusedVariables false
set_option linter.unusedSimpArgs false
namespace Go.Proofs.Ytgkmgdkmafbohaa
open Go Go.RowKit

theorem LstO.rdNew {w w' : World} {v : Value} {l : List Bytes} (h : LstO RBytes (fun b => w.heap.size ≤ b) w.heap.size 26 w' v l) : RdBB (fun b => w.heap.size ≤ b) w' v l :=
  h.rd (by decide) (fun b hb _ => hb) (fun b hb _ => hb)
theorem RdS.grownR {α : Type} {Rl : Rel α} {G : Nat → Prop} {w w' : World} {v : Value} {l : List α} {R : Nat} (h : RdS Rl G w v l) (hg : w.grownBy w' (some R)) (hR : ¬ G R) : RdS Rl G w' v l :=
  h.keep (Keep.grown hg (fun k e => by simp only [Option.some.injEq] at e; subst e; exact hR)) (fun _ h => h)
set_option maxRecDepth 100000 in
set_option maxHeartbeats 4000000 in
theorem rheader_any (R : Nat) (r : Rdr) (w : World) (h : RdrAt R w r) :
    Calls Try.prog 43 #[.pointer (some ⟨R, 0, none⟩)] w fun e w' => ∃ vb vp, e = .returned (.agg #[.int .i64 r.header.1.a, .int .i64 r.header.1.r, vb, vp]) ∧
      RdBB (fun b => w.heap.size ≤ b) w' vb r.header.1.bs ∧ RdBB (fun b => w.heap.size ≤ b) w' vp r.header.1.ps ∧ RdrAt R w' r.header.2 ∧ w.grownBy w' (some R) := by
  have zR := h.lt
  have HE := Lib.hid (show r.header = (⟨(r.num 1).1, ((r.num 1).2.num 3).1, ((r.num 1).2.num 3).2.digests.1, ((r.num 1).2.num 3).2.digests.2.digests.1⟩, ((r.num 1).2.num 3).2.digests.2.digests.2) from rfl)
  have hb0 := r.num_bound 1
  have hb1 := (r.num 1).2.num_bound 3
  go_enter Try.func43, Try.ntmps43
  go_wp2_with fail
  refine (rnum_any R r 1 _ (h.below ((Below.refl _ _).alloc (Nat.le_refl _) _)) (by omega)).mono ?_
  rintro e w2 ⟨rfl, hr2, hg2⟩
  go_wp2_with fail
  refine (rnum_any R _ 3 _ hr2 (by omega)).mono ?_
  rintro e w3 ⟨rfl, hr3, hg3⟩
  go_upto_region 2 with fail
  obtain ⟨w4, hw4⟩ : ∃ w4, w4 = w3.alloc (.cells #[.int .i64 (r.num 1).1, .int .i64 ((r.num 1).2.num 3).1, .slice none 0 0, .slice none 0 0] 37) := ⟨_, rfl⟩
  have hb4 : Below w3.heap.size w3 w4 := by rw [hw4]; exact (Below.refl _ _).alloc (Nat.le_refl _) _
  have bX : BoxAt w4 w3.heap.size [.int .i64 (r.num 1).1, .int .i64 ((r.num 1).2.num 3).1, .slice none 0 0, .slice none 0 0] 37 := by rw [hw4]; exact BoxAt.new w3 [_, _, _, _] _
  rw [← hw4]
  have hg23 := grownBy_trans hg2 hg3 (.inl rfl)
  have hrow : ∀ k, some R = some k → w.heap.size ≠ k := fun k e => by simp only [Option.some.injEq] at e; omega
  have bH : BoxAt w4 w.heap.size [.int .i64 0, .int .i64 0, .slice none 0 0, .slice none 0 0] 37 := ((BoxAt.new w [_, _, _, _] _).grown hg23 (fun e => hrow _ e rfl)).belowS hb4
  have hg4 : w.grownBy w4 (some R) := grownBy_trans (grownBy_trans (World.grownBy_alloc w _ _) hg23 (.inl rfl)) (grownBy_of_below hb4 _) (.inl rfl)
  have hX : w.heap.size < w3.heap.size := by have := hg23.size; simp at this; omega
  generalize hXX : w3.heap.size = X at *
  generalize hA : (r.num 1).1 = a at *
  generalize hN : ((r.num 1).2.num 3).1 = nn at *
  have hr4 := hr3.below (w' := w4) (by rw [hXX]; exact hb4)
  generalize hR4 : ((r.num 1).2.num 3).2 = r4 at *
  have HBX := Lib.hid bX
  have HBH := Lib.hid bH
  have Hg4 := Lib.hid hg4
  clear hXX hA hN hR4 hw4 hb4 hg23 hrow bX bH hg4 hg2 hg3 hr2 hr3 h
  go_wp2_with fail
  refine (rdigests_any R r4 _ hr4).mono ?_
  rintro e w5 ⟨vb, rfl, hL5, hr5, hg5⟩
  have hL5' := hL5.rdNew
  generalize hD5 : r4.digests.1 = bs at *
  obtain ⟨adb, capb, rfl, -, -⟩ := hL5'.form
  have bX5 := HBX.out.grown hg5 (fun e => by simp only [Option.some.injEq] at e; omega)
  have p2 := bX5.cell 2 rfl
  have f2 := bX5.free 2
  have HBX5 := Lib.hid (bX5.set 2 (.slice adb bs.length capb))
  have HBH5 := Lib.hid ((HBH.out.grown hg5 (fun e => by simp only [Option.some.injEq] at e; omega)).setOther (p := ⟨X, 2, none⟩) (by simp; omega) (.slice adb bs.length capb))
  have Hg5 := Lib.hid (grownBy_set' (b := X) (j := 2) (grownBy_trans Hg4.out hg5 (.inl rfl)) (by omega) (.slice adb bs.length capb))
  have hr5' := hr5.set (b := X) (j := 2) (by omega) (.slice adb bs.length capb)
  have zX4 := HBX.out.lt
  have HL5 := Lib.hid (hL5'.keep (Keep.setCell (p := ⟨X, 2, none⟩) (by simp; omega) (.slice adb bs.length capb)) (fun _ h => h))
  have z45 := Hg4.out.size
  have z55 := hg5.size
  clear hL5 hL5' hr5 hg5 hr4 bX5
  go_wp2_with fail
  refine (rdigests_any R _ _ hr5').mono ?_
  rintro e w6 ⟨vp, rfl, hL6, hr6, hg6⟩
  have hL6' := hL6.rdNew
  generalize hD6 : r4.digests.2.digests.1 = ps at *
  obtain ⟨adp, capp, rfl, -, -⟩ := hL6'.form
  have bX6 := HBX5.out.grown hg6 (fun e => by simp only [Option.some.injEq] at e; omega)
  have bH6 := HBH5.out.grown hg6 (fun e => by simp only [Option.some.injEq] at e; omega)
  have q0 := bX6.cell 0 rfl
  have q1 := bX6.cell 1 rfl
  have q2 := bX6.cell 2 rfl
  have q3 := bX6.cell 3 rfl
  have qf := bX6.free 3
  have y0 := bH6.cell 0 rfl
  have y1 := bH6.cell 1 rfl
  have y2 := bH6.cell 2 rfl
  have y3 := bH6.cell 3 rfl
  have g0 := bH6.free 0
  have g1 := bH6.free 1
  have g2 := bH6.free 2
  have g3 := bH6.free 3
  have n1 : w.heap.size ≠ X := by omega
  have Hg6 := Lib.hid (grownBy_trans Hg5.out hg6 (.inl rfl))
  have HL5' := Lib.hid (HL5.out.grownR hg6 (by omega))
  have HL6 := Lib.hid hL6'
  have Hr6 := Lib.hid hr6
  have HY := Lib.hid (((((bH6.setOther (p := ⟨X, 3, none⟩) (by simp; omega) (.slice adp ps.length capp)).set 0 (.int .i64 a)).set 1 (.int .i64 nn)).set 2 (.slice adb bs.length capb)).set 3 (.slice adp ps.length capp))
  clear hL6 hL6' hr6 hg6 hr5' bX6 bH6 HL5 p2 f2 HBX HBH HBX5 HBH5
  have z6 := Hg6.out.size
  go_wp2
  have u0 := HY.out.cell 0 rfl
  have u1 := HY.out.cell 1 rfl
  have u2 := HY.out.cell 2 rfl
  have u3 := HY.out.cell 3 rfl
  refine bodyPost_ret (v := .agg #[.int .i64 a, .int .i64 nn, .slice adb bs.length capb, .slice adp ps.length capp]) (by simp [results, Try.results43, go_sem, u0, u1, u2, u3]) rfl ⟨.slice adb bs.length capb, .slice adp ps.length capp, by rw [HE.out], ?_, ?_, ?_, ?_⟩
  · rw [HE.out]
    exact HL5'.out.keep (Keep.setCell' (Keep.setCell' (Keep.setCell' (Keep.setCell' (Keep.setCell (p := ⟨X, 3, none⟩) (by simp; omega) _) (p := ⟨w.heap.size, 0, none⟩) (by simp; omega) _) (p := ⟨w.heap.size, 1, none⟩) (by simp; omega) _) (p := ⟨w.heap.size, 2, none⟩) (by simp; omega) _) (p := ⟨w.heap.size, 3, none⟩) (by simp; omega) _) (fun b hb => by omega)
  · rw [HE.out]
    simp only [hD6]
    exact HL6.out.keep (Keep.setCell' (Keep.setCell' (Keep.setCell' (Keep.setCell' (Keep.setCell (p := ⟨X, 3, none⟩) (by simp [World.setCell]; omega) _) (p := ⟨w.heap.size, 0, none⟩) (by simp [World.setCell]; omega) _) (p := ⟨w.heap.size, 1, none⟩) (by simp [World.setCell]; omega) _) (p := ⟨w.heap.size, 2, none⟩) (by simp [World.setCell]; omega) _) (p := ⟨w.heap.size, 3, none⟩) (by simp [World.setCell]; omega) _) (fun b hb => by simp [World.setCell] at hb; omega)
  · rw [HE.out]
    exact ((((Hr6.out.set (by omega) _).set zR _).set zR _).set zR _).set zR _
  · exact grownBy_set' (grownBy_set' (grownBy_set' (grownBy_set' (grownBy_set' Hg6.out (by omega) _) (Nat.le_refl _) _) (Nat.le_refl _) _) (Nat.le_refl _) _) (Nat.le_refl _) _
end Go.Proofs.Ytgkmgdkmafbohaa
