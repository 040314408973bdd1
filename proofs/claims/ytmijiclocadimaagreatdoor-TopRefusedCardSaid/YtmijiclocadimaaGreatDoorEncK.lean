/- wire.Encode, kind by kind: what it computes. -/
import Derived.Test.YtmijiclocadimaaGreatDoorEnc3
import Derived.Test.YtmijiclocadimaaGreatDoorMsgC
set_option linter.unusedVariables false
set_option linter.unusedSimpArgs false
namespace Go.Proofs.YtmijiclocadimaaGreatDoor
open Go Go.RowKit

set_option maxRecDepth 100000 in
set_option maxHeartbeats 8000000 in
theorem wencode_1 {G : Nat → Prop} {txs : List Bytes} (f t ba bn : Int) (a1 : Option Addr) (c1 : Nat) (ha hr : Int) (a2 : Option Addr) (nbs : Nat) (c2 : Nat) (a3 : Option Addr) (nps : Nat) (c3 : Nat) (sa sr : Int) (a4 : Option Addr) (nd : Nat) (c4 : Nat) (ca cr : Int) (a5 : Option Addr) (ncb : Nat) (c5 : Nat) (a6 : Option Addr) (ncp : Nat) (c6 : Nat) (a7 : Option Addr) (nvs : Nat) (c7 : Nat) (r : Int) (w : World)
    (hC : ∀ w', Below w.heap.size w w' → Calls Tryz.prog 73 #[.agg #[.int .i64 f, .int .i64 t, .int .i64 1, .int .i64 ba, .int .i64 bn, .slice a1 txs.length c1, .int .i64 ha, .int .i64 hr, .slice a2 nbs c2, .slice a3 nps c3, .int .i64 sa, .int .i64 sr, .slice a4 nd c4, .int .i64 ca, .int .i64 cr, .slice a5 ncb c5, .slice a6 ncp c6, .slice a7 nvs c7, .int .i64 r]] w' fun e w'' => e = .returned (.int .i64 0) ∧ Below w'.heap.size w' w'')
    (f0 : 0 ≤ f) (f1 : f < 4) (t0 : 0 ≤ t) (t1 : t < 4) (g1 : RdT G w (.slice a1 txs.length c1) txs) (k1 : ∀ x ∈ txs, txLen x = true) (k2 : txs.length ≤ 4) (z0 : 0 ≤ ba) (z1 : ba < 4) (z2 : 0 ≤ bn) (z3 : bn ≤ 1048576) :
    Calls Tryz.prog 46 #[.agg #[.int .i64 f, .int .i64 t, .int .i64 1, .int .i64 ba, .int .i64 bn, .slice a1 txs.length c1, .int .i64 ha, .int .i64 hr, .slice a2 nbs c2, .slice a3 nps c3, .int .i64 sa, .int .i64 sr, .slice a4 nd c4, .int .i64 ca, .int .i64 cr, .slice a5 ncb c5, .slice a6 ncp c6, .slice a7 nvs c7, .int .i64 r]] w fun e w' => ∃ v', e = .returned (.tuple #[v', .int .i64 0]) ∧
      w'.ownsRow w.heap.size 5 1 v' (byteZ 1 :: byteZ f :: byteZ t :: (putBatchL ⟨ba, bn, txs⟩)).length (byteVs (byteZ 1 :: byteZ f :: byteZ t :: (putBatchL ⟨ba, bn, txs⟩))) ∧ Below w.heap.size w w' := by
  have G1 := Lib.hid (g1.low (by decide))
  have HC := Lib.hid hC
  have K1 := Lib.hid k1
  clear g1 hC k1
  go_enter Tryz.func46, Tryz.ntmps46
  go_upto_region 1 with fail
  obtain ⟨w1, hw1⟩ : ∃ w1, w1 = w.alloc (.cells #[.int .i64 f, .int .i64 t, .int .i64 1, .int .i64 ba, .int .i64 bn, .slice a1 txs.length c1, .int .i64 ha, .int .i64 hr, .slice a2 nbs c2, .slice a3 nps c3, .int .i64 sa, .int .i64 sr, .slice a4 nd c4, .int .i64 ca, .int .i64 cr, .slice a5 ncb c5, .slice a6 ncp c6, .slice a7 nvs c7, .int .i64 r] 106) := ⟨_, rfl⟩
  have bx : BoxAt w1 w.heap.size [.int .i64 f, .int .i64 t, .int .i64 1, .int .i64 ba, .int .i64 bn, .slice a1 txs.length c1, .int .i64 ha, .int .i64 hr, .slice a2 nbs c2, .slice a3 nps c3, .int .i64 sa, .int .i64 sr, .slice a4 nd c4, .int .i64 ca, .int .i64 cr, .slice a5 ncb c5, .slice a6 ncp c6, .slice a7 nvs c7, .int .i64 r] 106 := by rw [hw1]; exact BoxAt.new w [.int .i64 f, .int .i64 t, .int .i64 1, .int .i64 ba, .int .i64 bn, .slice a1 txs.length c1, .int .i64 ha, .int .i64 hr, .slice a2 nbs c2, .slice a3 nps c3, .int .i64 sa, .int .i64 sr, .slice a4 nd c4, .int .i64 ca, .int .i64 cr, .slice a5 ncb c5, .slice a6 ncp c6, .slice a7 nvs c7, .int .i64 r] _
  have hb1 : Below w.heap.size w w1 := by rw [hw1]; exact (Below.refl _ _).alloc (Nat.le_refl _) _
  have zz1 : w1.heap.size = w.heap.size + 1 := by rw [hw1]; simp
  rw [← hw1]
  have HBX1 := Lib.hid bx
  have HB1 := Lib.hid hb1
  have HZ1 := Lib.hid zz1
  clear hw1 bx hb1 zz1
  go_wp2_with (refine wpList_load_box rfl 106 _ rfl w.heap.size rfl [.int .i64 f, .int .i64 t, .int .i64 1, .int .i64 ba, .int .i64 bn, .slice a1 txs.length c1, .int .i64 ha, .int .i64 hr, .slice a2 nbs c2, .slice a3 nps c3, .int .i64 sa, .int .i64 sr, .slice a4 nd c4, .int .i64 ca, .int .i64 cr, .slice a5 ncb c5, .slice a6 ncp c6, .slice a7 nvs c7, .int .i64 r] 106 HBX1.out Tryz.underlying106 rfl (by kernel_rfl) ?_)
  refine (HC.out w1 HB1.out).mono ?_
  rintro e w2 ⟨rfl, hb2⟩
  have bx2 := HBX1.out.belowS hb2
  have hbw2 : Below w.heap.size w w2 := HB1.out.trans (hb2.mono HB1.out.size)
  have hX2 : w.heap.size < w2.heap.size := bx2.lt
  have R1 := Lib.hid (G1.out.below hbw2 (fun _ h => h))
  have x0 := bx2.cell 0 rfl
  have x1 := bx2.cell 1 rfl
  have x2 := bx2.cell 2 rfl
  have x3 := bx2.cell 3 rfl
  have x4 := bx2.cell 4 rfl
  have x5 := bx2.cell 5 rfl
  have HBX := Lib.hid bx2
  have HBW := Lib.hid hbw2
  clear bx2 hbw2 hb2
  have hlit : ∀ (q : World), q.heap.size = w2.heap.size → byteVs [byteZ 1, byteZ f, byteZ t] = [Value.int .u8 1, .int .u8 f, .int .u8 t] := fun _ _ => by
    simp only [byteVs, List.map_cons, List.map_nil, byteZ_toNat, show (f % 256) = f by omega, show (t % 256) = t by omega, show ((1 : Int) % 256) = 1 by decide]
  have HLIT := Lib.hid (hlit w2 rfl)
  clear hlit
  have HOWN := Lib.hid (show (w2.alloc (.cells #[.int .u8 1, .int .u8 f, .int .u8 t] 5)).ownsRow w2.heap.size 5 1 (.slice (some ⟨w2.heap.size, 0, none⟩) 3 3) [byteZ 1, byteZ f, byteZ t].length (byteVs [byteZ 1, byteZ f, byteZ t]) by rw [HLIT.out]; exact lit_ownsN w2 [.int .u8 1, .int .u8 f, .int .u8 t] _)
  go_wp2_with fail
  refine (putBatch_any w2.heap.size _ [byteZ 1, byteZ f, byteZ t] ba bn _ txs _ HOWN.out (by simp) (by simp) (R1.out.keep (Keep.alloc _ _ _) (fun _ h => h)) K1.out k2 (fun b hb => by have := hb.2; simp [Value.ownBlock]; omega) z0 z1 z2 z3).mono ?_
  rintro e w3 ⟨v3, rfl, hA⟩
  have hown := ownsRow_mono hA.own (Nat.le_of_lt hX2)
  have hfin : Below w.heap.size w w3 := hA.bel (HBW.out.alloc (Nat.le_of_lt hX2) _) (by simp; omega) (fun k hk => by simp [Value.ownBlock] at hk; omega)
  have HOW := Lib.hid hown
  clear hA hown
  go_wp2
  refine bodyPost_ret (v := .tuple #[v3, .int .i64 0]) (by simp [results, Tryz.results46, go_sem]) rfl ⟨_, rfl, by simpa using HOW.out, hfin⟩
set_option maxRecDepth 100000 in
set_option maxHeartbeats 8000000 in
theorem wencode_2 {G : Nat → Prop} {bs ps : List Bytes} (f t ba bn : Int) (a1 : Option Addr) (ntx : Nat) (c1 : Nat) (ha hr : Int) (a2 : Option Addr) (c2 : Nat) (a3 : Option Addr) (c3 : Nat) (sa sr : Int) (a4 : Option Addr) (nd : Nat) (c4 : Nat) (ca cr : Int) (a5 : Option Addr) (ncb : Nat) (c5 : Nat) (a6 : Option Addr) (ncp : Nat) (c6 : Nat) (a7 : Option Addr) (nvs : Nat) (c7 : Nat) (r : Int) (w : World)
    (hC : ∀ w', Below w.heap.size w w' → Calls Tryz.prog 73 #[.agg #[.int .i64 f, .int .i64 t, .int .i64 2, .int .i64 ba, .int .i64 bn, .slice a1 ntx c1, .int .i64 ha, .int .i64 hr, .slice a2 bs.length c2, .slice a3 ps.length c3, .int .i64 sa, .int .i64 sr, .slice a4 nd c4, .int .i64 ca, .int .i64 cr, .slice a5 ncb c5, .slice a6 ncp c6, .slice a7 nvs c7, .int .i64 r]] w' fun e w'' => e = .returned (.int .i64 0) ∧ Below w'.heap.size w' w'')
    (f0 : 0 ≤ f) (f1 : f < 4) (t0 : 0 ≤ t) (t1 : t < 4) (g2 : RdBB G w (.slice a2 bs.length c2) bs) (g3 : RdBB G w (.slice a3 ps.length c3) ps) (k1 : ∀ x ∈ bs, x.length = 32) (k2 : ∀ x ∈ ps, x.length = 32) (k3 : bs.length ≤ 10) (k4 : ps.length ≤ 10) (z0 : 0 ≤ ha) (z1 : ha < 4) (z2 : 0 ≤ hr) (z3 : hr ≤ 1048576) :
    Calls Tryz.prog 46 #[.agg #[.int .i64 f, .int .i64 t, .int .i64 2, .int .i64 ba, .int .i64 bn, .slice a1 ntx c1, .int .i64 ha, .int .i64 hr, .slice a2 bs.length c2, .slice a3 ps.length c3, .int .i64 sa, .int .i64 sr, .slice a4 nd c4, .int .i64 ca, .int .i64 cr, .slice a5 ncb c5, .slice a6 ncp c6, .slice a7 nvs c7, .int .i64 r]] w fun e w' => ∃ v', e = .returned (.tuple #[v', .int .i64 0]) ∧
      w'.ownsRow w.heap.size 5 1 v' (byteZ 2 :: byteZ f :: byteZ t :: (putHeaderL ⟨ha, hr, bs, ps⟩)).length (byteVs (byteZ 2 :: byteZ f :: byteZ t :: (putHeaderL ⟨ha, hr, bs, ps⟩))) ∧ Below w.heap.size w w' := by
  have G2 := Lib.hid (g2.low (by decide))
  have G3 := Lib.hid (g3.low (by decide))
  have HC := Lib.hid hC
  have K1 := Lib.hid k1
  have K2 := Lib.hid k2
  clear g2 g3 hC k1 k2
  go_enter Tryz.func46, Tryz.ntmps46
  go_upto_region 1 with fail
  obtain ⟨w1, hw1⟩ : ∃ w1, w1 = w.alloc (.cells #[.int .i64 f, .int .i64 t, .int .i64 2, .int .i64 ba, .int .i64 bn, .slice a1 ntx c1, .int .i64 ha, .int .i64 hr, .slice a2 bs.length c2, .slice a3 ps.length c3, .int .i64 sa, .int .i64 sr, .slice a4 nd c4, .int .i64 ca, .int .i64 cr, .slice a5 ncb c5, .slice a6 ncp c6, .slice a7 nvs c7, .int .i64 r] 106) := ⟨_, rfl⟩
  have bx : BoxAt w1 w.heap.size [.int .i64 f, .int .i64 t, .int .i64 2, .int .i64 ba, .int .i64 bn, .slice a1 ntx c1, .int .i64 ha, .int .i64 hr, .slice a2 bs.length c2, .slice a3 ps.length c3, .int .i64 sa, .int .i64 sr, .slice a4 nd c4, .int .i64 ca, .int .i64 cr, .slice a5 ncb c5, .slice a6 ncp c6, .slice a7 nvs c7, .int .i64 r] 106 := by rw [hw1]; exact BoxAt.new w [.int .i64 f, .int .i64 t, .int .i64 2, .int .i64 ba, .int .i64 bn, .slice a1 ntx c1, .int .i64 ha, .int .i64 hr, .slice a2 bs.length c2, .slice a3 ps.length c3, .int .i64 sa, .int .i64 sr, .slice a4 nd c4, .int .i64 ca, .int .i64 cr, .slice a5 ncb c5, .slice a6 ncp c6, .slice a7 nvs c7, .int .i64 r] _
  have hb1 : Below w.heap.size w w1 := by rw [hw1]; exact (Below.refl _ _).alloc (Nat.le_refl _) _
  have zz1 : w1.heap.size = w.heap.size + 1 := by rw [hw1]; simp
  rw [← hw1]
  have HBX1 := Lib.hid bx
  have HB1 := Lib.hid hb1
  have HZ1 := Lib.hid zz1
  clear hw1 bx hb1 zz1
  go_wp2_with (refine wpList_load_box rfl 106 _ rfl w.heap.size rfl [.int .i64 f, .int .i64 t, .int .i64 2, .int .i64 ba, .int .i64 bn, .slice a1 ntx c1, .int .i64 ha, .int .i64 hr, .slice a2 bs.length c2, .slice a3 ps.length c3, .int .i64 sa, .int .i64 sr, .slice a4 nd c4, .int .i64 ca, .int .i64 cr, .slice a5 ncb c5, .slice a6 ncp c6, .slice a7 nvs c7, .int .i64 r] 106 HBX1.out Tryz.underlying106 rfl (by kernel_rfl) ?_)
  refine (HC.out w1 HB1.out).mono ?_
  rintro e w2 ⟨rfl, hb2⟩
  have bx2 := HBX1.out.belowS hb2
  have hbw2 : Below w.heap.size w w2 := HB1.out.trans (hb2.mono HB1.out.size)
  have hX2 : w.heap.size < w2.heap.size := bx2.lt
  have R2 := Lib.hid (G2.out.below hbw2 (fun _ h => h))
  have R3 := Lib.hid (G3.out.below hbw2 (fun _ h => h))
  have x0 := bx2.cell 0 rfl
  have x1 := bx2.cell 1 rfl
  have x2 := bx2.cell 2 rfl
  have x6 := bx2.cell 6 rfl
  have x7 := bx2.cell 7 rfl
  have x8 := bx2.cell 8 rfl
  have x9 := bx2.cell 9 rfl
  have HBX := Lib.hid bx2
  have HBW := Lib.hid hbw2
  clear bx2 hbw2 hb2
  have hlit : ∀ (q : World), q.heap.size = w2.heap.size → byteVs [byteZ 2, byteZ f, byteZ t] = [Value.int .u8 2, .int .u8 f, .int .u8 t] := fun _ _ => by
    simp only [byteVs, List.map_cons, List.map_nil, byteZ_toNat, show (f % 256) = f by omega, show (t % 256) = t by omega, show ((2 : Int) % 256) = 2 by decide]
  have HLIT := Lib.hid (hlit w2 rfl)
  clear hlit
  have HOWN := Lib.hid (show (w2.alloc (.cells #[.int .u8 2, .int .u8 f, .int .u8 t] 5)).ownsRow w2.heap.size 5 1 (.slice (some ⟨w2.heap.size, 0, none⟩) 3 3) [byteZ 2, byteZ f, byteZ t].length (byteVs [byteZ 2, byteZ f, byteZ t]) by rw [HLIT.out]; exact lit_ownsN w2 [.int .u8 2, .int .u8 f, .int .u8 t] _)
  go_wp2_with fail
  refine (putHeader_any w2.heap.size _ [byteZ 2, byteZ f, byteZ t] ha hr _ _ bs ps _ HOWN.out (by simp) (by simp) (R2.out.keep (Keep.alloc _ _ _) (fun _ h => h)) (R3.out.keep (Keep.alloc _ _ _) (fun _ h => h)) K1.out K2.out k3 k4 (fun b hb => by have := hb.2; simp [Value.ownBlock]; omega) z0 z1 z2 z3).mono ?_
  rintro e w3 ⟨v3, rfl, hA⟩
  have hown := ownsRow_mono hA.own (Nat.le_of_lt hX2)
  have hfin : Below w.heap.size w w3 := hA.bel (HBW.out.alloc (Nat.le_of_lt hX2) _) (by simp; omega) (fun k hk => by simp [Value.ownBlock] at hk; omega)
  have HOW := Lib.hid hown
  clear hA hown
  go_wp2
  refine bodyPost_ret (v := .tuple #[v3, .int .i64 0]) (by simp [results, Tryz.results46, go_sem]) rfl ⟨_, rfl, by simpa using HOW.out, hfin⟩
set_option maxRecDepth 100000 in
set_option maxHeartbeats 8000000 in
theorem wencode_3 {G : Nat → Prop} {d : Bytes} (f t ba bn : Int) (a1 : Option Addr) (ntx : Nat) (c1 : Nat) (ha hr : Int) (a2 : Option Addr) (nbs : Nat) (c2 : Nat) (a3 : Option Addr) (nps : Nat) (c3 : Nat) (sa sr : Int) (a4 : Option Addr) (c4 : Nat) (ca cr : Int) (a5 : Option Addr) (ncb : Nat) (c5 : Nat) (a6 : Option Addr) (ncp : Nat) (c6 : Nat) (a7 : Option Addr) (nvs : Nat) (c7 : Nat) (r : Int) (w : World)
    (hC : ∀ w', Below w.heap.size w w' → Calls Tryz.prog 73 #[.agg #[.int .i64 f, .int .i64 t, .int .i64 3, .int .i64 ba, .int .i64 bn, .slice a1 ntx c1, .int .i64 ha, .int .i64 hr, .slice a2 nbs c2, .slice a3 nps c3, .int .i64 sa, .int .i64 sr, .slice a4 d.length c4, .int .i64 ca, .int .i64 cr, .slice a5 ncb c5, .slice a6 ncp c6, .slice a7 nvs c7, .int .i64 r]] w' fun e w'' => e = .returned (.int .i64 0) ∧ Below w'.heap.size w' w'')
    (f0 : 0 ≤ f) (f1 : f < 4) (t0 : 0 ≤ t) (t1 : t < 4) (g4 : RdB G w (.slice a4 d.length c4) d) (k1 : d.length = 32) (z0 : 0 ≤ sa) (z1 : sa < 4) (z2 : 0 ≤ sr) (z3 : sr ≤ 1048576) :
    Calls Tryz.prog 46 #[.agg #[.int .i64 f, .int .i64 t, .int .i64 3, .int .i64 ba, .int .i64 bn, .slice a1 ntx c1, .int .i64 ha, .int .i64 hr, .slice a2 nbs c2, .slice a3 nps c3, .int .i64 sa, .int .i64 sr, .slice a4 d.length c4, .int .i64 ca, .int .i64 cr, .slice a5 ncb c5, .slice a6 ncp c6, .slice a7 nvs c7, .int .i64 r]] w fun e w' => ∃ v', e = .returned (.tuple #[v', .int .i64 0]) ∧
      w'.ownsRow w.heap.size 5 1 v' (byteZ 3 :: byteZ f :: byteZ t :: (byteZ sa :: (wideL sr ++ d))).length (byteVs (byteZ 3 :: byteZ f :: byteZ t :: (byteZ sa :: (wideL sr ++ d)))) ∧ Below w.heap.size w w' := by
  have G4 := Lib.hid (g4.low (by decide))
  have HC := Lib.hid hC
  have K1 := Lib.hid k1
  have d0 : 0 < d.length := by omega
  have d1 : d.length ≤ 32 := by omega
  clear g4 hC k1
  go_enter Tryz.func46, Tryz.ntmps46
  go_upto_region 1 with fail
  obtain ⟨w1, hw1⟩ : ∃ w1, w1 = w.alloc (.cells #[.int .i64 f, .int .i64 t, .int .i64 3, .int .i64 ba, .int .i64 bn, .slice a1 ntx c1, .int .i64 ha, .int .i64 hr, .slice a2 nbs c2, .slice a3 nps c3, .int .i64 sa, .int .i64 sr, .slice a4 d.length c4, .int .i64 ca, .int .i64 cr, .slice a5 ncb c5, .slice a6 ncp c6, .slice a7 nvs c7, .int .i64 r] 106) := ⟨_, rfl⟩
  have bx : BoxAt w1 w.heap.size [.int .i64 f, .int .i64 t, .int .i64 3, .int .i64 ba, .int .i64 bn, .slice a1 ntx c1, .int .i64 ha, .int .i64 hr, .slice a2 nbs c2, .slice a3 nps c3, .int .i64 sa, .int .i64 sr, .slice a4 d.length c4, .int .i64 ca, .int .i64 cr, .slice a5 ncb c5, .slice a6 ncp c6, .slice a7 nvs c7, .int .i64 r] 106 := by rw [hw1]; exact BoxAt.new w [.int .i64 f, .int .i64 t, .int .i64 3, .int .i64 ba, .int .i64 bn, .slice a1 ntx c1, .int .i64 ha, .int .i64 hr, .slice a2 nbs c2, .slice a3 nps c3, .int .i64 sa, .int .i64 sr, .slice a4 d.length c4, .int .i64 ca, .int .i64 cr, .slice a5 ncb c5, .slice a6 ncp c6, .slice a7 nvs c7, .int .i64 r] _
  have hb1 : Below w.heap.size w w1 := by rw [hw1]; exact (Below.refl _ _).alloc (Nat.le_refl _) _
  have zz1 : w1.heap.size = w.heap.size + 1 := by rw [hw1]; simp
  rw [← hw1]
  have HBX1 := Lib.hid bx
  have HB1 := Lib.hid hb1
  have HZ1 := Lib.hid zz1
  clear hw1 bx hb1 zz1
  go_wp2_with (refine wpList_load_box rfl 106 _ rfl w.heap.size rfl [.int .i64 f, .int .i64 t, .int .i64 3, .int .i64 ba, .int .i64 bn, .slice a1 ntx c1, .int .i64 ha, .int .i64 hr, .slice a2 nbs c2, .slice a3 nps c3, .int .i64 sa, .int .i64 sr, .slice a4 d.length c4, .int .i64 ca, .int .i64 cr, .slice a5 ncb c5, .slice a6 ncp c6, .slice a7 nvs c7, .int .i64 r] 106 HBX1.out Tryz.underlying106 rfl (by kernel_rfl) ?_)
  refine (HC.out w1 HB1.out).mono ?_
  rintro e w2 ⟨rfl, hb2⟩
  have bx2 := HBX1.out.belowS hb2
  have hbw2 : Below w.heap.size w w2 := HB1.out.trans (hb2.mono HB1.out.size)
  have hX2 : w.heap.size < w2.heap.size := bx2.lt
  have R4 := Lib.hid (G4.out.below hbw2 (fun _ h => h))
  have x0 := bx2.cell 0 rfl
  have x1 := bx2.cell 1 rfl
  have x2 := bx2.cell 2 rfl
  have x10 := bx2.cell 10 rfl
  have x11 := bx2.cell 11 rfl
  have x12 := bx2.cell 12 rfl
  have HBX := Lib.hid bx2
  have HBW := Lib.hid hbw2
  clear bx2 hbw2 hb2
  have hlit : ∀ (q : World), q.heap.size = w2.heap.size → byteVs [byteZ 3, byteZ f, byteZ t] = [Value.int .u8 3, .int .u8 f, .int .u8 t] := fun _ _ => by
    simp only [byteVs, List.map_cons, List.map_nil, byteZ_toNat, show (f % 256) = f by omega, show (t % 256) = t by omega, show ((3 : Int) % 256) = 3 by decide]
  have HLIT := Lib.hid (hlit w2 rfl)
  clear hlit
  have HOWN := Lib.hid (show (w2.alloc (.cells #[.int .u8 3, .int .u8 f, .int .u8 t] 5)).ownsRow w2.heap.size 5 1 (.slice (some ⟨w2.heap.size, 0, none⟩) 3 3) [byteZ 3, byteZ f, byteZ t].length (byteVs [byteZ 3, byteZ f, byteZ t]) by rw [HLIT.out]; exact lit_ownsN w2 [.int .u8 3, .int .u8 f, .int .u8 t] _)
  go_upto_region 11 with fail
  obtain ⟨wa, hwa⟩ : ∃ wa, wa = w2.alloc (.cells #[.int .u8 3, .int .u8 f, .int .u8 t] 5) := ⟨_, rfl⟩
  have HO := Lib.hid (show wa.ownsRow w2.heap.size 5 1 (.slice (some ⟨w2.heap.size, 0, none⟩) 3 3) 3 (byteVs [byteZ 3, byteZ f, byteZ t]) by rw [hwa]; exact HOWN.out)
  have hba : Below w2.heap.size w2 wa := by rw [hwa]; exact (Below.refl _ _).alloc (Nat.le_refl _) _
  have hsa : w2.heap.size < wa.heap.size := by rw [hwa]; simp
  rw [← hwa]
  have bxa := HBX.out.belowS hba
  have A4 := Lib.hid (R4.out.below hba (fun _ h => h))
  have HBA := Lib.hid (HBW.out.trans (hba.mono (Nat.le_of_lt hX2)))
  have HBXA := Lib.hid bxa
  clear hwa hba x0 x1 x2 x10 x11 x12
  have x10 := bxa.cell 10 rfl
  have x11 := bxa.cell 11 rfl
  have x12 := bxa.cell 12 rfl
  clear bxa
  have hXv : (.slice (some ⟨w2.heap.size, 0, none⟩) 3 3 : Value).ownBlock ≠ some w.heap.size := by simp [Value.ownBlock]; omega
  have hGv : ∀ b, (G b ∧ b < w.heap.size) → (.slice (some ⟨w2.heap.size, 0, none⟩) 3 3 : Value).ownBlock ≠ some b := fun b hb => by have := hb.2; simp [Value.ownBlock]; omega
  have HGV := Lib.hid hGv
  clear hGv
  have L1 := Lib.hid (show ([byteZ 3, byteZ f, byteZ t] ++ [byteZ sa]).length ≤ 1000000 by simp)
  have hL2 : ([byteZ 3, byteZ f, byteZ t] ++ [byteZ sa] ++ wideL sr).length ≤ 1000 := by simp [wideL]
  generalize hL2e : [byteZ 3, byteZ f, byteZ t] ++ [byteZ sa] ++ wideL sr = M2 at *
  have HL2E := Lib.hid hL2e
  clear hL2e
  go_region_held3 (fun w' => w'.cell? ⟨w.heap.size, 10, none⟩ = some (.int .i64 sa) ∧ w'.cell? ⟨w.heap.size, 11, none⟩ = some (.int .i64 sr) ∧ w'.cell? ⟨w.heap.size, 12, none⟩ = some (.slice a4 d.length c4)) (go_keep)
    (first
      | (refine step_append_at1 (by rfl) _ _ _ (by rfl) elemB w2.heap.size v4 M2.length (byteVs M2) (by rfl) HA4.out.own _ d.length (byteVs d) (by rfl) (by exact (A4.out.keep (HA4.out.keepG HGV.out) (fun _ h => h)).slCells) (oneCell_map _ _ (fun _ => rfl)) d0 (by unfold maxLen; omega) (by omega) (by omega) ?_; intro g5 cap5 w5 hown hgr hat hlt; have hA5 : AppB w2.heap.size 5 w4 v4 w5 (.slice (some ⟨g5, 0, none⟩) (M2.length + d.length) cap5) (M2 ++ d) := (AppB.of rfl rfl hown rfl hgr hat rfl (Below.refl _ _)); have hA := HA4.out.trans hA5; have HA5 := Lib.hid hA; have bxn := hA.box HBXA.out hXv; have u510 := bxn.cell 10 rfl; have u511 := bxn.cell 11 rfl; have u512 := bxn.cell 12 rfl; clear bxn; clear hA hA5 hown hgr hat)
      | (refine step_append_at1 (by rfl) _ _ _ (by rfl) elemB w2.heap.size (.slice (some ⟨w2.heap.size, 0, none⟩) 3 3) 3 (byteVs [byteZ 3, byteZ f, byteZ t]) (by rfl) (by exact ownsRow_below HO.out (by repeat (first | with_reducible exact Below.refl _ _ | with_reducible refine Below.drew ?_ | with_reducible refine Below.alloc ?_ (by first | omega | (simp <;> omega)) _))) _ 1 [.int .u8 (IntKind.u8.wrap sa)] (by rfl) (by first | exact (BoxAt.new _ [_] _).slCellsN rfl | exact ((BoxAt.new _ [_] _).drew).slCellsN rfl) (by simp [Value.oneCell']) (by decide) (by unfold maxLen; omega) (by omega) (by first | omega | (simp; omega)) ?_; intro g cap w3 hown hgr hat hlt; have hA : AppB w2.heap.size 5 wa (.slice (some ⟨w2.heap.size, 0, none⟩) 3 3) w3 (.slice (some ⟨g, 0, none⟩) (3 + 1) cap) ([byteZ 3, byteZ f, byteZ t] ++ [byteZ sa]) := (AppB.of rfl rfl hown (by simp [byteVs, byteZ_toNat, u8_wrap]) hgr hat rfl (by repeat (first | with_reducible exact Below.refl _ _ | with_reducible refine Below.drew ?_ | with_reducible refine Below.alloc ?_ (by first | omega | (simp <;> omega)) _))); have HA := Lib.hid hA; have bxn := hA.box HBXA.out hXv; have y10 := bxn.cell 10 rfl; have y11 := bxn.cell 11 rfl; have y12 := bxn.cell 12 rfl; clear bxn; have s3 := hA.size; clear hA hown hgr hat)
      | (go_at_call 75; refine (wide_any w2.heap.size _ ([byteZ 3, byteZ f, byteZ t] ++ [byteZ sa]) sr _ HA.out.own (by omega) L1.out z2 (by omega)).mono ?_; rintro e w4 ⟨v4, rfl, hA4⟩; have hA := HA.out.trans hA4; rw [HL2E.out] at hA; have HA4 := Lib.hid hA; have bxn := hA.box HBXA.out hXv; have q10 := bxn.cell 10 rfl; have q11 := bxn.cell 11 rfl; have q12 := bxn.cell 12 rfl; clear bxn; have s4 := hA.size; clear hA hA4))
  all_goals
    have hown := ownsRow_mono HA5.out.own (Nat.le_of_lt hX2)
    have hfin : Below w.heap.size w w5 := HA5.out.bel HBA.out (by omega) (fun k hk => by simp [Value.ownBlock] at hk; omega)
    have hle : byteZ 3 :: byteZ f :: byteZ t :: (byteZ sa :: (wideL sr ++ d)) = M2 ++ d := by rw [← HL2E.out]; simp
    rw [← hle] at hown
    have HOW := Lib.hid hown
    clear hown hle
    go_wp2
    refine bodyPost_ret (v := .tuple #[.slice (some ⟨g5, 0, none⟩) (M2.length + d.length) cap5, .int .i64 0]) (by simp [results, Tryz.results46, go_sem]) rfl ⟨_, rfl, HOW.out, hfin⟩
set_option maxRecDepth 100000 in
set_option maxHeartbeats 8000000 in
theorem wencode_4 {G : Nat → Prop} {bs ps : List Bytes} {vs : List Int} (f t ba bn : Int) (a1 : Option Addr) (ntx : Nat) (c1 : Nat) (ha hr : Int) (a2 : Option Addr) (nbs : Nat) (c2 : Nat) (a3 : Option Addr) (nps : Nat) (c3 : Nat) (sa sr : Int) (a4 : Option Addr) (nd : Nat) (c4 : Nat) (ca cr : Int) (a5 : Option Addr) (c5 : Nat) (a6 : Option Addr) (c6 : Nat) (a7 : Option Addr) (c7 : Nat) (r : Int) (w : World)
    (hC : ∀ w', Below w.heap.size w w' → Calls Tryz.prog 73 #[.agg #[.int .i64 f, .int .i64 t, .int .i64 4, .int .i64 ba, .int .i64 bn, .slice a1 ntx c1, .int .i64 ha, .int .i64 hr, .slice a2 nbs c2, .slice a3 nps c3, .int .i64 sa, .int .i64 sr, .slice a4 nd c4, .int .i64 ca, .int .i64 cr, .slice a5 bs.length c5, .slice a6 ps.length c6, .slice a7 vs.length c7, .int .i64 r]] w' fun e w'' => e = .returned (.int .i64 0) ∧ Below w'.heap.size w' w'')
    (f0 : 0 ≤ f) (f1 : f < 4) (t0 : 0 ≤ t) (t1 : t < 4) (g5 : RdBB G w (.slice a5 bs.length c5) bs) (g6 : RdBB G w (.slice a6 ps.length c6) ps) (g7 : RdI G w (.slice a7 vs.length c7) vs) (k1 : ∀ x ∈ bs, x.length = 32) (k2 : ∀ x ∈ ps, x.length = 32) (k3 : bs.length ≤ 10) (k4 : ps.length ≤ 10) (k5 : vs.length ≤ 4) (z0 : 0 ≤ ca) (z1 : ca < 4) (z2 : 0 ≤ cr) (z3 : cr ≤ 1048576) :
    Calls Tryz.prog 46 #[.agg #[.int .i64 f, .int .i64 t, .int .i64 4, .int .i64 ba, .int .i64 bn, .slice a1 ntx c1, .int .i64 ha, .int .i64 hr, .slice a2 nbs c2, .slice a3 nps c3, .int .i64 sa, .int .i64 sr, .slice a4 nd c4, .int .i64 ca, .int .i64 cr, .slice a5 bs.length c5, .slice a6 ps.length c6, .slice a7 vs.length c7, .int .i64 r]] w fun e w' => ∃ v', e = .returned (.tuple #[v', .int .i64 0]) ∧
      w'.ownsRow w.heap.size 5 1 v' (byteZ 4 :: byteZ f :: byteZ t :: (putHeaderL ⟨ca, cr, bs, ps⟩ ++ (byteZ vs.length :: vs.map byteZ))).length (byteVs (byteZ 4 :: byteZ f :: byteZ t :: (putHeaderL ⟨ca, cr, bs, ps⟩ ++ (byteZ vs.length :: vs.map byteZ)))) ∧ Below w.heap.size w w' := by
  have G5 := Lib.hid (g5.low (by decide))
  have G6 := Lib.hid (g6.low (by decide))
  have G7 := Lib.hid (g7.low (by decide))
  have HC := Lib.hid hC
  have K1 := Lib.hid k1
  have K2 := Lib.hid k2
  clear g5 g6 g7 hC k1 k2
  go_enter Tryz.func46, Tryz.ntmps46
  go_upto_region 1 with fail
  obtain ⟨w1, hw1⟩ : ∃ w1, w1 = w.alloc (.cells #[.int .i64 f, .int .i64 t, .int .i64 4, .int .i64 ba, .int .i64 bn, .slice a1 ntx c1, .int .i64 ha, .int .i64 hr, .slice a2 nbs c2, .slice a3 nps c3, .int .i64 sa, .int .i64 sr, .slice a4 nd c4, .int .i64 ca, .int .i64 cr, .slice a5 bs.length c5, .slice a6 ps.length c6, .slice a7 vs.length c7, .int .i64 r] 106) := ⟨_, rfl⟩
  have bx : BoxAt w1 w.heap.size [.int .i64 f, .int .i64 t, .int .i64 4, .int .i64 ba, .int .i64 bn, .slice a1 ntx c1, .int .i64 ha, .int .i64 hr, .slice a2 nbs c2, .slice a3 nps c3, .int .i64 sa, .int .i64 sr, .slice a4 nd c4, .int .i64 ca, .int .i64 cr, .slice a5 bs.length c5, .slice a6 ps.length c6, .slice a7 vs.length c7, .int .i64 r] 106 := by rw [hw1]; exact BoxAt.new w [.int .i64 f, .int .i64 t, .int .i64 4, .int .i64 ba, .int .i64 bn, .slice a1 ntx c1, .int .i64 ha, .int .i64 hr, .slice a2 nbs c2, .slice a3 nps c3, .int .i64 sa, .int .i64 sr, .slice a4 nd c4, .int .i64 ca, .int .i64 cr, .slice a5 bs.length c5, .slice a6 ps.length c6, .slice a7 vs.length c7, .int .i64 r] _
  have hb1 : Below w.heap.size w w1 := by rw [hw1]; exact (Below.refl _ _).alloc (Nat.le_refl _) _
  have zz1 : w1.heap.size = w.heap.size + 1 := by rw [hw1]; simp
  rw [← hw1]
  have HBX1 := Lib.hid bx
  have HB1 := Lib.hid hb1
  have HZ1 := Lib.hid zz1
  clear hw1 bx hb1 zz1
  go_wp2_with (refine wpList_load_box rfl 106 _ rfl w.heap.size rfl [.int .i64 f, .int .i64 t, .int .i64 4, .int .i64 ba, .int .i64 bn, .slice a1 ntx c1, .int .i64 ha, .int .i64 hr, .slice a2 nbs c2, .slice a3 nps c3, .int .i64 sa, .int .i64 sr, .slice a4 nd c4, .int .i64 ca, .int .i64 cr, .slice a5 bs.length c5, .slice a6 ps.length c6, .slice a7 vs.length c7, .int .i64 r] 106 HBX1.out Tryz.underlying106 rfl (by kernel_rfl) ?_)
  refine (HC.out w1 HB1.out).mono ?_
  rintro e w2 ⟨rfl, hb2⟩
  have bx2 := HBX1.out.belowS hb2
  have hbw2 : Below w.heap.size w w2 := HB1.out.trans (hb2.mono HB1.out.size)
  have hX2 : w.heap.size < w2.heap.size := bx2.lt
  have R5 := Lib.hid (G5.out.below hbw2 (fun _ h => h))
  have R6 := Lib.hid (G6.out.below hbw2 (fun _ h => h))
  have R7 := Lib.hid (G7.out.below hbw2 (fun _ h => h))
  have x0 := bx2.cell 0 rfl
  have x1 := bx2.cell 1 rfl
  have x2 := bx2.cell 2 rfl
  have x13 := bx2.cell 13 rfl
  have x14 := bx2.cell 14 rfl
  have x15 := bx2.cell 15 rfl
  have x16 := bx2.cell 16 rfl
  have x17 := bx2.cell 17 rfl
  have HBX := Lib.hid bx2
  have HBW := Lib.hid hbw2
  clear bx2 hbw2 hb2
  have hlit : ∀ (q : World), q.heap.size = w2.heap.size → byteVs [byteZ 4, byteZ f, byteZ t] = [Value.int .u8 4, .int .u8 f, .int .u8 t] := fun _ _ => by
    simp only [byteVs, List.map_cons, List.map_nil, byteZ_toNat, show (f % 256) = f by omega, show (t % 256) = t by omega, show ((4 : Int) % 256) = 4 by decide]
  have HLIT := Lib.hid (hlit w2 rfl)
  clear hlit
  have HOWN := Lib.hid (show (w2.alloc (.cells #[.int .u8 4, .int .u8 f, .int .u8 t] 5)).ownsRow w2.heap.size 5 1 (.slice (some ⟨w2.heap.size, 0, none⟩) 3 3) [byteZ 4, byteZ f, byteZ t].length (byteVs [byteZ 4, byteZ f, byteZ t]) by rw [HLIT.out]; exact lit_ownsN w2 [.int .u8 4, .int .u8 f, .int .u8 t] _)
  go_upto_region 13 with fail
  obtain ⟨wa, hwa⟩ : ∃ wa, wa = w2.alloc (.cells #[.int .u8 4, .int .u8 f, .int .u8 t] 5) := ⟨_, rfl⟩
  have HO := Lib.hid (show wa.ownsRow w2.heap.size 5 1 (.slice (some ⟨w2.heap.size, 0, none⟩) 3 3) 3 (byteVs [byteZ 4, byteZ f, byteZ t]) by rw [hwa]; exact HOWN.out)
  have hba : Below w2.heap.size w2 wa := by rw [hwa]; exact (Below.refl _ _).alloc (Nat.le_refl _) _
  have hsa : w2.heap.size < wa.heap.size := by rw [hwa]; simp
  rw [← hwa]
  have bxa := HBX.out.belowS hba
  have A5 := Lib.hid (R5.out.below hba (fun _ h => h))
  have A6 := Lib.hid (R6.out.below hba (fun _ h => h))
  have A7 := Lib.hid (R7.out.below hba (fun _ h => h))
  have HBA := Lib.hid (HBW.out.trans (hba.mono (Nat.le_of_lt hX2)))
  have HBXA := Lib.hid bxa
  clear hwa hba x0 x1 x2 x13 x14 x15 x16 x17
  have x13 := bxa.cell 13 rfl
  have x14 := bxa.cell 14 rfl
  have x15 := bxa.cell 15 rfl
  have x16 := bxa.cell 16 rfl
  have x17 := bxa.cell 17 rfl
  clear bxa
  have hXv : (.slice (some ⟨w2.heap.size, 0, none⟩) 3 3 : Value).ownBlock ≠ some w.heap.size := by simp [Value.ownBlock]; omega
  have hGv : ∀ b, (G b ∧ b < w.heap.size) → (.slice (some ⟨w2.heap.size, 0, none⟩) 3 3 : Value).ownBlock ≠ some b := fun b hb => by have := hb.2; simp [Value.ownBlock]; omega
  have HGV := Lib.hid hGv
  clear hGv
  have HPL := Lib.hid (show ([byteZ 4, byteZ f, byteZ t] ++ putHeaderL ⟨ca, cr, bs, ps⟩).length ≤ 700 by
    have e1 := putDigestsL_len K1.out k3; have e2 := putDigestsL_len K2.out k4
    have : ([byteZ 4, byteZ f, byteZ t] ++ putHeaderL ⟨ca, cr, bs, ps⟩).length = 3 + (1 + (3 + ((putDigestsL bs).length + (putDigestsL ps).length))) := by simp only [putHeaderL, List.length_append, List.length_cons, List.length_nil, wideL]; omega
    omega)
  have hM := HPL.out
  generalize hMe : [byteZ 4, byteZ f, byteZ t] ++ putHeaderL ⟨ca, cr, bs, ps⟩ = M at *
  have HME := Lib.hid hMe
  clear hMe HPL
  go_cut [5] (fun u wx => AppB w2.heap.size 5 wa (.slice (some ⟨w2.heap.size, 0, none⟩) 3 3) wx u (M ++ [byteZ vs.length]))
  case first =>
    go_region_held3 (fun w' => w'.cell? ⟨w.heap.size, 13, none⟩ = some (.int .i64 ca) ∧ w'.cell? ⟨w.heap.size, 14, none⟩ = some (.int .i64 cr) ∧ w'.cell? ⟨w.heap.size, 15, none⟩ = some (.slice a5 bs.length c5) ∧ w'.cell? ⟨w.heap.size, 16, none⟩ = some (.slice a6 ps.length c6) ∧ w'.cell? ⟨w.heap.size, 17, none⟩ = some (.slice a7 vs.length c7)) (go_keep)
      (first
        | (refine step_append_at1 (by rfl) _ _ _ (by rfl) elemB w2.heap.size v3 M.length (byteVs M) (by rfl) (by first | exact HA3.out.own | exact ownsRow_below HA3.out.own ((Below.refl _ _).alloc (Nat.le_refl _) _)) _ 1 [.int .u8 (IntKind.u8.wrap (vs.length : Int))] (by rfl) (by first | exact HL3.out.slCellsN rfl | exact (BoxAt.new _ [_] _).slCellsN rfl) (by simp [Value.oneCell']) (by decide) (by unfold maxLen; omega) (by omega) (by first | omega | (simp; omega)) ?_; intro g4 cap4 w4 hown hgr hat hlt; have hA4 : AppB w2.heap.size 5 w3 v3 w4 (.slice (some ⟨g4, 0, none⟩) (M.length + 1) cap4) (M ++ [byteZ vs.length]) := (AppB.of rfl rfl hown (by simp [byteVs, byteZ_toNat, u8_wrap]) hgr hat rfl (by first | exact Below.refl _ _ | exact (Below.refl _ _).alloc (Nat.le_refl _) _)); have hA := HA3.out.trans hA4; have HA4 := Lib.hid hA; have bxn := hA.box HBXA.out hXv; have u413 := bxn.cell 13 rfl; have u414 := bxn.cell 14 rfl; have u415 := bxn.cell 15 rfl; have u416 := bxn.cell 16 rfl; have u417 := bxn.cell 17 rfl; clear bxn; clear hA hA4 hown hgr hat)
        | (go_at_call 66; refine (putHeader_any (G := fun b => G b ∧ b < w.heap.size) w2.heap.size _ [byteZ 4, byteZ f, byteZ t] ca cr _ _ bs ps _ (by exact ownsRow_below HO.out (by repeat (first | with_reducible exact Below.refl _ _ | with_reducible refine Below.drew ?_ | with_reducible refine Below.alloc ?_ (by first | omega | (simp <;> omega)) _))) (by first | omega | (simp; omega)) (by simp) (A5.out.keep (G' := fun b => G b ∧ b < w.heap.size) (Keep.below (by repeat (first | with_reducible exact Below.refl _ _ | with_reducible refine Below.drew ?_ | with_reducible refine Below.alloc ?_ (by first | omega | (simp <;> omega)) _))) (fun _ h => h)) (A6.out.keep (G' := fun b => G b ∧ b < w.heap.size) (Keep.below (by repeat (first | with_reducible exact Below.refl _ _ | with_reducible refine Below.drew ?_ | with_reducible refine Below.alloc ?_ (by first | omega | (simp <;> omega)) _))) (fun _ h => h)) K1.out K2.out k3 k4 HGV.out z0 z1 z2 z3).mono ?_; rintro e w3 ⟨v3, rfl, hA3⟩; (try (have HL3 := Lib.hid (hA3.box (show BoxAt _ wa.heap.size [.int .u8 (IntKind.u8.wrap (vs.length : Int))] 5 from (by first | exact BoxAt.new _ [_] _ | exact (BoxAt.new _ [_] _).drew)) (by simp [Value.ownBlock]; omega)))); have hA := AppB.before (w0 := wa) (by repeat (first | with_reducible exact Below.refl _ _ | with_reducible refine Below.drew ?_ | with_reducible refine Below.alloc ?_ (by first | omega | (simp <;> omega)) _)) hA3; rw [HME.out] at hA; have HA3 := Lib.hid hA; have bxn := hA.box HBXA.out hXv; have y13 := bxn.cell 13 rfl; have y14 := bxn.cell 14 rfl; have y15 := bxn.cell 15 rfl; have y16 := bxn.cell 16 rfl; have y17 := bxn.cell 17 rfl; clear bxn; have s3 := hA.size; clear hA hA3))
    all_goals
      go_wp2_with fail
      go_meet
      exact HA4.out
  case rest =>
    have hA0 := hcut
    clear hcut
    have HA0 := Lib.hid hA0
    have HBXC := Lib.hid (hA0.box HBXA.out hXv)
    have c17 := HBXC.out.cell 17 rfl
    have AC := Lib.hid (A7.out.keep (hA0.keepG HGV.out) (fun _ h => h))
    clear hA0 x13 x14 x15 x16 x17
    go_wp2_with fail
    go_loopw [5, 72] (fun vw i wr => ∃ k : Nat, k ≤ vs.length ∧ i = .int .i64 k ∧ AppB w2.heap.size 5 wa (.slice (some ⟨w2.heap.size, 0, none⟩) 3 3) wr vw (M ++ [byteZ vs.length] ++ (vs.take k).map byteZ)) (fun _ i _ => vs.length - (intOf i).toNat)
    case atStart => exact ⟨0, Nat.zero_le _, rfl, HA0.out.list (by simp)⟩
    case round =>
      obtain ⟨k, hk, rfl, hR⟩ := hrel
      have HR := Lib.hid hR
      by_cases hlt : k < vs.length
      · have hrd := A7.out.keep (G' := fun _ => True) (hR.keepG HGV.out) (fun _ _ => trivial)
        obtain ⟨b, o, rfl, -, hc⟩ := hrd.cell k hlt
        have hll : (M ++ [byteZ vs.length] ++ (vs.take k).map byteZ).length ≤ 800 := by simp only [List.length_append, List.length_cons, List.length_nil, List.length_map, List.length_take]; omega
        have hs := hR.size
        have HTS := Lib.hid (show (vs.take (k + 1)).map byteZ = (vs.take k).map byteZ ++ [byteZ vs[k]] by rw [List.take_succ_eq_append_getElem hlt, List.map_append]; rfl)
        clear hR hrd
        generalize hx : vs[k] = x at *
        generalize hLk : M ++ [byteZ vs.length] ++ (vs.take k).map byteZ = Lk at *
        have HLk := Lib.hid hLk
        clear hx hLk
        go_wp2_with (at_builtin; refine wpList_append_at1 rfl _ _ 66 rfl elemB w2.heap.size _ rfl Lk.length (byteVs Lk) (by exact ownsRow_below HR.out.own ((Below.refl _ _).alloc (Nat.le_refl _) _)) _ rfl 1 [.int .u8 (x % 256)] (by exact (BoxAt.new wr [_] _).slCellsN rfl) (by simp [Value.oneCell']) (by decide) (by unfold maxLen; omega) (by omega) (by simp; omega) _ rfl ?_; intro g2 cap2 w5 hown hgr hat hlt2)
        have hA1 := HR.out.trans (AppB.of (w := wr) rfl rfl hown (show [Value.int .u8 (x % 256)] = byteVs [byteZ x] by simp [byteVs, byteZ_toNat]) hgr hat rfl ((Below.refl _ _).alloc (Nat.le_refl _) _))
        have HA2 := Lib.hid hA1
        clear hA1 hown hgr hat
        go_wp2_with fail
        go_roundw
        case rel => exact ⟨k + 1, by omega, by go_num, HA2.out.list (by rw [HTS.out, ← HLk.out]; simp)⟩
        case measure => simp [intOf]; omega
      · have hke : k = vs.length := by omega
        subst hke
        rw [List.take_length] at HR
        have hown := ownsRow_mono HR.out.own (Nat.le_of_lt hX2)
        have hfin : Below w.heap.size w wr := HR.out.bel HBA.out (by omega) (fun k hk => by simp [Value.ownBlock] at hk; omega)
        have hle : byteZ 4 :: byteZ f :: byteZ t :: (putHeaderL ⟨ca, cr, bs, ps⟩ ++ (byteZ vs.length :: vs.map byteZ)) = M ++ [byteZ vs.length] ++ vs.map byteZ := by rw [← HME.out]; simp
        rw [← hle] at hown
        have HOW := Lib.hid hown
        clear hown hle
        go_wp2
        refine bodyPost_ret (by simp [results, Tryz.results46, go_sem]) rfl ⟨_, rfl, HOW.out, hfin⟩
set_option maxRecDepth 100000 in
set_option maxHeartbeats 8000000 in
theorem wencode_5 {G : Nat → Prop} (f t ba bn : Int) (a1 : Option Addr) (ntx : Nat) (c1 : Nat) (ha hr : Int) (a2 : Option Addr) (nbs : Nat) (c2 : Nat) (a3 : Option Addr) (nps : Nat) (c3 : Nat) (sa sr : Int) (a4 : Option Addr) (nd : Nat) (c4 : Nat) (ca cr : Int) (a5 : Option Addr) (ncb : Nat) (c5 : Nat) (a6 : Option Addr) (ncp : Nat) (c6 : Nat) (a7 : Option Addr) (nvs : Nat) (c7 : Nat) (r : Int) (w : World)
    (hC : ∀ w', Below w.heap.size w w' → Calls Tryz.prog 73 #[.agg #[.int .i64 f, .int .i64 t, .int .i64 5, .int .i64 ba, .int .i64 bn, .slice a1 ntx c1, .int .i64 ha, .int .i64 hr, .slice a2 nbs c2, .slice a3 nps c3, .int .i64 sa, .int .i64 sr, .slice a4 nd c4, .int .i64 ca, .int .i64 cr, .slice a5 ncb c5, .slice a6 ncp c6, .slice a7 nvs c7, .int .i64 r]] w' fun e w'' => e = .returned (.int .i64 0) ∧ Below w'.heap.size w' w'')
    (f0 : 0 ≤ f) (f1 : f < 4) (t0 : 0 ≤ t) (t1 : t < 4)  (z2 : 0 ≤ r) (z3 : r ≤ 1048576) :
    Calls Tryz.prog 46 #[.agg #[.int .i64 f, .int .i64 t, .int .i64 5, .int .i64 ba, .int .i64 bn, .slice a1 ntx c1, .int .i64 ha, .int .i64 hr, .slice a2 nbs c2, .slice a3 nps c3, .int .i64 sa, .int .i64 sr, .slice a4 nd c4, .int .i64 ca, .int .i64 cr, .slice a5 ncb c5, .slice a6 ncp c6, .slice a7 nvs c7, .int .i64 r]] w fun e w' => ∃ v', e = .returned (.tuple #[v', .int .i64 0]) ∧
      w'.ownsRow w.heap.size 5 1 v' (byteZ 5 :: byteZ f :: byteZ t :: (wideL r)).length (byteVs (byteZ 5 :: byteZ f :: byteZ t :: (wideL r))) ∧ Below w.heap.size w w' := by
  have HC := Lib.hid hC
  clear  hC
  go_enter Tryz.func46, Tryz.ntmps46
  go_upto_region 1 with fail
  obtain ⟨w1, hw1⟩ : ∃ w1, w1 = w.alloc (.cells #[.int .i64 f, .int .i64 t, .int .i64 5, .int .i64 ba, .int .i64 bn, .slice a1 ntx c1, .int .i64 ha, .int .i64 hr, .slice a2 nbs c2, .slice a3 nps c3, .int .i64 sa, .int .i64 sr, .slice a4 nd c4, .int .i64 ca, .int .i64 cr, .slice a5 ncb c5, .slice a6 ncp c6, .slice a7 nvs c7, .int .i64 r] 106) := ⟨_, rfl⟩
  have bx : BoxAt w1 w.heap.size [.int .i64 f, .int .i64 t, .int .i64 5, .int .i64 ba, .int .i64 bn, .slice a1 ntx c1, .int .i64 ha, .int .i64 hr, .slice a2 nbs c2, .slice a3 nps c3, .int .i64 sa, .int .i64 sr, .slice a4 nd c4, .int .i64 ca, .int .i64 cr, .slice a5 ncb c5, .slice a6 ncp c6, .slice a7 nvs c7, .int .i64 r] 106 := by rw [hw1]; exact BoxAt.new w [.int .i64 f, .int .i64 t, .int .i64 5, .int .i64 ba, .int .i64 bn, .slice a1 ntx c1, .int .i64 ha, .int .i64 hr, .slice a2 nbs c2, .slice a3 nps c3, .int .i64 sa, .int .i64 sr, .slice a4 nd c4, .int .i64 ca, .int .i64 cr, .slice a5 ncb c5, .slice a6 ncp c6, .slice a7 nvs c7, .int .i64 r] _
  have hb1 : Below w.heap.size w w1 := by rw [hw1]; exact (Below.refl _ _).alloc (Nat.le_refl _) _
  have zz1 : w1.heap.size = w.heap.size + 1 := by rw [hw1]; simp
  rw [← hw1]
  have HBX1 := Lib.hid bx
  have HB1 := Lib.hid hb1
  have HZ1 := Lib.hid zz1
  clear hw1 bx hb1 zz1
  go_wp2_with (refine wpList_load_box rfl 106 _ rfl w.heap.size rfl [.int .i64 f, .int .i64 t, .int .i64 5, .int .i64 ba, .int .i64 bn, .slice a1 ntx c1, .int .i64 ha, .int .i64 hr, .slice a2 nbs c2, .slice a3 nps c3, .int .i64 sa, .int .i64 sr, .slice a4 nd c4, .int .i64 ca, .int .i64 cr, .slice a5 ncb c5, .slice a6 ncp c6, .slice a7 nvs c7, .int .i64 r] 106 HBX1.out Tryz.underlying106 rfl (by kernel_rfl) ?_)
  refine (HC.out w1 HB1.out).mono ?_
  rintro e w2 ⟨rfl, hb2⟩
  have bx2 := HBX1.out.belowS hb2
  have hbw2 : Below w.heap.size w w2 := HB1.out.trans (hb2.mono HB1.out.size)
  have hX2 : w.heap.size < w2.heap.size := bx2.lt
  have x0 := bx2.cell 0 rfl
  have x1 := bx2.cell 1 rfl
  have x2 := bx2.cell 2 rfl
  have x18 := bx2.cell 18 rfl
  have HBX := Lib.hid bx2
  have HBW := Lib.hid hbw2
  clear bx2 hbw2 hb2
  have hlit : ∀ (q : World), q.heap.size = w2.heap.size → byteVs [byteZ 5, byteZ f, byteZ t] = [Value.int .u8 5, .int .u8 f, .int .u8 t] := fun _ _ => by
    simp only [byteVs, List.map_cons, List.map_nil, byteZ_toNat, show (f % 256) = f by omega, show (t % 256) = t by omega, show ((5 : Int) % 256) = 5 by decide]
  have HLIT := Lib.hid (hlit w2 rfl)
  clear hlit
  have HOWN := Lib.hid (show (w2.alloc (.cells #[.int .u8 5, .int .u8 f, .int .u8 t] 5)).ownsRow w2.heap.size 5 1 (.slice (some ⟨w2.heap.size, 0, none⟩) 3 3) [byteZ 5, byteZ f, byteZ t].length (byteVs [byteZ 5, byteZ f, byteZ t]) by rw [HLIT.out]; exact lit_ownsN w2 [.int .u8 5, .int .u8 f, .int .u8 t] _)
  go_wp2_with fail
  refine (wide_any w2.heap.size _ [byteZ 5, byteZ f, byteZ t] r _ HOWN.out (by simp) (by simp) z2 (by omega)).mono ?_
  rintro e w3 ⟨v3, rfl, hA⟩
  have hown := ownsRow_mono hA.own (Nat.le_of_lt hX2)
  have hfin : Below w.heap.size w w3 := hA.bel (HBW.out.alloc (Nat.le_of_lt hX2) _) (by simp; omega) (fun k hk => by simp [Value.ownBlock] at hk; omega)
  have HOW := Lib.hid hown
  clear hA hown
  go_wp2
  refine bodyPost_ret (v := .tuple #[v3, .int .i64 0]) (by simp [results, Tryz.results46, go_sem]) rfl ⟨_, rfl, by simpa using HOW.out, hfin⟩
end Go.Proofs.YtmijiclocadimaaGreatDoor
