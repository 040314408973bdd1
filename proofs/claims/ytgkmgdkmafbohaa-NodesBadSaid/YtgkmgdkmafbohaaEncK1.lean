/- wire.Encode, kind 1: what it computes. -/
import Derived.Test.YtgkmgdkmafbohaaEnc3
import Derived.Test.YtgkmgdkmafbohaaMsgC
set_option linter.unusedVariables false
set_option linter.unusedSimpArgs false
namespace Go.Proofs.Ytgkmgdkmafbohaa
open Go Go.RowKit

set_option maxRecDepth 100000 in
set_option maxHeartbeats 8000000 in
theorem wencode_1 {G : Nat → Prop} {txs : List Bytes} (f t ba bn : Int) (a1 : Option Addr) (c1 : Nat) (ha hr : Int) (a2 : Option Addr) (nbs : Nat) (c2 : Nat) (a3 : Option Addr) (nps : Nat) (c3 : Nat) (sa sr : Int) (a4 : Option Addr) (nd : Nat) (c4 : Nat) (ca cr : Int) (a5 : Option Addr) (ncb : Nat) (c5 : Nat) (a6 : Option Addr) (ncp : Nat) (c6 : Nat) (a7 : Option Addr) (nvs : Nat) (c7 : Nat) (r : Int) (w : World)
    (hC : ∀ w', Below w.heap.size w w' → Calls Try.prog 18 #[.agg #[.int .i64 f, .int .i64 t, .int .i64 1, .int .i64 ba, .int .i64 bn, .slice a1 txs.length c1, .int .i64 ha, .int .i64 hr, .slice a2 nbs c2, .slice a3 nps c3, .int .i64 sa, .int .i64 sr, .slice a4 nd c4, .int .i64 ca, .int .i64 cr, .slice a5 ncb c5, .slice a6 ncp c6, .slice a7 nvs c7, .int .i64 r]] w' fun e w'' => e = .returned (.int .i64 0) ∧ Below w'.heap.size w' w'')
    (f0 : 0 ≤ f) (f1 : f < 4) (t0 : 0 ≤ t) (t1 : t < 4) (g1 : RdT G w (.slice a1 txs.length c1) txs) (k1 : ∀ x ∈ txs, txLen x = true) (k2 : txs.length ≤ 4) (z0 : 0 ≤ ba) (z1 : ba < 4) (z2 : 0 ≤ bn) (z3 : bn ≤ 1048576) :
    Calls Try.prog 20 #[.agg #[.int .i64 f, .int .i64 t, .int .i64 1, .int .i64 ba, .int .i64 bn, .slice a1 txs.length c1, .int .i64 ha, .int .i64 hr, .slice a2 nbs c2, .slice a3 nps c3, .int .i64 sa, .int .i64 sr, .slice a4 nd c4, .int .i64 ca, .int .i64 cr, .slice a5 ncb c5, .slice a6 ncp c6, .slice a7 nvs c7, .int .i64 r]] w fun e w' => ∃ v', e = .returned (.tuple #[v', .int .i64 0]) ∧
      w'.ownsRow w.heap.size 5 1 v' (byteZ 1 :: byteZ f :: byteZ t :: (putBatchL ⟨ba, bn, txs⟩)).length (byteVs (byteZ 1 :: byteZ f :: byteZ t :: (putBatchL ⟨ba, bn, txs⟩))) ∧ Below w.heap.size w w' := by
  have G1 := Lib.hid (g1.low (by decide))
  have HC := Lib.hid hC
  have K1 := Lib.hid k1
  clear g1 hC k1
  go_enter Try.func20, Try.ntmps20
  go_upto_region 1 with fail
  obtain ⟨w1, hw1⟩ : ∃ w1, w1 = w.alloc (.cells #[.int .i64 f, .int .i64 t, .int .i64 1, .int .i64 ba, .int .i64 bn, .slice a1 txs.length c1, .int .i64 ha, .int .i64 hr, .slice a2 nbs c2, .slice a3 nps c3, .int .i64 sa, .int .i64 sr, .slice a4 nd c4, .int .i64 ca, .int .i64 cr, .slice a5 ncb c5, .slice a6 ncp c6, .slice a7 nvs c7, .int .i64 r] 42) := ⟨_, rfl⟩
  have bx : BoxAt w1 w.heap.size [.int .i64 f, .int .i64 t, .int .i64 1, .int .i64 ba, .int .i64 bn, .slice a1 txs.length c1, .int .i64 ha, .int .i64 hr, .slice a2 nbs c2, .slice a3 nps c3, .int .i64 sa, .int .i64 sr, .slice a4 nd c4, .int .i64 ca, .int .i64 cr, .slice a5 ncb c5, .slice a6 ncp c6, .slice a7 nvs c7, .int .i64 r] 42 := by rw [hw1]; exact BoxAt.new w [.int .i64 f, .int .i64 t, .int .i64 1, .int .i64 ba, .int .i64 bn, .slice a1 txs.length c1, .int .i64 ha, .int .i64 hr, .slice a2 nbs c2, .slice a3 nps c3, .int .i64 sa, .int .i64 sr, .slice a4 nd c4, .int .i64 ca, .int .i64 cr, .slice a5 ncb c5, .slice a6 ncp c6, .slice a7 nvs c7, .int .i64 r] _
  have hb1 : Below w.heap.size w w1 := by rw [hw1]; exact (Below.refl _ _).alloc (Nat.le_refl _) _
  have zz1 : w1.heap.size = w.heap.size + 1 := by rw [hw1]; simp
  rw [← hw1]
  have HBX1 := Lib.hid bx
  have HB1 := Lib.hid hb1
  have HZ1 := Lib.hid zz1
  clear hw1 bx hb1 zz1
  go_wp2_with (refine wpList_load_box rfl 42 _ rfl w.heap.size rfl [.int .i64 f, .int .i64 t, .int .i64 1, .int .i64 ba, .int .i64 bn, .slice a1 txs.length c1, .int .i64 ha, .int .i64 hr, .slice a2 nbs c2, .slice a3 nps c3, .int .i64 sa, .int .i64 sr, .slice a4 nd c4, .int .i64 ca, .int .i64 cr, .slice a5 ncb c5, .slice a6 ncp c6, .slice a7 nvs c7, .int .i64 r] 42 HBX1.out Try.underlying42 rfl (by kernel_rfl) ?_)
  refine (HC.out w1 HB1.out).mono ?_
  rintro e w2 ⟨rfl, hb2⟩
  have bx2 := HBX1.out.belowS hb2
  have hbw2 : Below w.heap.size w w2 := HB1.out.trans (hb2.mono HB1.out.size)
  have hX2 : w.heap.size < w2.heap.size := bx2.lt
  have R1 := Lib.hid (G1.out.below hbw2 (fun _ h => h))
  have x0 := bx2.cell 0 rfl
  have x1 := bx2.cell 1 rfl
  have x2 := bx2.cell 2 rfl
  have x3 := bx2.cell 3 rfl
  have x4 := bx2.cell 4 rfl
  have x5 := bx2.cell 5 rfl
  have HBX := Lib.hid bx2
  have HBW := Lib.hid hbw2
  clear bx2 hbw2 hb2
  have hlit : ∀ (q : World), q.heap.size = w2.heap.size → byteVs [byteZ 1, byteZ f, byteZ t] = [Value.int .u8 1, .int .u8 f, .int .u8 t] := fun _ _ => by
    simp only [byteVs, List.map_cons, List.map_nil, byteZ_toNat, show (f % 256) = f by omega, show (t % 256) = t by omega, show ((1 : Int) % 256) = 1 by decide]
  have HLIT := Lib.hid (hlit w2 rfl)
  clear hlit
  have HOWN := Lib.hid (show (w2.alloc (.cells #[.int .u8 1, .int .u8 f, .int .u8 t] 5)).ownsRow w2.heap.size 5 1 (.slice (some ⟨w2.heap.size, 0, none⟩) 3 3) [byteZ 1, byteZ f, byteZ t].length (byteVs [byteZ 1, byteZ f, byteZ t]) by rw [HLIT.out]; exact lit_ownsN w2 [.int .u8 1, .int .u8 f, .int .u8 t] _)
  go_wp2_with fail
  refine (putBatch_any w2.heap.size _ [byteZ 1, byteZ f, byteZ t] ba bn _ txs _ HOWN.out (by simp) (by simp) (R1.out.keep (Keep.alloc _ _ _) (fun _ h => h)) K1.out k2 (fun b hb => by have := hb.2; simp [Value.ownBlock]; omega) z0 z1 z2 z3).mono ?_
  rintro e w3 ⟨v3, rfl, hA⟩
  have hown := ownsRow_mono hA.own (Nat.le_of_lt hX2)
  have hfin : Below w.heap.size w w3 := hA.bel (HBW.out.alloc (Nat.le_of_lt hX2) _) (by simp; omega) (fun k hk => by simp [Value.ownBlock] at hk; omega)
  have HOW := Lib.hid hown
  clear hA hown
  go_wp2
  refine bodyPost_ret (v := .tuple #[v3, .int .i64 0]) (by simp [results, Try.results20, go_sem]) rfl ⟨_, rfl, by simpa using HOW.out, hfin⟩
end Go.Proofs.Ytgkmgdkmafbohaa
