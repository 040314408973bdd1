/- wire.Check, kind by kind: what it computes. -/
import Derived.Test.YtgkmgdkmafbohaaMsg2
set_option linter.unusedVariables false
set_option linter.unusedSimpArgs false
namespace Go.Proofs.Ytgkmgdkmafbohaa
open Go Go.RowKit

set_option maxRecDepth 100000 in
set_option maxHeartbeats 8000000 in
theorem wcheck_3 {G : Nat → Prop} (f t ba bn : Int) (a1 : Option Addr) (ntx : Nat) (c1 : Nat) (ha hr : Int) (a2 : Option Addr) (nbs : Nat) (c2 : Nat) (a3 : Option Addr) (nps : Nat) (c3 : Nat) (sa sr : Int) (a4 : Option Addr) (nd c4 : Nat) (ca cr : Int) (a5 : Option Addr) (ncb : Nat) (c5 : Nat) (a6 : Option Addr) (ncp : Nat) (c6 : Nat) (a7 : Option Addr) (nvs : Nat) (c7 : Nat) (r : Int) (w : World)
    (e1 : nodeOk f = true) (e2 : nodeOk t = true)  (h1 : nbs + nps ≤ 9223372036854775807) (h2 : ncb + ncp ≤ 9223372036854775807) :
    Calls Try.prog 18 #[.agg #[.int .i64 f, .int .i64 t, .int .i64 3, .int .i64 ba, .int .i64 bn, .slice a1 ntx c1, .int .i64 ha, .int .i64 hr, .slice a2 nbs c2, .slice a3 nps c3, .int .i64 sa, .int .i64 sr, .slice a4 nd c4, .int .i64 ca, .int .i64 cr, .slice a5 ncb c5, .slice a6 ncp c6, .slice a7 nvs c7, .int .i64 r]] w fun e w' => e = .returned (.int .i64 (if sltCode sa sr nd ≠ 0 then sltCode sa sr nd else if noneB ba bn ntx ha hr nbs nps 0 0 0 ca cr ncb ncp nvs r = true then 0 else 4)) ∧ Below w.heap.size w w' := by
  go_enter Try.func18, Try.ntmps18
  go_upto_region 1 with fail
  obtain ⟨w1, hw1⟩ : ∃ w1, w1 = w.alloc (.cells #[.int .i64 f, .int .i64 t, .int .i64 3, .int .i64 ba, .int .i64 bn, .slice a1 ntx c1, .int .i64 ha, .int .i64 hr, .slice a2 nbs c2, .slice a3 nps c3, .int .i64 sa, .int .i64 sr, .slice a4 nd c4, .int .i64 ca, .int .i64 cr, .slice a5 ncb c5, .slice a6 ncp c6, .slice a7 nvs c7, .int .i64 r] 42) := ⟨_, rfl⟩
  have bx : BoxAt w1 w.heap.size [.int .i64 f, .int .i64 t, .int .i64 3, .int .i64 ba, .int .i64 bn, .slice a1 ntx c1, .int .i64 ha, .int .i64 hr, .slice a2 nbs c2, .slice a3 nps c3, .int .i64 sa, .int .i64 sr, .slice a4 nd c4, .int .i64 ca, .int .i64 cr, .slice a5 ncb c5, .slice a6 ncp c6, .slice a7 nvs c7, .int .i64 r] 42 := by rw [hw1]; exact BoxAt.new w [.int .i64 f, .int .i64 t, .int .i64 3, .int .i64 ba, .int .i64 bn, .slice a1 ntx c1, .int .i64 ha, .int .i64 hr, .slice a2 nbs c2, .slice a3 nps c3, .int .i64 sa, .int .i64 sr, .slice a4 nd c4, .int .i64 ca, .int .i64 cr, .slice a5 ncb c5, .slice a6 ncp c6, .slice a7 nvs c7, .int .i64 r] _
  have hb1 : Below w.heap.size w w1 := by rw [hw1]; exact (Below.refl _ _).alloc (Nat.le_refl _) _
  have z1 : w1.heap.size = w.heap.size + 1 := by rw [hw1]; simp
  rw [← hw1]
  have HBX := Lib.hid bx
  have HB1 := Lib.hid hb1
  have HZ1 := Lib.hid z1
  have p0 := bx.cell 0 rfl
  have p1 := bx.cell 1 rfl
  clear hw1 bx hb1 z1
  go_upto_region 3 with (go_at_call 29; refine (node_any _ _).mono ?_; rintro e w' ⟨rfl, rfl⟩)
  go_upto_region 15 with (first
    | (refine wpList_load_box rfl 42 _ rfl w.heap.size rfl [.int .i64 f, .int .i64 t, .int .i64 3, .int .i64 ba, .int .i64 bn, .slice a1 ntx c1, .int .i64 ha, .int .i64 hr, .slice a2 nbs c2, .slice a3 nps c3, .int .i64 sa, .int .i64 sr, .slice a4 nd c4, .int .i64 ca, .int .i64 cr, .slice a5 ncb c5, .slice a6 ncp c6, .slice a7 nvs c7, .int .i64 r] 42 HBX.out Try.underlying42 rfl (by kernel_rfl) ?_)
    | (refine wpList_store_new rfl 42 _ _ rfl [.int .i64 f, .int .i64 t, .int .i64 3, .int .i64 ba, .int .i64 bn, .slice a1 ntx c1, .int .i64 ha, .int .i64 hr, .slice a2 nbs c2, .slice a3 nps c3, .int .i64 sa, .int .i64 sr, .slice a4 nd c4, .int .i64 ca, .int .i64 cr, .slice a5 ncb c5, .slice a6 ncp c6, .slice a7 nvs c7, .int .i64 r] 42 zeroMsg rfl rfl (by kernel_rfl) rfl rfl ?_; intro w2 hb2 hB2 hs2; have q2 := ((bcellAt hB2 _ HBX.out.lt).1 2).trans (HBX.out.cell 2 rfl); have q10 := ((bcellAt hB2 _ HBX.out.lt).1 10).trans (HBX.out.cell 10 rfl); have q11 := ((bcellAt hB2 _ HBX.out.lt).1 11).trans (HBX.out.cell 11 rfl); have q12 := ((bcellAt hB2 _ HBX.out.lt).1 12).trans (HBX.out.cell 12 rfl); have r10 := hb2.cell 10 rfl; have rf10 := hb2.free 10; have r11 := hb2.cell 11 rfl; have rf11 := hb2.free 11; have r12 := hb2.cell 12 rfl; have rf12 := hb2.free 12; have n12 : w1.heap.size ≠ w.heap.size := (by have := HZ1.out; omega); have n21 : w.heap.size ≠ w1.heap.size := (by have := HZ1.out; omega); have HB2 := Lib.hid hB2; have HBR := Lib.hid hb2; have HZ2 := Lib.hid hs2; clear hb2 hB2 hs2))
  obtain ⟨w3, hw3⟩ : ∃ w3, w3 = (((w2.setCell ⟨w1.heap.size, 10, none⟩ (.int .i64 0)).setCell ⟨w1.heap.size, 11, none⟩ (.int .i64 0)).setCell ⟨w1.heap.size, 12, none⟩ (.slice none 0 0)) := ⟨_, rfl⟩
  have hB3 : Below w1.heap.size w1 w3 := by rw [hw3]; exact (((HB2.out.setCell (p := ⟨w1.heap.size, 10, none⟩) (Nat.le_refl _) (.int .i64 0)).setCell (p := ⟨w1.heap.size, 11, none⟩) (Nat.le_refl _) (.int .i64 0)).setCell (p := ⟨w1.heap.size, 12, none⟩) (Nat.le_refl _) (.slice none 0 0))
  have hbz : BoxAt w3 w1.heap.size [.int .i64 f, .int .i64 t, .int .i64 3, .int .i64 ba, .int .i64 bn, .slice a1 ntx c1, .int .i64 ha, .int .i64 hr, .slice a2 nbs c2, .slice a3 nps c3, .int .i64 0, .int .i64 0, .slice none 0 0, .int .i64 ca, .int .i64 cr, .slice a5 ncb c5, .slice a6 ncp c6, .slice a7 nvs c7, .int .i64 r] 42 := by rw [hw3]; exact (((HBR.out.set 10 (.int .i64 0)).set 11 (.int .i64 0)).set 12 (.slice none 0 0))
  have s3 : w3.heap.size = w1.heap.size + 1 := by rw [hw3]; simp [HZ2.out]
  rw [← hw3]
  have m10 := ((bcellAt hB3 _ HBX.out.lt).1 10).trans (HBX.out.cell 10 rfl)
  have m11 := ((bcellAt hB3 _ HBX.out.lt).1 11).trans (HBX.out.cell 11 rfl)
  have m12 := ((bcellAt hB3 _ HBX.out.lt).1 12).trans (HBX.out.cell 12 rfl)
  have HB3 := Lib.hid hB3
  have HBZ3 := Lib.hid hbz
  have HS3 := Lib.hid s3
  clear hw3 hB3 hbz s3 q2 q10 q11 q12 r10 rf10 r11 rf11 r12 rf12
  go_wp2_with fail
  refine (cslot_any _ _ _ _ _ _).mono ?_
  rintro e w4 ⟨rfl, hb4⟩
  have HBZ := Lib.hid (HBZ3.out.belowS hb4)
  have HB4 := Lib.hid (show Below w.heap.size w w4 from (HB1.out.trans (HB3.out.mono HB1.out.size)).trans (hb4.mono (by have := HB1.out.size; have := HB3.out.size; omega)))
  clear hb4
  by_cases d : sltCode sa sr nd = 0
  · have d1c : (sltCode sa sr nd != 0) = false := by simp [d]
    go_wp2_with (first | (refine wpList_load_box rfl 42 _ rfl w1.heap.size rfl [.int .i64 f, .int .i64 t, .int .i64 3, .int .i64 ba, .int .i64 bn, .slice a1 ntx c1, .int .i64 ha, .int .i64 hr, .slice a2 nbs c2, .slice a3 nps c3, .int .i64 0, .int .i64 0, .slice none 0 0, .int .i64 ca, .int .i64 cr, .slice a5 ncb c5, .slice a6 ncp c6, .slice a7 nvs c7, .int .i64 r] 42 HBZ.out Try.underlying42 rfl (by kernel_rfl) ?_))
    refine (none_any f t 3 ba bn a1 ntx c1 ha hr a2 nbs c2 a3 nps c3 0 0 none 0 0 ca cr a5 ncb c5 a6 ncp c6 a7 nvs c7 r _ h1 h2).mono ?_
    rintro e w5 ⟨rfl, hb5⟩
    have hB5 := HB4.out.trans (hb5.mono HB4.out.size)
    cases hn : noneB ba bn ntx ha hr nbs nps 0 0 0 ca cr ncb ncp nvs r
    · go_wp2
      all_goals
        go_ret
        exact ⟨ret_intH (by first | rfl | (rw [if_neg (show ¬ (sltCode sa sr nd ≠ 0) by simp [d])]; rfl)), hB5⟩
    · go_wp2
      all_goals
        go_ret
        exact ⟨ret_intH (by first | rfl | (rw [if_neg (show ¬ (sltCode sa sr nd ≠ 0) by simp [d])]; rfl)), hB5⟩
  · have d1c : (sltCode sa sr nd != 0) = true := by rw [bne_iff_ne]; exact d
    have HD := Lib.hid d
    clear d
    go_wp2
    go_ret
    exact ⟨ret_intH (by first | rfl | exact if_pos HD.out), HB4.out⟩
end Go.Proofs.Ytgkmgdkmafbohaa
