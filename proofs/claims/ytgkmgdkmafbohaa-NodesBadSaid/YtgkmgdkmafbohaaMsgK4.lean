/- wire.Check, kind by kind: what it computes. -/
import Derived.Test.YtgkmgdkmafbohaaMsg2
set_option linter.unusedVariables false
set_option linter.unusedSimpArgs false
namespace Go.Proofs.Ytgkmgdkmafbohaa
open Go Go.RowKit

set_option maxRecDepth 100000 in
set_option maxHeartbeats 8000000 in
theorem wcheck_4 {G : Nat → Prop} {cb cp : List Bytes} {vs : List Int} (f t ba bn : Int) (a1 : Option Addr) (ntx : Nat) (c1 : Nat) (ha hr : Int) (a2 : Option Addr) (nbs : Nat) (c2 : Nat) (a3 : Option Addr) (nps : Nat) (c3 : Nat) (sa sr : Int) (a4 : Option Addr) (nd c4 : Nat) (ca cr : Int) (a5 : Option Addr) (c5 : Nat) (a6 : Option Addr) (c6 : Nat) (a7 : Option Addr) (c7 : Nat) (r : Int) (w : World)
    (e1 : nodeOk f = true) (e2 : nodeOk t = true) (g5 : RdBB G w (.slice a5 cb.length c5) cb) (g6 : RdBB G w (.slice a6 cp.length c6) cp) (g7 : RdI G w (.slice a7 vs.length c7) vs) (h1 : nbs + nps ≤ 9223372036854775807) (h2 : 0 + 0 ≤ 9223372036854775807) :
    Calls Try.prog 18 #[.agg #[.int .i64 f, .int .i64 t, .int .i64 4, .int .i64 ba, .int .i64 bn, .slice a1 ntx c1, .int .i64 ha, .int .i64 hr, .slice a2 nbs c2, .slice a3 nps c3, .int .i64 sa, .int .i64 sr, .slice a4 nd c4, .int .i64 ca, .int .i64 cr, .slice a5 cb.length c5, .slice a6 cp.length c6, .slice a7 vs.length c7, .int .i64 r]] w fun e w' => e = .returned (.int .i64 (if crtCode ⟨⟨ca, cr, cb, cp⟩, vs⟩ ≠ 0 then crtCode ⟨⟨ca, cr, cb, cp⟩, vs⟩ else if noneB ba bn ntx ha hr nbs nps sa sr nd 0 0 0 0 0 r = true then 0 else 4)) ∧ Below w.heap.size w w' := by
  have G5 := Lib.hid (g5.low (by decide))
  have G6 := Lib.hid (g6.low (by decide))
  have G7 := Lib.hid (g7.low (by decide))
  clear g5 g6 g7
  go_enter Try.func18, Try.ntmps18
  go_upto_region 1 with fail
  obtain ⟨w1, hw1⟩ : ∃ w1, w1 = w.alloc (.cells #[.int .i64 f, .int .i64 t, .int .i64 4, .int .i64 ba, .int .i64 bn, .slice a1 ntx c1, .int .i64 ha, .int .i64 hr, .slice a2 nbs c2, .slice a3 nps c3, .int .i64 sa, .int .i64 sr, .slice a4 nd c4, .int .i64 ca, .int .i64 cr, .slice a5 cb.length c5, .slice a6 cp.length c6, .slice a7 vs.length c7, .int .i64 r] 42) := ⟨_, rfl⟩
  have bx : BoxAt w1 w.heap.size [.int .i64 f, .int .i64 t, .int .i64 4, .int .i64 ba, .int .i64 bn, .slice a1 ntx c1, .int .i64 ha, .int .i64 hr, .slice a2 nbs c2, .slice a3 nps c3, .int .i64 sa, .int .i64 sr, .slice a4 nd c4, .int .i64 ca, .int .i64 cr, .slice a5 cb.length c5, .slice a6 cp.length c6, .slice a7 vs.length c7, .int .i64 r] 42 := by rw [hw1]; exact BoxAt.new w [.int .i64 f, .int .i64 t, .int .i64 4, .int .i64 ba, .int .i64 bn, .slice a1 ntx c1, .int .i64 ha, .int .i64 hr, .slice a2 nbs c2, .slice a3 nps c3, .int .i64 sa, .int .i64 sr, .slice a4 nd c4, .int .i64 ca, .int .i64 cr, .slice a5 cb.length c5, .slice a6 cp.length c6, .slice a7 vs.length c7, .int .i64 r] _
  have hb1 : Below w.heap.size w w1 := by rw [hw1]; exact (Below.refl _ _).alloc (Nat.le_refl _) _
  have z1 : w1.heap.size = w.heap.size + 1 := by rw [hw1]; simp
  rw [← hw1]
  have HBX := Lib.hid bx
  have HB1 := Lib.hid hb1
  have HZ1 := Lib.hid z1
  have p0 := bx.cell 0 rfl
  have p1 := bx.cell 1 rfl
  clear hw1 bx hb1 z1
  go_upto_region 3 with (go_at_call 29; refine (node_any _ _).mono ?_; rintro e w' ⟨rfl, rfl⟩)
  go_upto_region 18 with (first
    | (refine wpList_load_box rfl 42 _ rfl w.heap.size rfl [.int .i64 f, .int .i64 t, .int .i64 4, .int .i64 ba, .int .i64 bn, .slice a1 ntx c1, .int .i64 ha, .int .i64 hr, .slice a2 nbs c2, .slice a3 nps c3, .int .i64 sa, .int .i64 sr, .slice a4 nd c4, .int .i64 ca, .int .i64 cr, .slice a5 cb.length c5, .slice a6 cp.length c6, .slice a7 vs.length c7, .int .i64 r] 42 HBX.out Try.underlying42 rfl (by kernel_rfl) ?_)
    | (refine wpList_store_new rfl 42 _ _ rfl [.int .i64 f, .int .i64 t, .int .i64 4, .int .i64 ba, .int .i64 bn, .slice a1 ntx c1, .int .i64 ha, .int .i64 hr, .slice a2 nbs c2, .slice a3 nps c3, .int .i64 sa, .int .i64 sr, .slice a4 nd c4, .int .i64 ca, .int .i64 cr, .slice a5 cb.length c5, .slice a6 cp.length c6, .slice a7 vs.length c7, .int .i64 r] 42 zeroMsg rfl rfl (by kernel_rfl) rfl rfl ?_; intro w2 hb2 hB2 hs2; have q2 := ((bcellAt hB2 _ HBX.out.lt).1 2).trans (HBX.out.cell 2 rfl); have q13 := ((bcellAt hB2 _ HBX.out.lt).1 13).trans (HBX.out.cell 13 rfl); have q14 := ((bcellAt hB2 _ HBX.out.lt).1 14).trans (HBX.out.cell 14 rfl); have q15 := ((bcellAt hB2 _ HBX.out.lt).1 15).trans (HBX.out.cell 15 rfl); have q16 := ((bcellAt hB2 _ HBX.out.lt).1 16).trans (HBX.out.cell 16 rfl); have q17 := ((bcellAt hB2 _ HBX.out.lt).1 17).trans (HBX.out.cell 17 rfl); have r13 := hb2.cell 13 rfl; have rf13 := hb2.free 13; have r14 := hb2.cell 14 rfl; have rf14 := hb2.free 14; have r15 := hb2.cell 15 rfl; have rf15 := hb2.free 15; have r16 := hb2.cell 16 rfl; have rf16 := hb2.free 16; have r17 := hb2.cell 17 rfl; have rf17 := hb2.free 17; have n12 : w1.heap.size ≠ w.heap.size := (by have := HZ1.out; omega); have n21 : w.heap.size ≠ w1.heap.size := (by have := HZ1.out; omega); have HB2 := Lib.hid hB2; have HBR := Lib.hid hb2; have HZ2 := Lib.hid hs2; clear hb2 hB2 hs2))
  obtain ⟨w3, hw3⟩ : ∃ w3, w3 = (((((w2.setCell ⟨w1.heap.size, 13, none⟩ (.int .i64 0)).setCell ⟨w1.heap.size, 14, none⟩ (.int .i64 0)).setCell ⟨w1.heap.size, 15, none⟩ (.slice none 0 0)).setCell ⟨w1.heap.size, 16, none⟩ (.slice none 0 0)).setCell ⟨w1.heap.size, 17, none⟩ (.slice none 0 0)) := ⟨_, rfl⟩
  have hB3 : Below w1.heap.size w1 w3 := by rw [hw3]; exact (((((HB2.out.setCell (p := ⟨w1.heap.size, 13, none⟩) (Nat.le_refl _) (.int .i64 0)).setCell (p := ⟨w1.heap.size, 14, none⟩) (Nat.le_refl _) (.int .i64 0)).setCell (p := ⟨w1.heap.size, 15, none⟩) (Nat.le_refl _) (.slice none 0 0)).setCell (p := ⟨w1.heap.size, 16, none⟩) (Nat.le_refl _) (.slice none 0 0)).setCell (p := ⟨w1.heap.size, 17, none⟩) (Nat.le_refl _) (.slice none 0 0))
  have hbz : BoxAt w3 w1.heap.size [.int .i64 f, .int .i64 t, .int .i64 4, .int .i64 ba, .int .i64 bn, .slice a1 ntx c1, .int .i64 ha, .int .i64 hr, .slice a2 nbs c2, .slice a3 nps c3, .int .i64 sa, .int .i64 sr, .slice a4 nd c4, .int .i64 0, .int .i64 0, .slice none 0 0, .slice none 0 0, .slice none 0 0, .int .i64 r] 42 := by rw [hw3]; exact (((((HBR.out.set 13 (.int .i64 0)).set 14 (.int .i64 0)).set 15 (.slice none 0 0)).set 16 (.slice none 0 0)).set 17 (.slice none 0 0))
  have s3 : w3.heap.size = w1.heap.size + 1 := by rw [hw3]; simp [HZ2.out]
  rw [← hw3]
  have m13 := ((bcellAt hB3 _ HBX.out.lt).1 13).trans (HBX.out.cell 13 rfl)
  have m14 := ((bcellAt hB3 _ HBX.out.lt).1 14).trans (HBX.out.cell 14 rfl)
  have m15 := ((bcellAt hB3 _ HBX.out.lt).1 15).trans (HBX.out.cell 15 rfl)
  have m16 := ((bcellAt hB3 _ HBX.out.lt).1 16).trans (HBX.out.cell 16 rfl)
  have m17 := ((bcellAt hB3 _ HBX.out.lt).1 17).trans (HBX.out.cell 17 rfl)
  have HB3 := Lib.hid hB3
  have HBZ3 := Lib.hid hbz
  have HS3 := Lib.hid s3
  clear hw3 hB3 hbz s3 q2 q13 q14 q15 q16 q17 r13 rf13 r14 rf14 r15 rf15 r16 rf16 r17 rf17
  go_wp2_with fail
  refine (ccert_any _ _ _ _ _ _ (G5.out.keep (G' := fun _ => True) ((Keep.below HB1.out).trans (Keep.below HB3.out)) (fun _ _ => trivial)) (G6.out.keep (G' := fun _ => True) ((Keep.below HB1.out).trans (Keep.below HB3.out)) (fun _ _ => trivial)) (G7.out.keep (G' := fun _ => True) ((Keep.below HB1.out).trans (Keep.below HB3.out)) (fun _ _ => trivial))).mono ?_
  rintro e w4 ⟨rfl, hb4⟩
  have HBZ := Lib.hid (HBZ3.out.belowS hb4)
  have HB4 := Lib.hid (show Below w.heap.size w w4 from (HB1.out.trans (HB3.out.mono HB1.out.size)).trans (hb4.mono (by have := HB1.out.size; have := HB3.out.size; omega)))
  clear hb4
  by_cases d : crtCode ⟨⟨ca, cr, cb, cp⟩, vs⟩ = 0
  · have d1c : (crtCode ⟨⟨ca, cr, cb, cp⟩, vs⟩ != 0) = false := by simp [d]
    go_wp2_with (first | (refine wpList_load_box rfl 42 _ rfl w1.heap.size rfl [.int .i64 f, .int .i64 t, .int .i64 4, .int .i64 ba, .int .i64 bn, .slice a1 ntx c1, .int .i64 ha, .int .i64 hr, .slice a2 nbs c2, .slice a3 nps c3, .int .i64 sa, .int .i64 sr, .slice a4 nd c4, .int .i64 0, .int .i64 0, .slice none 0 0, .slice none 0 0, .slice none 0 0, .int .i64 r] 42 HBZ.out Try.underlying42 rfl (by kernel_rfl) ?_))
    refine (none_any f t 4 ba bn a1 ntx c1 ha hr a2 nbs c2 a3 nps c3 sa sr a4 nd c4 0 0 none 0 0 none 0 0 none 0 0 r _ h1 (by decide)).mono ?_
    rintro e w5 ⟨rfl, hb5⟩
    have hB5 := HB4.out.trans (hb5.mono HB4.out.size)
    cases hn : noneB ba bn ntx ha hr nbs nps sa sr nd 0 0 0 0 0 r
    · go_wp2
      all_goals
        go_ret
        exact ⟨ret_intH (by first | rfl | (rw [if_neg (show ¬ (crtCode ⟨⟨ca, cr, cb, cp⟩, vs⟩ ≠ 0) by simp [d])]; rfl)), hB5⟩
    · go_wp2
      all_goals
        go_ret
        exact ⟨ret_intH (by first | rfl | (rw [if_neg (show ¬ (crtCode ⟨⟨ca, cr, cb, cp⟩, vs⟩ ≠ 0) by simp [d])]; rfl)), hB5⟩
  · have d1c : (crtCode ⟨⟨ca, cr, cb, cp⟩, vs⟩ != 0) = true := by rw [bne_iff_ne]; exact d
    have HD := Lib.hid d
    clear d
    go_wp2
    go_ret
    exact ⟨ret_intH (by first | rfl | exact if_pos HD.out), HB4.out⟩
end Go.Proofs.Ytgkmgdkmafbohaa
