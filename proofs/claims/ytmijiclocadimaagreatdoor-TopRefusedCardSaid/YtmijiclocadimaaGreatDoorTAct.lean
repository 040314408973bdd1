/- sheavestop.act: what it computes. -/
import Derived.Test.YtmijiclocadimaaGreatDoorTWord
import Derived.Test.YtmijiclocadimaaGreatDoorMsgLaw
import Derived.Test.YtmijiclocadimaaGreatDoorEncN
import Derived.Test.YtmijiclocadimaaGreatDoorBase
set_option linter.unusedVariables false
set_option linter.unusedSimpArgs false
attribute [local go_sem ↓] Go.wp_at_zero Go.wp_at_succ
namespace Go.Proofs.YtmijiclocadimaaGreatDoor
open Go Go.RowKit

/-- The act of a gear. -/
def gearZ (z : Int) (g : GearD) : LAct :=
  if z ≤ 1 then ⟨1, pickedZ g.a 4, 0, wordB g⟩
  else if z ≤ 5 then ⟨2, pickedZ g.a 4, 0, []⟩
  else if z ≤ 9 then ⟨3, pickedZ g.a 4, 0, []⟩
  else if z ≤ 11 then ⟨4, 0, pickedZ g.b 400, []⟩
  else if z ≤ 12 then ⟨5, 0, pickedZ g.b 400, []⟩
  else if z ≤ 13 then ⟨6, 0, pickedZ g.b 400, []⟩
  else if z ≤ 14 then ⟨7, pickedZ g.a 4, pickedZ g.b 700, []⟩
  else if z ≤ 15 then ⟨8, pickedZ g.a 4, 0, []⟩
  else if z ≤ 16 then ⟨9, pickedZ g.a 4, 0, encL (msgOf g.b g.a g.b g.a [g.t])⟩
  else ⟨10, 0, 0, []⟩
def gearA (g : GearD) : LAct := gearZ (pickedZ g.k 20) g
theorem rd_one {w : World} {b : Nat} {s : Bytes} {T : TypeId} (h : BoxAt w b [strV s] T) : RdT (fun _ => True) w (.slice (some ⟨b, 0, none⟩) 1 1) [s] :=
  ⟨_, 1, rfl, Nat.le_refl _, by unfold maxLen; simp, fun h => by simp at h, fun j x hx => by
    match j, hx with
    | 0, hx =>
      simp at hx; subst hx
      refine ⟨b, 0, [strV s], rfl, trivial, fun t c ht => ?_, rfl⟩
      match t, ht with
      | 0, ht => simp at ht; subst ht; exact h.cell 0 rfl⟩
set_option maxRecDepth 100000 in
set_option maxHeartbeats 8000000 in
theorem act_any (g : GearD) (hg : GearOk g) (w : World) :
    Calls Tryz.prog 31 #[.agg #[.int .i64 g.k, .int .i64 g.a, .int .i64 g.b, strV g.t]] w fun e w' => e = .returned (.agg #[.int .i64 (gearA g).k, .int .i64 (gearA g).n, .int .i64 (gearA g).p, strV (gearA g).t]) ∧ Below w.heap.size w w' := by
  have HGO := Lib.hid hg
  obtain ⟨⟨k1, k2⟩, ⟨a1, a2⟩, ⟨b1, b2⟩, ht⟩ := hg
  obtain ⟨pz0, pz1⟩ := pickedZ_range g.k 20 (by omega)
  have HG0 := Lib.hid (show gearA g = gearZ (pickedZ g.k 20) g from rfl)
  go_enter Tryz.func31, Tryz.ntmps31
  go_upto_region 1 with fail
  obtain ⟨w1, hw1⟩ : ∃ w1, w1 = (w.alloc (.cells #[.int .i64 g.k, .int .i64 g.a, .int .i64 g.b, strV g.t] 24)).alloc (.cells #[.int .i64 0, .int .i64 0, .int .i64 0, .string ⟨#[]⟩] 30) := ⟨_, rfl⟩
  have HX := Lib.hid (show BoxAt w1 w.heap.size [.int .i64 g.k, .int .i64 g.a, .int .i64 g.b, strV g.t] 24 by rw [hw1]; exact (BoxAt.new w [_, _, _, _] _).alloc _)
  have HY := Lib.hid (show BoxAt w1 (w.heap.size + 1) [.int .i64 0, .int .i64 0, .int .i64 0, .string ⟨#[]⟩] 30 by rw [hw1]; exact BoxAt.newAt (w.alloc _) [_, _, _, _] _ (by simp))
  have HB := Lib.hid (show Below w.heap.size w w1 by rw [hw1]; exact ((Below.refl _ _).alloc (Nat.le_refl _) _).alloc (by simp) _)
  rw [← hw1]
  clear hw1
  have x0 := HX.out.cell 0 rfl
  have x1 := HX.out.cell 1 rfl
  have x2 := HX.out.cell 2 rfl
  have x3 := HX.out.cell 3 rfl
  go_wp2_with fail
  refine (Picked_any g.a 4 _ a1 a2 (by omega) (by omega)).mono ?_
  rintro e w' ⟨rfl, rfl⟩
  obtain ⟨n, hn⟩ : ∃ n, n = pickedZ g.a 4 := ⟨_, rfl⟩
  have HN := Lib.hid hn
  rw [← hn]
  clear hn
  go_wp2_with fail
  refine (Picked_any g.k 20 _ k1 k2 (by omega) (by omega)).mono ?_
  rintro e w' ⟨rfl, rfl⟩
  obtain ⟨z, hz⟩ : ∃ z, z = pickedZ g.k 20 := ⟨_, rfl⟩
  have HG := Lib.hid (show gearA g = gearZ z g by rw [hz]; rfl)
  rw [← hz] at pz0 pz1 ⊢
  clear hz HG0
  obtain rfl | rfl | rfl | rfl | rfl | rfl | rfl | rfl | rfl | rfl | rfl | rfl | rfl | rfl | rfl | rfl | rfl | rfl | rfl | rfl : z = 0 ∨ z = 1 ∨ z = 2 ∨ z = 3 ∨ z = 4 ∨ z = 5 ∨ z = 6 ∨ z = 7 ∨ z = 8 ∨ z = 9 ∨ z = 10 ∨ z = 11 ∨ z = 12 ∨ z = 13 ∨ z = 14 ∨ z = 15 ∨ z = 16 ∨ z = 17 ∨ z = 18 ∨ z = 19 := by omega
  ·
    have y0 := HY.out.cell 0 rfl
    have f0 := HY.out.free 0
    have y1 := HY.out.cell 1 rfl
    have f1 := HY.out.free 1
    have y2 := HY.out.cell 2 rfl
    have f2 := HY.out.free 2
    have y3 := HY.out.cell 3 rfl
    have f3 := HY.out.free 3
    have yl := HY.out.lt
    go_wp2_with fail
    refine (word_any g HGO.out _).mono ?_
    rintro e w2 ⟨rfl, hb2⟩
    have HB2 := Lib.hid hb2
    have HY2 := Lib.hid (HY.out.belowS hb2)
    clear hb2 y0 y1 y2 y3 f0 f1 f2 f3 yl
    have y0 := HY2.out.cell 0 rfl
    have f0 := HY2.out.free 0
    have y1 := HY2.out.cell 1 rfl
    have f1 := HY2.out.free 1
    have y2 := HY2.out.cell 2 rfl
    have f2 := HY2.out.free 2
    have y3 := HY2.out.cell 3 rfl
    have f3 := HY2.out.free 3
    have yl := HY2.out.lt
    go_wp2
    clear y0 y1 y2 y3 f0 f1 f2 f3 x0 x1 x2 x3
    have HY4 := ((((HY2.out.set 0 (.int .i64 1)).set 1 (.int .i64 n)).set 2 (.int .i64 0)).set 3 (strV (wordB g)))
    have HB4 := ((((HB.out.trans (HB2.out.mono HB.out.size)).setCell (p := ⟨w.heap.size + 1, 0, none⟩) (by simp) (.int .i64 1)).setCell (p := ⟨w.heap.size + 1, 1, none⟩) (by simp) (.int .i64 n)).setCell (p := ⟨w.heap.size + 1, 2, none⟩) (by simp) (.int .i64 0)).setCell (p := ⟨w.heap.size + 1, 3, none⟩) (by simp) (strV (wordB g))
    have g0 := HY4.cell 0 rfl
    have g1 := HY4.cell 1 rfl
    have g2 := HY4.cell 2 rfl
    have g3 := HY4.cell 3 rfl
    refine bodyPost_ret (v := .agg #[.int .i64 1, .int .i64 n, .int .i64 0, strV (wordB g)]) (by simp [results, Tryz.results31, go_sem, g0, g1, g2, g3]) rfl ⟨by simp only [HG.out, HN.out]; rfl, HB4⟩
  ·
    have y0 := HY.out.cell 0 rfl
    have f0 := HY.out.free 0
    have y1 := HY.out.cell 1 rfl
    have f1 := HY.out.free 1
    have y2 := HY.out.cell 2 rfl
    have f2 := HY.out.free 2
    have y3 := HY.out.cell 3 rfl
    have f3 := HY.out.free 3
    have yl := HY.out.lt
    go_wp2_with fail
    refine (word_any g HGO.out _).mono ?_
    rintro e w2 ⟨rfl, hb2⟩
    have HB2 := Lib.hid hb2
    have HY2 := Lib.hid (HY.out.belowS hb2)
    clear hb2 y0 y1 y2 y3 f0 f1 f2 f3 yl
    have y0 := HY2.out.cell 0 rfl
    have f0 := HY2.out.free 0
    have y1 := HY2.out.cell 1 rfl
    have f1 := HY2.out.free 1
    have y2 := HY2.out.cell 2 rfl
    have f2 := HY2.out.free 2
    have y3 := HY2.out.cell 3 rfl
    have f3 := HY2.out.free 3
    have yl := HY2.out.lt
    go_wp2
    clear y0 y1 y2 y3 f0 f1 f2 f3 x0 x1 x2 x3
    have HY4 := ((((HY2.out.set 0 (.int .i64 1)).set 1 (.int .i64 n)).set 2 (.int .i64 0)).set 3 (strV (wordB g)))
    have HB4 := ((((HB.out.trans (HB2.out.mono HB.out.size)).setCell (p := ⟨w.heap.size + 1, 0, none⟩) (by simp) (.int .i64 1)).setCell (p := ⟨w.heap.size + 1, 1, none⟩) (by simp) (.int .i64 n)).setCell (p := ⟨w.heap.size + 1, 2, none⟩) (by simp) (.int .i64 0)).setCell (p := ⟨w.heap.size + 1, 3, none⟩) (by simp) (strV (wordB g))
    have g0 := HY4.cell 0 rfl
    have g1 := HY4.cell 1 rfl
    have g2 := HY4.cell 2 rfl
    have g3 := HY4.cell 3 rfl
    refine bodyPost_ret (v := .agg #[.int .i64 1, .int .i64 n, .int .i64 0, strV (wordB g)]) (by simp [results, Tryz.results31, go_sem, g0, g1, g2, g3]) rfl ⟨by simp only [HG.out, HN.out]; rfl, HB4⟩
  ·
    have y0 := HY.out.cell 0 rfl
    have f0 := HY.out.free 0
    have y1 := HY.out.cell 1 rfl
    have f1 := HY.out.free 1
    have y2 := HY.out.cell 2 rfl
    have f2 := HY.out.free 2
    have y3 := HY.out.cell 3 rfl
    have f3 := HY.out.free 3
    have yl := HY.out.lt
    go_wp2
    clear y0 y1 y2 y3 f0 f1 f2 f3 x0 x1 x2 x3
    have HY4 := ((((HY.out.set 0 (.int .i64 2)).set 1 (.int .i64 n)).set 2 (.int .i64 0)).set 3 (.string ⟨#[]⟩))
    have HB4 := ((((HB.out).setCell (p := ⟨w.heap.size + 1, 0, none⟩) (by simp) (.int .i64 2)).setCell (p := ⟨w.heap.size + 1, 1, none⟩) (by simp) (.int .i64 n)).setCell (p := ⟨w.heap.size + 1, 2, none⟩) (by simp) (.int .i64 0)).setCell (p := ⟨w.heap.size + 1, 3, none⟩) (by simp) (.string ⟨#[]⟩)
    have g0 := HY4.cell 0 rfl
    have g1 := HY4.cell 1 rfl
    have g2 := HY4.cell 2 rfl
    have g3 := HY4.cell 3 rfl
    refine bodyPost_ret (v := .agg #[.int .i64 2, .int .i64 n, .int .i64 0, .string ⟨#[]⟩]) (by simp [results, Tryz.results31, go_sem, g0, g1, g2, g3]) rfl ⟨by simp only [HG.out, HN.out]; rfl, HB4⟩
  ·
    have y0 := HY.out.cell 0 rfl
    have f0 := HY.out.free 0
    have y1 := HY.out.cell 1 rfl
    have f1 := HY.out.free 1
    have y2 := HY.out.cell 2 rfl
    have f2 := HY.out.free 2
    have y3 := HY.out.cell 3 rfl
    have f3 := HY.out.free 3
    have yl := HY.out.lt
    go_wp2
    clear y0 y1 y2 y3 f0 f1 f2 f3 x0 x1 x2 x3
    have HY4 := ((((HY.out.set 0 (.int .i64 2)).set 1 (.int .i64 n)).set 2 (.int .i64 0)).set 3 (.string ⟨#[]⟩))
    have HB4 := ((((HB.out).setCell (p := ⟨w.heap.size + 1, 0, none⟩) (by simp) (.int .i64 2)).setCell (p := ⟨w.heap.size + 1, 1, none⟩) (by simp) (.int .i64 n)).setCell (p := ⟨w.heap.size + 1, 2, none⟩) (by simp) (.int .i64 0)).setCell (p := ⟨w.heap.size + 1, 3, none⟩) (by simp) (.string ⟨#[]⟩)
    have g0 := HY4.cell 0 rfl
    have g1 := HY4.cell 1 rfl
    have g2 := HY4.cell 2 rfl
    have g3 := HY4.cell 3 rfl
    refine bodyPost_ret (v := .agg #[.int .i64 2, .int .i64 n, .int .i64 0, .string ⟨#[]⟩]) (by simp [results, Tryz.results31, go_sem, g0, g1, g2, g3]) rfl ⟨by simp only [HG.out, HN.out]; rfl, HB4⟩
  ·
    have y0 := HY.out.cell 0 rfl
    have f0 := HY.out.free 0
    have y1 := HY.out.cell 1 rfl
    have f1 := HY.out.free 1
    have y2 := HY.out.cell 2 rfl
    have f2 := HY.out.free 2
    have y3 := HY.out.cell 3 rfl
    have f3 := HY.out.free 3
    have yl := HY.out.lt
    go_wp2
    clear y0 y1 y2 y3 f0 f1 f2 f3 x0 x1 x2 x3
    have HY4 := ((((HY.out.set 0 (.int .i64 2)).set 1 (.int .i64 n)).set 2 (.int .i64 0)).set 3 (.string ⟨#[]⟩))
    have HB4 := ((((HB.out).setCell (p := ⟨w.heap.size + 1, 0, none⟩) (by simp) (.int .i64 2)).setCell (p := ⟨w.heap.size + 1, 1, none⟩) (by simp) (.int .i64 n)).setCell (p := ⟨w.heap.size + 1, 2, none⟩) (by simp) (.int .i64 0)).setCell (p := ⟨w.heap.size + 1, 3, none⟩) (by simp) (.string ⟨#[]⟩)
    have g0 := HY4.cell 0 rfl
    have g1 := HY4.cell 1 rfl
    have g2 := HY4.cell 2 rfl
    have g3 := HY4.cell 3 rfl
    refine bodyPost_ret (v := .agg #[.int .i64 2, .int .i64 n, .int .i64 0, .string ⟨#[]⟩]) (by simp [results, Tryz.results31, go_sem, g0, g1, g2, g3]) rfl ⟨by simp only [HG.out, HN.out]; rfl, HB4⟩
  ·
    have y0 := HY.out.cell 0 rfl
    have f0 := HY.out.free 0
    have y1 := HY.out.cell 1 rfl
    have f1 := HY.out.free 1
    have y2 := HY.out.cell 2 rfl
    have f2 := HY.out.free 2
    have y3 := HY.out.cell 3 rfl
    have f3 := HY.out.free 3
    have yl := HY.out.lt
    go_wp2
    clear y0 y1 y2 y3 f0 f1 f2 f3 x0 x1 x2 x3
    have HY4 := ((((HY.out.set 0 (.int .i64 2)).set 1 (.int .i64 n)).set 2 (.int .i64 0)).set 3 (.string ⟨#[]⟩))
    have HB4 := ((((HB.out).setCell (p := ⟨w.heap.size + 1, 0, none⟩) (by simp) (.int .i64 2)).setCell (p := ⟨w.heap.size + 1, 1, none⟩) (by simp) (.int .i64 n)).setCell (p := ⟨w.heap.size + 1, 2, none⟩) (by simp) (.int .i64 0)).setCell (p := ⟨w.heap.size + 1, 3, none⟩) (by simp) (.string ⟨#[]⟩)
    have g0 := HY4.cell 0 rfl
    have g1 := HY4.cell 1 rfl
    have g2 := HY4.cell 2 rfl
    have g3 := HY4.cell 3 rfl
    refine bodyPost_ret (v := .agg #[.int .i64 2, .int .i64 n, .int .i64 0, .string ⟨#[]⟩]) (by simp [results, Tryz.results31, go_sem, g0, g1, g2, g3]) rfl ⟨by simp only [HG.out, HN.out]; rfl, HB4⟩
  ·
    have y0 := HY.out.cell 0 rfl
    have f0 := HY.out.free 0
    have y1 := HY.out.cell 1 rfl
    have f1 := HY.out.free 1
    have y2 := HY.out.cell 2 rfl
    have f2 := HY.out.free 2
    have y3 := HY.out.cell 3 rfl
    have f3 := HY.out.free 3
    have yl := HY.out.lt
    go_wp2
    clear y0 y1 y2 y3 f0 f1 f2 f3 x0 x1 x2 x3
    have HY4 := ((((HY.out.set 0 (.int .i64 3)).set 1 (.int .i64 n)).set 2 (.int .i64 0)).set 3 (.string ⟨#[]⟩))
    have HB4 := ((((HB.out).setCell (p := ⟨w.heap.size + 1, 0, none⟩) (by simp) (.int .i64 3)).setCell (p := ⟨w.heap.size + 1, 1, none⟩) (by simp) (.int .i64 n)).setCell (p := ⟨w.heap.size + 1, 2, none⟩) (by simp) (.int .i64 0)).setCell (p := ⟨w.heap.size + 1, 3, none⟩) (by simp) (.string ⟨#[]⟩)
    have g0 := HY4.cell 0 rfl
    have g1 := HY4.cell 1 rfl
    have g2 := HY4.cell 2 rfl
    have g3 := HY4.cell 3 rfl
    refine bodyPost_ret (v := .agg #[.int .i64 3, .int .i64 n, .int .i64 0, .string ⟨#[]⟩]) (by simp [results, Tryz.results31, go_sem, g0, g1, g2, g3]) rfl ⟨by simp only [HG.out, HN.out]; rfl, HB4⟩
  ·
    have y0 := HY.out.cell 0 rfl
    have f0 := HY.out.free 0
    have y1 := HY.out.cell 1 rfl
    have f1 := HY.out.free 1
    have y2 := HY.out.cell 2 rfl
    have f2 := HY.out.free 2
    have y3 := HY.out.cell 3 rfl
    have f3 := HY.out.free 3
    have yl := HY.out.lt
    go_wp2
    clear y0 y1 y2 y3 f0 f1 f2 f3 x0 x1 x2 x3
    have HY4 := ((((HY.out.set 0 (.int .i64 3)).set 1 (.int .i64 n)).set 2 (.int .i64 0)).set 3 (.string ⟨#[]⟩))
    have HB4 := ((((HB.out).setCell (p := ⟨w.heap.size + 1, 0, none⟩) (by simp) (.int .i64 3)).setCell (p := ⟨w.heap.size + 1, 1, none⟩) (by simp) (.int .i64 n)).setCell (p := ⟨w.heap.size + 1, 2, none⟩) (by simp) (.int .i64 0)).setCell (p := ⟨w.heap.size + 1, 3, none⟩) (by simp) (.string ⟨#[]⟩)
    have g0 := HY4.cell 0 rfl
    have g1 := HY4.cell 1 rfl
    have g2 := HY4.cell 2 rfl
    have g3 := HY4.cell 3 rfl
    refine bodyPost_ret (v := .agg #[.int .i64 3, .int .i64 n, .int .i64 0, .string ⟨#[]⟩]) (by simp [results, Tryz.results31, go_sem, g0, g1, g2, g3]) rfl ⟨by simp only [HG.out, HN.out]; rfl, HB4⟩
  ·
    have y0 := HY.out.cell 0 rfl
    have f0 := HY.out.free 0
    have y1 := HY.out.cell 1 rfl
    have f1 := HY.out.free 1
    have y2 := HY.out.cell 2 rfl
    have f2 := HY.out.free 2
    have y3 := HY.out.cell 3 rfl
    have f3 := HY.out.free 3
    have yl := HY.out.lt
    go_wp2
    clear y0 y1 y2 y3 f0 f1 f2 f3 x0 x1 x2 x3
    have HY4 := ((((HY.out.set 0 (.int .i64 3)).set 1 (.int .i64 n)).set 2 (.int .i64 0)).set 3 (.string ⟨#[]⟩))
    have HB4 := ((((HB.out).setCell (p := ⟨w.heap.size + 1, 0, none⟩) (by simp) (.int .i64 3)).setCell (p := ⟨w.heap.size + 1, 1, none⟩) (by simp) (.int .i64 n)).setCell (p := ⟨w.heap.size + 1, 2, none⟩) (by simp) (.int .i64 0)).setCell (p := ⟨w.heap.size + 1, 3, none⟩) (by simp) (.string ⟨#[]⟩)
    have g0 := HY4.cell 0 rfl
    have g1 := HY4.cell 1 rfl
    have g2 := HY4.cell 2 rfl
    have g3 := HY4.cell 3 rfl
    refine bodyPost_ret (v := .agg #[.int .i64 3, .int .i64 n, .int .i64 0, .string ⟨#[]⟩]) (by simp [results, Tryz.results31, go_sem, g0, g1, g2, g3]) rfl ⟨by simp only [HG.out, HN.out]; rfl, HB4⟩
  ·
    have y0 := HY.out.cell 0 rfl
    have f0 := HY.out.free 0
    have y1 := HY.out.cell 1 rfl
    have f1 := HY.out.free 1
    have y2 := HY.out.cell 2 rfl
    have f2 := HY.out.free 2
    have y3 := HY.out.cell 3 rfl
    have f3 := HY.out.free 3
    have yl := HY.out.lt
    go_wp2
    clear y0 y1 y2 y3 f0 f1 f2 f3 x0 x1 x2 x3
    have HY4 := ((((HY.out.set 0 (.int .i64 3)).set 1 (.int .i64 n)).set 2 (.int .i64 0)).set 3 (.string ⟨#[]⟩))
    have HB4 := ((((HB.out).setCell (p := ⟨w.heap.size + 1, 0, none⟩) (by simp) (.int .i64 3)).setCell (p := ⟨w.heap.size + 1, 1, none⟩) (by simp) (.int .i64 n)).setCell (p := ⟨w.heap.size + 1, 2, none⟩) (by simp) (.int .i64 0)).setCell (p := ⟨w.heap.size + 1, 3, none⟩) (by simp) (.string ⟨#[]⟩)
    have g0 := HY4.cell 0 rfl
    have g1 := HY4.cell 1 rfl
    have g2 := HY4.cell 2 rfl
    have g3 := HY4.cell 3 rfl
    refine bodyPost_ret (v := .agg #[.int .i64 3, .int .i64 n, .int .i64 0, .string ⟨#[]⟩]) (by simp [results, Tryz.results31, go_sem, g0, g1, g2, g3]) rfl ⟨by simp only [HG.out, HN.out]; rfl, HB4⟩
  ·
    have y0 := HY.out.cell 0 rfl
    have f0 := HY.out.free 0
    have y1 := HY.out.cell 1 rfl
    have f1 := HY.out.free 1
    have y2 := HY.out.cell 2 rfl
    have f2 := HY.out.free 2
    have y3 := HY.out.cell 3 rfl
    have f3 := HY.out.free 3
    have yl := HY.out.lt
    go_wp2_with fail
    refine (Picked_any g.b 400 _ b1 b2 (by omega) (by omega)).mono ?_
    rintro e w' ⟨rfl, rfl⟩
    go_wp2
    clear y0 y1 y2 y3 f0 f1 f2 f3 x0 x1 x2 x3
    have HY4 := ((((HY.out.set 0 (.int .i64 4)).set 1 (.int .i64 0)).set 2 (.int .i64 (pickedZ g.b 400))).set 3 (.string ⟨#[]⟩))
    have HB4 := ((((HB.out).setCell (p := ⟨w.heap.size + 1, 0, none⟩) (by simp) (.int .i64 4)).setCell (p := ⟨w.heap.size + 1, 1, none⟩) (by simp) (.int .i64 0)).setCell (p := ⟨w.heap.size + 1, 2, none⟩) (by simp) (.int .i64 (pickedZ g.b 400))).setCell (p := ⟨w.heap.size + 1, 3, none⟩) (by simp) (.string ⟨#[]⟩)
    have g0 := HY4.cell 0 rfl
    have g1 := HY4.cell 1 rfl
    have g2 := HY4.cell 2 rfl
    have g3 := HY4.cell 3 rfl
    refine bodyPost_ret (v := .agg #[.int .i64 4, .int .i64 0, .int .i64 (pickedZ g.b 400), .string ⟨#[]⟩]) (by simp [results, Tryz.results31, go_sem, g0, g1, g2, g3]) rfl ⟨by simp only [HG.out, HN.out]; rfl, HB4⟩
  ·
    have y0 := HY.out.cell 0 rfl
    have f0 := HY.out.free 0
    have y1 := HY.out.cell 1 rfl
    have f1 := HY.out.free 1
    have y2 := HY.out.cell 2 rfl
    have f2 := HY.out.free 2
    have y3 := HY.out.cell 3 rfl
    have f3 := HY.out.free 3
    have yl := HY.out.lt
    go_wp2_with fail
    refine (Picked_any g.b 400 _ b1 b2 (by omega) (by omega)).mono ?_
    rintro e w' ⟨rfl, rfl⟩
    go_wp2
    clear y0 y1 y2 y3 f0 f1 f2 f3 x0 x1 x2 x3
    have HY4 := ((((HY.out.set 0 (.int .i64 4)).set 1 (.int .i64 0)).set 2 (.int .i64 (pickedZ g.b 400))).set 3 (.string ⟨#[]⟩))
    have HB4 := ((((HB.out).setCell (p := ⟨w.heap.size + 1, 0, none⟩) (by simp) (.int .i64 4)).setCell (p := ⟨w.heap.size + 1, 1, none⟩) (by simp) (.int .i64 0)).setCell (p := ⟨w.heap.size + 1, 2, none⟩) (by simp) (.int .i64 (pickedZ g.b 400))).setCell (p := ⟨w.heap.size + 1, 3, none⟩) (by simp) (.string ⟨#[]⟩)
    have g0 := HY4.cell 0 rfl
    have g1 := HY4.cell 1 rfl
    have g2 := HY4.cell 2 rfl
    have g3 := HY4.cell 3 rfl
    refine bodyPost_ret (v := .agg #[.int .i64 4, .int .i64 0, .int .i64 (pickedZ g.b 400), .string ⟨#[]⟩]) (by simp [results, Tryz.results31, go_sem, g0, g1, g2, g3]) rfl ⟨by simp only [HG.out, HN.out]; rfl, HB4⟩
  ·
    have y0 := HY.out.cell 0 rfl
    have f0 := HY.out.free 0
    have y1 := HY.out.cell 1 rfl
    have f1 := HY.out.free 1
    have y2 := HY.out.cell 2 rfl
    have f2 := HY.out.free 2
    have y3 := HY.out.cell 3 rfl
    have f3 := HY.out.free 3
    have yl := HY.out.lt
    go_wp2_with fail
    refine (Picked_any g.b 400 _ b1 b2 (by omega) (by omega)).mono ?_
    rintro e w' ⟨rfl, rfl⟩
    go_wp2
    clear y0 y1 y2 y3 f0 f1 f2 f3 x0 x1 x2 x3
    have HY4 := ((((HY.out.set 0 (.int .i64 5)).set 1 (.int .i64 0)).set 2 (.int .i64 (pickedZ g.b 400))).set 3 (.string ⟨#[]⟩))
    have HB4 := ((((HB.out).setCell (p := ⟨w.heap.size + 1, 0, none⟩) (by simp) (.int .i64 5)).setCell (p := ⟨w.heap.size + 1, 1, none⟩) (by simp) (.int .i64 0)).setCell (p := ⟨w.heap.size + 1, 2, none⟩) (by simp) (.int .i64 (pickedZ g.b 400))).setCell (p := ⟨w.heap.size + 1, 3, none⟩) (by simp) (.string ⟨#[]⟩)
    have g0 := HY4.cell 0 rfl
    have g1 := HY4.cell 1 rfl
    have g2 := HY4.cell 2 rfl
    have g3 := HY4.cell 3 rfl
    refine bodyPost_ret (v := .agg #[.int .i64 5, .int .i64 0, .int .i64 (pickedZ g.b 400), .string ⟨#[]⟩]) (by simp [results, Tryz.results31, go_sem, g0, g1, g2, g3]) rfl ⟨by simp only [HG.out, HN.out]; rfl, HB4⟩
  ·
    have y0 := HY.out.cell 0 rfl
    have f0 := HY.out.free 0
    have y1 := HY.out.cell 1 rfl
    have f1 := HY.out.free 1
    have y2 := HY.out.cell 2 rfl
    have f2 := HY.out.free 2
    have y3 := HY.out.cell 3 rfl
    have f3 := HY.out.free 3
    have yl := HY.out.lt
    go_wp2_with fail
    refine (Picked_any g.b 400 _ b1 b2 (by omega) (by omega)).mono ?_
    rintro e w' ⟨rfl, rfl⟩
    go_wp2
    clear y0 y1 y2 y3 f0 f1 f2 f3 x0 x1 x2 x3
    have HY4 := ((((HY.out.set 0 (.int .i64 6)).set 1 (.int .i64 0)).set 2 (.int .i64 (pickedZ g.b 400))).set 3 (.string ⟨#[]⟩))
    have HB4 := ((((HB.out).setCell (p := ⟨w.heap.size + 1, 0, none⟩) (by simp) (.int .i64 6)).setCell (p := ⟨w.heap.size + 1, 1, none⟩) (by simp) (.int .i64 0)).setCell (p := ⟨w.heap.size + 1, 2, none⟩) (by simp) (.int .i64 (pickedZ g.b 400))).setCell (p := ⟨w.heap.size + 1, 3, none⟩) (by simp) (.string ⟨#[]⟩)
    have g0 := HY4.cell 0 rfl
    have g1 := HY4.cell 1 rfl
    have g2 := HY4.cell 2 rfl
    have g3 := HY4.cell 3 rfl
    refine bodyPost_ret (v := .agg #[.int .i64 6, .int .i64 0, .int .i64 (pickedZ g.b 400), .string ⟨#[]⟩]) (by simp [results, Tryz.results31, go_sem, g0, g1, g2, g3]) rfl ⟨by simp only [HG.out, HN.out]; rfl, HB4⟩
  ·
    have y0 := HY.out.cell 0 rfl
    have f0 := HY.out.free 0
    have y1 := HY.out.cell 1 rfl
    have f1 := HY.out.free 1
    have y2 := HY.out.cell 2 rfl
    have f2 := HY.out.free 2
    have y3 := HY.out.cell 3 rfl
    have f3 := HY.out.free 3
    have yl := HY.out.lt
    go_wp2_with fail
    refine (Picked_any g.b 700 _ b1 b2 (by omega) (by omega)).mono ?_
    rintro e w' ⟨rfl, rfl⟩
    go_wp2
    clear y0 y1 y2 y3 f0 f1 f2 f3 x0 x1 x2 x3
    have HY4 := ((((HY.out.set 0 (.int .i64 7)).set 1 (.int .i64 n)).set 2 (.int .i64 (pickedZ g.b 700))).set 3 (.string ⟨#[]⟩))
    have HB4 := ((((HB.out).setCell (p := ⟨w.heap.size + 1, 0, none⟩) (by simp) (.int .i64 7)).setCell (p := ⟨w.heap.size + 1, 1, none⟩) (by simp) (.int .i64 n)).setCell (p := ⟨w.heap.size + 1, 2, none⟩) (by simp) (.int .i64 (pickedZ g.b 700))).setCell (p := ⟨w.heap.size + 1, 3, none⟩) (by simp) (.string ⟨#[]⟩)
    have g0 := HY4.cell 0 rfl
    have g1 := HY4.cell 1 rfl
    have g2 := HY4.cell 2 rfl
    have g3 := HY4.cell 3 rfl
    refine bodyPost_ret (v := .agg #[.int .i64 7, .int .i64 n, .int .i64 (pickedZ g.b 700), .string ⟨#[]⟩]) (by simp [results, Tryz.results31, go_sem, g0, g1, g2, g3]) rfl ⟨by simp only [HG.out, HN.out]; rfl, HB4⟩
  ·
    have y0 := HY.out.cell 0 rfl
    have f0 := HY.out.free 0
    have y1 := HY.out.cell 1 rfl
    have f1 := HY.out.free 1
    have y2 := HY.out.cell 2 rfl
    have f2 := HY.out.free 2
    have y3 := HY.out.cell 3 rfl
    have f3 := HY.out.free 3
    have yl := HY.out.lt
    go_wp2
    clear y0 y1 y2 y3 f0 f1 f2 f3 x0 x1 x2 x3
    have HY4 := ((((HY.out.set 0 (.int .i64 8)).set 1 (.int .i64 n)).set 2 (.int .i64 0)).set 3 (.string ⟨#[]⟩))
    have HB4 := ((((HB.out).setCell (p := ⟨w.heap.size + 1, 0, none⟩) (by simp) (.int .i64 8)).setCell (p := ⟨w.heap.size + 1, 1, none⟩) (by simp) (.int .i64 n)).setCell (p := ⟨w.heap.size + 1, 2, none⟩) (by simp) (.int .i64 0)).setCell (p := ⟨w.heap.size + 1, 3, none⟩) (by simp) (.string ⟨#[]⟩)
    have g0 := HY4.cell 0 rfl
    have g1 := HY4.cell 1 rfl
    have g2 := HY4.cell 2 rfl
    have g3 := HY4.cell 3 rfl
    refine bodyPost_ret (v := .agg #[.int .i64 8, .int .i64 n, .int .i64 0, .string ⟨#[]⟩]) (by simp [results, Tryz.results31, go_sem, g0, g1, g2, g3]) rfl ⟨by simp only [HG.out, HN.out]; rfl, HB4⟩
  ·
    go_upto_region 28 with fail
    go_wp2_with fail
    obtain ⟨w2, hw2⟩ : ∃ w2, w2 = w1.alloc (.cells #[strV g.t] 9) := ⟨_, rfl⟩
    have HT2 := Lib.hid (show BoxAt w2 w1.heap.size [strV g.t] 9 by rw [hw2]; exact BoxAt.new w1 [_] _)
    have HB2 := Lib.hid (show Below w1.heap.size w1 w2 by rw [hw2]; exact (Below.refl _ _).alloc (Nat.le_refl _) _)
    rw [← hw2]
    clear hw2
    refine (message_any (Gx := fun _ => True) g.b g.a g.b g.a _ [g.t] _ b1 b2 a1 a2 b1 b2 a1 a2 (rd_one HT2.out) (fun t ht => by simp at ht; subst ht; exact HGO.out.2.2.2)).mono ?_
    rintro e w3 ⟨mv, rfl, hRM, hb3⟩
    have HB3 := Lib.hid (HB2.out.trans (hb3.mono HB2.out.size))
    have HRM := Lib.hid hRM
    clear hb3 hRM
    go_wp2_with fail
    refine (wencode_ok _ mv w3 HRM.out (msgOf_size _ _ _ _ _) (msgOf_code _ _ _ _ _)).mono ?_
    rintro e w4 ⟨vb, rfl, hown, hb4⟩
    have HB4a := Lib.hid (HB3.out.trans (hb4.mono HB3.out.size))
    have hr : RdB (fun _ => True) w4 vb (encL (msgOf g.b g.a g.b g.a [g.t])) := RdS.of_owns hown (fun _ _ => trivial)
    have hcv := conv_bytes_str (P := Tryz.prog) Tryz.underlying66 Tryz.underlying5 Tryz.underlying9 hr
    have HY2 := Lib.hid (HY.out.belowS HB4a.out)
    clear hb4 hown hr
    have y0 := HY2.out.cell 0 rfl
    have f0 := HY2.out.free 0
    have y1 := HY2.out.cell 1 rfl
    have f1 := HY2.out.free 1
    have y2 := HY2.out.cell 2 rfl
    have f2 := HY2.out.free 2
    have y3 := HY2.out.cell 3 rfl
    have f3 := HY2.out.free 3
    have yl := HY2.out.lt
    go_wp2
    clear y0 y1 y2 y3 f0 f1 f2 f3 x0 x1 x2 x3 hcv
    have HY4 := ((((HY2.out.set 0 (.int .i64 9)).set 1 (.int .i64 n)).set 2 (.int .i64 0)).set 3 (strV (encL (msgOf g.b g.a g.b g.a [g.t]))))
    have HB4 := ((((HB.out.trans (HB4a.out.mono HB.out.size)).setCell (p := ⟨w.heap.size + 1, 0, none⟩) (by simp) (.int .i64 9)).setCell (p := ⟨w.heap.size + 1, 1, none⟩) (by simp) (.int .i64 n)).setCell (p := ⟨w.heap.size + 1, 2, none⟩) (by simp) (.int .i64 0)).setCell (p := ⟨w.heap.size + 1, 3, none⟩) (by simp) (strV (encL (msgOf g.b g.a g.b g.a [g.t])))
    have g0 := HY4.cell 0 rfl
    have g1 := HY4.cell 1 rfl
    have g2 := HY4.cell 2 rfl
    have g3 := HY4.cell 3 rfl
    refine bodyPost_ret (v := .agg #[.int .i64 9, .int .i64 n, .int .i64 0, strV (encL (msgOf g.b g.a g.b g.a [g.t]))]) (by simp [results, Tryz.results31, go_sem, g0, g1, g2, g3]) rfl ⟨by simp only [HG.out, HN.out]; rfl, HB4⟩
  ·
    have y0 := HY.out.cell 0 rfl
    have f0 := HY.out.free 0
    have y1 := HY.out.cell 1 rfl
    have f1 := HY.out.free 1
    have y2 := HY.out.cell 2 rfl
    have f2 := HY.out.free 2
    have y3 := HY.out.cell 3 rfl
    have f3 := HY.out.free 3
    have yl := HY.out.lt
    go_wp2
    clear y0 y1 y2 y3 f0 f1 f2 f3 x0 x1 x2 x3
    have HY4 := ((((HY.out.set 0 (.int .i64 10)).set 1 (.int .i64 0)).set 2 (.int .i64 0)).set 3 (.string ⟨#[]⟩))
    have HB4 := ((((HB.out).setCell (p := ⟨w.heap.size + 1, 0, none⟩) (by simp) (.int .i64 10)).setCell (p := ⟨w.heap.size + 1, 1, none⟩) (by simp) (.int .i64 0)).setCell (p := ⟨w.heap.size + 1, 2, none⟩) (by simp) (.int .i64 0)).setCell (p := ⟨w.heap.size + 1, 3, none⟩) (by simp) (.string ⟨#[]⟩)
    have g0 := HY4.cell 0 rfl
    have g1 := HY4.cell 1 rfl
    have g2 := HY4.cell 2 rfl
    have g3 := HY4.cell 3 rfl
    refine bodyPost_ret (v := .agg #[.int .i64 10, .int .i64 0, .int .i64 0, .string ⟨#[]⟩]) (by simp [results, Tryz.results31, go_sem, g0, g1, g2, g3]) rfl ⟨by simp only [HG.out, HN.out]; rfl, HB4⟩
  ·
    have y0 := HY.out.cell 0 rfl
    have f0 := HY.out.free 0
    have y1 := HY.out.cell 1 rfl
    have f1 := HY.out.free 1
    have y2 := HY.out.cell 2 rfl
    have f2 := HY.out.free 2
    have y3 := HY.out.cell 3 rfl
    have f3 := HY.out.free 3
    have yl := HY.out.lt
    go_wp2
    clear y0 y1 y2 y3 f0 f1 f2 f3 x0 x1 x2 x3
    have HY4 := ((((HY.out.set 0 (.int .i64 10)).set 1 (.int .i64 0)).set 2 (.int .i64 0)).set 3 (.string ⟨#[]⟩))
    have HB4 := ((((HB.out).setCell (p := ⟨w.heap.size + 1, 0, none⟩) (by simp) (.int .i64 10)).setCell (p := ⟨w.heap.size + 1, 1, none⟩) (by simp) (.int .i64 0)).setCell (p := ⟨w.heap.size + 1, 2, none⟩) (by simp) (.int .i64 0)).setCell (p := ⟨w.heap.size + 1, 3, none⟩) (by simp) (.string ⟨#[]⟩)
    have g0 := HY4.cell 0 rfl
    have g1 := HY4.cell 1 rfl
    have g2 := HY4.cell 2 rfl
    have g3 := HY4.cell 3 rfl
    refine bodyPost_ret (v := .agg #[.int .i64 10, .int .i64 0, .int .i64 0, .string ⟨#[]⟩]) (by simp [results, Tryz.results31, go_sem, g0, g1, g2, g3]) rfl ⟨by simp only [HG.out, HN.out]; rfl, HB4⟩
  ·
    have y0 := HY.out.cell 0 rfl
    have f0 := HY.out.free 0
    have y1 := HY.out.cell 1 rfl
    have f1 := HY.out.free 1
    have y2 := HY.out.cell 2 rfl
    have f2 := HY.out.free 2
    have y3 := HY.out.cell 3 rfl
    have f3 := HY.out.free 3
    have yl := HY.out.lt
    go_wp2
    clear y0 y1 y2 y3 f0 f1 f2 f3 x0 x1 x2 x3
    have HY4 := ((((HY.out.set 0 (.int .i64 10)).set 1 (.int .i64 0)).set 2 (.int .i64 0)).set 3 (.string ⟨#[]⟩))
    have HB4 := ((((HB.out).setCell (p := ⟨w.heap.size + 1, 0, none⟩) (by simp) (.int .i64 10)).setCell (p := ⟨w.heap.size + 1, 1, none⟩) (by simp) (.int .i64 0)).setCell (p := ⟨w.heap.size + 1, 2, none⟩) (by simp) (.int .i64 0)).setCell (p := ⟨w.heap.size + 1, 3, none⟩) (by simp) (.string ⟨#[]⟩)
    have g0 := HY4.cell 0 rfl
    have g1 := HY4.cell 1 rfl
    have g2 := HY4.cell 2 rfl
    have g3 := HY4.cell 3 rfl
    refine bodyPost_ret (v := .agg #[.int .i64 10, .int .i64 0, .int .i64 0, .string ⟨#[]⟩]) (by simp [results, Tryz.results31, go_sem, g0, g1, g2, g3]) rfl ⟨by simp only [HG.out, HN.out]; rfl, HB4⟩
end Go.Proofs.YtmijiclocadimaaGreatDoor
