/- ProvenForm: the walk. -/
import Derived.Test.YtialhdmdeggenaaDoorCrtH
import Derived.Test.YtialhdmdeggenaaDoorOpenS
set_option linter.unusedVariables false
set_option linter.unusedSimpArgs false
attribute [local go_sem ↓] Go.wp_at_zero Go.wp_at_succ
namespace Go.Proofs.YtialhdmdeggenaaDoor
open Go Go.RowKit

set_option maxRecDepth 100000 in
set_option maxHeartbeats 8000000 in
theorem provenForm_case (K A B C n : Int) (vt : Value) (w : World) (hvt : vt.oneCell' = true) (a1 : -9223372036854775808 ≤ A) (a2 : A ≤ 9223372036854775807) (b1 : -9223372036854775808 ≤ B) (b2 : B ≤ 9223372036854775807) (c1 : -9223372036854775808 ≤ C) (c2 : C ≤ 9223372036854775807)
    (n1 : -9223372036854775808 ≤ n) (n2 : n ≤ 9223372036854775807) (ht : Tabs w) :
    Calls Tryd.prog 5 #[.agg #[.int .i64 K, .int .i64 A, .int .i64 B, .int .i64 C, vt], .int .i64 n] w fun e w' => e = .returned (.bool true) ∧ Below w.heap.size w w' := by
  have hl3 := voters_len3 C
  have hl4 := voters_len4 C
  obtain ⟨r1, r2⟩ := pickedZ_range n 5 (by omega)
  have HOK := Lib.hid (hdrOf_ok A B C)
  have HP := Lib.hid (provenForm_law A B C (pickedZ n 5 - 1) (by unfold badOk; simp only [decide_eq_true_eq]; omega))
  have HLen := Lib.hid (signedL_le (hdrOf A B C) [0, 1, 2, 3])
  have HT := Lib.hid ht
  have HT0 := Lib.hid ht
  have HPK := Lib.hid (show pickedZ n 5 = pickedZ n 5 from rfl)
  clear ht
  go_enter Tryd.func5, Tryd.ntmps5
  go_upto_region 1 with fail
  go_cut [5] (fun p wx => ∃ (X g cap : Nat) (adb : Option Addr) (capb : Nat) (adp : Option Addr) (capp : Nat), p = .pointer (some ⟨X, 0, none⟩) ∧ w.heap.size ≤ X ∧ w.heap.size ≤ g ∧ g ≠ X ∧
      BoxAt wx X [.int .i64 (hdrOf A B C).a, .int .i64 (hdrOf A B C).r, .slice adb (hdrOf A B C).bs.length capb, .slice adp (hdrOf A B C).ps.length capp, .slice (some ⟨g, 0, none⟩) (votersL C).length cap] 32 ∧
      RdBB (fun b => b ≠ X ∧ b ≠ g) wx (.slice adb (hdrOf A B C).bs.length capb) (hdrOf A B C).bs ∧ RdBB (fun b => b ≠ X ∧ b ≠ g) wx (.slice adp (hdrOf A B C).ps.length capp) (hdrOf A B C).ps ∧
      RdI (fun b => b = g) wx (.slice (some ⟨g, 0, none⟩) (votersL C).length cap) (votersL C) ∧ (∀ j, wx.frozen? ⟨g, j, none⟩ = false) ∧ Below w.heap.size w wx)
  case first =>
    go_region_held3 (fun w' => w'.cell? ⟨w.heap.size, 0, none⟩ = some (.int .i64 K) ∧ w'.cell? ⟨w.heap.size, 1, none⟩ = some (.int .i64 A) ∧ w'.cell? ⟨w.heap.size, 2, none⟩ = some (.int .i64 B) ∧ w'.cell? ⟨w.heap.size, 3, none⟩ = some (.int .i64 C) ∧ w'.cell? ⟨w.heap.size, 4, none⟩ = some vt) (go_keep)
      (first
        | ((go_at_call 15; refine (header_any _ _ _ _ _ _ a1 a2 b1 b2 c1 c2 hvt).mono ?_; rintro e wh ⟨adb, capb, adp, capp, rfl, hbb, hpp, hbh⟩; (try (have qh0 := bcellAt hbh w.heap.size ?_; rotate_left; (first | omega | (simp <;> omega)); have kh0 := qh0.1; have fh0 := qh0.2; clear qh0)); (try (have qh1 := bcellAt hbh (w.heap.size + 1) ?_; rotate_left; (first | omega | (simp <;> omega)); have kh1 := qh1.1; have fh1 := qh1.2; clear qh1)); (try (have qh2 := bcellAt hbh wv.heap.size ?_; rotate_left; (first | omega | (simp <;> omega)); have kh2 := qh2.1; have fh2 := qh2.2; clear qh2)); have HBB := Lib.hid hbb; have HPP := Lib.hid hpp; have sh := hbh.size; (try simp at sh); have nh : w.heap.size < wh.heap.size := (by omega); have nh2 : wh.heap.size ≠ w.heap.size := (by omega); clear hbb hpp))
        | ((go_at_call 16; refine (voters_any _ _ c1 c2).mono ?_; rintro e wv ⟨vv, rfl, hov, hbv⟩; (try (have qv0 := bcellAt hbv w.heap.size ?_; rotate_left; (first | omega | (simp <;> omega)); have kv0 := qv0.1; have fv0 := qv0.2; clear qv0)); (try (have qv1 := bcellAt hbv (w.heap.size + 1) ?_; rotate_left; (first | omega | (simp <;> omega)); have kv1 := qv1.1; have fv1 := qv1.2; clear qv1)); (try (have qv2 := bcellAt hbv wh.heap.size ?_; rotate_left; (first | omega | (simp <;> omega)); have kv2 := qv2.1; have fv2 := qv2.2; clear qv2)); obtain ⟨g, capg, rfl, hgb, hgl, hgf⟩ := RdS.free_of_own hov (by omega); have HOV := Lib.hid hov; have HGF := Lib.hid hgf; have sv := hbv.size; (try simp at sv); have nv : w.heap.size < wv.heap.size := (by omega); have nv2 : wv.heap.size ≠ w.heap.size := (by omega); clear hov hgf)))
    all_goals
      have hw1 : w.heap.size < wh.heap.size := nh
      have hB1 : Below w.heap.size w wh := Below.trans (by repeat (first | with_reducible exact Below.refl _ _ | with_reducible refine Below.drew ?_ | with_reducible refine Below.alloc ?_ (by first | omega | (simp <;> omega)) _)) (hbh.mono (by first | omega | (simp <;> omega)))
      have hB2 : Below w.heap.size w wv := Below.trans (by repeat (first | with_reducible exact hB1 | with_reducible refine Below.drew ?_ | with_reducible refine Below.alloc ?_ (by first | omega | (simp <;> omega)) _)) (hbv.mono (by first | omega | (simp <;> omega)))
      have hbl := HBB.out.low (by decide)
      have hpl := HPP.out.low (by decide)
      have hvl := (RdS.of_owns (G := fun _ => True) HOV.out (fun _ _ => trivial)).atBlock
      have hgf := HGF.out
      simp at hgb hbl hpl
      go_wp2_with fail
      go_meet
    · refine ⟨wv.heap.size, g, capg, adb, capb, adp, capp, rfl, by omega, by omega, by omega, BoxAt.new wv [_, _, _, _, _] _, hbl.keep ?_ (fun b hb => ⟨by omega, by omega⟩), hpl.keep ?_ (fun b hb => ⟨by omega, by omega⟩), hvl.keep ?_ (fun b hb => hb), fun j => ?_, ?_⟩
      · repeat (first | with_reducible exact Keep.refl _ _ | with_reducible refine Keep.setCell' ?_ (by first | (simp; done) | (simp; omega)) _ | with_reducible refine Keep.alloc' ?_ _ | with_reducible refine Keep.drew' ?_ | with_reducible refine Keep.trans ?_ (Keep.below hbv))
      · repeat (first | with_reducible exact Keep.refl _ _ | with_reducible refine Keep.setCell' ?_ (by first | (simp; done) | (simp; omega)) _ | with_reducible refine Keep.alloc' ?_ _ | with_reducible refine Keep.drew' ?_ | with_reducible refine Keep.trans ?_ (Keep.below hbv))
      · repeat (first | with_reducible exact Keep.refl _ _ | with_reducible refine Keep.setCell' ?_ (by first | (simp; done) | (simp; omega)) _ | with_reducible refine Keep.alloc' ?_ _ | with_reducible refine Keep.drew' ?_ | with_reducible refine Keep.trans ?_ (Keep.below hbv))
      · rw [((Below.refl wv.heap.size wv).alloc (Nat.le_refl _) _).frozen (p := ⟨g, j, none⟩) hgl]; exact hgf j
      · exact hB2.alloc (by omega) _
    · refine ⟨wh.heap.size, g, capg, adb, capb, adp, capp, rfl, by omega, by omega, by omega, BoxAt.set5 ((BoxAt.new wh [_, _, _, _, _] _).below hbv (by simp)) _ _ _ _ _, hbl.keep ?_ (fun b hb => ⟨by omega, by omega⟩), hpl.keep ?_ (fun b hb => ⟨by omega, by omega⟩), hvl.keep ?_ (fun b hb => hb), fun j => ?_, ?_⟩
      · repeat (first | with_reducible exact Keep.refl _ _ | with_reducible refine Keep.setCell' ?_ (by first | (simp; done) | (simp; omega)) _ | with_reducible refine Keep.alloc' ?_ _ | with_reducible refine Keep.drew' ?_ | with_reducible refine Keep.trans ?_ (Keep.below hbv))
      · repeat (first | with_reducible exact Keep.refl _ _ | with_reducible refine Keep.setCell' ?_ (by first | (simp; done) | (simp; omega)) _ | with_reducible refine Keep.alloc' ?_ _ | with_reducible refine Keep.drew' ?_ | with_reducible refine Keep.trans ?_ (Keep.below hbv))
      · repeat (first | with_reducible exact Keep.refl _ _ | with_reducible refine Keep.setCell' ?_ (by first | (simp; done) | (simp; omega)) _ | with_reducible refine Keep.alloc' ?_ _ | with_reducible refine Keep.drew' ?_ | with_reducible refine Keep.trans ?_ (Keep.below hbv))
      · simp only [World.frozen?_setCell]; with_reducible exact hgf j
      · repeat (first | with_reducible exact hB2 | with_reducible refine Below.setCell ?_ (by first | omega | (simp <;> omega)) _)
    · refine ⟨w.heap.size + 1, g, capg, adb, capb, adp, capp, rfl, by omega, by omega, by omega, BoxAt.set5 (((BoxAt.newAt (w.alloc _) [_, _, _, _, _] _ (by simp)).drew.below hbh (by simp)).below hbv (by omega)) _ _ _ _ _, hbl.keep ?_ (fun b hb => ⟨by omega, by omega⟩), hpl.keep ?_ (fun b hb => ⟨by omega, by omega⟩), hvl.keep ?_ (fun b hb => hb), fun j => ?_, ?_⟩
      · repeat (first | with_reducible exact Keep.refl _ _ | with_reducible refine Keep.setCell' ?_ (by first | (simp; done) | (simp; omega)) _ | with_reducible refine Keep.alloc' ?_ _ | with_reducible refine Keep.drew' ?_ | with_reducible refine Keep.trans ?_ (Keep.below hbv))
      · repeat (first | with_reducible exact Keep.refl _ _ | with_reducible refine Keep.setCell' ?_ (by first | (simp; done) | (simp; omega)) _ | with_reducible refine Keep.alloc' ?_ _ | with_reducible refine Keep.drew' ?_ | with_reducible refine Keep.trans ?_ (Keep.below hbv))
      · repeat (first | with_reducible exact Keep.refl _ _ | with_reducible refine Keep.setCell' ?_ (by first | (simp; done) | (simp; omega)) _ | with_reducible refine Keep.alloc' ?_ _ | with_reducible refine Keep.drew' ?_ | with_reducible refine Keep.trans ?_ (Keep.below hbv))
      · simp only [World.frozen?_setCell]; with_reducible exact hgf j
      · repeat (first | with_reducible exact hB2 | with_reducible refine Below.setCell ?_ (by first | omega | (simp <;> omega)) _)
  case rest =>
    obtain ⟨X, g, cap, adb, capb, adp, capp, rfl, hXw, hgw, hgX, bX, hbb, hpp, hvv, hgf, hB⟩ := hcut
    have HBB := Lib.hid hbb
    have HPP := Lib.hid hpp
    have HVV := Lib.hid hvv
    have HBX := Lib.hid bX
    have HGF := Lib.hid hgf
    have x0 := bX.cell 0 rfl
    have x1 := bX.cell 1 rfl
    have x2 := bX.cell 2 rfl
    have x3 := bX.cell 3 rfl
    have x4 := bX.cell 4 rfl
    have z := bX.lt
    have z0 := hB.size
    have HT := Lib.hid (HT.out.belowS hB)
    have HB := Lib.hid hB
    obtain ⟨-, hlc, hcm, -⟩ := HVV.out.len
    have hc2 : 2 ≤ cap := by omega
    unfold maxLen at hcm
    have i2 : (2 : Int) ≤ (cap : Int) := by omega
    have f4 := HBX.out.free 4
    have zg : g < wc.heap.size := World.block_lt_of_cell? wc _ (HVV.out.cells 0 (by omega))
    clear hbb hpp hvv bX hgf hB
    go_wp2_with fail
    refine (picked_any _ _ _ n1 n2 (by omega) (by omega)).mono ?_
    rintro e w' ⟨rfl, rfl⟩
    generalize pickedZ n 5 = q at *
    have q1 : -9223372036854775808 ≤ q - 1 := by omega
    have q2 : q - 1 ≤ 9223372036854775807 := by omega
    go_wp2_with fail
    have hba := (Below.refl wc.heap.size wc).alloc (Nat.le_refl _) (.cells #[.int .i64 0, .int .i64 1, .int .i64 2, .int .i64 3] 3)
    have hns : RdI (fun b => b = wc.heap.size) (wc.alloc (.cells #[.int .i64 0, .int .i64 1, .int .i64 2, .int .i64 3] 3)) (.slice (some ⟨wc.heap.size, 0, none⟩) 4 4) [0, 1, 2, 3] :=
      RdS.of_box (f := Value.int .i64) (G := fun b => b = wc.heap.size) (l := [0, 1, 2, 3]) (cap := 4) (BoxAt.newAt wc [.int .i64 0, .int .i64 1, .int .i64 2, .int .i64 3] 3 (by simp)) rfl (by decide) (by unfold maxLen; omega)
    refine (signedBy_any (G := fun _ => True) (hdrOf A B C) [0, 1, 2, 3] _ _ _ _ ((HBB.out.below hba (fun _ h => h)).mono (fun _ _ => trivial)) ((HPP.out.below hba (fun _ h => h)).mono (fun _ _ => trivial)) hns (HT.out.belowS hba) HOK.out (by decide) (by decide)).mono ?_
    rintro e w2 ⟨vL, rfl, hL, hb2⟩
    have hB2 := hba.trans (hb2.mono hba.size)
    have s2 := hB2.size
    have HLL := Lib.hid (hL.mono (G' := fun b => b ≠ X) (fun b hb => by simp at hb; omega))
    have HLE := HLen.out
    generalize signedL (hdrOf A B C) [0, 1, 2, 3] = L at *
    obtain ⟨adL, capL, rfl, -, -⟩ := HLL.out.form
    have HBB2 := Lib.hid (HBB.out.below hB2 (fun _ h => h))
    have HPP2 := Lib.hid (HPP.out.below hB2 (fun _ h => h))
    have HVV2 := Lib.hid (HVV.out.below hB2 (fun _ h => h))
    have bX2 := HBX.out.belowS hB2
    have HT2 := Lib.hid (HT.out.belowS hB2)
    have HB2 := Lib.hid (HB.out.trans (hB2.mono z0))
    clear x0 x1 x2 x3 x4 f4 hL hb2 hns hba hB2 HBB HPP HVV HBX HT HB HLen
    have x0 := bX2.cell 0 rfl
    have x1 := bX2.cell 1 rfl
    have x2 := bX2.cell 2 rfl
    have x3 := bX2.cell 3 rfl
    have x4 := bX2.cell 4 rfl
    have f4 := bX2.free 4
    have HX2 := Lib.hid bX2
    have zX := bX2.lt
    clear bX2
    go_wp2_with fail
    have hk : Keep (fun b => b ≠ X) w2 ((w2.setCell ⟨X, 4, none⟩ (.slice (some ⟨g, 0, none⟩) 2 cap)).alloc (.cells #[.int .i64 9, .int .i64 (hdrOf A B C).r, .slice adb (hdrOf A B C).bs.length capb, .slice adp (hdrOf A B C).ps.length capp, .slice (some ⟨g, 0, none⟩) 2 cap] 32)) := (Keep.setCell (p := ⟨X, 4, none⟩) (by simp) _).trans (Keep.alloc _ _ _)
    have hb3 : Below w.heap.size w ((w2.setCell ⟨X, 4, none⟩ (.slice (some ⟨g, 0, none⟩) 2 cap)).alloc (.cells #[.int .i64 9, .int .i64 (hdrOf A B C).r, .slice adb (hdrOf A B C).bs.length capb, .slice adp (hdrOf A B C).ps.length capp, .slice (some ⟨g, 0, none⟩) 2 cap] 32)) := (HB2.out.setCell (by simp; omega) _).alloc (by simp; omega) _
    have HB3 := Lib.hid hb3
    have HL3 := Lib.hid (HLL.out.keep hk (fun _ h => h))
    have HBB3 := Lib.hid (HBB2.out.keep (hk.mono (fun _ h => h.1)) (fun _ h => h))
    have HPP3 := Lib.hid (HPP2.out.keep (hk.mono (fun _ h => h.1)) (fun _ h => h))
    have HVV3 := Lib.hid ((HVV2.out.take 2 (by omega)).keep (hk.mono (fun _ h => by omega)) (fun _ h => h))
    have HT3 := Lib.hid (HT0.out.belowS hb3)
    have HX3 := Lib.hid ((HX2.out.set 4 (.slice (some ⟨g, 0, none⟩) 2 cap)).belowS ((Below.refl _ _).alloc (Nat.le_refl _) _ : Below (w2.setCell ⟨X, 4, none⟩ (.slice (some ⟨g, 0, none⟩) 2 cap)).heap.size _ ((w2.setCell ⟨X, 4, none⟩ (.slice (some ⟨g, 0, none⟩) 2 cap)).alloc (.cells #[.int .i64 9, .int .i64 (hdrOf A B C).r, .slice adb (hdrOf A B C).bs.length capb, .slice adp (hdrOf A B C).ps.length capp, .slice (some ⟨g, 0, none⟩) 2 cap] 32))))
    have HY3 := Lib.hid (BoxAt.newAt (n := w2.heap.size) (w2.setCell ⟨X, 4, none⟩ (.slice (some ⟨g, 0, none⟩) 2 cap)) [.int .i64 9, .int .i64 (hdrOf A B C).r, .slice adb (hdrOf A B C).bs.length capb, .slice adp (hdrOf A B C).ps.length capp, .slice (some ⟨g, 0, none⟩) 2 cap] 32 (by simp))
    generalize (w2.setCell ⟨X, 4, none⟩ (.slice (some ⟨g, 0, none⟩) 2 cap)).alloc (.cells #[.int .i64 9, .int .i64 (hdrOf A B C).r, .slice adb (hdrOf A B C).bs.length capb, .slice adp (hdrOf A B C).ps.length capp, .slice (some ⟨g, 0, none⟩) 2 cap] 32) = w3 at *
    have z3 := hb3.size
    clear hk hb3 x0 x1 x2 x3 x4 f4 HX2 HBB2 HPP2 HVV2 HLL HB2 HT2
    have hx := HX3.out
    have y := HY3.out
    have x0 := hx.cell 0 rfl
    have x1 := hx.cell 1 rfl
    have x2 := hx.cell 2 rfl
    have x3 := hx.cell 3 rfl
    have x4 := hx.cell 4 rfl
    have y0 := y.cell 0 rfl
    have y1 := y.cell 1 rfl
    have y2 := y.cell 2 rfl
    have y3 := y.cell 3 rfl
    have y4 := y.cell 4 rfl
    have zx := hx.lt
    have zy := y.lt
    clear hx y
    refine (proven_any (q - 1) ⟨hdrOf A B C, (votersL C).take 2⟩ _ _ _ _ _ HL3.out (HBB3.out.mono (G' := fun _ => True) (fun _ _ => trivial)) (HPP3.out.mono (fun _ _ => trivial)) (HVV3.out.mono (fun _ _ => trivial)) HT3.out).mono ?_
    rintro e w4 ⟨rfl, hb4⟩
    rw [HP.out.1]
    have e0 := ((bcellAt hb4 _ zx).1 0).trans x0
    have e1 := ((bcellAt hb4 _ zx).1 1).trans x1
    have e2 := ((bcellAt hb4 _ zx).1 2).trans x2
    have e3 := ((bcellAt hb4 _ zx).1 3).trans x3
    have e4 := ((bcellAt hb4 _ zx).1 4).trans x4
    have d0 := ((bcellAt hb4 _ zy).1 0).trans y0
    have d1 := ((bcellAt hb4 _ zy).1 1).trans y1
    have d2 := ((bcellAt hb4 _ zy).1 2).trans y2
    have d3 := ((bcellAt hb4 _ zy).1 3).trans y3
    have d4 := ((bcellAt hb4 _ zy).1 4).trans y4
    have HL4 := Lib.hid (HL3.out.below hb4 (fun _ h => h))
    have HBB4 := Lib.hid (HBB3.out.below hb4 (fun _ h => h))
    have HPP4 := Lib.hid (HPP3.out.below hb4 (fun _ h => h))
    have HVV4 := Lib.hid (HVV3.out.below hb4 (fun _ h => h))
    have HT4 := Lib.hid (HT3.out.belowS hb4)
    have HB4 := Lib.hid (HB3.out.trans (hb4.mono HB3.out.size))
    have zx4 : X < w4.heap.size := by have := hb4.size; omega
    clear hb4 x0 x1 x2 x3 x4 y0 y1 y2 y3 y4 HL3 HBB3 HPP3 HVV3 HT3 HB3 HX3 HY3
    go_wp2_with fail
    refine (proven_any (q - 1) ⟨⟨9, (hdrOf A B C).r, (hdrOf A B C).bs, (hdrOf A B C).ps⟩, (votersL C).take 2⟩ _ _ _ _ _ HL4.out (HBB4.out.mono (G' := fun _ => True) (fun _ _ => trivial)) (HPP4.out.mono (fun _ _ => trivial)) (HVV4.out.mono (fun _ _ => trivial)) HT4.out).mono ?_
    rintro e w5 ⟨rfl, hb5⟩
    rw [HP.out.2.1]
    have c0 := ((bcellAt hb5 _ zx4).1 0).trans e0
    have c1' := ((bcellAt hb5 _ zx4).1 1).trans e1
    have c2' := ((bcellAt hb5 _ zx4).1 2).trans e2
    have c3 := ((bcellAt hb5 _ zx4).1 3).trans e3
    have c4 := ((bcellAt hb5 _ zx4).1 4).trans e4
    have HL5 := Lib.hid (HL4.out.below hb5 (fun _ h => h))
    have HBB5 := Lib.hid (HBB4.out.below hb5 (fun _ h => h))
    have HPP5 := Lib.hid (HPP4.out.below hb5 (fun _ h => h))
    have HVV5 := Lib.hid (HVV4.out.below hb5 (fun _ h => h))
    have HT5 := Lib.hid (HT4.out.belowS hb5)
    have HB5 := Lib.hid (HB4.out.trans (hb5.mono HB4.out.size))
    clear hb5 e0 e1 e2 e3 e4 d0 d1 d2 d3 d4 HL4 HBB4 HPP4 HVV4 HT4 HB4
    go_wp2_with fail
    refine (proven_any 4 ⟨hdrOf A B C, (votersL C).take 2⟩ _ _ _ _ _ HL5.out (HBB5.out.mono (G' := fun _ => True) (fun _ _ => trivial)) (HPP5.out.mono (fun _ _ => trivial)) (HVV5.out.mono (fun _ _ => trivial)) HT5.out).mono ?_
    rintro e w6 ⟨rfl, hb6⟩
    rw [HP.out.2.2]
    go_wp2
    go_ret
    exact ⟨rfl, HB5.out.trans (hb6.mono HB5.out.size)⟩

theorem provenForm_walk (vt : Value) (r : RawD) (n : Int) (w : World) (hr : RawOk (fun _ => True) w vt r) (n1 : -9223372036854775808 ≤ n) (n2 : n ≤ 9223372036854775807) (ht : Tabs w) :
    Calls Tryd.prog 5 #[.agg #[.int .i64 r.k, .int .i64 r.a, .int .i64 r.b, .int .i64 r.c, vt], .int .i64 n] w fun e w' => e = .returned (.bool true) ∧ Below w.heap.size w w' :=
  provenForm_case r.k r.a r.b r.c n vt w hr.one hr.2.1.1 hr.2.1.2 hr.2.2.1.1 hr.2.2.1.2 hr.2.2.2.1.1 hr.2.2.2.1.2 n1 n2 ht
end Go.Proofs.YtialhdmdeggenaaDoor
