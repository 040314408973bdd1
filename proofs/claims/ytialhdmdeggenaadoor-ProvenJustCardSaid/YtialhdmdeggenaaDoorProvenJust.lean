/- ProvenJust: the walk. -/
import Derived.Test.YtialhdmdeggenaaDoorCrtH
import Derived.Test.YtialhdmdeggenaaDoorOpenS
set_option linter.unusedVariables false
set_option linter.unusedSimpArgs false
attribute [local go_sem ↓] Go.wp_at_zero Go.wp_at_succ
namespace Go.Proofs.YtialhdmdeggenaaDoor
open Go Go.RowKit

set_option maxRecDepth 100000 in
set_option maxHeartbeats 8000000 in
theorem provenJust_case (K A B C n : Int) (vt : Value) (w : World) (hvt : vt.oneCell' = true) (a1 : -9223372036854775808 ≤ A) (a2 : A ≤ 9223372036854775807) (b1 : -9223372036854775808 ≤ B) (b2 : B ≤ 9223372036854775807) (c1 : -9223372036854775808 ≤ C) (c2 : C ≤ 9223372036854775807)
    (n1 : -9223372036854775808 ≤ n) (n2 : n ≤ 9223372036854775807) (ht : Tabs w) :
    Calls Tryd.prog 4 #[.agg #[.int .i64 K, .int .i64 A, .int .i64 B, .int .i64 C, vt], .int .i64 n] w fun e w' => e = .returned (.bool true) ∧ Below w.heap.size w w' := by
  have hl3 := voters_len3 C
  have hl4 := voters_len4 C
  obtain ⟨r1, r2⟩ := pickedZ_range n 9 (by omega)
  have HOK := Lib.hid (hdrOf_ok A B C)
  have HP := Lib.hid (provenJust_law A B C n)
  have HLen := Lib.hid (signedL_le (hdrOf A B C) [0, 1, 2, 3])
  have HT := Lib.hid ht
  have HT0 := Lib.hid ht
  have HJ := Lib.hid (show hdrJust A B C n = ⟨(hdrOf A B C).a, (hdrOf A B C).r + 1 + pickedZ n 9, (hdrOf A B C).bs, [someL 1 1, someL 1 2, someL 1 3]⟩ from rfl)
  obtain ⟨rr1, rr2⟩ : 0 ≤ (hdrOf A B C).r ∧ (hdrOf A B C).r ≤ 100 := (by have := pickedZ_range B 9 (by omega); have : (hdrOf A B C).r = 1 + pickedZ B 9 := rfl; omega)
  clear ht
  go_enter Tryd.func4, Tryd.ntmps4
  go_upto_region 1 with fail
  go_cut [5] (fun p wx => ∃ (X g cap : Nat) (adb : Option Addr) (capb : Nat) (adp : Option Addr) (capp : Nat), p = .pointer (some ⟨X, 0, none⟩) ∧ w.heap.size ≤ X ∧ w.heap.size ≤ g ∧ g ≠ X ∧
      BoxAt wx X [.int .i64 (hdrOf A B C).a, .int .i64 (hdrOf A B C).r, .slice adb (hdrOf A B C).bs.length capb, .slice adp (hdrOf A B C).ps.length capp, .slice (some ⟨g, 0, none⟩) (votersL C).length cap] 32 ∧
      RdBB (fun b => b ≠ X ∧ b ≠ g) wx (.slice adb (hdrOf A B C).bs.length capb) (hdrOf A B C).bs ∧ RdBB (fun b => b ≠ X ∧ b ≠ g) wx (.slice adp (hdrOf A B C).ps.length capp) (hdrOf A B C).ps ∧
      RdI (fun b => b = g) wx (.slice (some ⟨g, 0, none⟩) (votersL C).length cap) (votersL C) ∧ (∀ j, wx.frozen? ⟨g, j, none⟩ = false) ∧ Below w.heap.size w wx)
  case first =>
    go_region_held3 (fun w' => w'.cell? ⟨w.heap.size, 0, none⟩ = some (.int .i64 K) ∧ w'.cell? ⟨w.heap.size, 1, none⟩ = some (.int .i64 A) ∧ w'.cell? ⟨w.heap.size, 2, none⟩ = some (.int .i64 B) ∧ w'.cell? ⟨w.heap.size, 3, none⟩ = some (.int .i64 C) ∧ w'.cell? ⟨w.heap.size, 4, none⟩ = some vt) (go_keep)
      (first
        | ((go_at_call 15; refine (header_any _ _ _ _ _ _ a1 a2 b1 b2 c1 c2 hvt).mono ?_; rintro e wh ⟨adb, capb, adp, capp, rfl, hbb, hpp, hbh⟩; (try (have qh0 := bcellAt hbh w.heap.size ?_; rotate_left; (first | omega | (simp <;> omega)); have kh0 := qh0.1; have fh0 := qh0.2; clear qh0)); (try (have qh1 := bcellAt hbh (w.heap.size + 1) ?_; rotate_left; (first | omega | (simp <;> omega)); have kh1 := qh1.1; have fh1 := qh1.2; clear qh1)); (try (have qh2 := bcellAt hbh wv.heap.size ?_; rotate_left; (first | omega | (simp <;> omega)); have kh2 := qh2.1; have fh2 := qh2.2; clear qh2)); have HBB := Lib.hid hbb; have HPP := Lib.hid hpp; have sh := hbh.size; (try simp at sh); have nh : w.heap.size < wh.heap.size := (by omega); have nh2 : wh.heap.size ≠ w.heap.size := (by omega); clear hbb hpp))
        | ((go_at_call 16; refine (voters_any _ _ c1 c2).mono ?_; rintro e wv ⟨vv, rfl, hov, hbv⟩; (try (have qv0 := bcellAt hbv w.heap.size ?_; rotate_left; (first | omega | (simp <;> omega)); have kv0 := qv0.1; have fv0 := qv0.2; clear qv0)); (try (have qv1 := bcellAt hbv (w.heap.size + 1) ?_; rotate_left; (first | omega | (simp <;> omega)); have kv1 := qv1.1; have fv1 := qv1.2; clear qv1)); (try (have qv2 := bcellAt hbv wh.heap.size ?_; rotate_left; (first | omega | (simp <;> omega)); have kv2 := qv2.1; have fv2 := qv2.2; clear qv2)); obtain ⟨g, capg, rfl, hgb, hgl, hgf⟩ := RdS.free_of_own hov (by omega); have HOV := Lib.hid hov; have HGF := Lib.hid hgf; have sv := hbv.size; (try simp at sv); have nv : w.heap.size < wv.heap.size := (by omega); have nv2 : wv.heap.size ≠ w.heap.size := (by omega); clear hov hgf)))
    all_goals
      have hw1 : w.heap.size < wh.heap.size := nh
      have hB1 : Below w.heap.size w wh := Below.trans (by repeat (first | with_reducible exact Below.refl _ _ | with_reducible refine Below.drew ?_ | with_reducible refine Below.alloc ?_ (by first | omega | (simp <;> omega)) _)) (hbh.mono (by first | omega | (simp <;> omega)))
      have hB2 : Below w.heap.size w wv := Below.trans (by repeat (first | with_reducible exact hB1 | with_reducible refine Below.drew ?_ | with_reducible refine Below.alloc ?_ (by first | omega | (simp <;> omega)) _)) (hbv.mono (by first | omega | (simp <;> omega)))
      have hbl := HBB.out.low (by decide)
      have hpl := HPP.out.low (by decide)
      have hvl := (RdS.of_owns (G := fun _ => True) HOV.out (fun _ _ => trivial)).atBlock
      have hgf := HGF.out
      simp at hgb hbl hpl
      go_wp2_with fail
      go_meet
    · refine ⟨wv.heap.size, g, capg, adb, capb, adp, capp, rfl, by omega, by omega, by omega, BoxAt.new wv [_, _, _, _, _] _, hbl.keep ?_ (fun b hb => ⟨by omega, by omega⟩), hpl.keep ?_ (fun b hb => ⟨by omega, by omega⟩), hvl.keep ?_ (fun b hb => hb), fun j => ?_, ?_⟩
      · repeat (first | with_reducible exact Keep.refl _ _ | with_reducible refine Keep.setCell' ?_ (by first | (simp; done) | (simp; omega)) _ | with_reducible refine Keep.alloc' ?_ _ | with_reducible refine Keep.drew' ?_ | with_reducible refine Keep.trans ?_ (Keep.below hbv))
      · repeat (first | with_reducible exact Keep.refl _ _ | with_reducible refine Keep.setCell' ?_ (by first | (simp; done) | (simp; omega)) _ | with_reducible refine Keep.alloc' ?_ _ | with_reducible refine Keep.drew' ?_ | with_reducible refine Keep.trans ?_ (Keep.below hbv))
      · repeat (first | with_reducible exact Keep.refl _ _ | with_reducible refine Keep.setCell' ?_ (by first | (simp; done) | (simp; omega)) _ | with_reducible refine Keep.alloc' ?_ _ | with_reducible refine Keep.drew' ?_ | with_reducible refine Keep.trans ?_ (Keep.below hbv))
      · rw [((Below.refl wv.heap.size wv).alloc (Nat.le_refl _) _).frozen (p := ⟨g, j, none⟩) hgl]; exact hgf j
      · exact hB2.alloc (by omega) _
    · refine ⟨wh.heap.size, g, capg, adb, capb, adp, capp, rfl, by omega, by omega, by omega, BoxAt.set5 ((BoxAt.new wh [_, _, _, _, _] _).below hbv (by simp)) _ _ _ _ _, hbl.keep ?_ (fun b hb => ⟨by omega, by omega⟩), hpl.keep ?_ (fun b hb => ⟨by omega, by omega⟩), hvl.keep ?_ (fun b hb => hb), fun j => ?_, ?_⟩
      · repeat (first | with_reducible exact Keep.refl _ _ | with_reducible refine Keep.setCell' ?_ (by first | (simp; done) | (simp; omega)) _ | with_reducible refine Keep.alloc' ?_ _ | with_reducible refine Keep.drew' ?_ | with_reducible refine Keep.trans ?_ (Keep.below hbv))
      · repeat (first | with_reducible exact Keep.refl _ _ | with_reducible refine Keep.setCell' ?_ (by first | (simp; done) | (simp; omega)) _ | with_reducible refine Keep.alloc' ?_ _ | with_reducible refine Keep.drew' ?_ | with_reducible refine Keep.trans ?_ (Keep.below hbv))
      · repeat (first | with_reducible exact Keep.refl _ _ | with_reducible refine Keep.setCell' ?_ (by first | (simp; done) | (simp; omega)) _ | with_reducible refine Keep.alloc' ?_ _ | with_reducible refine Keep.drew' ?_ | with_reducible refine Keep.trans ?_ (Keep.below hbv))
      · simp only [World.frozen?_setCell]; with_reducible exact hgf j
      · repeat (first | with_reducible exact hB2 | with_reducible refine Below.setCell ?_ (by first | omega | (simp <;> omega)) _)
    · refine ⟨w.heap.size + 1, g, capg, adb, capb, adp, capp, rfl, by omega, by omega, by omega, BoxAt.set5 (((BoxAt.newAt (w.alloc _) [_, _, _, _, _] _ (by simp)).drew.below hbh (by simp)).below hbv (by omega)) _ _ _ _ _, hbl.keep ?_ (fun b hb => ⟨by omega, by omega⟩), hpl.keep ?_ (fun b hb => ⟨by omega, by omega⟩), hvl.keep ?_ (fun b hb => hb), fun j => ?_, ?_⟩
      · repeat (first | with_reducible exact Keep.refl _ _ | with_reducible refine Keep.setCell' ?_ (by first | (simp; done) | (simp; omega)) _ | with_reducible refine Keep.alloc' ?_ _ | with_reducible refine Keep.drew' ?_ | with_reducible refine Keep.trans ?_ (Keep.below hbv))
      · repeat (first | with_reducible exact Keep.refl _ _ | with_reducible refine Keep.setCell' ?_ (by first | (simp; done) | (simp; omega)) _ | with_reducible refine Keep.alloc' ?_ _ | with_reducible refine Keep.drew' ?_ | with_reducible refine Keep.trans ?_ (Keep.below hbv))
      · repeat (first | with_reducible exact Keep.refl _ _ | with_reducible refine Keep.setCell' ?_ (by first | (simp; done) | (simp; omega)) _ | with_reducible refine Keep.alloc' ?_ _ | with_reducible refine Keep.drew' ?_ | with_reducible refine Keep.trans ?_ (Keep.below hbv))
      · simp only [World.frozen?_setCell]; with_reducible exact hgf j
      · repeat (first | with_reducible exact hB2 | with_reducible refine Below.setCell ?_ (by first | omega | (simp <;> omega)) _)
  case rest =>
    obtain ⟨X, g, cap, adb, capb, adp, capp, rfl, hXw, hgw, hgX, bX, hbb, hpp, hvv, hgf, hB⟩ := hcut
    have HBB := Lib.hid hbb
    have HPP := Lib.hid hpp
    have HVV := Lib.hid hvv
    have HBX := Lib.hid bX
    have HGF := Lib.hid hgf
    have x0 := bX.cell 0 rfl
    have x1 := bX.cell 1 rfl
    have x2 := bX.cell 2 rfl
    have x3 := bX.cell 3 rfl
    have x4 := bX.cell 4 rfl
    have z := bX.lt
    have z0 := hB.size
    have HT := Lib.hid (HT.out.belowS hB)
    have HB := Lib.hid hB
    obtain ⟨-, hlc, hcm, -⟩ := HVV.out.len
    unfold maxLen at hcm
    have f4 := HBX.out.free 4
    have zg : g < wc.heap.size := World.block_lt_of_cell? wc _ (HVV.out.cells 0 (by omega))
    clear hbb hpp hvv bX hgf hB
    go_wp2_with fail
    have hba := (Below.refl wc.heap.size wc).alloc (Nat.le_refl _) (.cells #[.int .i64 0, .int .i64 1, .int .i64 2, .int .i64 3] 3)
    have hns : RdI (fun b => b = wc.heap.size) (wc.alloc (.cells #[.int .i64 0, .int .i64 1, .int .i64 2, .int .i64 3] 3)) (.slice (some ⟨wc.heap.size, 0, none⟩) 4 4) [0, 1, 2, 3] :=
      RdS.of_box (f := Value.int .i64) (G := fun b => b = wc.heap.size) (l := [0, 1, 2, 3]) (cap := 4) (BoxAt.newAt wc [.int .i64 0, .int .i64 1, .int .i64 2, .int .i64 3] 3 (by simp)) rfl (by decide) (by unfold maxLen; omega)
    refine (signedBy_any (G := fun _ => True) (hdrOf A B C) [0, 1, 2, 3] _ _ _ _ ((HBB.out.below hba (fun _ h => h)).mono (fun _ _ => trivial)) ((HPP.out.below hba (fun _ h => h)).mono (fun _ _ => trivial)) hns (HT.out.belowS hba) HOK.out (by decide) (by decide)).mono ?_
    rintro e w2 ⟨vL, rfl, hL, hb2⟩
    have hB2 := hba.trans (hb2.mono hba.size)
    have s2 := hB2.size
    have HLL := Lib.hid (hL.mono (G' := fun _ => True) (fun _ _ => trivial))
    have HLE := HLen.out
    rw [HP.out.2.2] at HLE
    have HL4 := Lib.hid HP.out.2.2
    generalize signedL (hdrOf A B C) [0, 1, 2, 3] = L at *
    obtain ⟨adL, capL, rfl, -, -⟩ := HLL.out.form
    have HBB2 := Lib.hid (HBB.out.below hB2 (fun _ h => h))
    have HPP2 := Lib.hid (HPP.out.below hB2 (fun _ h => h))
    have HVV2 := Lib.hid (HVV.out.below hB2 (fun _ h => h))
    have bX2 := HBX.out.belowS hB2
    have HT2 := Lib.hid (HT.out.belowS hB2)
    have HB2 := Lib.hid (HB.out.trans (hB2.mono z0))
    clear x0 x1 x2 x3 x4 f4 hL hb2 hns hba hB2 HBB HPP HVV HBX HT HB HLen
    have x0 := bX2.cell 0 rfl
    have x1 := bX2.cell 1 rfl
    have x2 := bX2.cell 2 rfl
    have x3 := bX2.cell 3 rfl
    have x4 := bX2.cell 4 rfl
    have f4 := bX2.free 4
    have HX2 := Lib.hid bX2
    have zX := bX2.lt
    clear bX2
    go_upto_region 4 with fail
    have hY := BoxAt.new w2 [.int .i64 (hdrOf A B C).a, .int .i64 (hdrOf A B C).r, .slice adb (hdrOf A B C).bs.length capb, .slice adp (hdrOf A B C).ps.length capp, .slice (some ⟨g, 0, none⟩) (votersL C).length cap] 32
    have hb3 := (Below.refl w2.heap.size w2).alloc (Nat.le_refl _) (.cells #[.int .i64 (hdrOf A B C).a, .int .i64 (hdrOf A B C).r, .slice adb (hdrOf A B C).bs.length capb, .slice adp (hdrOf A B C).ps.length capp, .slice (some ⟨g, 0, none⟩) (votersL C).length cap] 32)
    have HL3 := Lib.hid ((HLL.out.low (by decide)).below hb3 (fun _ h => h))
    have HBB3 := Lib.hid ((HBB2.out.low (by decide)).below hb3 (fun _ h => h))
    have HPP3 := Lib.hid ((HPP2.out.low (by decide)).below hb3 (fun _ h => h))
    have HVV3 := Lib.hid ((HVV2.out.low (by decide)).below hb3 (fun _ h => h))
    have HX3 := Lib.hid (HX2.out.belowS hb3)
    have HY3 := Lib.hid hY
    have HB3 := Lib.hid (HB2.out.trans (hb3.mono HB2.out.size))
    have z3 := hb3.size
    have nY : w2.heap.size ≠ X := by omega
    generalize w2.alloc (.cells #[.int .i64 (hdrOf A B C).a, .int .i64 (hdrOf A B C).r, .slice adb (hdrOf A B C).bs.length capb, .slice adp (hdrOf A B C).ps.length capp, .slice (some ⟨g, 0, none⟩) (votersL C).length cap] 32) = w3 at *
    have zY := hY.lt
    clear x0 x1 x2 x3 x4 f4 hY hb3
    have x1 := HX3.out.cell 1 rfl
    have y1 := HY3.out.free 1
    have yc := HY3.out.cell 1 rfl
    have k1 : -9223372036854775808 ≤ (hdrOf A B C).r + 1 := by omega
    have k2 : (hdrOf A B C).r + 1 ≤ 9223372036854775807 := by omega
    have k3 : -9223372036854775808 ≤ (hdrOf A B C).r + 1 + pickedZ n 9 := by omega
    have k4 : (hdrOf A B C).r + 1 + pickedZ n 9 ≤ 9223372036854775807 := by omega
    have l1 : IntKind.i64.wrap ((hdrOf A B C).r + 1) = (hdrOf A B C).r + 1 := IntWalk.i64_in _ (by omega)
    have l2 : IntKind.i64.wrap ((hdrOf A B C).r + 1 + pickedZ n 9) = (hdrOf A B C).r + 1 + pickedZ n 9 := IntWalk.i64_in _ (by omega)
    go_region_held3 (fun w' => w'.cell? ⟨X, 1, none⟩ = some (.int .i64 (hdrOf A B C).r) ∧ w'.frozen? ⟨w2.heap.size, 1, none⟩ = false) (go_keep) ((go_at_call 19; refine (picked_any _ _ _ n1 n2 (by omega) (by omega)).mono ?_; rintro e w' ⟨rfl, rfl⟩))
    go_upto_region 5 with fail
    have HX4 := Lib.hid ((HX3.out.setOther (p := ⟨w2.heap.size, 1, none⟩) (by simp; omega) (.int .i64 ((hdrOf A B C).r + 1 + pickedZ n 9))).drew)
    have HY4 := Lib.hid ((HY3.out.set 1 (.int .i64 ((hdrOf A B C).r + 1 + pickedZ n 9))).drew)
    have hk4 : Keep (fun b => b < w2.heap.size) w3 (w3.setCell ⟨w2.heap.size, 1, none⟩ (.int .i64 ((hdrOf A B C).r + 1 + pickedZ n 9))).drew := (Keep.setCell (p := ⟨w2.heap.size, 1, none⟩) (by simp) _).trans (Keep.drew _ _)
    have HL4' := Lib.hid ((HL3.out.keep (hk4.mono (fun _ h => h.2)) (fun _ h => h)).mono (G' := fun b => b < w2.heap.size) (fun _ h => h.2))
    have HBB4 := Lib.hid ((HBB3.out.keep (hk4.mono (fun _ h => h.2)) (fun _ h => h)).mono (G' := fun b => b < w2.heap.size) (fun _ h => h.2))
    have HPP4 := Lib.hid ((HPP3.out.keep (hk4.mono (fun _ h => h.2)) (fun _ h => h)).mono (G' := fun b => b < w2.heap.size) (fun _ h => h.2))
    have HVV4 := Lib.hid ((HVV3.out.keep (hk4.mono (fun _ h => h.2)) (fun _ h => h)).mono (G' := fun b => b < w2.heap.size) (fun _ h => h.2))
    have HB4 := Lib.hid ((HB3.out.setCell (p := ⟨w2.heap.size, 1, none⟩) (by simp; omega) (.int .i64 ((hdrOf A B C).r + 1 + pickedZ n 9))).drew)
    have z4 : w3.heap.size ≤ (w3.setCell ⟨w2.heap.size, 1, none⟩ (.int .i64 ((hdrOf A B C).r + 1 + pickedZ n 9))).drew.heap.size := by simp
    generalize (w3.setCell ⟨w2.heap.size, 1, none⟩ (.int .i64 ((hdrOf A B C).r + 1 + pickedZ n 9))).drew = w4 at *
    clear hk4 x1 y1 yc HX3 HY3 HL3 HBB3 HPP3 HVV3 HB3 HX2 HBB2 HPP2 HVV2 HLL HB2 HT2
    go_wp2_with fail
    refine (some_any 1 1 w4 (by decide) (by decide)).mono ?_
    rintro e w5 ⟨rfl, hx, hb⟩
    have HS1 := Lib.hid (show BoxAt w5 w4.heap.size ((someL 1 1).map fun c => Value.int .u8 c.toNat) 5 from hx)
    have HB5 := Lib.hid hb
    have z5 := hb.size
    clear hx hb
    go_wp2_with fail
    refine (some_any 1 2 w5 (by decide) (by decide)).mono ?_
    rintro e w6 ⟨rfl, hx, hb⟩
    have HS2 := Lib.hid (show BoxAt w6 w5.heap.size ((someL 1 2).map fun c => Value.int .u8 c.toNat) 5 from hx)
    have HB6 := Lib.hid (HB5.out.trans (hb.mono z5))
    have HS1 := Lib.hid (HS1.out.belowS hb)
    have z6 := hb.size
    clear hx hb
    go_wp2_with fail
    refine (some_any 1 3 w6 (by decide) (by decide)).mono ?_
    rintro e w7 ⟨rfl, hx, hb⟩
    have HS3 := Lib.hid (show BoxAt w7 w6.heap.size ((someL 1 3).map fun c => Value.int .u8 c.toNat) 5 from hx)
    have hb7 := HB6.out.trans (hb.mono (by omega))
    have HS1 := Lib.hid (HS1.out.belowS hb)
    have HS2 := Lib.hid (HS2.out.belowS hb)
    have z7 := hb.size
    have HX7 := Lib.hid (HX4.out.belowS hb7)
    have HY7 := Lib.hid (HY4.out.belowS hb7)
    have HL7 := Lib.hid (HL4'.out.below hb7 (fun _ h => h))
    have HBB7 := Lib.hid (HBB4.out.below hb7 (fun _ h => h))
    have HPP7 := Lib.hid (HPP4.out.below hb7 (fun _ h => h))
    have HVV7 := Lib.hid (HVV4.out.below hb7 (fun _ h => h))
    have HB7 := Lib.hid (HB4.out.trans (hb7.mono HB4.out.size))
    clear hx hb hb7 HX4 HY4 HL4' HBB4 HPP4 HVV4 HB4 HB5 HB6
    have x0 := HX7.out.cell 0 rfl
    have x1 := HX7.out.cell 1 rfl
    have x2 := HX7.out.cell 2 rfl
    have x3 := HX7.out.cell 3 rfl
    have x4 := HX7.out.cell 4 rfl
    have y3 := HY7.out.cell 3 rfl
    have f3 := HY7.out.free 3
    have zx := HX7.out.lt
    have zy := HY7.out.lt
    go_wp2_with fail
    have hk8 : Keep (fun b => b ≠ w2.heap.size) w7 ((w7.setCell ⟨w2.heap.size, 3, none⟩ (.slice (some ⟨w7.heap.size, 0, none⟩) 3 3)).alloc (.cells #[.slice (some ⟨w4.heap.size, 0, none⟩) 32 32, .slice (some ⟨w5.heap.size, 0, none⟩) 32 32, .slice (some ⟨w6.heap.size, 0, none⟩) 32 32] 39)) := (Keep.setCell (p := ⟨w2.heap.size, 3, none⟩) (by simp) _).trans (Keep.alloc _ _ _)
    have HX8 := Lib.hid ((HX7.out.setOther (p := ⟨w2.heap.size, 3, none⟩) (by simp; omega) (.slice (some ⟨w7.heap.size, 0, none⟩) 3 3)).alloc (.cells #[.slice (some ⟨w4.heap.size, 0, none⟩) 32 32, .slice (some ⟨w5.heap.size, 0, none⟩) 32 32, .slice (some ⟨w6.heap.size, 0, none⟩) 32 32] 39))
    have HY8 := Lib.hid ((HY7.out.set 3 (.slice (some ⟨w7.heap.size, 0, none⟩) 3 3)).alloc (.cells #[.slice (some ⟨w4.heap.size, 0, none⟩) 32 32, .slice (some ⟨w5.heap.size, 0, none⟩) 32 32, .slice (some ⟨w6.heap.size, 0, none⟩) 32 32] 39))
    have HL8 := Lib.hid ((HL7.out.keep (hk8.mono (fun _ h => by omega)) (fun _ h => h)).mono (G' := fun _ => True) (fun _ _ => trivial))
    have HBB8 := Lib.hid ((HBB7.out.keep (hk8.mono (fun _ h => by omega)) (fun _ h => h)).mono (G' := fun _ => True) (fun _ _ => trivial))
    have HPP8 := Lib.hid ((HPP7.out.keep (hk8.mono (fun _ h => by omega)) (fun _ h => h)).mono (G' := fun _ => True) (fun _ _ => trivial))
    have HVV8 := Lib.hid ((HVV7.out.keep (hk8.mono (fun _ h => by omega)) (fun _ h => h)).mono (G' := fun _ => True) (fun _ _ => trivial))
    have HQ8 := Lib.hid (rdBB_three (G := fun _ => True) (BoxAt.newAt (n := w7.heap.size) (w7.setCell ⟨w2.heap.size, 3, none⟩ (.slice (some ⟨w7.heap.size, 0, none⟩) 3 3)) [.slice (some ⟨w4.heap.size, 0, none⟩) 32 32, .slice (some ⟨w5.heap.size, 0, none⟩) 32 32, .slice (some ⟨w6.heap.size, 0, none⟩) 32 32] 39 (by simp)) trivial (rdB_some ((HS1.out.setOther (p := ⟨w2.heap.size, 3, none⟩) (by simp; omega) (.slice (some ⟨w7.heap.size, 0, none⟩) 3 3)).alloc _) trivial) (rdB_some ((HS2.out.setOther (p := ⟨w2.heap.size, 3, none⟩) (by simp; omega) (.slice (some ⟨w7.heap.size, 0, none⟩) 3 3)).alloc _) trivial) (rdB_some ((HS3.out.setOther (p := ⟨w2.heap.size, 3, none⟩) (by simp; omega) (.slice (some ⟨w7.heap.size, 0, none⟩) 3 3)).alloc _) trivial))
    have hb8 : Below w.heap.size w ((w7.setCell ⟨w2.heap.size, 3, none⟩ (.slice (some ⟨w7.heap.size, 0, none⟩) 3 3)).alloc (.cells #[.slice (some ⟨w4.heap.size, 0, none⟩) 32 32, .slice (some ⟨w5.heap.size, 0, none⟩) 32 32, .slice (some ⟨w6.heap.size, 0, none⟩) 32 32] 39)) := (HB7.out.setCell (by simp; omega) _).alloc (by have := HB7.out.size; simp; omega) _
    have HB8 := Lib.hid hb8
    have HT8 := Lib.hid (HT0.out.belowS hb8)
    have HP1 := Lib.hid HP.out.1
    have HP2 := Lib.hid (show prvC L (-1) ⟨⟨(hdrOf A B C).a, (hdrOf A B C).r + 1 + pickedZ n 9, (hdrOf A B C).bs, [someL 1 1, someL 1 2, someL 1 3]⟩, votersL C⟩ = 11 from HP.out.2.1)
    generalize ((w7.setCell ⟨w2.heap.size, 3, none⟩ (.slice (some ⟨w7.heap.size, 0, none⟩) 3 3)).alloc (.cells #[.slice (some ⟨w4.heap.size, 0, none⟩) 32 32, .slice (some ⟨w5.heap.size, 0, none⟩) 32 32, .slice (some ⟨w6.heap.size, 0, none⟩) 32 32] 39)) = w8 at *
    clear hk8 hb8 x0 x1 x2 x3 x4 y3 f3 zx zy HX7 HY7 HL7 HBB7 HPP7 HVV7 HB7 HS1 HS2 HS3
    have hx := HX8.out
    have y := HY8.out
    have y0 := y.cell 0 rfl
    have y1 := y.cell 1 rfl
    have y2 := y.cell 2 rfl
    have y3 := y.cell 3 rfl
    have y4 := y.cell 4 rfl
    have zy := y.lt
    clear hx y
    refine (proven_any (-1) ⟨hdrOf A B C, votersL C⟩ _ _ _ _ _ HL8.out HBB8.out HPP8.out HVV8.out HT8.out).mono ?_
    rintro e w9 ⟨rfl, hb9⟩
    rw [HP1.out]
    have d0 := ((bcellAt hb9 _ zy).1 0).trans y0
    have d1 := ((bcellAt hb9 _ zy).1 1).trans y1
    have d2 := ((bcellAt hb9 _ zy).1 2).trans y2
    have d3 := ((bcellAt hb9 _ zy).1 3).trans y3
    have d4 := ((bcellAt hb9 _ zy).1 4).trans y4
    have HL9 := Lib.hid (HL8.out.below hb9 (fun _ h => h))
    have HBB9 := Lib.hid (HBB8.out.below hb9 (fun _ h => h))
    have HQ9 := Lib.hid (HQ8.out.below hb9 (fun _ h => h))
    have HVV9 := Lib.hid (HVV8.out.below hb9 (fun _ h => h))
    have HT9 := Lib.hid (HT8.out.belowS hb9)
    have HB9 := Lib.hid (HB8.out.trans (hb9.mono HB8.out.size))
    clear hb9 y0 y1 y2 y3 y4
    go_wp2_with fail
    refine (proven_any (-1) ⟨⟨(hdrOf A B C).a, (hdrOf A B C).r + 1 + pickedZ n 9, (hdrOf A B C).bs, [someL 1 1, someL 1 2, someL 1 3]⟩, votersL C⟩ _ _ _ _ _ HL9.out HBB9.out HQ9.out HVV9.out HT9.out).mono ?_
    rintro e w10 ⟨rfl, hb10⟩
    rw [HP2.out]
    have h4 := HL4.out
    have h4' : ((L.length : Nat) : Int) = 4 := by omega
    have h4b : (((L.length : Nat) : Int) == 4) = true := by simp [h4']
    go_wp2
    go_ret
    exact ⟨rfl, HB9.out.trans (hb10.mono HB9.out.size)⟩

theorem provenJust_walk (vt : Value) (r : RawD) (n : Int) (w : World) (hr : RawOk (fun _ => True) w vt r) (n1 : -9223372036854775808 ≤ n) (n2 : n ≤ 9223372036854775807) (ht : Tabs w) :
    Calls Tryd.prog 4 #[.agg #[.int .i64 r.k, .int .i64 r.a, .int .i64 r.b, .int .i64 r.c, vt], .int .i64 n] w fun e w' => e = .returned (.bool true) ∧ Below w.heap.size w w' :=
  provenJust_case r.k r.a r.b r.c n vt w hr.one hr.2.1.1 hr.2.1.2 hr.2.2.1.1 hr.2.2.1.2 hr.2.2.2.1.1 hr.2.2.2.1.2 n1 n2 ht
end Go.Proofs.YtialhdmdeggenaaDoor
