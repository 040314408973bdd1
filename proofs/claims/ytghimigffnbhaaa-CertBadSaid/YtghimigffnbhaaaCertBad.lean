/- CertBad: the walk. -/
import Derived.Test.YtghimigffnbhaaaHdrLaw
import Derived.Test.YtghimigffnbhaaaChk3
import Derived.Test.YtghimigffnbhaaaOpenS
set_option linter.unusedVariables false
set_option linter.unusedSimpArgs false
attribute [local go_sem ↓] Go.wp_at_zero Go.wp_at_succ
namespace Go.Proofs.Ytghimigffnbhaaa
open Go Go.RowKit

theorem RdS.free_of_own {w : World} {base e n : Nat} {v : Value} {xs : List Value} (h : w.ownsRow base e 1 v n xs) (h0 : 0 < n) : ∃ g cap, v = .slice (some ⟨g, 0, none⟩) n cap ∧ base ≤ g ∧ g < w.heap.size ∧ ∀ j, w.frozen? ⟨g, j, none⟩ = false := by
  rcases h.2 with ⟨_, h1⟩ | ⟨g, cap, cur, hv, hb, hg, _⟩
  · omega
  · exact ⟨g, cap, hv, hb, lt_of_block hg, fun j => by simp [World.frozen?, hg]⟩

theorem BoxAt.set5 {w : World} {b : Nat} {a0 a1 a2 a3 a4 : Value} {T : TypeId} (h : BoxAt w b [a0, a1, a2, a3, a4] T) (u0 u1 u2 u3 u4 : Value) :
    BoxAt (((((w.setCell ⟨b, 0, none⟩ u0).setCell ⟨b, 1, none⟩ u1).setCell ⟨b, 2, none⟩ u2).setCell ⟨b, 3, none⟩ u3).setCell ⟨b, 4, none⟩ u4) b [u0, u1, u2, u3, u4] T := ((((h.set 0 u0).set 1 u1).set 2 u2).set 3 u3).set 4 u4
theorem RdS.atBlock {α : Type} {f : α → Value} {G : Nat → Prop} {w : World} {l : List α} {g o n cap : Nat} (h : RdS (flat f) G w (.slice (some ⟨g, o, none⟩) n cap) l) : RdS (flat f) (fun b => b = g) w (.slice (some ⟨g, o, none⟩) n cap) l := by
  obtain ⟨h0, h1, h2, h3⟩ := h.len
  subst h0
  refine ⟨_, cap, rfl, h1, h2, fun h => by simp at h, fun j x hx => ?_⟩
  have hj : j < l.length := by
    rcases Nat.lt_or_ge j l.length with h | h
    · exact h
    · simp [List.getElem?_eq_none h] at hx
  obtain ⟨b, o', cs, ha, hg, hc, hr⟩ := h.at j hj
  simp only [Option.some.injEq, Addr.mk.injEq, and_true] at ha
  obtain ⟨rfl, rfl⟩ := ha
  have hx' : l[j] = x := by rw [List.getElem?_eq_getElem hj] at hx; exact Option.some.inj hx
  exact ⟨_, _, cs, rfl, rfl, hc, hx' ▸ hr⟩

set_option maxRecDepth 100000 in
set_option maxHeartbeats 4000000 in
theorem certBad_case (K A B C which q want : Int) (vt : Value) (w : World) (hvt : vt.oneCell' = true) (a1 : -9223372036854775808 ≤ A) (a2 : A ≤ 9223372036854775807) (b1 : -9223372036854775808 ≤ B) (b2 : B ≤ 9223372036854775807) (c1 : -9223372036854775808 ≤ C) (c2 : C ≤ 9223372036854775807)
    (h1 : -9223372036854775808 ≤ which) (h2 : which ≤ 9223372036854775807) (hq : pickedZ which 4 = q) (hc : q = 0 ∨ q = 1 ∨ q = 2 ∨ q = 3) :
    Calls Try.prog 15 #[.agg #[.int .i64 K, .int .i64 A, .int .i64 B, .int .i64 C, vt], .int .i64 which] w fun e w' => e = .returned (.bool true) ∧ Below w.heap.size w w' := by
  have HOK := Lib.hid (show crtCode ⟨⟨(hdrOf A B C).a, (hdrOf A B C).r, (hdrOf A B C).bs, (hdrOf A B C).ps⟩, votersL C⟩ = 0 from crtOf_ok A B C)
  have hl3 := voters_len3 C
  have hl4 := voters_len4 C
  have HF := Lib.hid (show crtCode ⟨⟨(hdrOf A B C).a, (hdrOf A B C).r, (hdrOf A B C).bs, (hdrOf A B C).ps⟩, (votersL C).take 2⟩ = 10 from crt_few A B C)
  have HO := Lib.hid (show crtCode ⟨⟨(hdrOf A B C).a, (hdrOf A B C).r, (hdrOf A B C).bs, (hdrOf A B C).ps⟩, (votersL C).set 1 ((votersL C)[0]'(by omega))⟩ = 9 from crt_order A B C (by omega))
  have HR := Lib.hid (show crtCode ⟨⟨(hdrOf A B C).a, (hdrOf A B C).r, (hdrOf A B C).bs, (hdrOf A B C).ps⟩, (votersL C).set 0 (-1)⟩ = 2 from crt_range A B C)
  have HS := Lib.hid (show crtCode ⟨⟨(hdrOf A B C).a, (hdrOf A B C).r, (hdrOf A B C).bs, (hdrOf A B C).ps⟩, [0, 1, 2, 3, 3]⟩ = 1 from crt_size A B C)
  have HQ := Lib.hid hq
  clear hq
  go_enter Try.func15, Try.ntmps15
  go_upto_region 1 with fail
  go_cut [5] (fun p wx => ∃ (X g cap : Nat) (adb : Option Addr) (capb : Nat) (adp : Option Addr) (capp : Nat), p = .pointer (some ⟨X, 0, none⟩) ∧ w.heap.size ≤ X ∧ w.heap.size ≤ g ∧ g ≠ X ∧
      BoxAt wx X [.int .i64 (hdrOf A B C).a, .int .i64 (hdrOf A B C).r, .slice adb (hdrOf A B C).bs.length capb, .slice adp (hdrOf A B C).ps.length capp, .slice (some ⟨g, 0, none⟩) (votersL C).length cap] 72 ∧
      RdBB (fun b => b ≠ X ∧ b ≠ g) wx (.slice adb (hdrOf A B C).bs.length capb) (hdrOf A B C).bs ∧ RdBB (fun b => b ≠ X ∧ b ≠ g) wx (.slice adp (hdrOf A B C).ps.length capp) (hdrOf A B C).ps ∧
      RdI (fun b => b = g) wx (.slice (some ⟨g, 0, none⟩) (votersL C).length cap) (votersL C) ∧ (∀ j, wx.frozen? ⟨g, j, none⟩ = false) ∧ Below w.heap.size w wx)
  case first =>
    go_region_held3 (fun w' => w'.cell? ⟨w.heap.size, 0, none⟩ = some (.int .i64 K) ∧ w'.cell? ⟨w.heap.size, 1, none⟩ = some (.int .i64 A) ∧ w'.cell? ⟨w.heap.size, 2, none⟩ = some (.int .i64 B) ∧ w'.cell? ⟨w.heap.size, 3, none⟩ = some (.int .i64 C) ∧ w'.cell? ⟨w.heap.size, 4, none⟩ = some vt) (go_keep)
      (first
        | ((go_at_call 31; refine (header_any _ _ _ _ _ _ a1 a2 b1 b2 c1 c2 hvt).mono ?_; rintro e wh ⟨adb, capb, adp, capp, rfl, hbb, hpp, hbh⟩; (try (have qh0 := bcellAt hbh w.heap.size ?_; rotate_left; (first | omega | (simp <;> omega)); have kh0 := qh0.1; have fh0 := qh0.2; clear qh0)); (try (have qh1 := bcellAt hbh (w.heap.size + 1) ?_; rotate_left; (first | omega | (simp <;> omega)); have kh1 := qh1.1; have fh1 := qh1.2; clear qh1)); (try (have qh2 := bcellAt hbh wv.heap.size ?_; rotate_left; (first | omega | (simp <;> omega)); have kh2 := qh2.1; have fh2 := qh2.2; clear qh2)); have HBB := Lib.hid hbb; have HPP := Lib.hid hpp; have sh := hbh.size; (try simp at sh); have nh : w.heap.size < wh.heap.size := (by omega); have nh2 : wh.heap.size ≠ w.heap.size := (by omega); clear hbb hpp))
        | ((go_at_call 32; refine (voters_any _ _ c1 c2).mono ?_; rintro e wv ⟨vv, rfl, hov, hbv⟩; (try (have qv0 := bcellAt hbv w.heap.size ?_; rotate_left; (first | omega | (simp <;> omega)); have kv0 := qv0.1; have fv0 := qv0.2; clear qv0)); (try (have qv1 := bcellAt hbv (w.heap.size + 1) ?_; rotate_left; (first | omega | (simp <;> omega)); have kv1 := qv1.1; have fv1 := qv1.2; clear qv1)); (try (have qv2 := bcellAt hbv wh.heap.size ?_; rotate_left; (first | omega | (simp <;> omega)); have kv2 := qv2.1; have fv2 := qv2.2; clear qv2)); obtain ⟨g, capg, rfl, hgb, hgl, hgf⟩ := RdS.free_of_own hov (by omega); have HOV := Lib.hid hov; have HGF := Lib.hid hgf; have sv := hbv.size; (try simp at sv); have nv : w.heap.size < wv.heap.size := (by omega); have nv2 : wv.heap.size ≠ w.heap.size := (by omega); clear hov hgf)))
    all_goals
      have hw1 : w.heap.size < wh.heap.size := nh
      have hB1 : Below w.heap.size w wh := Below.trans (by repeat (first | with_reducible exact Below.refl _ _ | with_reducible refine Below.drew ?_ | with_reducible refine Below.alloc ?_ (by first | omega | (simp <;> omega)) _)) (hbh.mono (by first | omega | (simp <;> omega)))
      have hB2 : Below w.heap.size w wv := Below.trans (by repeat (first | with_reducible exact hB1 | with_reducible refine Below.drew ?_ | with_reducible refine Below.alloc ?_ (by first | omega | (simp <;> omega)) _)) (hbv.mono (by first | omega | (simp <;> omega)))
      have hbl := HBB.out.low (by decide)
      have hpl := HPP.out.low (by decide)
      have hvl := (RdS.of_owns (G := fun _ => True) HOV.out (fun _ _ => trivial)).atBlock
      have hgf := HGF.out
      simp at hgb hbl hpl
      go_wp2_with fail
      go_meet
    · refine ⟨wv.heap.size, g, capg, adb, capb, adp, capp, rfl, by omega, by omega, by omega, BoxAt.new wv [_, _, _, _, _] _, hbl.keep ?_ (fun b hb => ⟨by omega, by omega⟩), hpl.keep ?_ (fun b hb => ⟨by omega, by omega⟩), hvl.keep ?_ (fun b hb => hb), fun j => ?_, ?_⟩
      · repeat (first | with_reducible exact Keep.refl _ _ | with_reducible refine Keep.setCell' ?_ (by first | (simp; done) | (simp; omega)) _ | with_reducible refine Keep.alloc' ?_ _ | with_reducible refine Keep.drew' ?_ | with_reducible refine Keep.trans ?_ (Keep.below hbv))
      · repeat (first | with_reducible exact Keep.refl _ _ | with_reducible refine Keep.setCell' ?_ (by first | (simp; done) | (simp; omega)) _ | with_reducible refine Keep.alloc' ?_ _ | with_reducible refine Keep.drew' ?_ | with_reducible refine Keep.trans ?_ (Keep.below hbv))
      · repeat (first | with_reducible exact Keep.refl _ _ | with_reducible refine Keep.setCell' ?_ (by first | (simp; done) | (simp; omega)) _ | with_reducible refine Keep.alloc' ?_ _ | with_reducible refine Keep.drew' ?_ | with_reducible refine Keep.trans ?_ (Keep.below hbv))
      · rw [((Below.refl wv.heap.size wv).alloc (Nat.le_refl _) _).frozen (p := ⟨g, j, none⟩) hgl]; exact hgf j
      · exact hB2.alloc (by omega) _
    · refine ⟨wh.heap.size, g, capg, adb, capb, adp, capp, rfl, by omega, by omega, by omega, BoxAt.set5 ((BoxAt.new wh [_, _, _, _, _] _).below hbv (by simp)) _ _ _ _ _, hbl.keep ?_ (fun b hb => ⟨by omega, by omega⟩), hpl.keep ?_ (fun b hb => ⟨by omega, by omega⟩), hvl.keep ?_ (fun b hb => hb), fun j => ?_, ?_⟩
      · repeat (first | with_reducible exact Keep.refl _ _ | with_reducible refine Keep.setCell' ?_ (by first | (simp; done) | (simp; omega)) _ | with_reducible refine Keep.alloc' ?_ _ | with_reducible refine Keep.drew' ?_ | with_reducible refine Keep.trans ?_ (Keep.below hbv))
      · repeat (first | with_reducible exact Keep.refl _ _ | with_reducible refine Keep.setCell' ?_ (by first | (simp; done) | (simp; omega)) _ | with_reducible refine Keep.alloc' ?_ _ | with_reducible refine Keep.drew' ?_ | with_reducible refine Keep.trans ?_ (Keep.below hbv))
      · repeat (first | with_reducible exact Keep.refl _ _ | with_reducible refine Keep.setCell' ?_ (by first | (simp; done) | (simp; omega)) _ | with_reducible refine Keep.alloc' ?_ _ | with_reducible refine Keep.drew' ?_ | with_reducible refine Keep.trans ?_ (Keep.below hbv))
      · simp only [World.frozen?_setCell]; with_reducible exact hgf j
      · repeat (first | with_reducible exact hB2 | with_reducible refine Below.setCell ?_ (by first | omega | (simp <;> omega)) _)
    · refine ⟨w.heap.size + 1, g, capg, adb, capb, adp, capp, rfl, by omega, by omega, by omega, BoxAt.set5 (((BoxAt.newAt (w.alloc _) [_, _, _, _, _] _ (by simp)).drew.below hbh (by simp)).below hbv (by omega)) _ _ _ _ _, hbl.keep ?_ (fun b hb => ⟨by omega, by omega⟩), hpl.keep ?_ (fun b hb => ⟨by omega, by omega⟩), hvl.keep ?_ (fun b hb => hb), fun j => ?_, ?_⟩
      · repeat (first | with_reducible exact Keep.refl _ _ | with_reducible refine Keep.setCell' ?_ (by first | (simp; done) | (simp; omega)) _ | with_reducible refine Keep.alloc' ?_ _ | with_reducible refine Keep.drew' ?_ | with_reducible refine Keep.trans ?_ (Keep.below hbv))
      · repeat (first | with_reducible exact Keep.refl _ _ | with_reducible refine Keep.setCell' ?_ (by first | (simp; done) | (simp; omega)) _ | with_reducible refine Keep.alloc' ?_ _ | with_reducible refine Keep.drew' ?_ | with_reducible refine Keep.trans ?_ (Keep.below hbv))
      · repeat (first | with_reducible exact Keep.refl _ _ | with_reducible refine Keep.setCell' ?_ (by first | (simp; done) | (simp; omega)) _ | with_reducible refine Keep.alloc' ?_ _ | with_reducible refine Keep.drew' ?_ | with_reducible refine Keep.trans ?_ (Keep.below hbv))
      · simp only [World.frozen?_setCell]; with_reducible exact hgf j
      · repeat (first | with_reducible exact hB2 | with_reducible refine Below.setCell ?_ (by first | omega | (simp <;> omega)) _)
  case rest =>
    obtain ⟨X, g, cap, adb, capb, adp, capp, rfl, hXw, hgw, hgX, bX, hbb, hpp, hvv, hgf, hB⟩ := hcut
    have HBB := Lib.hid hbb
    have HPP := Lib.hid hpp
    have HVV := Lib.hid hvv
    have HBX := Lib.hid bX
    have HGF := Lib.hid hgf
    have x0 := bX.cell 0 rfl
    have x1 := bX.cell 1 rfl
    have x2 := bX.cell 2 rfl
    have x3 := bX.cell 3 rfl
    have x4 := bX.cell 4 rfl
    have z := bX.lt
    have z0 := hB.size
    clear hbb hpp hvv bX hgf
    go_wp2_with fail
    refine (ccert_any (G := fun _ => True) _ _ _ _ _ _ (HBB.out.mono (fun _ _ => trivial)) (HPP.out.mono (fun _ _ => trivial)) (HVV.out.mono (fun _ _ => trivial))).mono ?_
    rintro e w1 ⟨rfl, hb1⟩
    rw [HOK.out]
    obtain ⟨-, hlc, hcm, -⟩ := HVV.out.len
    have hc2 : 2 ≤ cap := by omega
    unfold maxLen at hcm
    have hbb := HBB.out.below hb1 (fun _ h => h)
    have hpp := HPP.out.below hb1 (fun _ h => h)
    have hvv := HVV.out.below hb1 (fun _ h => h)
    have bX := HBX.out.belowS hb1
    have zg : g < wc.heap.size := World.block_lt_of_cell? wc _ (HVV.out.cells 0 (by omega))
    have hgf : ∀ j, w1.frozen? ⟨g, j, none⟩ = false := fun j => ((bcellAt hb1 g zg).2 j).trans (HGF.out j)
    have hB1 := hB.trans (hb1.mono hB.size)
    have g0 := hvv.cells 0 (by omega)
    have g1 := hvv.cells 1 (by omega)
    simp only [Nat.zero_add] at g0 g1
    have s1 := hb1.size
    clear x0 x1 x2 x3 x4 HBB HPP HVV HBX HGF hB hb1
    have HBB := Lib.hid hbb
    have HPP := Lib.hid hpp
    have HVV := Lib.hid hvv
    have HBX := Lib.hid bX
    have HB1 := Lib.hid hB1
    have x0 := bX.cell 0 rfl
    have x1 := bX.cell 1 rfl
    have x2 := bX.cell 2 rfl
    have x3 := bX.cell 3 rfl
    have x4 := bX.cell 4 rfl
    have f4 := bX.free 4
    have hX1 := bX.lt
    have gf0 := hgf 0
    have gf1 := hgf 1
    clear hbb hpp hvv bX hgf hB1
    have i2 : (2 : Int) ≤ (cap : Int) := by omega
    have i3 : 0 < (votersL C).length := by omega
    have i4 : 1 < (votersL C).length := by omega
    have i5 : (1 : Int) < ((votersL C).length : Int) := by omega
    have hXg : X ≠ g := Ne.symm hgX
    rcases hc with rfl | rfl | rfl | rfl
    · go_wp2_with (go_at_call 16; refine (picked_any _ _ _ h1 h2 (by omega) (by omega)).mono ?_; rintro e w' ⟨rfl, rfl⟩; rw [HQ.out])
      refine (ccert_any (G := fun _ => True) _ _ _ _ _ _ (HBB.out.keep (Keep.setCell (by simp) _) (fun _ _ => trivial)) (HPP.out.keep (Keep.setCell (by simp) _) (fun _ _ => trivial)) ((HVV.out.take 2 (by omega)).keep (Keep.setCell (by simp; omega) _) (fun _ _ => trivial))).mono ?_
      rintro e w2 ⟨rfl, hb2⟩
      rw [HF.out]
      go_wp2
      go_ret
      exact ⟨rfl, (HB1.out.setCell (by simp; omega) _).trans (hb2.mono (by simp; omega))⟩
    · go_wp2_with (go_at_call 16; refine (picked_any _ _ _ h1 h2 (by omega) (by omega)).mono ?_; rintro e w' ⟨rfl, rfl⟩; rw [HQ.out])
      go_region_law (fail)
      all_goals
        go_wp2_with fail
        have hs := HVV.out.setElt 1 ((votersL C)[0]'(by omega))
        simp only [Nat.zero_add] at hs
        refine (ccert_any (G := fun _ => True) _ _ _ _ _ _ (HBB.out.keep ((Keep.drew _ _).trans (Keep.setCell (by simp) _)) (fun _ _ => trivial)) (HPP.out.keep ((Keep.drew _ _).trans (Keep.setCell (by simp) _)) (fun _ _ => trivial)) (hs.keep (Keep.drew _ _) (fun _ _ => trivial))).mono ?_
        rintro e w2 ⟨rfl, hb2⟩
        rw [HO.out]
        go_wp2
        go_ret
        exact ⟨rfl, (HB1.out.drew.setCell (by simp; omega) _).trans (hb2.mono (by simp; omega))⟩
    · go_wp2_with (go_at_call 16; refine (picked_any _ _ _ h1 h2 (by omega) (by omega)).mono ?_; rintro e w' ⟨rfl, rfl⟩; rw [HQ.out])
      have hs := HVV.out.setElt 0 (-1)
      simp only [Nat.zero_add] at hs
      refine (ccert_any (G := fun _ => True) _ _ _ _ _ _ (HBB.out.keep (Keep.setCell (by simp) _) (fun _ _ => trivial)) (HPP.out.keep (Keep.setCell (by simp) _) (fun _ _ => trivial)) (hs.mono (fun _ _ => trivial))).mono ?_
      rintro e w2 ⟨rfl, hb2⟩
      rw [HR.out]
      go_wp2
      go_ret
      exact ⟨rfl, (HB1.out.setCell (by simp; omega) _).trans (hb2.mono (by simp; omega))⟩
    · go_wp2_with (go_at_call 16; refine (picked_any _ _ _ h1 h2 (by omega) (by omega)).mono ?_; rintro e w' ⟨rfl, rfl⟩; rw [HQ.out])
      have hs : RdI (fun b => b = w1.heap.size) ((w1.setCell ⟨X, 4, none⟩ (.slice (some ⟨w1.heap.size, 0, none⟩) 5 5)).alloc (.cells #[.int .i64 0, .int .i64 1, .int .i64 2, .int .i64 3, .int .i64 3] 3)) (.slice (some ⟨w1.heap.size, 0, none⟩) 5 5) [0, 1, 2, 3, 3] :=
        RdS.of_box (f := Value.int .i64) (G := fun b => b = w1.heap.size) (l := [0, 1, 2, 3, 3]) (cap := 5) (BoxAt.newAt (w1.setCell ⟨X, 4, none⟩ (.slice (some ⟨w1.heap.size, 0, none⟩) 5 5)) [.int .i64 0, .int .i64 1, .int .i64 2, .int .i64 3, .int .i64 3] 3 (by simp)) rfl (by decide) (by unfold maxLen; omega)
      refine (ccert_any (G := fun _ => True) (vs := [0, 1, 2, 3, 3]) _ _ _ _ _ _ (HBB.out.keep ((Keep.setCell (p := ⟨X, 4, none⟩) (by simp) _).trans (Keep.alloc _ _ _)) (fun _ _ => trivial)) (HPP.out.keep ((Keep.setCell (p := ⟨X, 4, none⟩) (by simp) _).trans (Keep.alloc _ _ _)) (fun _ _ => trivial)) (hs.mono (fun _ _ => trivial))).mono ?_
      rintro e w2 ⟨rfl, hb2⟩
      rw [HS.out]
      go_wp2
      go_ret
      exact ⟨rfl, ((HB1.out.setCell (by simp; omega) _).alloc (by simp; omega) _).trans (hb2.mono (by simp; omega))⟩

theorem certBad_walk (vt : Value) (r : RawD) (which : Int) (w : World) (hr : RawOk (fun _ => True) w vt r) (h1 : -9223372036854775808 ≤ which) (h2 : which ≤ 9223372036854775807) :
    Calls Try.prog 15 #[.agg #[.int .i64 r.k, .int .i64 r.a, .int .i64 r.b, .int .i64 r.c, vt], .int .i64 which] w fun e w' => e = .returned (.bool true) ∧ Below w.heap.size w w' := by
  obtain ⟨p1, p2⟩ := pickedZ_range which 4 (by omega)
  exact certBad_case r.k r.a r.b r.c which _ 0 vt w hr.one hr.2.1.1 hr.2.1.2 hr.2.2.1.1 hr.2.2.1.2 hr.2.2.2.1.1 hr.2.2.2.1.2 h1 h2 rfl (by omega)
end Go.Proofs.Ytghimigffnbhaaa
