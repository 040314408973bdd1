/- VotedNone: the walk. -/
import Derived.Test.YtialhdmdeggenaaDoorBalLaw
set_option linter.unusedVariables false
set_option linter.unusedSimpArgs false
attribute [local go_sem ↓] Go.wp_at_zero Go.wp_at_succ
namespace Go.Proofs.YtialhdmdeggenaaDoor
open Go Go.RowKit

theorem voted_zero : votedC [⟨0, 0, []⟩] 0 1 = 12 := by
  unfold votedC; rw [if_pos (by decide)]; decide
set_option maxRecDepth 100000 in
set_option maxHeartbeats 2000000 in
theorem votedNone_walk (v : Value) (l : List RawD) (n : Int) (w : World) (hv : RdS RRaw (fun _ => True) w v l) (n1 : -9223372036854775808 ≤ n) (n2 : n ≤ 9223372036854775807) (ht : Tabs w) :
    Calls Tryd.prog 8 #[v, .int .i64 n] w fun e w' => e = .returned (.bool true) ∧ Below w.heap.size w w' := by
  obtain ⟨adv, capv, rfl, -, -⟩ := hv.form
  have HV := Lib.hid hv
  have HT := Lib.hid ht
  have H8 := Lib.hid (voted_none (l := l) (a := pickedZ n 4) (r := 500) (.inr (by omega)))
  have H12 := Lib.hid voted_zero
  have HOK := Lib.hid (tableL_ok l)
  clear hv ht
  go_enter Tryd.func8, Tryd.ntmps8
  go_wp2_with fail
  refine (table_any _ _ HV.out HT.out).mono ?_
  rintro e w1 ⟨v1, rfl, h1, hb1⟩
  obtain ⟨ad1, cap1, rfl, -, -⟩ := h1.form
  generalize tableL l = t at *
  have HL1 := Lib.hid h1
  have HB1 := Lib.hid hb1
  have HV1 := Lib.hid (HV.out.below hb1 (fun _ h => h))
  clear h1 hb1
  go_wp2_with (go_at_call 19; refine (picked_any n 4 _ n1 n2 (by omega) (by omega)).mono ?_; rintro e w' ⟨rfl, rfl⟩)
  refine (voted_any (pickedZ n 4) 500 _ w1 HL1.out).mono ?_
  rw [H8.out]
  rintro e w2 ⟨v2, rfl, h2, hb2⟩
  obtain ⟨ad2, cap2, rfl, -, -⟩ := h2.form
  generalize votedD t (pickedZ n 4) 500 = d2 at *
  have HB2 := Lib.hid (HB1.out.trans (hb2.mono HB1.out.size))
  have HL2 := Lib.hid (HL1.out.below hb2 (fun _ h => h))
  have hba := (Below.refl w2.heap.size w2).alloc (Nat.le_refl _) (.cells #[.int .i64 0, .int .i64 0, .slice none 0 0] 47)
  have hr3 : RdS RSlot (fun _ => True) (w2.alloc (.cells #[.int .i64 0, .int .i64 0, .slice none 0 0] 47)) (.slice (some ⟨w2.heap.size, 0, none⟩) 1 1) [⟨0, 0, []⟩] := by
    have hbx := BoxAt.new w2 [.int .i64 0, .int .i64 0, .slice none 0 0] 47
    refine ⟨_, 1, rfl, by simp, by unfold maxLen; omega, fun h => by simp at h, fun j x hx => ?_⟩
    match j, hx with
    | 0, hx =>
      simp at hx; subst hx
      exact ⟨w2.heap.size, 0, [.int .i64 0, .int .i64 0, .slice none 0 0], rfl, trivial, fun u c hc => by have := hbx.cell u hc; simpa using this, _, rfl, RdS.nil _ _ _⟩
  have HR3 := Lib.hid hr3
  have HBa := Lib.hid (HB2.out.trans (hba.mono HB2.out.size))
  have HLa := Lib.hid (HL2.out.below hba (fun _ h => h))
  clear h2 hb2 hba hr3
  go_wp2_with fail
  refine (voted_any (l := [⟨0, 0, []⟩]) 0 1 _ _ HR3.out).mono ?_
  rw [H12.out]
  rintro e w3 ⟨v3, rfl, h3, hb3⟩
  obtain ⟨ad3, cap3, rfl, -, -⟩ := h3.form
  generalize votedD [⟨0, 0, []⟩] 0 1 = d3 at *
  have HB3 := Lib.hid (HBa.out.trans (hb3.mono HBa.out.size))
  have HL3 := Lib.hid (HLa.out.below hb3 (fun _ h => h))
  clear h3 hb3
  go_wp2_with fail
  refine (bcheck_any (l := t) _ w3 HL3.out).mono ?_
  rw [HOK.out]
  rintro e w4 ⟨rfl, hb4⟩
  have HB4 := Lib.hid (HB3.out.trans (hb4.mono HB3.out.size))
  clear hb4
  go_wp2
  go_ret
  exact ⟨rfl, HB4.out⟩
end Go.Proofs.YtialhdmdeggenaaDoor
