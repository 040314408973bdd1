/- LinesFixed: the walk. -/
import Derived.Test.YtodcebhfkmlmgaaDoorReadL
set_option linter.unusedVariables false
set_option linter.unusedSimpArgs false
namespace Go.Proofs.YtodcebhfkmlmgaaDoor
open Go Go.RowKit

set_option maxRecDepth 100000 in
set_option maxHeartbeats 8000000 in
theorem linesFixed_walk (s : List UInt8) (w : World) (hs : s.length ≤ 1048576) (ht : TabR w) :
    Calls Tryd.prog 7 #[strV s] w fun e w' => e = .returned (.bool true) ∧ Below w.heap.size w w' := by
  have HT := Lib.hid ht.l
  have HTR := Lib.hid ht
  clear ht
  obtain ⟨la, ip, ce, hr⟩ : ∃ la ip ce, readL s = (la, ip, ce) := ⟨_, _, _, rfl⟩
  have HR := Lib.hid hr
  clear hr
  go_enter Tryd.func7, Tryd.ntmps7
  go_wp2_with fail
  refine (lread_any s _ (by omega) HTR.out).mono ?_
  rintro e w1 ⟨v1, rfl, hrd, hb1⟩
  rw [HR.out] at hrd ⊢
  simp only at hrd ⊢
  obtain ⟨ad, cap, rfl, -, hm⟩ := hrd.form
  have HA := Lib.hid (hrd.mono (G' := fun _ => True) (fun _ _ => trivial))
  have HB := Lib.hid hb1
  unfold maxLen at hm
  clear hrd hb1
  by_cases hc : ce = 0
  · subst hc
    have h0 := readL_of (s := s) (by rw [HR.out])
    rw [HR.out] at h0
    simp only at h0
    obtain ⟨rfl, hsl, hok, hlen⟩ := h0
    have HSH := Lib.hid ((showR_ok hlen hok).trans (by rw [← hsl]))
    clear hok
    go_wp2_with fail
    refine (lshow_any _ _ HA.out (HT.out.belowS HB.out)).mono ?_
    rintro e w2 ⟨rfl, hb_s⟩
    rw [HSH.out]
    replace HB := Lib.hid (HB.out.trans (hb_s.mono HB.out.size))
    clear hb_s hsl
    go_wp2
    go_ret
    exact ⟨rfl, HB.out⟩
  · have h0 := readGo_bad 3001 s 0 [] (by have := HR.out; unfold readL at this; rw [this]; exact hc)
    have h1 : la = [] := by have := HR.out; unfold readL at this; rw [this] at h0; exact h0
    subst h1
    go_wp2
    go_ret
    exact ⟨rfl, HB.out⟩
end Go.Proofs.YtodcebhfkmlmgaaDoor
