/- lines.number: what it computes. -/
import Derived.Test.YtodcebhfkmlmgaaDoorUnhex
import Derived.WalkSpells
import Derived.WalkLawsBesides
set_option linter.unusedVariables false
set_option linter.unusedSimpArgs false
namespace Go.Proofs.YtodcebhfkmlmgaaDoor
open Go Go.RowKit

theorem numL_ok {s : List UInt8} {v : Int} (h : Lib.atoiAll s = .ok v) : numL s = (v, decide (0 ≤ v ∧ Lib.itoa v = s)) := by unfold numL; rw [h]
set_option maxHeartbeats 8000000 in
set_option maxRecDepth 100000 in
theorem lnumber_any (s : List UInt8) (w : World) (hs : s.length ≤ 4294967296) (ht : TabR w) :
    Calls Tryd.prog 29 #[strV s] w fun e w' => e = .returned (.tuple #[.int .i64 (numL s).1, .bool (numL s).2]) ∧ Below w.heap.size w w' := by
  have HT := Lib.hid ht
  clear ht
  go_enter Tryd.func29, Tryd.ntmps29
  go_wp2_with fail
  refine (atoi_any ⟨s.toArray⟩ _ (by show s.toArray.size ≤ _; simp; omega) HT.out).mono ?_
  rintro e w1 ⟨v, ev, rfl, hc, hb1⟩
  have HB1 := Lib.hid hb1
  have HT1 := Lib.hid (HT.out.l.belowS hb1)
  clear hb1
  rcases hc with ⟨hv, rfl⟩ | ⟨hv1, hv2, N, hN, hN2, rfl⟩
  · have hv' : Lib.atoiAll s = .ok v := hv
    obtain ⟨v1, v2⟩ := Lib.atoiAll_bounds hv'
    have HN := Lib.hid (numL_ok hv')
    clear hv hv'
    by_cases h0 : 0 ≤ v
    · go_wp2_with fail
      refine (itoa_any v _ v1 v2 HT1.out).mono ?_
      rintro e w2 ⟨rfl, hb2⟩
      have HB2 := Lib.hid (HB1.out.trans (hb2.mono HB1.out.size))
      clear hb2
      by_cases he : Lib.itoa v = s
      · have HR := Lib.hid (show numL s = (v, true) by rw [HN.out, decide_eq_true ⟨h0, he⟩])
        subst he
        go_wp2
        go_ret2
        exact ⟨by rw [HR.out]; rfl, HB2.out⟩
      · have HR := Lib.hid (show numL s = (v, false) by rw [HN.out, decide_eq_false (fun q => he q.2)])
        have HE := Lib.hid he
        have hq : (Lib.itoa v == s) = false := by simpa using he
        clear he
        go_wp2
        go_ret2
        exact ⟨by rw [HR.out]; rfl, HB2.out⟩
    · have HR := Lib.hid (show numL s = (v, false) by rw [HN.out, decide_eq_false (fun q => h0 q.1)])
      go_wp2
      go_ret2
      exact ⟨by rw [HR.out]; rfl, HB1.out⟩
  · have HR := Lib.hid (show numL s = ((numL s).1, false) by rw [← hv2])
    have HV := Lib.hid (show v = (numL s).1 from hv1)
    clear hv1 hv2
    go_wp2
    go_ret2
    exact ⟨by rw [HR.out, ← HV.out]; rfl, HB1.out⟩
end Go.Proofs.YtodcebhfkmlmgaaDoor
