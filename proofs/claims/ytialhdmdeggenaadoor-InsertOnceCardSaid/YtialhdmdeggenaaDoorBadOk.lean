/- seal.bad. -/
import Derived.Test.YtialhdmdeggenaaDoorChk
set_option linter.unusedVariables false
set_option linter.unusedSimpArgs false
namespace Go.Proofs.YtialhdmdeggenaaDoor
open Go Go.RowKit

def badOk (n : Int) : Bool := decide (-1 ≤ n ∧ n < 4)
theorem bad_any (n : Int) (w : World) : Calls Tryd.prog 36 #[.int .i64 n] w fun e w' => e = .returned (.bool (badOk n)) ∧ w = w' := by
  go_enter Tryd.func36, Tryd.ntmps36
  go_wp2
  all_goals
    go_ret
    exact ⟨ret_boolH (by unfold badOk; rw [Bool.eq_iff_iff]; simp; omega), rfl⟩

end Go.Proofs.YtialhdmdeggenaaDoor
