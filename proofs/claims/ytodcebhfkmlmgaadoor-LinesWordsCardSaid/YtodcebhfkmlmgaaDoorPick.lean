/- picked: what it computes. -/
import Derived.Test.YtodcebhfkmlmgaaDoorRows
import Derived.WalkKit
import Derived.WalkSpells
import Derived.WalkLawsBesides
import Derived.BigQuiet
import Derived.BigGuardPart
import Derived.Deep.QuietTactic
import Derived.Lib.Hide
set_option linter.unusedVariables false
set_option linter.unusedSimpArgs false
namespace Go.Proofs.YtodcebhfkmlmgaaDoor
open Go.RowKit

theorem ret_int {k : IntKind} {a b : Int} (h : a = b) : Ending.returned (.int k a) = .returned (.int k b) := by rw [h]

/-- picked, as a number. -/
def pickedZ (n many : Int) : Int := (if n < 0 then -(n + 1) else n) % many

theorem pickedZ_range (n many : Int) (h : 0 < many) : 0 ≤ pickedZ n many ∧ pickedZ n many < many := by
  unfold pickedZ; exact ⟨Int.emod_nonneg _ (by omega), Int.emod_lt_of_pos _ h⟩

theorem picked_any (n many : Int) (w : World) (h1 : -9223372036854775808 ≤ n) (h2 : n ≤ 9223372036854775807) (h3 : 1 ≤ many) (h4 : many ≤ 9223372036854775807) :
    Calls Tryd.prog 13 #[.int .i64 n, .int .i64 many] w fun e w' => e = .returned (.int .i64 (pickedZ n many)) ∧ w = w' := by
  have h5 : ¬ many = 0 := by omega
  by_cases hn : n < 0
  · go_enter Tryd.func13, Tryd.ntmps13
    go_wp2
    go_ret
    exact ⟨ret_int (by unfold pickedZ; rw [if_pos hn]; rw [← Int.neg_tmod]; exact Int.tmod_eq_emod_of_nonneg (by omega)), rfl⟩
  · go_enter Tryd.func13, Tryd.ntmps13
    go_wp2
    go_ret
    exact ⟨ret_int (by unfold pickedZ; rw [if_neg (by omega)]), rfl⟩

end Go.Proofs.YtodcebhfkmlmgaaDoor
