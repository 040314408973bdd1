/- lines.Check: what it computes. -/
import Derived.Test.YtmijiclocadimaaGreatDoorRows
import Derived.Test.YtmijiclocadimaaGreatDoorBas
import Derived.WalkKit
import Derived.WalkSpells
import Derived.WalkLawsBesides
import Derived.BigQuiet
import Derived.BigGuardPart
import Derived.Deep.QuietTactic
import Derived.Lib.Hide
set_option linter.unusedVariables false
set_option linter.unusedSimpArgs false
namespace Go.Proofs.YtmijiclocadimaaGreatDoor
open Go.RowKit

/-- what a kind of act has: a node, a pick, a text. -/
def hasN (k : Int) : Bool := k == 1 || k == 9 || k == 2 || k == 3 || k == 8 || k == 7
def hasP (k : Int) : Bool := k == 4 || k == 5 || k == 6 || k == 7
def hasT (k : Int) : Bool := k == 1 || k == 9

theorem has_any (k : Int) (w : World) :
    Calls Tryz.prog 50 #[.int .i64 k] w fun e w' => e = .returned (.tuple #[.bool (hasN k), .bool (hasP k), .bool (hasT k)]) ∧ w = w' := by
  go_enter Tryz.func50, Tryz.ntmps50
  go_wp2
  all_goals
    go_ret3
    refine ⟨?_, rfl⟩
    unfold hasN hasP hasT
    simp_all

theorem isEmpty_size (t : ByteArray) : t.toList.isEmpty = decide (t.size = 0) := by
  rw [ByteArray.toList_eq]; show t.data.toList.isEmpty = decide (t.data.size = 0); rw [← Array.length_toList]; cases t.data.toList <;> simp

/-- lines.Check, as a number. -/
def actCheck (k n p : Int) (t : ByteArray) : Int :=
  if k < 1 ∨ 10 < k then 3
  else if (hasN k = true ∧ (n < 0 ∨ 4 ≤ n)) ∨ (hasP k = true ∧ (p < 0 ∨ 400000 < p)) then 2
  else if hasT k = true ∧ 4000 < t.size then 1
  else if (hasN k = false ∧ n ≠ 0) ∨ (hasP k = false ∧ p ≠ 0) ∨ (hasT k = false ∧ t.size ≠ 0) then 4
  else 0

set_option maxHeartbeats 1000000 in
theorem lcheck_any (k n p : Int) (t : ByteArray) (w : World) :
    Calls Tryz.prog 34 #[.agg #[.int .i64 k, .int .i64 n, .int .i64 p, .string t]] w fun e w' => e = .returned (.int .i64 (actCheck k n p t)) ∧ Below w.heap.size w w' := by
  go_enter Tryz.func34, Tryz.ntmps34
  go_wp2_with (go_at_call 50; refine (has_any _ _).mono ?_; rintro e w' ⟨rfl, rfl⟩)
  all_goals
    go_ret
    refine ⟨ret_int ?_, (Below.refl _ _).alloc (Nat.le_refl _) _⟩
    have hts := isEmpty_size t
    unfold actCheck
    simp_all
    try omega
end Go.Proofs.YtmijiclocadimaaGreatDoor
