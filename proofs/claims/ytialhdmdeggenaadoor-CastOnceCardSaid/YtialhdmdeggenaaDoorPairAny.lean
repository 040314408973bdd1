/- Any pair at all. -/
import Derived.Test.YtialhdmdeggenaaDoorOneSum
set_option linter.unusedVariables false
set_option linter.unusedSimpArgs false
namespace Go.Proofs.YtialhdmdeggenaaDoor
open Go Go.RowKit
theorem anyPair_from {α : Type} {p : α → α → Bool} {l : List α} : ∀ k, k ≤ l.length → anyPair p (l.take k) (l.drop k) = true → anyPair p [] l = true
  | 0, _, h => by simpa using h
  | k + 1, hk, h => by
    refine anyPair_from k (by omega) ?_
    rw [List.drop_eq_getElem_cons (by omega), anyPair, ← List.take_succ_eq_append_getElem (by omega), h]
    simp
theorem pair_any {α : Type} {p : α → α → Bool} {l : List α} {k j : Nat} (hk : k < l.length) (hj : j < k) (h : p l[k] (l[j]'(by omega)) = true) : anyPair p [] l = true :=
  anyPair_from k (by omega) (anyPair_hit hk hj h)
end Go.Proofs.YtialhdmdeggenaaDoor
