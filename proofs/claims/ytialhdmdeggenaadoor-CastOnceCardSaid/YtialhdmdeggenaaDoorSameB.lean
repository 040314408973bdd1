/- sheaveskeep.same: are bytes the same? -/
import Derived.Test.YtialhdmdeggenaaDoorBytesT
set_option linter.unusedVariables false
set_option linter.unusedSimpArgs false
namespace Go.Proofs.YtialhdmdeggenaaDoor
open Go Go.RowKit
theorem same_any {G G' : Nat → Prop} {l m : List UInt8} (u v : Value) (w : World) (hu : RdB G w u l) (hv : RdB G' w v m) :
    Calls Tryd.prog 24 #[u, v] w fun e w' => e = .returned (.bool (decide (l = m))) ∧ w = w' := by
  go_enter Tryd.func24, Tryd.ntmps24
  go_wp2_with (first
    | (refine wpList_bytes_str rfl 39 9 (.tmp 5) rfl Tryd.underlying39 Tryd.underlying5 Tryd.underlying9 _ rfl _ hu ?_)
    | (refine wpList_bytes_str rfl 39 9 (.tmp 7) rfl Tryd.underlying39 Tryd.underlying5 Tryd.underlying9 _ rfl _ hv ?_))
  go_ret
  exact ⟨ret_boolH (by rw [Bool.eq_iff_iff]; simp), rfl⟩
end Go.Proofs.YtialhdmdeggenaaDoor
