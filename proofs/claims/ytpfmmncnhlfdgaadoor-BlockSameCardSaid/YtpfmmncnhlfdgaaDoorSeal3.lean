/- seal.Add, seal.Signed. -/
import Derived.Test.YtpfmmncnhlfdgaaDoorSeal2
set_option linter.unusedVariables false
set_option linter.unusedSimpArgs false
attribute [local go_sem ↓] Go.wp_at_zero Go.wp_at_succ
namespace Go.Proofs.YtpfmmncnhlfdgaaDoor
open Go Go.RowKit

def signAdd (l : List Sgn) (s : Sgn) : List Sgn := if s ∈ l then l else l ++ [s]
theorem signsCode_or (l : List Sgn) : signsCode l = 0 ∨ signsCode l = 12 := by unfold signsCode; split <;> simp
theorem sgnOk_len {x : Sgn} (h : sgnOk x = true) : x.2.2.2.length = 32 := by
  unfold sgnOk sgnCode sltCode at h
  simp only [decide_eq_true_eq] at h
  split at h
  · simp at h
  · split at h
    · simp at h
    · split at h
      · simp at h
      · omega

end Go.Proofs.YtpfmmncnhlfdgaaDoor
