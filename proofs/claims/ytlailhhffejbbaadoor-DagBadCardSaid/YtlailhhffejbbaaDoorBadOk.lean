/- seal.bad. -/
import Derived.Test.YtlailhhffejbbaaDoorChk
set_option linter.unusedVariables false
set_option linter.unusedSimpArgs false
namespace Go.Proofs.YtlailhhffejbbaaDoor
open Go Go.RowKit

def badOk (n : Int) : Bool := decide (-1 ≤ n ∧ n < 4)
end Go.Proofs.YtlailhhffejbbaaDoor
