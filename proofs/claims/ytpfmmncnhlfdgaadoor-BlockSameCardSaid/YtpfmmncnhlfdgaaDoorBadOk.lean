/- seal.bad. -/
import Derived.Test.YtpfmmncnhlfdgaaDoorChk
set_option linter.unusedVariables false
set_option linter.unusedSimpArgs false
namespace Go.Proofs.YtpfmmncnhlfdgaaDoor
open Go Go.RowKit

def badOk (n : Int) : Bool := decide (-1 ≤ n ∧ n < 4)
end Go.Proofs.YtpfmmncnhlfdgaaDoor
