/- bytes.Equal, same, slices.Clone of bytes: what they compute. -/
import Derived.Test.YtodcebhfkmlmgaaDoorLib3
import Derived.Test.YtodcebhfkmlmgaaDoorRows
import Derived.Outline
import Derived.BigGuardPart
set_option linter.unusedVariables false
set_option linter.unusedSimpArgs false
namespace Go.Proofs.YtodcebhfkmlmgaaDoor
open Go Go.RowKit

theorem elemB : ElemOk Tryd.prog 36 5 1 1 := elemOk_of (z := .int .u8 0) (by kernel_rfl) (by kernel_rfl) rfl (by decide)

end Go.Proofs.YtodcebhfkmlmgaaDoor
