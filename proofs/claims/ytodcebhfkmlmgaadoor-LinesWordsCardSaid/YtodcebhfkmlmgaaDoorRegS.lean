/- A region that draws: what is known of the world may be made stronger on the way. No program is named. -/
import Derived.Test.YtodcebhfkmlmgaaDoorLst
import Derived.Deep.RegionHeld3
set_option linter.unusedVariables false
set_option linter.unusedSimpArgs false
namespace Go.Proofs.YtodcebhfkmlmgaaDoor
open Go Go.RowKit

theorem wpAnyH_strong {P : Program} {ops : Array Oper} {Q : Exit → Act → World → Prop} {md : Region.Mode} {S S' : World → Prop} (h : ∀ w, S' w → S w) :
    ∀ (fuel : Nat) (listed : Array Bool) (a : Act) (w : World), wpAnyH P md ops Q S' fuel listed a w → wpAnyH P md ops Q S fuel listed a w
  | 0, _, _, _, h' => h'
  | fuel + 1, _, _, _, h' => ⟨h'.1, fun i hi => wpOp_mono (fun a' w' q => ⟨h w' q.1, wpAnyH_strong h fuel _ a' w' q.2⟩) (h'.2 i hi)⟩
end Go.Proofs.YtodcebhfkmlmgaaDoor
