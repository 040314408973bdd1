/- bits.RotateLeft32 by a count that lies between 0 and 32; the mixing of a block, as a function of lists. -/
import Derived.Test.YtialhdmdeggenaaDoorPick
set_option linter.unusedVariables false
set_option linter.unusedSimpArgs false
namespace Go.Proofs.YtialhdmdeggenaaDoor
open Go Go.RowKit

def rotZ (s x : Int) : Int := bits BinOp.or IntKind.u32 (x * 2 ^ s.toNat % 4294967296) (x / 2 ^ (32 - s).toNat)
def xorZ (a b : Int) : Int := bits BinOp.xor IntKind.u32 a b
def addZ (a b : Int) : Int := IntKind.u32.wrap (a + b)
theorem rot_any (x : Int) (w : World) (k : Int) (s : Int) (hk : bits BinOp.and IntKind.u64 (IntKind.u64.wrap k) 31 = s) (s0 : 0 < s) (s1 : s < 32) : Calls Tryd.prog 91 #[.int .u32 x, .int .i64 k] w fun e w' => e = .returned (.int .u32 (rotZ s x)) ∧ w = w' := by
  have e32 : IntKind.u64.wrap (32 - s) = 32 - s := by unfold IntKind.wrap; simp [IntKind.bits, IntKind.signed]; omega
  go_enter Tryd.func91, Tryd.ntmps91
  go_wp2
  go_ret
  exact ⟨rfl, rfl⟩
theorem rot16 (x : Int) (w : World) : Calls Tryd.prog 91 #[.int .u32 x, .int .i64 (-16)] w fun e w' => e = .returned (.int .u32 (rotZ 16 x)) ∧ w = w' := rot_any x w (-16) 16 (by decide) (by omega) (by omega)
theorem rot12 (x : Int) (w : World) : Calls Tryd.prog 91 #[.int .u32 x, .int .i64 (-12)] w fun e w' => e = .returned (.int .u32 (rotZ 20 x)) ∧ w = w' := rot_any x w (-12) 20 (by decide) (by omega) (by omega)
theorem rot8 (x : Int) (w : World) : Calls Tryd.prog 91 #[.int .u32 x, .int .i64 (-8)] w fun e w' => e = .returned (.int .u32 (rotZ 24 x)) ∧ w = w' := rot_any x w (-8) 24 (by decide) (by omega) (by omega)
theorem rot7 (x : Int) (w : World) : Calls Tryd.prog 91 #[.int .u32 x, .int .i64 (-7)] w fun e w' => e = .returned (.int .u32 (rotZ 25 x)) ∧ w = w' := rot_any x w (-7) 25 (by decide) (by omega) (by omega)
end Go.Proofs.YtialhdmdeggenaaDoor
