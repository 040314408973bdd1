/- sheaveskeep.Header: what it makes. -/
import Derived.Test.YtpfmmncnhlfdgaaDoorSome0
import Derived.Test.YtpfmmncnhlfdgaaDoorBas
import Derived.IntWalk
import Derived.Deep.RegionLaw
set_option linter.unusedVariables false
set_option linter.unusedSimpArgs false
attribute [local go_sem ↓] Go.wp_at_zero Go.wp_at_succ
namespace Go.Proofs.YtpfmmncnhlfdgaaDoor
open Go Go.RowKit

def hdrB (C : Int) (k : Nat) : List Bytes := (List.range k).map fun (i : Nat) => someL C (i : Int)
def hdrP (A : Int) (k : Nat) : List Bytes := (List.range k).map fun (i : Nat) => someL A (10 + (i : Int))
theorem hdrB_succ (C : Int) (k : Nat) : hdrB C (k + 1) = hdrB C k ++ [someL C (k : Int)] := by unfold hdrB; rw [List.range_succ, List.map_append]; rfl
theorem hdrP_succ (A : Int) (k : Nat) : hdrP A (k + 1) = hdrP A k ++ [someL A (10 + (k : Int))] := by unfold hdrP; rw [List.range_succ, List.map_append]; rfl
theorem hdrB_len (C : Int) (k : Nat) : (hdrB C k).length = k := by simp [hdrB]
theorem hdrP_len (C : Int) (k : Nat) : (hdrP C k).length = k := by simp [hdrP]
/-- The header of raw numbers. -/
def hdrOf (A B C : Int) : Hdr := ⟨pickedZ A 4, 1 + pickedZ B 9, hdrB C (pickedZ C 4).toNat, if 1 < 1 + pickedZ B 9 then hdrP A (3 + pickedZ C 2).toNat else []⟩
theorem elemBB : ElemOk Tryd.prog 34 39 1 24 := elemOk_of (z := .slice none 0 0) (by kernel_rfl) (by kernel_rfl) rfl (by decide)

end Go.Proofs.YtpfmmncnhlfdgaaDoor
