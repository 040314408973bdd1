/- sheaveskeep: cut, tx. -/
import Derived.Test.YtodcebhfkmlmgaaDoorLib
import Derived.Test.YtodcebhfkmlmgaaDoorRows
import Derived.Outline
import Derived.BigGuardPart
set_option linter.unusedVariables false
set_option linter.unusedSimpArgs false
namespace Go.Proofs.YtodcebhfkmlmgaaDoor
open Go Go.RowKit

theorem extract_take (s : List UInt8) (k : Nat) : (ByteArray.mk s.toArray).extract 0 k = ⟨(s.take k).toArray⟩ := by
  apply WideShapes.bytes_inj
  simp

theorem cut_any (s : List UInt8) (m : Int) (w : World) (h0 : 0 ≤ m) (h1 : m ≤ 9223372036854775807) (hs : s.length ≤ 9223372036854775807) :
    Calls Tryd.prog 16 #[strV s, .int .i64 m] w fun e w' => e = .returned (strV (s.take m.toNat)) ∧ w = w' := by
  go_enter Tryd.func16, Tryd.ntmps16
  go_wp2
  · go_ret
    exact ⟨by rw [extract_take]; rfl, rfl⟩
  · go_ret
    refine ⟨?_, rfl⟩
    rw [extract_take, List.take_of_length_le (Nat.le_refl _), List.take_of_length_le (show s.length ≤ m.toNat by omega)]
    rfl

/-- A transaction of a raw text. -/
def txOf (s : List UInt8) : List UInt8 := if s = [] then [120] else s.take 20
theorem txOf_ok (s : List UInt8) : 1 ≤ (txOf s).length ∧ (txOf s).length ≤ 20 := by
  unfold txOf
  by_cases h : s = []
  · simp [h]
  · rw [if_neg h]; have := List.length_pos_iff.2 h; simp; omega

end Go.Proofs.YtodcebhfkmlmgaaDoor
