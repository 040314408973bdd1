/- sheaveskeep: cut, tx. -/
import Derived.Test.YtmijiclocadimaaGreatDoorBas
import Derived.Test.YtmijiclocadimaaGreatDoorRows
import Derived.Outline
import Derived.BigGuardPart
set_option linter.unusedVariables false
set_option linter.unusedSimpArgs false
namespace Go.Proofs.YtmijiclocadimaaGreatDoor
open Go Go.RowKit

theorem extract_take (s : List UInt8) (k : Nat) : (ByteArray.mk s.toArray).extract 0 k = ⟨(s.take k).toArray⟩ := by
  apply WideShapes.bytes_inj
  simp

theorem cut_any (s : List UInt8) (m : Int) (w : World) (h0 : 0 ≤ m) (h1 : m ≤ 9223372036854775807) (hs : s.length ≤ 9223372036854775807) :
    Calls Tryz.prog 162 #[strV s, .int .i64 m] w fun e w' => e = .returned (strV (s.take m.toNat)) ∧ w = w' := by
  go_enter Tryz.func162, Tryz.ntmps162
  go_wp2
  all_goals first
    | (go_ret
       exact ⟨by rw [extract_take]; rfl, rfl⟩)
    | (go_ret
       refine ⟨?_, rfl⟩
       rw [extract_take, List.take_of_length_le (Nat.le_refl _), List.take_of_length_le (show s.length ≤ m.toNat by omega)]
       rfl)
    | (go_ret
       refine ⟨?_, rfl⟩
       rw [extract_take]
       show Ending.returned (strV (s.take (min (s.length : Int) m).toNat)) = _
       rcases Int.le_total (s.length : Int) m with q | q
       · rw [Int.min_eq_left q, List.take_of_length_le (show s.length ≤ ((s.length : Int)).toNat by omega), List.take_of_length_le (show s.length ≤ m.toNat by omega)]
       · rw [Int.min_eq_right q])

/-- A transaction of a raw text. -/
def txOf (s : List UInt8) : List UInt8 := if s = [] then [120] else s.take 20
theorem txOf_ok (s : List UInt8) : 1 ≤ (txOf s).length ∧ (txOf s).length ≤ 20 := by
  unfold txOf
  by_cases h : s = []
  · simp [h]
  · rw [if_neg h]; have := List.length_pos_iff.2 h; simp; omega

theorem ktx_any (s : List UInt8) (w : World) (hs : s.length ≤ 9223372036854775807) :
    Calls Tryz.prog 110 #[strV s] w fun e w' => e = .returned (strV (txOf s)) ∧ w = w' := by
  by_cases h : s = []
  · subst h
    go_enter Tryz.func110, Tryz.ntmps110
    go_wp2
    go_ret
    exact ⟨rfl, rfl⟩
  · have he : s.isEmpty = false := by simpa using h
    have HT := Lib.hid (show txOf s = s.take 20 by unfold txOf; rw [if_neg h])
    clear h
    go_enter Tryz.func110, Tryz.ntmps110
    go_wp2_with (go_at_call 162; refine (cut_any _ _ _ (by omega) (by omega) hs).mono ?_; rintro e w' ⟨rfl, rfl⟩)
    go_ret
    exact ⟨by rw [HT.out]; rfl, rfl⟩
end Go.Proofs.YtmijiclocadimaaGreatDoor
