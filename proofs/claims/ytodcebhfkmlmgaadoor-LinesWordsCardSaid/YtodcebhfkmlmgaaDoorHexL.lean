/- lines.hex: what it makes. -/
import Derived.Test.YtodcebhfkmlmgaaDoorBldr
import Derived.Test.YtodcebhfkmlmgaaDoorLin2
import Derived.Test.YtodcebhfkmlmgaaDoorBase
import Derived.Outline
import Derived.IntWalk
set_option linter.unusedVariables false
set_option linter.unusedSimpArgs false
namespace Go.Proofs.YtodcebhfkmlmgaaDoor
open Go Go.RowKit

theorem hexL_take {s : List UInt8} {k : Nat} (h : k < s.length) : hexL (s.take (k + 1)) = hexL (s.take k) ++ [hexD (s[k].toNat / 16)] ++ [hexD (s[k].toNat % 16)] := by
  rw [List.take_succ_eq_append_getElem h, hexL_snoc]; simp
theorem hexEl (i : Nat) (h : i < 16) (h' : i < (⟨#[48, 49, 50, 51, 52, 53, 54, 55, 56, 57, 97, 98, 99, 100, 101, 102]⟩ : ByteArray).size) : (⟨#[48, 49, 50, 51, 52, 53, 54, 55, 56, 57, 97, 98, 99, 100, 101, 102]⟩ : ByteArray)[i] = hexD i := by
  have key : ∀ j : Fin 16, (⟨#[48, 49, 50, 51, 52, 53, 54, 55, 56, 57, 97, 98, 99, 100, 101, 102]⟩ : ByteArray)[j.val]'(by have := j.isLt; exact this) = hexD j.val := by decide +kernel
  exact key ⟨i, h⟩
set_option maxHeartbeats 2000000 in
set_option maxRecDepth 100000 in
theorem lhex_any (s : ByteArray) (w : World) (hs : s.size ≤ 1000000000000) :
    Calls Tryd.prog 20 #[.string s] w fun e w' => e = .returned (.string ⟨(hexL s.data.toList).toArray⟩) ∧ Below w.heap.size w w' := by
  have hsl : s.data.toList.length = s.size := by simp
  have HSL := Lib.hid hsl
  clear hsl
  go_enter Tryd.func20, Tryd.ntmps20
  go_wp2_with fail
  go_loopw [7] (fun i wr => ∃ k : Nat, k ≤ s.size ∧ i = .int .i64 k ∧ Hid (Bld w.heap.size w.heap.size (hexL (s.data.toList.take k)) wr) ∧ Below w.heap.size w wr) (fun i _ => s.size - (intOf i).toNat)
  case atStart => exact ⟨0, Nat.zero_le _, rfl, Lib.hid (Bld.new w), (Below.refl _ _).alloc (Nat.le_refl _) _⟩
  case round =>
    obtain ⟨k, hk, rfl, HB, hB⟩ := hrel
    have HBe := Lib.hid hB
    have hz := hB.size
    clear hB
    by_cases hlt : k < s.size
    · have hlt' : k < s.data.toList.length := by rw [HSL.out]; exact hlt
      have HT := Lib.hid (hexL_take hlt')
      have hlen : (hexL (s.data.toList.take k)).length ≤ 2 * s.size := by rw [hexL_len, List.length_take]; omega
      have hc1 : s[k].toNat / 16 < 16 := by have := s[k].toNat_lt; omega
      have hc2 : s[k].toNat % 16 < 16 := by omega
      have k0 : (0 : Int) ≤ (k : Int) := by omega
      have k1 : (k : Int) < (s.size : Int) := by omega
      have wk : IntKind.i64.wrap ((k : Int) + 1) = (k : Int) + 1 := IntWalk.i64_in _ (by omega)
      go_wp2_with fail
      refine (writeByte_any _ _ _ _ _ HB.out (by omega) (by omega)).mono ?_
      rintro e w1 ⟨rfl, hB1, hb1, -⟩
      rw [hexEl _ hc1] at hB1
      have HB1 := Lib.hid hB1
      have HBe1 := Lib.hid (HBe.out.trans hb1)
      have hz1 := HBe1.out.size
      clear hB1 hb1
      go_wp2_with fail
      refine (writeByte_any _ _ _ _ _ HB1.out (by simp; omega) (by omega)).mono ?_
      rintro e w2 ⟨rfl, hB2, hb2, -⟩
      rw [hexEl _ hc2] at hB2
      have HB2 := Lib.hid (show Bld w.heap.size w.heap.size (hexL (s.data.toList.take (k + 1))) w2 by rw [HT.out]; exact hB2)
      have HBe2 := Lib.hid (HBe1.out.trans hb2)
      clear hB2 hb2
      go_wp2
      go_roundw
      case rel => exact ⟨k + 1, by omega, by go_num, HB2, HBe2.out⟩
      case measure => simp [intOf]; omega
    · obtain rfl : k = s.size := by omega
      have HE := Lib.hid (show s.data.toList.take s.size = s.data.toList from List.take_of_length_le (by rw [HSL.out]; exact Nat.le_refl _))
      rw [HE.out] at HB
      go_wp2_with (go_at_call 21; refine (Builder_String_any_k _ _ _ _ HB.out (by omega)).mono ?_; rintro e w1 ⟨rfl, -, hb1, -⟩)
      go_ret
      exact ⟨rfl, HBe.out.trans hb1⟩
end Go.Proofs.YtodcebhfkmlmgaaDoor
