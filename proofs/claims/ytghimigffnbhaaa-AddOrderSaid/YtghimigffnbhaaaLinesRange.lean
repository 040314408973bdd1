/- LinesRange: the walk. -/
import Derived.Test.YtghimigffnbhaaaBase
import Derived.Test.YtghimigffnbhaaaLib3
import Derived.Outline
set_option linter.unusedVariables false
set_option linter.unusedSimpArgs false
namespace Go.Proofs.Ytghimigffnbhaaa
open Go Go.RowKit
theorem info_u8 : (Try.prog.info? 5).map (fun i => (i.zero, i.size, i.bytes)) = some (some (.int .u8 0), 1, 1) := by kernel_rfl

theorem actCheck_b : actCheck 7 (-1) 0 ⟨#[]⟩ = 2 := by decide
theorem actCheck_c (t : ByteArray) (h : 4000 < t.size) : actCheck 9 0 0 t = 1 := by unfold actCheck; simp [hasN, hasP, hasT, h]
theorem actCheck_a (k q : Int) (h1 : 0 ≤ k) (h2 : 0 ≤ q) : actCheck 7 k q ⟨#[]⟩ = if 4 ≤ k ∨ 400000 < q then 2 else 0 := by
  unfold actCheck
  have he : (⟨#[]⟩ : ByteArray) = ByteArray.empty := rfl
  simp [he, hasN, hasP, hasT, h1, h2, show ¬ k < 0 by omega, show ¬ q < 0 by omega]

set_option maxRecDepth 100000 in
set_option maxHeartbeats 1000000 in
/-- The walk where what the two numbers come to is known. -/
theorem linesRange_case (n p k q c : Int) (w : World) (hk : pickedZ n 12 = k) (hq : pickedZ p 800000 = q) (h1 : -9223372036854775808 ≤ n) (h2 : n ≤ 9223372036854775807) (h3 : -9223372036854775808 ≤ p) (h4 : p ≤ 9223372036854775807)
    (hc : actCheck 7 k q ⟨#[]⟩ = c) (h : (4 ≤ k ∧ c = 2) ∨ (k < 4 ∧ 400000 < q ∧ c = 2) ∨ (k < 4 ∧ q ≤ 400000 ∧ c = 0)) (r : 0 ≤ k) (r' : 0 ≤ q) :
    Calls Try.prog 3 #[.int .i64 n, .int .i64 p] w fun e w' => e = .returned (.bool true) ∧ Below w.heap.size w w' := by
  have hB := actCheck_b
  have hC := actCheck_c ⟨(zeros 4001).toArray⟩ (by show 4000 < (zeros 4001).toArray.size; rw [List.size_toArray, length_zeros]; decide)
  have hR := Below.refl w.heap.size w
  have Hk := Lib.hid hk
  have Hq := Lib.hid hq
  clear hk hq
  go_enter Try.func3, Try.ntmps3
  rcases h with ⟨g1, rfl⟩ | ⟨g1, g2, rfl⟩ | ⟨g1, g2, rfl⟩
  all_goals
    go_wp2_with (first
      | (go_at_call 16; refine (picked_any _ _ _ (by omega) (by omega) (by omega) (by omega)).mono ?_; rintro e w' ⟨rfl, rfl⟩; first | rw [Hk.out] | rw [Hq.out])
      | (go_at_call 17; refine (lcheck_any _ _ _ _ _).mono ?_; rintro e w' ⟨rfl, hb⟩; replace hR := hR.trans (hb.mono hR.size))
      | (refine wpList_make_z rfl _ _ 27 rfl Try.underlying27 info_u8 rfl 4001 _ _ rfl rfl (by omega) (by omega) (by omega) (by unfold maxLen; omega) ?_; intro w5 hown5 hb5 hs5; replace hR := hR.trans (hb5.mono hR.size))
      | (refine wpList_bytes_str rfl 27 9 _ rfl Try.underlying27 Try.underlying5 Try.underlying9 _ rfl _ (rdB_zeros (G := fun _ => True) hown5 (fun _ _ => trivial)) ?_))
  all_goals first | (exfalso; omega) | (go_ret; exact ⟨rfl, hR⟩)

theorem linesRange_walk (n p : Int) (w : World) (h1 : -9223372036854775808 ≤ n) (h2 : n ≤ 9223372036854775807) (h3 : -9223372036854775808 ≤ p) (h4 : p ≤ 9223372036854775807) :
    Calls Try.prog 3 #[.int .i64 n, .int .i64 p] w fun e w' => e = .returned (.bool true) ∧ Below w.heap.size w w' := by
  obtain ⟨r1, r1'⟩ := pickedZ_range n 12 (by omega)
  obtain ⟨r2, r2'⟩ := pickedZ_range p 800000 (by omega)
  have hA := actCheck_a _ _ r1 r2
  by_cases g1 : 4 ≤ pickedZ n 12
  · exact linesRange_case n p _ _ 2 w rfl rfl h1 h2 h3 h4 (by rw [hA, if_pos (.inl g1)]) (.inl ⟨g1, rfl⟩) r1 r2
  · by_cases g2 : 400000 < pickedZ p 800000
    · exact linesRange_case n p _ _ 2 w rfl rfl h1 h2 h3 h4 (by rw [hA, if_pos (.inr g2)]) (.inr (.inl ⟨by omega, g2, rfl⟩)) r1 r2
    · exact linesRange_case n p _ _ 0 w rfl rfl h1 h2 h3 h4 (by rw [hA, if_neg (by omega)]) (.inr (.inr ⟨by omega, by omega, rfl⟩)) r1 r2
end Go.Proofs.Ytghimigffnbhaaa
