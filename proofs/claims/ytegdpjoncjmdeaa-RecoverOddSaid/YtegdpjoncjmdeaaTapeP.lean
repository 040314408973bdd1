/- What is plain about records of raw numbers, and their tapes. -/
import Derived.Test.YtegdpjoncjmdeaaTapeL
set_option linter.unusedVariables false
set_option linter.unusedSimpArgs false
attribute [local go_sem ↓] Go.wp_at_zero Go.wp_at_succ
namespace Go.Proofs.Ytegdpjoncjmdeaa
open Go Go.RowKit

theorem recs_parts (l : List RawD) : (∀ m ∈ recsL l, recCode m = 0) ∧ (recsL l).length ≤ 24 ∧ (tapeB (recsL l)).length ≤ 7248 := by
  have h1 := recsL_ok l
  have h2 := recsL_len l
  have h3 := (tapeB_len (recsL l) h1).1
  exact ⟨h1, h2, by omega⟩
/-- A torn tape, and what is read from it. -/
theorem torn_parts {ms : List Msg} (h : ∀ m ∈ ms, recCode m = 0) (k : Nat) (hk : k ≤ (tapeB ms).length) :
    ∃ P : List Msg, P = ms.take (wholeN ms k) ∧ (recL ((tapeB ms).take k)).1 = P ∧ (recL ((tapeB ms).take k)).2 = (tapeB P).length ∧ ((tapeB ms).take k).take (tapeB P).length = tapeB P ∧ (tapeB P).length ≤ k ∧
      recL (tapeB P) = (P, (tapeB P).length) ∧ (P.length ≤ ms.length ∧ ∀ (j : Nat) (h : j < P.length) (h' : j < ms.length), ms[j] = P[j]) ∧ (P.length = ms.length ↔ k = (tapeB ms).length) ∧ (∀ m ∈ P, recCode m = 0) ∧ P.length ≤ ms.length := by
  have ht := recL_torn ms k h
  have hw := whole_tape_le ms k
  have hP : ∀ m ∈ ms.take (wholeN ms k), recCode m = 0 := fun m hm => h m (List.mem_of_mem_take hm)
  refine ⟨_, rfl, by rw [ht], by rw [ht], ?_, hw, recL_all hP, ⟨by rw [List.length_take]; omega, fun j h h' => by simp⟩, ?_, hP, by rw [List.length_take]; omega⟩
  · rw [List.take_take, Nat.min_eq_left hw, tapeB_take_eq]
  · have hl : (ms.take (wholeN ms k)).length = wholeN ms k := by rw [List.length_take]; have := wholeN_le ms k; omega
    rw [hl]
    constructor
    · intro e
      rcases Nat.lt_or_ge k (tapeB ms).length with q | q
      · have := whole_part ms k q; omega
      · omega
    · intro e; exact whole_all ms k (by omega)
end Go.Proofs.Ytegdpjoncjmdeaa
