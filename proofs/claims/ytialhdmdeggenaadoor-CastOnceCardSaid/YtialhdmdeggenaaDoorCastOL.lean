/- castOnce: the plain law. -/
import Derived.Test.YtialhdmdeggenaaDoorCastSum
set_option linter.unusedVariables false
set_option linter.unusedSimpArgs false
namespace Go.Proofs.YtialhdmdeggenaaDoor
open Go Go.RowKit

theorem isAR_vote (x : Hdr) : isAR x.a x.r (voteOf x) = true := decide_eq_true (p := x.a = x.a ∧ x.r = x.r) ⟨rfl, rfl⟩
/-- Who has voted for a header has its digest in the table; another header of its author and round meets that vote. -/
theorem cast_voted {u : List Slt} {x : Hdr} (hu : balCode u = 0) (hx : hdrCode x = 0) (hi : 0 ≤ idxP (isAR x.a x.r) u) (hd : (u.getD (idxP (isAR x.a x.r) u).toNat ⟨0, 0, []⟩).d = hdrSum x) :
    castCode u x = 0 ∧ castTab u x = u ∧ votedC u x.a x.r = 0 ∧ votedD u x.a x.r = hdrSum x ∧ ∀ o : Hdr, hdrCode o = 0 → o.a = x.a → o.r = x.r → castCode u o = if hdrSum o = hdrSum x then 0 else 7 := by
  have h1 : castCode u x = 0 := by
    unfold castCode castC; rw [if_neg (by simp [hu]), if_neg (by simp [hx]), if_pos hi, if_pos hd]
  have h2 : votedC u x.a x.r = 0 := by unfold votedC; rw [if_neg (by simp [hu]), if_pos hi]
  refine ⟨h1, ?_, h2, ?_, fun o ho ha hr => ?_⟩
  · unfold castTab castL; rw [if_pos h1, if_pos hi]
  · unfold votedD; rw [if_pos h2]; exact hd
  · unfold castCode castC
    rw [if_neg (by simp [hu]), if_neg (by simp [ho]), ha, hr, if_pos hi, hd]
    by_cases q : hdrSum o = hdrSum x
    · rw [if_pos q, if_pos q.symm]
    · rw [if_neg q, if_neg (fun e => q e.symm)]
theorem cast_cases {t : List Slt} {x : Hdr} (ht : balCode t = 0) (hl : t.length < 400) (hx : hdrCode x = 0) :
    (votedC t x.a x.r = 0 ∧ votedD t x.a x.r ≠ hdrSum x ∧ castCode t x = 7 ∧ castTab t x = []) ∨
    (castCode t x = 0 ∧ castSlt t x = voteOf x ∧ ((votedC t x.a x.r = 0 ∧ votedD t x.a x.r = hdrSum x ∧ (castTab t x).length = t.length) ∨ (votedC t x.a x.r = 8 ∧ (castTab t x).length = t.length + 1)) ∧ (∃ m, castTab t x = t ++ m) ∧
      castCode (castTab t x) x = 0 ∧ castTab (castTab t x) x = castTab t x ∧ votedC (castTab t x) x.a x.r = 0 ∧ votedD (castTab t x) x.a x.r = hdrSum x ∧
      ∀ o : Hdr, hdrCode o = 0 → o.a = x.a → o.r = x.r → castCode (castTab t x) o = if hdrSum o = hdrSum x then 0 else 7) := by
  by_cases hi : 0 ≤ idxP (isAR x.a x.r) t
  · have h2 : votedC t x.a x.r = 0 := by unfold votedC; rw [if_neg (by simp [ht]), if_pos hi]
    by_cases hd : (t.getD (idxP (isAR x.a x.r) t).toNat ⟨0, 0, []⟩).d = hdrSum x
    · obtain ⟨a1, a2, a3, a4, a5⟩ := cast_voted ht hx hi hd
      refine .inr ⟨a1, by unfold castSlt; rw [if_pos a1], .inl ⟨a3, a4, by rw [a2]⟩, ⟨[], by rw [a2]; simp⟩, ?_⟩
      rw [a2]
      exact ⟨a1, a2, a3, a4, a5⟩
    · have h7 : castCode t x = 7 := by unfold castCode castC; rw [if_neg (by simp [ht]), if_neg (by simp [hx]), if_pos hi, if_neg hd]
      refine .inl ⟨h2, ?_, h7, by unfold castTab; rw [if_neg (by rw [h7]; decide)]⟩
      unfold votedD; rw [if_pos h2]; exact hd
  · have h0 : castCode t x = 0 := by unfold castCode castC; rw [if_neg (by simp [ht]), if_neg (by simp [hx]), if_neg hi, if_neg (by omega)]
    have hT : castTab t x = t ++ [voteOf x] := by unfold castTab castL; rw [if_pos h0, if_neg hi]
    have hok := castTab_ok h0
    have h8 : votedC t x.a x.r = 8 := by unfold votedC; rw [if_neg (by simp [ht]), if_neg hi]
    refine .inr ⟨h0, by unfold castSlt; rw [if_pos h0], .inr ⟨h8, by rw [hT]; simp⟩, ⟨[voteOf x], hT⟩, ?_⟩
    rw [hT] at hok ⊢
    have e := idxP_snoc_new (m := []) hi (isAR_vote x)
    have := cast_voted hok hx (by rw [e]; omega) (by rw [e]; simp [voteOf])
    exact this
end Go.Proofs.YtialhdmdeggenaaDoor
