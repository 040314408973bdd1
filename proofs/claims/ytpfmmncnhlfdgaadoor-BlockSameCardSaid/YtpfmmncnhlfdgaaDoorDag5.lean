/- dag.Check, dag.Insert: the plain laws. -/
import Derived.Test.YtpfmmncnhlfdgaaDoorDag4
set_option linter.unusedVariables false
set_option linter.unusedSimpArgs false
namespace Go.Proofs.YtpfmmncnhlfdgaaDoor
open Go Go.RowKit

/-- A certificate that may stand behind those: its parents are there, of the round ahead, its author and round are new. -/
def fits (l : List Crt) (c : Crt) : Bool := decide (noneL (crtSums l) c.h.ps = []) && (!wrongB l (crtSums l) c.h.r c.h.ps && !takenB l c.h)
def dagOk (l : List Crt) : Bool := decide (l.length ≤ 400 ∧ (∀ c ∈ l, crtCode c = 0) ∧ ∀ k (hk : k < l.length), fits (l.take k) l[k] = true)
def dagCode (l : List Crt) : Int := if dagOk l then 0 else 12
theorem dagCode_or (l : List Crt) : dagCode l = 0 ∨ dagCode l = 12 := by unfold dagCode; split <;> simp
theorem dagOk_iff {l : List Crt} : dagOk l = true ↔ l.length ≤ 400 ∧ (∀ c ∈ l, crtCode c = 0) ∧ ∀ k (hk : k < l.length), fits (l.take k) l[k] = true := by unfold dagOk; simp
theorem dagCode_zero {l : List Crt} : dagCode l = 0 ↔ dagOk l = true := by unfold dagCode; by_cases h : dagOk l = true <;> simp [h]
theorem dagOk_nil : dagOk [] = true := dagOk_iff.2 ⟨by simp, by simp, fun k hk => by simp at hk⟩
theorem dagCode_long {l : List Crt} (h : 400 < l.length) : dagCode l = 12 := by
  rcases dagCode_or l with h0 | h0
  · have := (dagOk_iff.1 (dagCode_zero.1 h0)).1; omega
  · exact h0
theorem dagCode_crt {l : List Crt} {c : Crt} (hc : c ∈ l) (h : crtCode c ≠ 0) : dagCode l = 12 := by
  rcases dagCode_or l with h0 | h0
  · exact absurd ((dagOk_iff.1 (dagCode_zero.1 h0)).2.1 c hc) h
  · exact h0
theorem dagCode_fits {l : List Crt} {k : Nat} (hk : k < l.length) (h : fits (l.take k) l[k] = false) : dagCode l = 12 := by
  rcases dagCode_or l with h0 | h0
  · have := (dagOk_iff.1 (dagCode_zero.1 h0)).2.2 k hk; rw [h] at this; simp at this
  · exact h0
theorem dagOk_snoc {l : List Crt} {c : Crt} (h : dagOk l = true) (hc : crtCode c = 0) (hl : l.length < 400) (hf : fits l c = true) : dagOk (l ++ [c]) = true := by
  obtain ⟨h1, h2, h3⟩ := dagOk_iff.1 h
  refine dagOk_iff.2 ⟨by simp; omega, fun x hx => ?_, fun k hk => ?_⟩
  · rcases List.mem_append.1 hx with hx | hx
    · exact h2 x hx
    · rw [List.mem_singleton.1 hx]; exact hc
  · rcases Nat.lt_or_ge k l.length with q | q
    · have := h3 k q
      rw [List.take_append_of_le_length (by omega), List.getElem_append_left q]; exact this
    · have hk' : k = l.length := by simp at hk; omega
      subst hk'
      simpa using hf
/-- What Insert tells. -/
def insCode (l : List Crt) (c : Crt) : Int :=
  if dagCode l ≠ 0 then 12 else if crtCode c ≠ 0 then crtCode c else if takenB l c.h = true then 7
  else if wrongB l (crtSums l) c.h.r c.h.ps = true then 9 else if 0 < (noneL (crtSums l) c.h.ps).length then 8 else if l.length = 400 then 6 else 0
theorem insCode_zero {l : List Crt} {c : Crt} (h : insCode l c = 0) : dagOk (l ++ [c]) = true := by
  unfold insCode at h
  split at h
  · simp at h
  · rename_i h1
    have h1' : dagCode l = 0 := by simpa using h1
    split at h
    · rename_i h2; exact absurd h h2
    · rename_i h2
      split at h
      · simp at h
      · rename_i h3
        split at h
        · simp at h
        · rename_i h4
          split at h
          · simp at h
          · rename_i h5
            split at h
            · simp at h
            · rename_i h6
              have hl := (dagOk_iff.1 (dagCode_zero.1 h1')).1
              refine dagOk_snoc (dagCode_zero.1 h1') (by simpa using h2) (by omega) ?_
              have h5' : noneL (crtSums l) c.h.ps = [] := List.eq_nil_of_length_eq_zero (by omega)
              unfold fits
              simp [h5', Bool.eq_false_iff.2 h3, Bool.eq_false_iff.2 h4]
end Go.Proofs.YtpfmmncnhlfdgaaDoor
