/- seal: has, own, Check. -/
import Derived.Test.YtpfmmncnhlfdgaaDoorSeal
set_option linter.unusedVariables false
set_option linter.unusedSimpArgs false
attribute [local go_sem ↓] Go.wp_at_zero Go.wp_at_succ
namespace Go.Proofs.YtpfmmncnhlfdgaaDoor
open Go Go.RowKit

/-- The place of a datum; -1: it is not there. -/
def idxZ {α : Type} [DecidableEq α] (l : List α) (t : α) : Int := if t ∈ l then (l.idxOf t : Int) else -1
theorem idxZ_hit {α : Type} [DecidableEq α] {l : List α} {t : α} {k : Nat} (hk : k < l.length) (hno : ∀ j, j < k → l[j]? ≠ some t) (h : l[k] = t) : idxZ l t = k := by
  have hm : t ∈ l := h ▸ List.getElem_mem hk
  unfold idxZ
  rw [if_pos hm]
  have h1 : l.idxOf t < l.length := List.idxOf_lt_length_of_mem hm
  have h2 : l[l.idxOf t]? = some t := by rw [List.getElem?_eq_getElem h1]; simp
  have h3 : ¬ l.idxOf t < k := fun hl => hno _ hl h2
  have h4 : ¬ k < l.idxOf t := fun hl => by
    have := List.not_of_lt_findIdx (p := fun x => x == t) (xs := l) (i := k) (by exact hl)
    simp [h] at this
  congr 1; omega
theorem idxZ_miss {α : Type} [DecidableEq α] {l : List α} {t : α} (hno : ∀ j, j < l.length → l[j]? ≠ some t) : idxZ l t = -1 := by
  unfold idxZ
  rw [if_neg]
  intro hm
  obtain ⟨j, hj, e⟩ := List.mem_iff_getElem.1 hm
  exact hno j hj (by simp [hj, e])
theorem idxZ_ge {α : Type} [DecidableEq α] {l : List α} {t : α} : (0 ≤ idxZ l t) = (t ∈ l) := by
  unfold idxZ
  by_cases h : t ∈ l <;> simp [h]

theorem sgnCode_or (n a r : Int) (k : Nat) : sgnCode n a r k = 0 ∨ sgnCode n a r k = 2 ∨ sgnCode n a r k = 4 := by
  unfold sgnCode sltCode
  split
  · simp
  · split
    · simp
    · split <;> simp
/-- May signs be? -/
def signsTo (l : List Sgn) (k : Nat) : Prop := (∀ x ∈ l.take k, sgnOk x = true) ∧ (l.take k).Nodup
def signsOk (l : List Sgn) : Bool := decide ((∀ x ∈ l, sgnOk x = true) ∧ l.Nodup)
def signsCode (l : List Sgn) : Int := if signsOk l then 0 else 12
theorem signsTo_zero (l : List Sgn) : signsTo l 0 := by simp [signsTo]
theorem signsTo_succ {l : List Sgn} {k : Nat} (hk : k < l.length) (h : signsTo l k) (h1 : sgnOk l[k] = true) (h2 : ¬ l[k] ∈ l.take k) : signsTo l (k + 1) := by
  unfold signsTo at *
  rw [List.take_succ_eq_append_getElem hk]
  refine ⟨fun t ht => ?_, ?_⟩
  · rcases List.mem_append.1 ht with ht | ht
    · exact h.1 t ht
    · simp at ht; subst ht; exact h1
  · rw [List.nodup_append]
    refine ⟨h.2, by simp, fun a ha b hb => ?_⟩
    simp at hb; subst hb; exact fun e => h2 (e ▸ ha)
theorem signsCode_bad {l : List Sgn} {k : Nat} (hk : k < l.length) (h1 : sgnOk l[k] = false) : signsCode l = 12 := by
  unfold signsCode signsOk; rw [if_neg]; simp only [decide_eq_true_eq]; rintro ⟨h, _⟩; have := h _ (List.getElem_mem hk); simp_all
theorem signsCode_twice {l : List Sgn} {k : Nat} (hk : k < l.length) (h1 : l[k] ∈ l.take k) : signsCode l = 12 := by
  unfold signsCode signsOk; rw [if_neg]; simp only [decide_eq_true_eq]; rintro ⟨_, h⟩
  obtain ⟨j, hj, e⟩ := List.mem_iff_getElem.1 h1
  simp at hj e
  have := (List.nodup_iff_pairwise_ne.1 h)
  exact (List.pairwise_iff_getElem.1 this j k (by omega) hk (by omega)) e
theorem signsCode_ok {l : List Sgn} (h : signsTo l l.length) : signsCode l = 0 := by
  unfold signsCode signsOk; rw [if_pos]
  simp only [decide_eq_true_eq]
  unfold signsTo at h
  rw [List.take_length] at h
  exact h

end Go.Proofs.YtpfmmncnhlfdgaaDoor
