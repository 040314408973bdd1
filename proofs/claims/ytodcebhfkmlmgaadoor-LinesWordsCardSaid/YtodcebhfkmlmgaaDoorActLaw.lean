/- Lists of acts in memory; acts of feats. -/
import Derived.Test.YtodcebhfkmlmgaaDoorFeat
import Derived.Test.YtodcebhfkmlmgaaDoorRegS
set_option linter.unusedVariables false
set_option linter.unusedSimpArgs false
namespace Go.Proofs.YtodcebhfkmlmgaaDoor
open Go Go.RowKit

def actCells (a : LAct) : List Value := [.int .i64 a.k, .int .i64 a.n, .int .i64 a.p, strV a.t]
theorem actsCells_len (l : List LAct) : (l.flatMap actCells).length = 4 * l.length := by
  induction l with
  | nil => rfl
  | cons a l ih => simp only [List.flatMap_cons, List.length_append, List.length_cons, ih]; simp [actCells]; omega
theorem actsCells_at {l : List LAct} {j : Nat} (hj : j < l.length) {t : Nat} (ht : t < 4) : (l.flatMap actCells)[j * 4 + t]? = (actCells l[j])[t]? := by
  induction l generalizing j with
  | nil => simp at hj
  | cons a l ih =>
    cases j with
    | zero => simp only [List.flatMap_cons, Nat.zero_mul, Nat.zero_add, List.getElem_cons_zero]; rw [List.getElem?_append_left (by simpa [actCells] using ht)]
    | succ j =>
      have := ih (j := j) (by simpa using hj)
      rw [List.flatMap_cons, List.getElem?_append_right (by simp [actCells]; omega)]
      simp only [List.getElem_cons_succ]
      rw [← this]
      congr 1
      simp [actCells]; omega
theorem rdActs {w : World} {b : Nat} {l : List LAct} {T : TypeId} {G : Nat → Prop} (h : BoxAt w b (l.flatMap actCells) T) (hG : G b) (hm : l.length ≤ maxLen) : RdS RAct G w (.slice (some ⟨b, 0, none⟩) l.length l.length) l :=
  ⟨_, _, rfl, Nat.le_refl _, hm, fun h => by simp at h, fun j x hx => by
    have hj : j < l.length := by
      rcases Nat.lt_or_ge j l.length with h | h
      · exact h
      · simp [List.getElem?_eq_none h] at hx
    have hx' : x = l[j] := by rw [List.getElem?_eq_getElem hj] at hx; exact (Option.some.inj hx).symm
    refine ⟨b, 0, actCells x, rfl, hG, fun t c ht => ?_, rfl⟩
    have ht4 : t < 4 := by
      rcases Nat.lt_or_ge t 4 with h | h
      · exact h
      · rw [List.getElem?_eq_none (by simpa [actCells] using h)] at ht; simp at ht
    have := h.cell (j * 4 + t) (v := c) (by rw [actsCells_at hj ht4, ← hx']; exact ht)
    simpa [RAct] using this⟩
theorem code_flow (n p : Int) (t : List UInt8) : lineCode ⟨10, n, p, t⟩ = if n = 0 ∧ p = 0 ∧ t = [] then 0 else 4 := by
  have e1 : actN 10 = false := by decide
  have e2 : actP 10 = false := by decide
  have e3 : actT 10 = false := by decide
  unfold lineCode
  simp only [e1, e2, e3]
  by_cases h : n = 0 ∧ p = 0 ∧ t = []
  · rw [if_pos h]; obtain ⟨rfl, rfl, rfl⟩ := h; simp
  · rw [if_neg h]
    simp
    intro a b
    by_cases c : t = []
    · exact absurd ⟨a, b, c⟩ h
    · exact c
theorem code_kind (n p : Int) (t : List UInt8) : lineCode ⟨11, n, p, t⟩ = 3 := by unfold lineCode; simp
theorem show_two {a b : LAct} (h : lineCode a = 0) (hb : lineCode b = 3) : showR [a, b] = ([], 1, 3) := by
  have := showR_bad (l := [a, b]) (k := 1) (by simp) (by simp) (by simp [h]) (by simp [hb])
  rw [this]; simp [hb]
/-- The acts of feats. -/
def actsL (l : List FeatD) : List LAct := l.map featA
theorem actsL_len (l : List FeatD) : (actsL l).length = l.length := by simp [actsL]
theorem actsL_ok (l : List FeatD) : ∀ a ∈ actsL l, lineCode a = 0 := by
  intro a ha
  obtain ⟨f, -, rfl⟩ := List.mem_map.1 ha
  exact featA_ok f
theorem actsL_succ {l : List FeatD} {k : Nat} (h : k < l.length) : actsL (l.take (k + 1)) = actsL (l.take k) ++ [featA l[k]] := by
  unfold actsL; rw [List.take_succ_eq_append_getElem h, List.map_append]; rfl
end Go.Proofs.YtodcebhfkmlmgaaDoor
