/- Acts as the cells of a slice. -/
import Derived.Test.YtodcebhfkmlmgaaDoorActLaw
import Derived.Test.YtodcebhfkmlmgaaDoorReadL
set_option linter.unusedVariables false
set_option linter.unusedSimpArgs false
namespace Go.Proofs.YtodcebhfkmlmgaaDoor
open Go Go.RowKit

def flowA : LAct := ⟨10, 0, 0, []⟩
theorem flowA_ok : lineCode flowA = 0 := by unfold flowA; rw [code_flow]; simp
theorem flowA_ne (l : List LAct) : 0 < (showL (l ++ [flowA])).length := by
  rw [showL_append, List.length_append]
  have := List.length_pos_iff.2 (showL_ne (a := flowA) (l := []))
  omega
theorem cat_toList (a b : List UInt8) : a ++ b = ((⟨a.toArray⟩ : ByteArray) ++ ⟨b.toArray⟩).toList := by
  rw [ByteArray.toList_eq]
  show _ = (⟨a.toArray⟩ ++ ⟨b.toArray⟩ : ByteArray).data.toList
  rw [ByteArray.data_append]
  simp
theorem acts_flat : ∀ (l : List LAct) (vals : List Value), vals.length = l.length * 4 → (∀ j x, l[j]? = some x → (vals.drop (j * 4)).take 4 = actCells x) → vals = l.flatMap actCells
  | [], vals, hl, _ => List.eq_nil_of_length_eq_zero (by simpa using hl)
  | a :: l, vals, hl, h => by
    have h0 := h 0 a rfl
    simp only [Nat.zero_mul, List.drop_zero] at h0
    have hl' : vals.length = l.length * 4 + 4 := by rw [hl, List.length_cons]; omega
    have ih := acts_flat l (vals.drop 4) (by rw [List.length_drop, hl']; omega) (fun j x hx => by
      have := h (j + 1) x (by simpa using hx)
      rw [List.drop_drop]
      have e : 4 + j * 4 = (j + 1) * 4 := by omega
      rw [e]; exact this)
    rw [List.flatMap_cons, ← ih, ← h0, List.take_append_drop]
theorem acts_own {G : Nat → Prop} {base e : Nat} {w : World} {v : Value} {l : List LAct} (h : LstO RAct G base e w v l) : w.ownsRow base e 4 v l.length (l.flatMap actCells) := by
  obtain ⟨vals, h1, h2⟩ := h
  have := acts_flat l vals h1.1 (fun j x hx => h2 j x hx)
  rw [← this]; exact h1
theorem acts_one (l : List LAct) : ∀ u ∈ l.flatMap actCells, u.oneCell' = true := by
  intro u hu
  obtain ⟨a, -, hu⟩ := List.mem_flatMap.1 hu
  simp only [actCells, List.mem_cons, List.not_mem_nil, or_false] at hu
  rcases hu with rfl | rfl | rfl | rfl <;> rfl
theorem acts_sl {G : Nat → Prop} {w : World} {v : Value} {l : List LAct} (h : RdS RAct G w v l) : SlCells w v l.length 4 (l.flatMap actCells) := by
  obtain ⟨vals, h1, h2, -⟩ := h.flatOf (by decide) (fun {G w cs x} hr u hu => acts_one [x] u (by have hr' : cs = actCells x := hr; subst hr'; simpa using hu))
  obtain ⟨ad, c, k1, k2, k3, k4⟩ := h1
  have := acts_flat l vals k3 (fun j x hx => h2 j x hx)
  rw [← this]; exact ⟨ad, c, k1, k2, k3, k4⟩
theorem acts_lst {base e : Nat} {w : World} {v : Value} {l : List LAct} (h : w.ownsRow base e 4 v l.length (l.flatMap actCells)) : LstO RAct (fun _ => False) base e w v l :=
  ⟨_, h, fun j x hx => by
    have hj : j < l.length := by
      rcases Nat.lt_or_ge j l.length with h | h
      · exact h
      · simp [List.getElem?_eq_none h] at hx
    show ((l.flatMap actCells).drop (j * 4)).take 4 = actCells x
    apply List.ext_getElem?
    intro t
    rcases Nat.lt_or_ge t 4 with ht | ht
    · rw [List.getElem?_take_of_lt ht, List.getElem?_drop, actsCells_at hj ht]
      rw [List.getElem?_eq_getElem hj] at hx
      rw [Option.some.inj hx]
    · rw [List.getElem?_eq_none (by simp; omega), List.getElem?_eq_none (by simpa [actCells] using ht)]⟩
theorem cat_arr (a b : List UInt8) : ((⟨a.toArray⟩ : ByteArray) ++ ⟨b.toArray⟩) = ⟨(a ++ b).toArray⟩ := by
  apply ByteArray.ext
  rw [ByteArray.data_append]
  simp
end Go.Proofs.YtodcebhfkmlmgaaDoor
