/- Lines that are wrong, behind lines that are not. -/
import Derived.Test.YtodcebhfkmlmgaaDoorActSl
set_option linter.unusedVariables false
set_option linter.unusedSimpArgs false
namespace Go.Proofs.YtodcebhfkmlmgaaDoor
open Go Go.RowKit

def badT : List (List UInt8) := [[], [83, 117, 98, 109, 105, 116, 32, 48, 32, 48, 48, 10], [115, 117, 98, 109, 105, 116, 32, 48, 10], [115, 117, 98, 109, 105, 116, 32, 48, 32, 48, 10], [115, 117, 98, 109, 105, 116, 32, 48, 32, 48, 65, 10], [119, 111, 114, 107, 10], [119, 111, 114, 107, 32, 52, 10], [119, 111, 114, 107, 32, 48, 49, 10], [119, 111, 114, 107, 32, 45, 49, 10], [116, 97, 107, 101, 10], [116, 97, 107, 101, 32, 52, 48, 48, 48, 48, 49, 10], [102, 108, 111, 119, 32, 49, 10], [99, 114, 97, 115, 104, 32, 49, 10], [102, 111, 114, 103, 101, 32, 32, 10], [32, 115, 121, 110, 99, 32, 48, 10], [115, 116, 97, 114, 116, 32, 48, 32, 10], [99, 111, 112, 121, 32, 49, 32, 50]]
def badE : List Int := [4, 4, 4, 4, 4, 4, 2, 4, 4, 4, 2, 4, 4, 4, 4, 4, 4]
def badC (x : List UInt8) : Int := if (cutN x).2.2 = false then 4 else if (oneL (cutN x).1).2 = false then 4 else lineCode (oneL (cutN x).1).1
theorem badC_at : ∀ b : Fin 17, b.val ≠ 0 → badC (badT.getD b.val []) = badE.getD b.val 0 ∧ badE.getD b.val 0 ≠ 0 ∧ badT.getD b.val [] ≠ [] := by decide +kernel
theorem badT_len : ∀ b : Fin 17, (badT.getD b.val []).length ≤ 100 := by decide +kernel
theorem readGo_after : ∀ (l : List LAct) (f : Nat) (x : List UInt8) (i : Nat) (out : List LAct), (∀ a ∈ l, lineCode a = 0) → l.length < f → readGo f (showL l ++ x) i out = readGo (f - l.length) x (i + l.length) (out ++ l)
  | [], f, x, i, out, _, hf => by simp [showL]
  | a :: l, 0, x, i, out, _, hf => by simp at hf
  | a :: l, f + 1, x, i, out, h, hf => by
    have ha := h a (by simp)
    have hc := cutN_at (lineOf_no10 ha) (showL l ++ x)
    have e : showL (a :: l) ++ x = lineOf a ++ 10 :: (showL l ++ x) := by rw [showL_cons]; simp
    have hne : lineOf a ++ 10 :: (showL l ++ x) ≠ [] := by simp
    rw [e, readGo, if_neg hne, if_neg (by simp at hf; omega), hc]
    simp only [oneL_line ha, Bool.true_eq_false, if_false]
    rw [if_neg (by simp [ha]), readGo_after l f x (i + 1) _ (fun y hy => h y (by simp [hy])) (by simp at hf; omega)]
    have e1 : f + 1 - (a :: l).length = f - l.length := by rw [List.length_cons]; omega
    have e2 : i + 1 + l.length = i + (a :: l).length := by rw [List.length_cons]; omega
    rw [e1, e2, List.append_assoc]; rfl
theorem readGo_wrong {f : Nat} {x : List UInt8} {i : Nat} {out : List LAct} (hx : x ≠ []) (hf : f ≠ 0) (hb : badC x ≠ 0) : readGo (f + 1) x i out = ([], i, badC x) := by
  unfold badC at hb ⊢
  rw [readGo, if_neg hx, if_neg hf]
  by_cases h1 : (cutN x).2.2 = false
  · rw [if_pos h1, if_pos h1]
  · rw [if_neg h1] at hb
    rw [if_neg h1, if_neg h1]
    by_cases h2 : (oneL (cutN x).1).2 = false
    · rw [if_pos h2, if_pos h2]
    · rw [if_neg h2] at hb
      rw [if_neg h2, if_neg h2, if_pos hb]
theorem readL_wrong {l : List LAct} (hok : ∀ a ∈ l, lineCode a = 0) (hl : l.length ≤ 12) {b : Nat} (hb : b < 17) (h0 : b ≠ 0) : readL (showL l ++ badT.getD b []) = ([], l.length, badE.getD b 0) := by
  obtain ⟨h1, h2, h3⟩ := badC_at ⟨b, hb⟩ h0
  simp only at h1 h2 h3
  unfold readL
  rw [readGo_after l 3001 _ 0 [] hok (by omega)]
  obtain ⟨f, hf⟩ : ∃ f, 3001 - l.length = f + 1 := ⟨3000 - l.length, by omega⟩
  rw [hf, readGo_wrong h3 (by omega) (by rw [h1]; exact h2), h1, Nat.zero_add]
end Go.Proofs.YtodcebhfkmlmgaaDoor
