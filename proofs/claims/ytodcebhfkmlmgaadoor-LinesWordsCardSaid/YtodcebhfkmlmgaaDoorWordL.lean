/- The text of all words. -/
import Derived.Test.YtodcebhfkmlmgaaDoorActSl
set_option linter.unusedVariables false
set_option linter.unusedSimpArgs false
namespace Go.Proofs.YtodcebhfkmlmgaaDoor
open Go Go.RowKit

def wordT (D E : UInt8) : List UInt8 := (((((((((((((((((((([115, 117, 98, 109, 105, 116, 32] ++ [D]) ++ [32, 54, 49, 10, 119, 111, 114, 107, 32]) ++ [D]) ++ [10, 115, 121, 110, 99, 32]) ++ [D]) ++ [10, 116, 97, 107, 101, 32]) ++ [E]) ++ [10, 108, 111, 115, 101, 32]) ++ [E]) ++ [10, 99, 111, 112, 121, 32]) ++ [E]) ++ [10, 99, 114, 97, 115, 104, 32]) ++ [D]) ++ [32]) ++ [E]) ++ [10, 115, 116, 97, 114, 116, 32]) ++ [D]) ++ [10, 102, 111, 114, 103, 101, 32]) ++ [D]) ++ [32, 102, 102, 10, 102, 108, 111, 119, 10])
def wordA (d e : Int) : List LAct := [⟨1, d, 0, [97]⟩, ⟨2, d, 0, []⟩, ⟨3, d, 0, []⟩, ⟨4, 0, e, []⟩, ⟨5, 0, e, []⟩, ⟨6, 0, e, []⟩, ⟨7, d, e, []⟩, ⟨8, d, 0, []⟩, ⟨9, d, 0, [255]⟩, ⟨10, 0, 0, []⟩]
theorem word_show : ∀ (d : Fin 4) (e : Fin 10), showL (wordA d.val e.val) = wordT (UInt8.ofNat (48 + d.val)) (UInt8.ofNat (48 + e.val)) := by decide +kernel
theorem word_ok : ∀ (d : Fin 4) (e : Fin 10), ∀ a ∈ wordA d.val e.val, lineCode a = 0 := by decide +kernel
theorem word_read (d : Fin 4) (e : Fin 10) : readL (wordT (UInt8.ofNat (48 + d.val)) (UInt8.ofNat (48 + e.val))) = (wordA d.val e.val, 0, 0) := by
  rw [← word_show]; exact readL_show (word_ok d e) (by simp [wordA])
theorem wordA_k (d e : Int) : ∀ k : Nat, (h : k < 10) → ((wordA d e)[k]'(by simpa [wordA] using h)).k = 1 + (k : Int)
  | 0, _ => rfl
  | 1, _ => rfl
  | 2, _ => rfl
  | 3, _ => rfl
  | 4, _ => rfl
  | 5, _ => rfl
  | 6, _ => rfl
  | 7, _ => rfl
  | 8, _ => rfl
  | 9, _ => rfl
  | k + 10, h => by omega
theorem wordT_cat (D E : UInt8) : ({ data := #[115, 117, 98, 109, 105, 116, 32] } : ByteArray) ++ ({ data := #[D] } : ByteArray) ++ { data := #[32, 54, 49, 10, 119, 111, 114, 107, 32] } ++ ({ data := #[D] } : ByteArray) ++ { data := #[10, 115, 121, 110, 99, 32] } ++ ({ data := #[D] } : ByteArray) ++ { data := #[10, 116, 97, 107, 101, 32] } ++ { data := #[E] } ++ { data := #[10, 108, 111, 115, 101, 32] } ++ { data := #[E] } ++ { data := #[10, 99, 111, 112, 121, 32] } ++ { data := #[E] } ++ { data := #[10, 99, 114, 97, 115, 104, 32] } ++ ({ data := #[D] } : ByteArray) ++ { data := #[32] } ++ { data := #[E] } ++ { data := #[10, 115, 116, 97, 114, 116, 32] } ++ ({ data := #[D] } : ByteArray) ++ { data := #[10, 102, 111, 114, 103, 101, 32] } ++ ({ data := #[D] } : ByteArray) ++ { data := #[32, 102, 102, 10, 102, 108, 111, 119, 10] } = ⟨(wordT D E).toArray⟩ := by
  show (⟨[115, 117, 98, 109, 105, 116, 32].toArray⟩ : ByteArray) ++ (⟨[D].toArray⟩ : ByteArray) ++ (⟨[32, 54, 49, 10, 119, 111, 114, 107, 32].toArray⟩ : ByteArray) ++ (⟨[D].toArray⟩ : ByteArray) ++ (⟨[10, 115, 121, 110, 99, 32].toArray⟩ : ByteArray) ++ (⟨[D].toArray⟩ : ByteArray) ++ (⟨[10, 116, 97, 107, 101, 32].toArray⟩ : ByteArray) ++ (⟨[E].toArray⟩ : ByteArray) ++ (⟨[10, 108, 111, 115, 101, 32].toArray⟩ : ByteArray) ++ (⟨[E].toArray⟩ : ByteArray) ++ (⟨[10, 99, 111, 112, 121, 32].toArray⟩ : ByteArray) ++ (⟨[E].toArray⟩ : ByteArray) ++ (⟨[10, 99, 114, 97, 115, 104, 32].toArray⟩ : ByteArray) ++ (⟨[D].toArray⟩ : ByteArray) ++ (⟨[32].toArray⟩ : ByteArray) ++ (⟨[E].toArray⟩ : ByteArray) ++ (⟨[10, 115, 116, 97, 114, 116, 32].toArray⟩ : ByteArray) ++ (⟨[D].toArray⟩ : ByteArray) ++ (⟨[10, 102, 111, 114, 103, 101, 32].toArray⟩ : ByteArray) ++ (⟨[D].toArray⟩ : ByteArray) ++ (⟨[32, 102, 102, 10, 102, 108, 111, 119, 10].toArray⟩ : ByteArray) = _
  simp only [cat_arr]
  rfl
theorem wordT_len (D E : UInt8) : (wordT D E).length ≤ 1000 := by unfold wordT; simp only [List.length_append, List.length_cons, List.length_nil]; decide
end Go.Proofs.YtodcebhfkmlmgaaDoor
