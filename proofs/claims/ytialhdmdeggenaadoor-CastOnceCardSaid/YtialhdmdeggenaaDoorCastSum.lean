/- sheaveskeep.castSum: what it computes; two headers of one sum. -/
import Derived.Test.YtialhdmdeggenaaDoorCastApart
import Derived.Test.YtialhdmdeggenaaDoorOneSum
import Derived.Test.YtialhdmdeggenaaDoorPairAny
set_option linter.unusedVariables false
set_option linter.unusedSimpArgs false
attribute [local go_sem ↓] Go.wp_at_zero Go.wp_at_succ
namespace Go.Proofs.YtialhdmdeggenaaDoor
open Go Go.RowKit

theorem elemHdr : ElemOk Tryd.prog 89 27 4 64 := elemOk_of (z := .agg #[.int .i64 0, .int .i64 0, .slice none 0 0, .slice none 0 0]) (by kernel_rfl) (by kernel_rfl) rfl (by decide)
theorem someL_apart2 {n n' m m' : Int} (h : m % 256 ≠ m' % 256) : someL n m ≠ someL n' m' := by
  intro e1
  unfold someL at e1
  simp only [List.cons.injEq] at e1
  have := congrArg (fun u : UInt8 => (u.toNat : Int)) e1.2.1
  simp only [byteZ_toNat] at this
  exact h this
def hdrOther (r : RawD) (n : Int) : Hdr := ⟨(hdrR r).a, (hdrR r).r, [someL n 200], (hdrR r).ps⟩
theorem hdrOther_ok (r : RawD) (n : Int) : hdrCode (hdrOther r n) = 0 := by
  have h := hdrR_ok r
  obtain ⟨h1, h2, h3, h4, h5, h6⟩ := hdr_partsD h
  have h7 : digCode [someL n 200] = 0 := by
    rw [digCode_zero]
    exact ⟨fun d hd => by rw [List.mem_singleton.1 hd]; exact someL_length _ _, by simp⟩
  unfold hdrCode at h
  rw [if_neg (by simp [h1, h2]), if_neg (by omega), if_neg (by simp [h5]), if_neg (by simp [h6])] at h
  show hdrCode ⟨(hdrR r).a, (hdrR r).r, [someL n 200], (hdrR r).ps⟩ = 0
  unfold hdrCode
  dsimp only
  rw [if_neg (by simp [h1, h2]), if_neg (by simp; omega), if_neg (by simp [h7]), if_neg (by simp [h6])]
  exact h
theorem hdrOther_ne (r : RawD) (n : Int) : (hdrOther r n).bs ≠ (hdrR r).bs := by
  intro e
  have e2 : [someL n 200] = hdrB r.c (pickedZ r.c 4).toNat := e
  have hm : someL n 200 ∈ hdrB r.c (pickedZ r.c 4).toNat := e2 ▸ List.mem_singleton.2 rfl
  unfold hdrB at hm
  obtain ⟨i, hi, he⟩ := List.mem_map.1 hm
  have hi' := List.mem_range.1 hi
  have := (pickedZ_range r.c 4 (by omega)).2
  exact someL_apart2 (by omega) he
def sumHs (l : List RawD) (r : RawD) (n : Int) : List Hdr := [hdrR r, hdrOther r n] ++ (l.take 30).map hdrR
theorem castSum_law {l : List RawD} {r : RawD} {n : Int} (h : hdrSum (hdrOther r n) = hdrSum (hdrR r)) : oneSumL (sumHs l r n) [] = true := by
  unfold oneSumL
  rw [Bool.or_eq_true]
  left
  refine pair_any (k := 1) (j := 0) (by simp [sumHs]) (by omega) ?_
  unfold pairH
  simp only [decide_eq_true_eq]
  refine ⟨hdrOther_ok r n, hdrR_ok r, h, ?_⟩
  unfold sameH
  simp only [decide_eq_false_iff_not]
  rintro ⟨-, -, hb, -⟩
  exact hdrOther_ne r n hb
def sumTo (l : List RawD) (r : RawD) (n : Int) (k : Nat) : List Hdr := [hdrR r, hdrOther r n] ++ (l.take k).map hdrR
theorem sumTo_succ {l : List RawD} {r : RawD} {n : Int} {k : Nat} (hk : k < l.length) : sumTo l r n (k + 1) = sumTo l r n k ++ [hdrR l[k]] := by
  unfold sumTo; rw [List.take_succ_eq_append_getElem hk, List.map_append, ← List.append_assoc]; rfl
theorem sumTo_len {l : List RawD} {r : RawD} {n : Int} {k : Nat} (hk : k ≤ l.length) : (sumTo l r n k).length = k + 2 := by
  unfold sumTo; simp; omega
/-- A block of elements that was made at once. -/
theorem lit_ownsR (w : World) (l : List Value) (e : TypeId) (size n : Nat) (hn : l.length = n * size) (hm : n ≤ 1000) : (w.alloc (.cells l.toArray e)).ownsRow w.heap.size e size (.slice (some ⟨w.heap.size, 0, none⟩) n n) n l :=
  ⟨hn, .inr ⟨w.heap.size, n, l.toArray, rfl, Nat.le_refl _, heap_alloc_new w _, Nat.le_refl _, by unfold maxLen; omega, by simp [hn], by simp [← hn]⟩⟩
end Go.Proofs.YtialhdmdeggenaaDoor
