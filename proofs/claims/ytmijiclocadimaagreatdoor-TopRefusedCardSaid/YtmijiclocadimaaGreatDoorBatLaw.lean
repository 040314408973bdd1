/- What is plain about a batch of raw numbers. -/
import Derived.Test.YtmijiclocadimaaGreatDoorBatch
import Derived.Test.YtmijiclocadimaaGreatDoorChk2
set_option linter.unusedVariables false
set_option linter.unusedSimpArgs false
namespace Go.Proofs.YtmijiclocadimaaGreatDoor
open Go Go.RowKit

theorem batTx_txLen (l : List Bytes) : ∀ t ∈ batTx l, txLen t = true := fun t ht => by
  unfold batTx at ht
  obtain ⟨s, -, rfl⟩ := List.mem_map.1 ht
  unfold txLen; simpa using txOf_ok s
theorem batOf_txs (A B : Int) (l : List Bytes) : (∀ t ∈ (batOf A B l).txs, txLen t = true) ∧ 1 ≤ (batOf A B l).txs.length ∧ (batOf A B l).txs.length ≤ 4 := by
  unfold batOf
  by_cases h : l.length = 0
  · rw [if_pos h]; exact ⟨fun t ht => by simp at ht; subst ht; rfl, by simp, by simp⟩
  · rw [if_neg h]; exact ⟨batTx_txLen l, by unfold batTx; simp; omega, by unfold batTx; simp; omega⟩
theorem batOf_ok (A B : Int) (l : List Bytes) : batCode (batOf A B l) = 0 := by
  obtain ⟨h1, h2, h3⟩ := batOf_txs A B l
  obtain ⟨pa1, pa2⟩ := pickedZ_range A 4 (by omega)
  obtain ⟨pb1, pb2⟩ := pickedZ_range B 9 (by omega)
  exact bat_ok_at (a := pickedZ A 4) (n := 1 + pickedZ B 9) (by unfold nodeOk; simp; omega) (by unfold countOk; simp; omega) h2 h3 (fun j t ht => h1 t (List.mem_of_getElem? ht))
theorem batOf_nums (A B : Int) (l : List Bytes) : 1 ≤ (batOf A B l).n ∧ (batOf A B l).n ≤ 9 ∧ 0 ≤ (batOf A B l).a ∧ (batOf A B l).a < 4 := by
  obtain ⟨x1, x2⟩ := pickedZ_range B 9 (by omega)
  obtain ⟨x3, x4⟩ := pickedZ_range A 4 (by omega)
  refine ⟨?_, ?_, x3, x4⟩
  · show 1 ≤ 1 + pickedZ B 9; omega
  · show 1 + pickedZ B 9 ≤ 9; omega
end Go.Proofs.YtmijiclocadimaaGreatDoor
