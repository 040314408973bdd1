/- What is plain about the message of raw numbers. -/
import Derived.Test.YtmijiclocadimaaGreatDoorMessage
import Derived.Test.YtmijiclocadimaaGreatDoorBas
set_option linter.unusedVariables false
set_option linter.unusedSimpArgs false
namespace Go.Proofs.YtmijiclocadimaaGreatDoor
open Go Go.RowKit

/-- The five kinds. -/
theorem msgOf_cases (K A B C : Int) (l : List Bytes) :
    (1 + pickedZ K 5 = 1 ∧ msgOf K A B C l = ⟨pickedZ C 4, pickedZ B 4, 1, batOf A B l, hdr0, slt0, crt0, 0⟩) ∨
    (1 + pickedZ K 5 = 2 ∧ msgOf K A B C l = ⟨pickedZ C 4, pickedZ B 4, 2, bat0, hdrOf A B C, slt0, crt0, 0⟩) ∨
    (1 + pickedZ K 5 = 3 ∧ msgOf K A B C l = ⟨pickedZ C 4, pickedZ B 4, 3, bat0, hdr0, ⟨pickedZ A 4, 1 + pickedZ B 9, someL C A⟩, crt0, 0⟩) ∨
    (1 + pickedZ K 5 = 4 ∧ msgOf K A B C l = ⟨pickedZ C 4, pickedZ B 4, 4, bat0, hdr0, slt0, ⟨hdrOf A B C, votersL C⟩, 0⟩) ∨
    (1 + pickedZ K 5 = 5 ∧ msgOf K A B C l = ⟨pickedZ C 4, pickedZ B 4, 5, bat0, hdr0, slt0, crt0, 1 + pickedZ B 9⟩) := by
  obtain ⟨pk0, pk1⟩ := pickedZ_range K 5 (by omega)
  have h : 1 + pickedZ K 5 = 1 ∨ 1 + pickedZ K 5 = 2 ∨ 1 + pickedZ K 5 = 3 ∨ 1 + pickedZ K 5 = 4 ∨ 1 + pickedZ K 5 = 5 := by omega
  unfold msgOf
  generalize 1 + pickedZ K 5 = k at *
  obtain rfl | rfl | rfl | rfl | rfl := h
  · exact .inl ⟨rfl, rfl⟩
  · exact .inr (.inl ⟨rfl, rfl⟩)
  · exact .inr (.inr (.inl ⟨rfl, rfl⟩))
  · exact .inr (.inr (.inr (.inl ⟨rfl, rfl⟩)))
  · exact .inr (.inr (.inr (.inr ⟨rfl, rfl⟩)))
theorem nodeOk_picked (C : Int) : nodeOk (pickedZ C 4) = true := by
  obtain ⟨x1, x2⟩ := pickedZ_range C 4 (by omega)
  unfold nodeOk; simp; omega
theorem countOk_picked (C : Int) : countOk (1 + pickedZ C 9) = true := by
  obtain ⟨x1, x2⟩ := pickedZ_range C 9 (by omega)
  unfold countOk; simp; omega
theorem sltOf_ok (A B C : Int) : sltCode (pickedZ A 4) (1 + pickedZ B 9) (someL C A).length = 0 := by
  unfold sltCode
  rw [someL_length, nodeOk_picked, countOk_picked]
  rfl
theorem hdrOf_lens (A B C : Int) : (hdrOf A B C).bs.length ≤ 3 ∧ (hdrOf A B C).ps.length ≤ 4 := by
  obtain ⟨-, -, h3, h4, -, -⟩ := hdrCode_iff (hdrOf_ok A B C)
  exact ⟨h3, h4⟩
theorem msgOf_code (K A B C : Int) (l : List Bytes) : msgCode (msgOf K A B C l) = 0 := by
  obtain ⟨-, h⟩ | ⟨-, h⟩ | ⟨-, h⟩ | ⟨-, h⟩ | ⟨-, h⟩ := msgOf_cases K A B C l
  · rw [h, msgCode_bundle (nodeOk_picked C) (nodeOk_picked B)]; exact batOf_ok A B l
  · rw [h, msgCode_offer (nodeOk_picked C) (nodeOk_picked B)]; exact hdrOf_ok A B C
  · rw [h, msgCode_vote (nodeOk_picked C) (nodeOk_picked B)]; exact sltOf_ok A B C
  · rw [h, msgCode_proof (nodeOk_picked C) (nodeOk_picked B)]; exact crtOf_ok A B C
  · rw [h, msgCode_want (nodeOk_picked C) (nodeOk_picked B), if_pos (countOk_picked B)]
theorem msgOf_size (K A B C : Int) (l : List Bytes) : MsgOk (msgOf K A B C l) := by
  obtain ⟨-, h⟩ | ⟨-, h⟩ | ⟨-, h⟩ | ⟨-, h⟩ | ⟨-, h⟩ := msgOf_cases K A B C l
  · rw [h]; exact msgOk_bundle fun x hx => by
      have := (batOf_txs A B l).1 x hx
      unfold txLen at this
      simp at this
      omega
  · rw [h]; exact msgOk_offer (by have := hdrOf_lens A B C; omega)
  · rw [h]; exact msgOk_vote
  · rw [h]; exact msgOk_proof (by have := hdrOf_lens A B C; show (hdrOf A B C).bs.length + (hdrOf A B C).ps.length ≤ _; omega)
  · rw [h]; exact msgOk_want _ _ _
theorem msgCode_from (m : Msg) (h : nodeOk m.f = false) : msgCode m = 2 := by unfold msgCode; rw [if_pos (.inl h)]
theorem msgCode_to (m : Msg) (h : nodeOk m.t = false) : msgCode m = 2 := by unfold msgCode; rw [if_pos (.inr h)]
theorem MsgOk.setF {m : Msg} (h : MsgOk m) (x : Int) : MsgOk { m with f := x } := ⟨h.tx, h.h, h.c⟩
theorem MsgOk.setT {m : Msg} (h : MsgOk m) (x : Int) : MsgOk { m with t := x } := ⟨h.tx, h.h, h.c⟩
theorem RdM.setF {G : Nat → Prop} {w : World} {v : MV} {m : Msg} (h : RdM G w v m) (x : Int) : RdM G w v { m with f := x } := ⟨h.tx, h.bs, h.ps, h.d, h.cbs, h.cps, h.vs⟩
theorem RdM.setT {G : Nat → Prop} {w : World} {v : MV} {m : Msg} (h : RdM G w v m) (x : Int) : RdM G w v { m with t := x } := ⟨h.tx, h.bs, h.ps, h.d, h.cbs, h.cps, h.vs⟩
end Go.Proofs.YtmijiclocadimaaGreatDoor
