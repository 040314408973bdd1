/- What is plain about the header of raw numbers and its voters. -/
import Derived.Test.YtmijiclocadimaaGreatDoorHdr
set_option linter.unusedVariables false
set_option linter.unusedSimpArgs false
namespace Go.Proofs.YtmijiclocadimaaGreatDoor
open Go Go.RowKit

theorem someL_ne {C m m' : Int} (h : m % 256 ≠ m' % 256) : someL C m ≠ someL C m' := by
  intro e
  unfold someL at e
  simp only [List.cons.injEq] at e
  have := congrArg (fun u : UInt8 => (u.toNat : Int)) e.2.1
  simp only [byteZ_toNat] at this
  exact h this
theorem nodup_some (A c : Int) (hc : 0 ≤ c) : ∀ k : Nat, c + k ≤ 256 → ((List.range k).map fun (i : Nat) => someL A (c + (i : Int))).Nodup := by
  intro k hk
  rw [List.nodup_iff_pairwise_ne]
  rw [List.pairwise_map]
  refine List.Pairwise.imp_of_mem ?_ List.pairwise_lt_range
  intro a b ha hb hab
  simp only [List.mem_range] at ha hb
  exact someL_ne (by omega)
theorem hdrB_eq (C : Int) (k : Nat) : hdrB C k = (List.range k).map fun (i : Nat) => someL C (0 + (i : Int)) := by unfold hdrB; simp
theorem dig_hdrB (C : Int) (k : Nat) (hk : k ≤ 10) : digCode (hdrB C k) = 0 := by
  rw [digCode_zero, hdrB_eq]
  refine ⟨fun d hd => ?_, nodup_some C 0 (by omega) k (by omega)⟩
  obtain ⟨i, _, rfl⟩ := List.mem_map.1 hd
  exact someL_length _ _
theorem dig_hdrP (A : Int) (k : Nat) (hk : k ≤ 10) : digCode (hdrP A k) = 0 := by
  rw [digCode_zero]
  unfold hdrP
  refine ⟨fun d hd => ?_, nodup_some A 10 (by omega) k (by omega)⟩
  obtain ⟨i, _, rfl⟩ := List.mem_map.1 hd
  exact someL_length _ _
theorem hdrOf_ok (A B C : Int) : hdrCode (hdrOf A B C) = 0 := by
  obtain ⟨pa1, pa2⟩ := pickedZ_range A 4 (by omega)
  obtain ⟨pb1, pb2⟩ := pickedZ_range B 9 (by omega)
  obtain ⟨pc1, pc2⟩ := pickedZ_range C 4 (by omega)
  obtain ⟨pd1, pd2⟩ := pickedZ_range C 2 (by omega)
  unfold hdrCode
  have h1 : nodeOk (hdrOf A B C).a = true := by show nodeOk (pickedZ A 4) = true; unfold nodeOk; simp; omega
  have h2 : countOk (hdrOf A B C).r = true := by show countOk (1 + pickedZ B 9) = true; unfold countOk; simp; omega
  have h3 : (hdrOf A B C).bs.length = (pickedZ C 4).toNat := hdrB_len _ _
  have h5 : digCode (hdrOf A B C).bs = 0 := dig_hdrB _ _ (by omega)
  have h6 : digCode (hdrOf A B C).ps = 0 := by
    show digCode (if 1 < 1 + pickedZ B 9 then hdrP A (3 + pickedZ C 2).toNat else []) = 0
    split
    · exact dig_hdrP _ _ (by omega)
    · rfl
  rw [if_neg (by simp [h1, h2])]
  by_cases hr : 1 < 1 + pickedZ B 9
  · have h4 : (hdrOf A B C).ps.length = (3 + pickedZ C 2).toNat := by
      show (if 1 < 1 + pickedZ B 9 then hdrP A (3 + pickedZ C 2).toNat else []).length = _
      rw [if_pos hr, hdrP_len]
    rw [if_neg (by rw [h3, h4]; omega), if_neg (by simp [h5]), if_neg (by simp [h6]), if_neg]
    rw [h4]
    show ¬ ((1 + pickedZ B 9 = 1 ∧ _) ∨ (1 < 1 + pickedZ B 9 ∧ _))
    omega
  · have h4 : (hdrOf A B C).ps = [] := by
      show (if 1 < 1 + pickedZ B 9 then hdrP A (3 + pickedZ C 2).toNat else []) = _
      rw [if_neg hr]
    rw [if_neg (by rw [h3, h4]; simp; omega), if_neg (by simp [h5]), if_neg (by simp [h6]), if_neg]
    rw [h4]
    show ¬ ((1 + pickedZ B 9 = 1 ∧ _) ∨ (1 < 1 + pickedZ B 9 ∧ _))
    simp; omega
theorem voters_cases (C : Int) : votersL C ∈ [[1, 2, 3], [0, 2, 3], [0, 1, 3], [0, 1, 2], [0, 1, 2, 3]] := by
  obtain ⟨h0, h1⟩ := pickedZ_range C 5 (by omega)
  unfold votersL
  rcases vot_cases _ h0 h1 with e | e | e | e | e <;> rw [e] <;> decide
theorem crt_of_hdr {h : Hdr} {vs : List Int} (h0 : hdrCode h = 0) : crtCode ⟨h, vs⟩ = if 4 < vs.length then 1 else if votGo none vs ≠ 0 then votGo none vs else if vs.length < 3 then 10 else 0 := by
  unfold crtCode; rw [if_neg (by simp [h0])]
theorem crtOf_ok (A B C : Int) : crtCode ⟨hdrOf A B C, votersL C⟩ = 0 := by
  rw [crt_of_hdr (hdrOf_ok A B C)]
  have := voters_cases C
  generalize votersL C = l at *
  simp only [List.mem_cons, List.not_mem_nil, or_false] at this
  rcases this with rfl | rfl | rfl | rfl | rfl <;> decide
theorem voters_len3 (C : Int) : 3 ≤ (votersL C).length := by
  have := voters_cases C
  generalize votersL C = l at *
  simp only [List.mem_cons, List.not_mem_nil, or_false] at this
  rcases this with rfl | rfl | rfl | rfl | rfl <;> decide
theorem voters_len4 (C : Int) : (votersL C).length ≤ 4 := by
  have := voters_cases C
  generalize votersL C = l at *
  simp only [List.mem_cons, List.not_mem_nil, or_false] at this
  rcases this with rfl | rfl | rfl | rfl | rfl <;> decide
/-- The four faults of voters. -/
theorem crt_few (A B C : Int) : crtCode ⟨hdrOf A B C, (votersL C).take 2⟩ = 10 := by
  rw [crt_of_hdr (hdrOf_ok A B C)]
  have := voters_cases C
  generalize votersL C = l at *
  simp only [List.mem_cons, List.not_mem_nil, or_false] at this
  rcases this with rfl | rfl | rfl | rfl | rfl <;> decide
theorem crt_order (A B C : Int) (h : 0 < (votersL C).length) : crtCode ⟨hdrOf A B C, (votersL C).set 1 (votersL C)[0]⟩ = 9 := by
  rw [crt_of_hdr (hdrOf_ok A B C)]
  have := voters_cases C
  generalize votersL C = l at *
  simp only [List.mem_cons, List.not_mem_nil, or_false] at this
  rcases this with rfl | rfl | rfl | rfl | rfl <;> (simp only [List.getElem_cons_zero]; rfl)
theorem crt_range (A B C : Int) : crtCode ⟨hdrOf A B C, (votersL C).set 0 (-1)⟩ = 2 := by
  rw [crt_of_hdr (hdrOf_ok A B C)]
  have := voters_cases C
  generalize votersL C = l at *
  simp only [List.mem_cons, List.not_mem_nil, or_false] at this
  rcases this with rfl | rfl | rfl | rfl | rfl <;> decide
theorem crt_size (A B C : Int) : crtCode ⟨hdrOf A B C, [0, 1, 2, 3, 3]⟩ = 1 := by
  rw [crt_of_hdr (hdrOf_ok A B C)]
  decide
theorem RdS.setElt {α : Type} {f : α → Value} {G : Nat → Prop} {w : World} {l : List α} {b o n cap : Nat} (h : RdS (flat f) G w (.slice (some ⟨b, o, none⟩) n cap) l) (k : Nat) (x : α) : RdS (flat f) G (w.setCell ⟨b, o + k, none⟩ (f x)) (.slice (some ⟨b, o, none⟩) n cap) (l.set k x) := by
  obtain ⟨h0, h1, h2, h3⟩ := h.len
  refine ⟨_, cap, by rw [List.length_set, h0], by simp; omega, h2, fun h => by simp at h, fun j y hy => ?_⟩
  have hj : j < l.length := by
    rcases Nat.lt_or_ge j l.length with h | h
    · exact h
    · rw [List.getElem?_eq_none (by simpa using h)] at hy; simp at hy
  obtain ⟨b', o', ha, hg, hc⟩ := h.cell j hj
  simp only [Option.some.injEq, Addr.mk.injEq, and_true] at ha
  obtain ⟨rfl, rfl⟩ := ha
  refine ⟨b, o, [f y], rfl, hg, fun t c ht => ?_, rfl⟩
  match t, ht with
  | 0, ht =>
    simp at ht; subst ht
    show (w.setCell ⟨b, o + k, none⟩ (f x)).cell? ⟨b, o + (j * 1 + 0), none⟩ = _
    simp only [Nat.mul_one, Nat.add_zero]
    by_cases e : k = j
    · subst e
      rw [List.getElem?_set_self hj] at hy
      obtain rfl := Option.some.inj hy
      exact World.cell?_setCell_same _ _ _ hc
    · rw [List.getElem?_set_ne e, List.getElem?_eq_getElem hj] at hy
      obtain rfl := Option.some.inj hy
      rw [World.cell?_setCell_other _ _ _ _ (by intro h; injection h with _ h; omega)]
      exact hc
end Go.Proofs.YtmijiclocadimaaGreatDoor
