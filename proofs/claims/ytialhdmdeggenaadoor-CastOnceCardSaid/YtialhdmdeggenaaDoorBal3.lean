/- ballot.Voted: what it computes; what a table of raw numbers has. -/
import Derived.Test.YtialhdmdeggenaaDoorTable
set_option linter.unusedVariables false
set_option linter.unusedSimpArgs false
attribute [local go_sem ↓] Go.wp_at_zero Go.wp_at_succ
namespace Go.Proofs.YtialhdmdeggenaaDoor
open Go Go.RowKit

def slotZ : Slt := ⟨0, 0, []⟩
def votedC (l : List Slt) (a r : Int) : Int := if balCode l ≠ 0 then balCode l else if 0 ≤ idxP (isAR a r) l then 0 else 8
def votedD (l : List Slt) (a r : Int) : Bytes := if votedC l a r = 0 then (l.getD (idxP (isAR a r) l).toNat slotZ).d else []
set_option maxRecDepth 100000 in
set_option maxHeartbeats 2000000 in
theorem voted_any {G : Nat → Prop} {l : List Slt} (a r : Int) (v : Value) (w : World) (h : RdS RSlot G w v l) :
    Calls Tryd.prog 22 #[v, .int .i64 a, .int .i64 r] w fun e w' => ∃ v', e = .returned (.tuple #[v', .int .i64 (votedC l a r)]) ∧ RdB (fun b => w.heap.size ≤ b) w' v' (votedD l a r) ∧ Below w.heap.size w w' := by
  obtain ⟨ad, cap, rfl, hcv, hcm⟩ := h.form
  unfold maxLen at hcm
  have HV := Lib.hid h
  have HVD := Lib.hid (show votedD l a r = if votedC l a r = 0 then (l.getD (idxP (isAR a r) l).toNat slotZ).d else [] from rfl)
  clear h
  by_cases h1 : balCode l = 0
  · have H1 := Lib.hid h1
    by_cases h2 : 0 ≤ idxP (isAR a r) l
    · obtain ⟨j, hj, hij, -, -⟩ := idxP_at h2
      have HC := Lib.hid (show votedC l a r = 0 by unfold votedC; rw [if_neg (by simp [h1]), if_pos h2])
      have HD := Lib.hid (show votedD l a r = l[j].d by rw [HVD.out, if_pos HC.out, hij]; simp [hj])
      have HIJ := Lib.hid hij
      have h32 := (balOk_len h1).2 _ (List.getElem_mem hj)
      have H32 := Lib.hid h32
      have i0 : (0 : Int) ≤ (j : Int) := by omega
      have i1 : (j : Int) < (l.length : Int) := by omega
      have i2 : ¬ (j : Int) < 0 := by omega
      clear h1 h2 hij h32
      go_enter Tryd.func22, Tryd.ntmps22
      go_wp2_with fail
      refine (bcheck_any _ _ HV.out).mono ?_
      rintro e w1 ⟨rfl, hb1⟩
      rw [H1.out]
      have HB1 := Lib.hid hb1
      have HV1 := Lib.hid (HV.out.below hb1 (fun _ h => h))
      clear hb1
      go_wp2_with fail
      refine (find_any a r _ w1 HV1.out).mono ?_
      rintro e w2 ⟨rfl, hb2⟩
      rw [HIJ.out]
      have HB2 := Lib.hid (HB1.out.trans (hb2.mono HB1.out.size))
      have HV2 := Lib.hid (HV1.out.below hb2 (fun _ h => h))
      obtain ⟨b, o, vx, rfl, -, e0, e1, e2, hd⟩ := HV2.out.slot j hj
      obtain ⟨adx, capx, rfl, -, -⟩ := hd.form
      have HD2 := Lib.hid hd
      clear hb2 hd
      go_wp2_with fail
      refine (cloneB_any (l := l[j].d) _ w2 HD2.out (by rw [H32.out]; omega)).mono ?_
      rintro e w3 ⟨v3, rfl, hown, hb3⟩
      have HO3 := Lib.hid hown
      have HB3 := Lib.hid (HB2.out.trans (hb3.mono HB2.out.size))
      clear hown hb3
      go_wp2
      refine bodyPost_ret (v := .tuple #[v3, .int .i64 0]) (by simp [results, Tryd.results22, go_sem]) rfl ⟨v3, by rw [HC.out], ?_, HB3.out⟩
      rw [HD.out]
      exact RdS.of_owns HO3.out (fun b hb => Nat.le_trans HB2.out.size hb)
    · have hij := idxP_neg (by omega : idxP (isAR a r) l < 0)
      have HC := Lib.hid (show votedC l a r = 8 by unfold votedC; rw [if_neg (by simp [h1]), if_neg h2])
      have HD := Lib.hid (show votedD l a r = [] by rw [HVD.out, if_neg (by rw [HC.out]; decide)])
      have HIJ := Lib.hid hij
      clear h1 h2 hij
      go_enter Tryd.func22, Tryd.ntmps22
      go_wp2_with fail
      refine (bcheck_any _ _ HV.out).mono ?_
      rintro e w1 ⟨rfl, hb1⟩
      rw [H1.out]
      have HB1 := Lib.hid hb1
      have HV1 := Lib.hid (HV.out.below hb1 (fun _ h => h))
      clear hb1
      go_wp2_with fail
      refine (find_any a r _ w1 HV1.out).mono ?_
      rintro e w2 ⟨rfl, hb2⟩
      rw [HIJ.out]
      have HB2 := Lib.hid (HB1.out.trans (hb2.mono HB1.out.size))
      clear hb2
      go_wp2
      refine bodyPost_ret (v := .tuple #[.slice none 0 0, .int .i64 8]) (by simp [results, Tryd.results22, go_sem]) rfl ⟨.slice none 0 0, by rw [HC.out], by rw [HD.out]; exact RdS.nil _ _ _, HB2.out⟩
  · have hne : (balCode l != 0) = true := by simpa using h1
    have HC := Lib.hid (show votedC l a r = balCode l by unfold votedC; rw [if_pos h1])
    have HD := Lib.hid (show votedD l a r = [] by rw [HVD.out, if_neg (by rw [HC.out]; exact h1)])
    clear h1
    go_enter Tryd.func22, Tryd.ntmps22
    go_wp2_with fail
    refine (bcheck_any _ _ HV.out).mono ?_
    rintro e w1 ⟨rfl, hb1⟩
    have HB1 := Lib.hid hb1
    clear hb1
    go_wp2
    refine bodyPost_ret (v := .tuple #[.slice none 0 0, .int .i64 (balCode l)]) (by simp [results, Tryd.results22, go_sem]) rfl ⟨.slice none 0 0, by rw [HC.out], by rw [HD.out]; exact RdS.nil _ _ _, HB1.out⟩
/-! ### The plain laws -/
theorem idxP_append_hit {α : Type} {p : α → Bool} {l m : List α} (h : 0 ≤ idxP p l) : idxP p (l ++ m) = idxP p l := by
  obtain ⟨k, hk, he, hp, hno⟩ := idxP_at h
  rw [he]
  refine idxP_hit (k := k) (by simp; omega) (fun j hj x hx => hno j hj x ?_) (by rw [List.getElem_append_left hk]; exact hp)
  rw [List.getElem?_append_left (by omega)] at hx; exact hx
theorem idxP_snoc_new {α : Type} {p : α → Bool} {l m : List α} {x : α} (h : ¬ 0 ≤ idxP p l) (hx : p x = true) : idxP p (l ++ x :: m) = l.length := by
  have hno : ∀ y ∈ l, p y = false := fun y hy => by
    cases hp : p y
    · rfl
    · exact absurd (idxP_ge.2 ⟨y, hy, hp⟩) h
  refine idxP_hit (k := l.length) (by simp) (fun j hj y hy => ?_) (by simp [hx])
  rw [List.getElem?_append_left hj] at hy
  exact hno y (List.mem_of_getElem? hy)
theorem idxP_snoc_other {α : Type} {p : α → Bool} {l : List α} {x : α} (hx : p x = false) : idxP p (l ++ [x]) = idxP p l := by
  by_cases h : 0 ≤ idxP p l
  · exact idxP_append_hit h
  · rw [idxP_neg (by omega : idxP p l < 0)]
    refine idxP_miss (fun j hj y hy => ?_)
    rcases List.mem_append.1 (List.mem_of_getElem? hy) with hm | hm
    · cases hp : p y
      · rfl
      · exact absurd (idxP_ge.2 ⟨y, hm, hp⟩) h
    · rw [List.mem_singleton.1 hm]; exact hx
/-- What is added to a table that may be and is not full. -/
theorem tabAdd_eq {t : List Slt} {r : RawD} (h : balCode t = 0) (hl : t.length < 400) : tabAdd t r = if 0 ≤ idxP (isAR (hdrR r).a (hdrR r).r) t then t else t ++ [voteOf (hdrR r)] := by
  have hc : castCode t (hdrR r) = castC t (hdrR r) := by unfold castCode; rw [if_neg (by simp [h]), if_neg (by simp [hdrR_ok])]
  unfold tabAdd castTab castL
  by_cases hi : 0 ≤ idxP (isAR (hdrR r).a (hdrR r).r) t
  · rw [if_pos hi]
    split <;> rfl
  · have h0 : castC t (hdrR r) = 0 := by unfold castC; rw [if_neg hi, if_neg (by omega)]
    rw [if_neg hi, hc, if_pos h0, if_pos h0]
theorem tabFold_le : ∀ (l : List RawD) (t : List Slt), (l.foldl tabAdd t).length ≤ t.length + l.length
  | [], _ => by simp
  | r :: l, t => by
    rw [List.foldl_cons]
    have h1 := tabFold_le l (tabAdd t r)
    have h2 : (tabAdd t r).length ≤ t.length + 1 := by
      unfold tabAdd castTab castL
      by_cases hc : castCode t (hdrR r) = 0
      · rw [if_pos hc, if_pos hc]
        by_cases hi : 0 ≤ idxP (isAR (hdrR r).a (hdrR r).r) t
        · rw [if_pos hi]; omega
        · rw [if_neg hi]; simp
      · rw [if_neg hc]; omega
    simp only [List.length_cons]; omega
theorem tableL_len (l : List RawD) : (tableL l).length ≤ 30 := by
  have := tabFold_le (l.take 30) []
  unfold tableL
  simp only [List.length_nil, List.length_take] at this
  omega
theorem tabFold_mem : ∀ (l : List RawD) (t : List Slt) (x : Slt), balCode t = 0 → t.length + l.length ≤ 400 → x ∈ l.foldl tabAdd t → x ∈ t ∨ ∃ r, x = voteOf (hdrR r)
  | [], _, _, _, _, h => .inl h
  | r :: l, t, x, hb, hl, h => by
    rw [List.foldl_cons] at h
    simp only [List.length_cons] at hl
    have e := tabAdd_eq (r := r) hb (by omega)
    have hlen : (tabAdd t r).length ≤ t.length + 1 := by rw [e]; split <;> simp
    rcases tabFold_mem l _ x (tabAdd_ok hb) (by omega) h with h | h
    · rw [e] at h
      split at h
      · exact .inl h
      · rcases List.mem_append.1 h with h | h
        · exact .inl h
        · exact .inr ⟨r, List.mem_singleton.1 h⟩
    · exact .inr h
theorem tableL_mem {l : List RawD} {x : Slt} (h : x ∈ tableL l) : ∃ r, x = voteOf (hdrR r) := by
  rcases tabFold_mem (l.take 30) [] x (by decide) (by simp; omega) h with h | h
  · simp at h
  · exact h
theorem hdrR_round (r : RawD) : 1 ≤ (hdrR r).r ∧ (hdrR r).r ≤ 9 := by
  obtain ⟨h1, h2⟩ := pickedZ_range r.b 9 (by omega)
  show 1 ≤ 1 + pickedZ r.b 9 ∧ 1 + pickedZ r.b 9 ≤ 9
  omega
theorem voted_none {l : List RawD} {a r : Int} (hr : r < 1 ∨ 9 < r) : votedC (tableL l) a r = 8 := by
  unfold votedC
  rw [if_neg (by simp [tableL_ok]), if_neg]
  intro h
  obtain ⟨x, hx, hp⟩ := idxP_ge.1 h
  obtain ⟨q, rfl⟩ := tableL_mem hx
  have := hdrR_round q
  have hp2 : (hdrR q).r = r := (of_decide_eq_true (p := (hdrR q).a = a ∧ (hdrR q).r = r) hp).2
  omega
end Go.Proofs.YtialhdmdeggenaaDoor
