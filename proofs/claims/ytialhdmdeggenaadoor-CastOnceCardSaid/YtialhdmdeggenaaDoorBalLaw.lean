/- What a table of raw numbers has: the plain laws of TableAll, CastApart, CastOnce. -/
import Derived.Test.YtialhdmdeggenaaDoorBal3
set_option linter.unusedVariables false
set_option linter.unusedSimpArgs false
namespace Go.Proofs.YtialhdmdeggenaaDoor
open Go Go.RowKit

def tableTo (l : List RawD) (k : Nat) : List Slt := (l.take k).foldl tabAdd []
theorem tableTo_zero (l : List RawD) : tableTo l 0 = [] := rfl
theorem tableTo_ok (l : List RawD) (k : Nat) : balCode (tableTo l k) = 0 := tabFold_ok _ _ (by decide)
theorem tableTo_len (l : List RawD) (k : Nat) : (tableTo l k).length ≤ k := by
  have := tabFold_le (l.take k) []
  unfold tableTo
  simp only [List.length_nil, List.length_take] at this
  omega
def isNew (l : List RawD) (k : Nat) (r : RawD) : Bool := !decide (0 ≤ idxP (isAR (hdrR r).a (hdrR r).r) (tableTo l k))
theorem tableTo_succ {l : List RawD} {k : Nat} (hk : k < l.length) (h30 : k < 30) : tableTo l (k + 1) = if isNew l k l[k] = true then tableTo l k ++ [voteOf (hdrR l[k])] else tableTo l k := by
  have h := tableTo_len l k
  have e : tableTo l (k + 1) = tabAdd (tableTo l k) l[k] := by unfold tableTo; rw [List.take_succ_eq_append_getElem hk, List.foldl_append]; rfl
  rw [e, tabAdd_eq (tableTo_ok l k) (by omega)]
  unfold isNew
  by_cases hi : 0 ≤ idxP (isAR (hdrR l[k]).a (hdrR l[k]).r) (tableTo l k)
  · rw [if_pos hi, if_neg (by simp [hi])]
  · rw [if_neg hi, if_pos (by simp [hi])]
theorem tableL_to {l : List RawD} {k : Nat} (h : min l.length 30 = k) : tableL l = tableTo l k := by
  unfold tableL tableTo
  rcases Nat.le_total l.length 30 with hl | hl
  · rw [List.take_of_length_le hl, List.take_of_length_le (by omega)]
  · rw [show k = 30 by omega]
/-- Who is there: an author and a round of an elder one. -/
theorem table_key (l : List RawD) (a r : Int) : ∀ k, k ≤ l.length → k ≤ 30 → ((0 ≤ idxP (isAR a r) (tableTo l k)) ↔ ∃ j x, j < k ∧ l[j]? = some x ∧ (hdrR x).a = a ∧ (hdrR x).r = r)
  | 0, _, _ => by
    rw [tableTo_zero, idxP_ge]
    constructor
    · rintro ⟨x, hx, _⟩; simp at hx
    · rintro ⟨j, x, hj, _⟩; omega
  | k + 1, hk, h30 => by
    have ih := table_key l a r k (by omega) (by omega)
    rw [idxP_ge] at ih ⊢
    rw [tableTo_succ (by omega) (by omega)]
    constructor
    · rintro ⟨x, hx, hp⟩
      split at hx
      · rcases List.mem_append.1 hx with hx | hx
        · obtain ⟨j, y, hj, h1, h2⟩ := ih.1 ⟨x, hx, hp⟩
          exact ⟨j, y, by omega, h1, h2⟩
        · rw [List.mem_singleton.1 hx] at hp
          exact ⟨k, l[k]'(by omega), by omega, by simp, of_decide_eq_true (p := (hdrR (l[k]'(by omega))).a = a ∧ (hdrR (l[k]'(by omega))).r = r) hp⟩
      · obtain ⟨j, y, hj, h1, h2⟩ := ih.1 ⟨x, hx, hp⟩
        exact ⟨j, y, by omega, h1, h2⟩
    · rintro ⟨j, y, hj, h1, h2⟩
      rcases Nat.lt_or_ge j k with h | h
      · obtain ⟨x, hx, hp⟩ := ih.2 ⟨j, y, h, h1, h2⟩
        refine ⟨x, ?_, hp⟩
        split
        · exact List.mem_append.2 (.inl hx)
        · exact hx
      · obtain rfl : j = k := by omega
        rw [List.getElem?_eq_getElem (by omega)] at h1
        simp only [Option.some.injEq] at h1
        split
        · exact ⟨_, List.mem_append.2 (.inr (List.mem_singleton.2 rfl)), by rw [h1]; simp [isAR, voteOf, h2]⟩
        · rename_i hn
          unfold isNew at hn
          have : 0 ≤ idxP (isAR (hdrR l[j]).a (hdrR l[j]).r) (tableTo l j) := by simpa using hn
          rw [h1, h2.1, h2.2] at this
          exact idxP_ge.1 this
theorem tabFold_append : ∀ (l : List RawD) (t : List Slt), balCode t = 0 → t.length + l.length ≤ 400 → ∃ m, l.foldl tabAdd t = t ++ m
  | [], t, _, _ => ⟨[], by simp⟩
  | r :: l, t, hb, hl => by
    rw [List.foldl_cons]
    simp only [List.length_cons] at hl
    have e := tabAdd_eq (r := r) hb (by omega)
    have hlen : (tabAdd t r).length ≤ t.length + 1 := by rw [e]; split <;> simp
    obtain ⟨m, hm⟩ := tabFold_append l (tabAdd t r) (tabAdd_ok hb) (by omega)
    rw [hm, e]
    split
    · exact ⟨m, rfl⟩
    · exact ⟨voteOf (hdrR r) :: m, by simp⟩
theorem tableL_from {l : List RawD} {k : Nat} (hk : k ≤ l.length) (h30 : k ≤ 30) : ∃ m, tableL l = tableTo l k ++ m := by
  have e : l.take 30 = l.take k ++ (l.take 30).drop k := by
    have := (List.take_append_drop k (l.take 30)).symm
    rw [List.take_take, Nat.min_eq_left h30] at this
    exact this
  unfold tableL
  rw [e, List.foldl_append]
  have h1 := tableTo_len l k
  exact tabFold_append _ _ (tableTo_ok l k) (by unfold tableTo at h1; simp; omega)
/-- The first one of an author and a round has the vote. -/
theorem voted_first {l : List RawD} {k : Nat} (hk : k < l.length) (h30 : k < 30) (hn : isNew l k l[k] = true) : votedC (tableL l) (hdrR l[k]).a (hdrR l[k]).r = 0 ∧ votedD (tableL l) (hdrR l[k]).a (hdrR l[k]).r = hdrSum (hdrR l[k]) := by
  obtain ⟨m, hm⟩ := tableL_from (l := l) (k := k + 1) (by omega) (by omega)
  rw [tableTo_succ hk h30, if_pos hn, List.append_assoc, List.singleton_append] at hm
  have hi : ¬ 0 ≤ idxP (isAR (hdrR l[k]).a (hdrR l[k]).r) (tableTo l k) := by unfold isNew at hn; simpa using hn
  have hx := idxP_snoc_new (m := m) hi (show isAR (hdrR l[k]).a (hdrR l[k]).r (voteOf (hdrR l[k])) = true by simp [isAR, voteOf])
  rw [← hm] at hx
  have h0 : votedC (tableL l) (hdrR l[k]).a (hdrR l[k]).r = 0 := by unfold votedC; rw [if_neg (by simp [tableL_ok]), if_pos (by rw [hx]; omega)]
  refine ⟨h0, ?_⟩
  unfold votedD
  rw [if_pos h0, hx, hm]
  simp [voteOf]
theorem voted_nil (a r : Int) : votedC [] a r = 8 := by
  unfold votedC; rw [if_neg (by decide), if_neg (by simp [idxP])]
/-- A vote in a table of raw numbers. -/
theorem castCode_table (l : List RawD) (r : RawD) : castCode (tableL l) (hdrR r) = castC (tableL l) (hdrR r) := by
  unfold castCode; rw [if_neg (by simp [tableL_ok]), if_neg (by simp [hdrR_ok])]
theorem castC_or (l : List RawD) (r : RawD) : castC (tableL l) (hdrR r) = 0 ∨ castC (tableL l) (hdrR r) = 7 := by
  have := tableL_len l
  unfold castC
  split
  · split <;> simp
  · rw [if_neg (by omega)]; simp
/-- Votes for other authors and rounds do not meet. -/
theorem voted_apart {t : List Slt} {x y : Hdr} (h0 : castCode t x = 0) (hne : ¬ (x.a = y.a ∧ x.r = y.r)) : votedC (castTab t x) y.a y.r = votedC t y.a y.r ∧ votedD (castTab t x) y.a y.r = votedD t y.a y.r := by
  obtain ⟨hb, hx, hc⟩ := castCode_zero h0
  have hok := castTab_ok h0
  have ht : castTab t x = castL t x := by unfold castTab; rw [if_pos h0]
  rw [ht] at hok ⊢
  unfold castL at hok ⊢
  split
  · exact ⟨rfl, rfl⟩
  · rename_i hi
    rw [if_neg hi] at hok
    have hp : isAR y.a y.r (voteOf x) = false := decide_eq_false (p := x.a = y.a ∧ x.r = y.r) hne
    have e := idxP_snoc_other (l := t) hp
    have hv : votedC (t ++ [voteOf x]) y.a y.r = votedC t y.a y.r := by
      unfold votedC; rw [e, if_neg (by simp [hok]), if_neg (c := balCode t ≠ 0) (by simp [hb])]
    refine ⟨hv, ?_⟩
    unfold votedD
    rw [hv, e]
    by_cases h8 : votedC t y.a y.r = 0
    · rw [if_pos h8, if_pos h8]
      have hi8 : 0 ≤ idxP (isAR y.a y.r) t := by
        unfold votedC at h8; rw [if_neg (by simp [hb])] at h8
        by_cases q : 0 ≤ idxP (isAR y.a y.r) t
        · exact q
        · rw [if_neg q] at h8; simp at h8
      obtain ⟨j, hj, hij, -, -⟩ := idxP_at hi8
      rw [hij]
      simp [hj, List.getElem?_append_left hj]
    · rw [if_neg h8, if_neg h8]
theorem castTab_pos {t : List Slt} {x : Hdr} (h0 : castCode t x = 0) : 0 < (castTab t x).length := by
  unfold castTab; rw [if_pos h0]
  unfold castL
  split
  · rename_i hi
    obtain ⟨j, hj, -⟩ := idxP_at hi
    omega
  · simp
end Go.Proofs.YtialhdmdeggenaaDoor
