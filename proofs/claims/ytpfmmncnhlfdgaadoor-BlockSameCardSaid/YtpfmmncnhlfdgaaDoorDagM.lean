/- dag: rounds, and the certificates of a round: plain laws. -/
import Derived.Test.YtpfmmncnhlfdgaaDoorDag6
set_option linter.unusedVariables false
set_option linter.unusedSimpArgs false
namespace Go.Proofs.YtpfmmncnhlfdgaaDoor
open Go Go.RowKit

/-- The certificates of a round, in their order. -/
def roundOf (l : List Crt) (r : Int) : List Crt := l.filter fun c => decide (c.h.r = r)
theorem mem_roundOf {l : List Crt} {r : Int} {c : Crt} : c ∈ roundOf l r ↔ c ∈ l ∧ c.h.r = r := by simp [roundOf]
theorem roundOf_snoc (l : List Crt) (c : Crt) (r : Int) : roundOf (l ++ [c]) r = if c.h.r = r then roundOf l r ++ [c] else roundOf l r := by
  unfold roundOf
  rw [List.filter_append]
  by_cases h : c.h.r = r <;> simp [h]
def below (l : List Crt) (r : Int) : List Crt := l.filter fun c => decide (1 ≤ c.h.r ∧ c.h.r < r)
theorem below_succ (l : List Crt) {r : Int} (hr : 1 ≤ r) : (below l (r + 1)).length = (below l r).length + (roundOf l r).length := by
  unfold below roundOf
  induction l with
  | nil => rfl
  | cons c t ih =>
    simp only [List.filter_cons]
    by_cases h1 : c.h.r = r
    · have a1 : decide (1 ≤ c.h.r ∧ c.h.r < r + 1) = true := decide_eq_true (by omega)
      have a2 : decide (1 ≤ c.h.r ∧ c.h.r < r) = false := decide_eq_false (by omega)
      have a3 : decide (c.h.r = r) = true := decide_eq_true h1
      rw [a1, a2, a3]
      simp only [if_true, Bool.false_eq_true, if_false, List.length_cons]
      omega
    · have a3 : decide (c.h.r = r) = false := decide_eq_false h1
      by_cases h2 : 1 ≤ c.h.r ∧ c.h.r < r
      · have a1 : decide (1 ≤ c.h.r ∧ c.h.r < r + 1) = true := decide_eq_true (by omega)
        have a2 : decide (1 ≤ c.h.r ∧ c.h.r < r) = true := decide_eq_true h2
        rw [a1, a2, a3]
        simp only [if_true, Bool.false_eq_true, if_false, List.length_cons]
        omega
      · have a1 : decide (1 ≤ c.h.r ∧ c.h.r < r + 1) = false := decide_eq_false (by omega)
        have a2 : decide (1 ≤ c.h.r ∧ c.h.r < r) = false := decide_eq_false h2
        rw [a1, a2, a3]
        simp only [Bool.false_eq_true, if_false]
        omega
/-- All rounds ahead of r are over. -/
def over (l : List Crt) (r : Int) : Prop := 1 ≤ r ∧ ∀ k : Int, 1 ≤ k → k < r → 3 ≤ (roundOf l k).length
theorem over_one (l : List Crt) : over l 1 := ⟨by omega, fun k h1 h2 => by omega⟩
theorem over_succ {l : List Crt} {r : Int} (h : over l r) (h3 : 3 ≤ (roundOf l r).length) : over l (r + 1) := by
  refine ⟨by have := h.1; omega, fun k h1 h2 => ?_⟩
  by_cases hk : k = r
  · subst hk; exact h3
  · exact h.2 k h1 (by omega)
theorem over_below {l : List Crt} : ∀ n : Nat, over l (1 + n) → 3 * n ≤ (below l (1 + n)).length
  | 0, _ => by omega
  | n + 1, h => by
    have h0 : over l (1 + (n : Int)) := ⟨by omega, fun k h1 h2 => h.2 k h1 (by omega)⟩
    have ih := over_below n h0
    have e : (1 : Int) + ((n + 1 : Nat) : Int) = (1 + (n : Int)) + 1 := by omega
    rw [e, below_succ l (by omega)]
    have := h.2 (1 + (n : Int)) (by omega) (by omega)
    omega
theorem over_le {l : List Crt} {r : Int} (h : over l r) : 3 * (r - 1) ≤ l.length := by
  obtain ⟨n, rfl⟩ : ∃ n : Nat, r = 1 + (n : Int) := ⟨(r - 1).toNat, by have := h.1; omega⟩
  have h1 := over_below n h
  have h2 : (below l (1 + (n : Int))).length ≤ l.length := List.length_filter_le _ _
  omega
def roundGo (l : List Crt) : Nat → Int → Int
  | 0, r => r
  | n + 1, r => if 3 ≤ (roundOf l r).length then roundGo l n (r + 1) else r
/-- The round that comes next. -/
def roundL (l : List Crt) : Int := roundGo l (l.length + 1) 1
theorem roundGo_over {l : List Crt} : ∀ (n : Nat) (r : Int), over l r → over l (roundGo l n r)
  | 0, r, h => h
  | n + 1, r, h => by
    unfold roundGo
    split
    · rename_i h3; exact roundGo_over n _ (over_succ h h3)
    · exact h
theorem roundGo_stop {l : List Crt} : ∀ (n : Nat) (r : Int), over l r → (l.length : Int) < r - 1 + n → (roundOf l (roundGo l n r)).length < 3
  | 0, r, h, hn => by have := over_le h; have := h.1; omega
  | n + 1, r, h, hn => by
    unfold roundGo
    split
    · rename_i h3; exact roundGo_stop n _ (over_succ h h3) (by omega)
    · rename_i h3; omega
theorem roundL_over (l : List Crt) : over l (roundL l) := roundGo_over _ _ (over_one l)
theorem roundL_stop (l : List Crt) : (roundOf l (roundL l)).length < 3 := roundGo_stop _ _ (over_one l) (by omega)
theorem roundL_eq {l : List Crt} {r : Int} (h : over l r) (h3 : (roundOf l r).length < 3) : roundL l = r := by
  have h1 := roundL_over l
  have h2 := roundL_stop l
  rcases Int.lt_trichotomy (roundL l) r with h4 | h4 | h4
  · have := h.2 _ h1.1 h4; omega
  · exact h4
  · have := h1.2 _ h.1 h4; omega
theorem roundL_le (l : List Crt) : 3 * (roundL l - 1) ≤ l.length := over_le (roundL_over l)
theorem roundL_pos (l : List Crt) : 1 ≤ roundL l := (roundL_over l).1
theorem roundL_nil : roundL [] = 1 := roundL_eq (over_one _) (by simp [roundOf])
/-- The certificates of a round, by their authors. -/
def ofL (l : List Crt) (r : Int) : List Crt := ([0, 1, 2, 3] : List Int).filterMap fun a => (roundOf l r).find? fun c => decide (c.h.a = a)
/-- Each author and round once, by nodes that there are. -/
def solo (l : List Crt) : Prop := (∀ c ∈ l, 0 ≤ c.h.a ∧ c.h.a < 4) ∧ l.Pairwise fun x y => ¬ (x.h.a = y.h.a ∧ x.h.r = y.h.r)
theorem solo_eq {l : List Crt} (h : solo l) {x y : Crt} (hx : x ∈ l) (hy : y ∈ l) (ha : x.h.a = y.h.a) (hr : x.h.r = y.h.r) : x = y := by
  obtain ⟨-, hp⟩ := h
  induction l with
  | nil => simp at hx
  | cons c t ih =>
    rw [List.pairwise_cons] at hp
    rcases List.mem_cons.1 hx with rfl | hx'
    · rcases List.mem_cons.1 hy with rfl | hy'
      · rfl
      · exact absurd ⟨ha, hr⟩ (hp.1 y hy')
    · rcases List.mem_cons.1 hy with rfl | hy'
      · exact absurd ⟨ha.symm, hr.symm⟩ (hp.1 x hx')
      · exact ih hx' hy' hp.2
theorem mem_ofL {l : List Crt} (h : solo l) {r : Int} {c : Crt} : c ∈ ofL l r ↔ c ∈ l ∧ c.h.r = r := by
  unfold ofL
  rw [List.mem_filterMap]
  constructor
  · rintro ⟨a, -, hf⟩
    exact mem_roundOf.1 (List.mem_of_find?_eq_some hf)
  · rintro ⟨hc, hr⟩
    have hm := mem_roundOf.2 ⟨hc, hr⟩
    refine ⟨c.h.a, ?_, ?_⟩
    · have := h.1 c hc
      simp only [List.mem_cons, List.not_mem_nil, or_false]; omega
    · rcases hq : (roundOf l r).find? fun x => decide (x.h.a = c.h.a) with _ | y
      · have := List.find?_eq_none.1 hq c hm
        simp at this
      · have h1 := List.find?_some hq
        have h2 := mem_roundOf.1 (List.mem_of_find?_eq_some hq)
        have e := solo_eq h h2.1 hc (by simpa using h1) (by rw [h2.2, hr])
        exact hq.trans (by rw [e])
theorem ofL_sorted (l : List Crt) (r : Int) : (ofL l r).Pairwise fun x y => x.h.a < y.h.a := by
  unfold ofL
  rw [List.pairwise_filterMap]
  refine List.Pairwise.imp (R := fun a b => a < b) ?_ (by decide)
  intro a b hab x hx y hy
  have h1 := List.find?_some hx
  have h2 := List.find?_some hy
  simp only [decide_eq_true_eq] at h1 h2
  omega
theorem pairwise_nodup {l : List Crt} (h : l.Pairwise fun x y => x.h.a < y.h.a) : l.Nodup := h.imp (fun {a b} hab e => by subst e; omega)
theorem solo_nodup {l : List Crt} (h : solo l) : l.Nodup := h.2.imp (fun {a b} hab e => by subst e; exact hab ⟨rfl, rfl⟩)
theorem ofL_perm {l : List Crt} (h : solo l) (r : Int) : (ofL l r).Perm (roundOf l r) := by
  refine (List.perm_ext_iff_of_nodup (pairwise_nodup (ofL_sorted l r)) ((solo_nodup h).filter _)).2 fun c => ?_
  rw [mem_ofL h, ← mem_roundOf]; rfl
theorem ofL_len {l : List Crt} (h : solo l) (r : Int) : (ofL l r).length = (roundOf l r).length := (ofL_perm h r).length_eq
theorem ofL_of {l L : List Crt} {r : Int} (h : solo l) (hp : L.Perm (roundOf l r)) (hs : L.Pairwise fun x y => x.h.a ≤ y.h.a) : L = ofL l r := by
  refine List.Perm.eq_of_pairwise (le := fun x y : Crt => x.h.a ≤ y.h.a) ?_ hs ((ofL_sorted l r).imp fun hab => by omega) (hp.trans (ofL_perm h r).symm)
  intro a b ha hb h1 h2
  have ha' := mem_roundOf.1 (hp.mem_iff.1 ha)
  have hb' := (mem_ofL h).1 hb
  exact solo_eq h ha'.1 hb'.1 (by omega) (by rw [ha'.2, hb'.2])
theorem ofL_len4 {l : List Crt} (r : Int) : (ofL l r).length ≤ 4 := List.length_filterMap_le _ _
theorem dagOk_solo {l : List Crt} (h : dagOk l = true) : solo l := by
  obtain ⟨h1, h2, h3⟩ := dagOk_iff.1 h
  refine ⟨fun c hc => ?_, ?_⟩
  · have h0 := (hdr_partsD (crt_partsP (h2 c hc)).1).1
    unfold nodeOk at h0
    simpa using h0
  · rw [List.pairwise_iff_getElem]
    intro i j hi hj hij hq
    have hf := h3 j hj
    unfold fits at hf
    simp only [Bool.and_eq_true, Bool.not_eq_true'] at hf
    have ht := hf.2.2
    have : takenB (l.take j) l[j].h = true := by
      unfold takenB
      rw [List.any_eq_true]
      refine ⟨l[i], List.mem_take_iff_getElem.2 ⟨i, by omega, rfl⟩, ?_⟩
      unfold isKey
      exact decide_eq_true hq
    rw [this] at ht
    simp at ht
end Go.Proofs.YtpfmmncnhlfdgaaDoor
