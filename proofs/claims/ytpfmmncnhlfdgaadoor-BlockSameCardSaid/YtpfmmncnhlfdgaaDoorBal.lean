/- ballot: find, Check: what they compute. -/
import Derived.Test.YtpfmmncnhlfdgaaDoorChk
import Derived.Test.YtpfmmncnhlfdgaaDoorBas
import Derived.Deep.RegionLaw
set_option linter.unusedVariables false
set_option linter.unusedSimpArgs false
attribute [local go_sem ↓] Go.wp_at_zero Go.wp_at_succ
namespace Go.Proofs.YtpfmmncnhlfdgaaDoor
open Go Go.RowKit

def RSlot : Rel Slt where
  size := 3
  rd := fun G w cs x => ∃ v, cs = [.int .i64 x.a, .int .i64 x.r, v] ∧ RdB G w v x.d
  len := fun ⟨_, h, _⟩ => by simp [h]
  keep := fun ⟨v, h, hr⟩ hk hg => ⟨v, h, hr.keep hk hg⟩
  low := fun ⟨v, h, hr⟩ => ⟨v, h, hr.low (by decide)⟩
theorem RdS.slot {G : Nat → Prop} {w : World} {l : List Slt} {ad : Option Addr} {n cap : Nat} (h : RdS RSlot G w (.slice ad n cap) l) (j : Nat) (hj : j < l.length) :
    ∃ b o v, ad = some ⟨b, o, none⟩ ∧ G b ∧ w.cell? ⟨b, o + j * 3, none⟩ = some (.int .i64 l[j].a) ∧ w.cell? ⟨b, o + j * 3 + 1, none⟩ = some (.int .i64 l[j].r) ∧ w.cell? ⟨b, o + j * 3 + 2, none⟩ = some v ∧ RdB G w v l[j].d := by
  obtain ⟨b, o, cs, ha, hb, hc, v, rfl, hr⟩ := h.at j hj
  exact ⟨b, o, v, ha, hb, hc 0 _ rfl, hc 1 _ rfl, hc 2 _ rfl, hr⟩
/-- The place of the first datum of a kind; -1: there is none. -/
def idxP {α : Type} (p : α → Bool) (l : List α) : Int := if l.findIdx p < l.length then (l.findIdx p : Int) else -1
theorem idxP_hit {α : Type} {p : α → Bool} {l : List α} {k : Nat} (hk : k < l.length) (hno : ∀ j, j < k → ∀ x, l[j]? = some x → p x = false) (h : p l[k] = true) : idxP p l = k := by
  have e : l.findIdx p = k := (List.findIdx_eq hk).2 ⟨h, fun j hj => hno j hj _ (by simp)⟩
  unfold idxP; rw [e, if_pos hk]
theorem idxP_miss {α : Type} {p : α → Bool} {l : List α} (hno : ∀ j, j < l.length → ∀ x, l[j]? = some x → p x = false) : idxP p l = -1 := by
  have e : l.findIdx p = l.length := List.findIdx_eq_length.2 fun x hx => by
    obtain ⟨j, hj, rfl⟩ := List.mem_iff_getElem.1 hx
    exact hno j hj _ (by simp [hj])
  unfold idxP; rw [e, if_neg (by omega)]
theorem idxP_ge {α : Type} {p : α → Bool} {l : List α} : (0 ≤ idxP p l) ↔ ∃ x ∈ l, p x = true := by
  unfold idxP
  constructor
  · intro h
    by_cases hl : l.findIdx p < l.length
    · exact ⟨_, List.getElem_mem hl, List.findIdx_getElem⟩
    · rw [if_neg hl] at h; omega
  · rintro ⟨x, hx, hp⟩
    rw [if_pos (List.findIdx_lt_length_of_exists ⟨x, hx, hp⟩)]; omega
theorem idxP_neg {α : Type} {p : α → Bool} {l : List α} (h : idxP p l < 0) : idxP p l = -1 := by
  unfold idxP at *; split at h <;> simp_all <;> omega
theorem idxP_at {α : Type} {p : α → Bool} {l : List α} (h : 0 ≤ idxP p l) : ∃ k, ∃ hk : k < l.length, idxP p l = k ∧ p l[k] = true ∧ ∀ j, j < k → ∀ x, l[j]? = some x → p x = false := by
  unfold idxP at *
  by_cases hl : l.findIdx p < l.length
  · refine ⟨l.findIdx p, hl, by rw [if_pos hl], List.findIdx_getElem, fun j hj x hx => ?_⟩
    have := List.not_of_lt_findIdx (p := p) (xs := l) (i := j) hj
    rw [List.getElem?_eq_getElem (by omega)] at hx
    simp only [Option.some.injEq] at hx
    rw [hx] at this; simpa using this
  · rw [if_neg hl] at h; omega

def isAR (a r : Int) (s : Slt) : Bool := decide (s.a = a ∧ s.r = r)
/-- May a table be? -/
def sltOk (s : Slt) : Bool := decide (sltCode s.a s.r s.d.length = 0)
def keyS (s : Slt) : Int × Int := (s.a, s.r)
def balTo (l : List Slt) (k : Nat) : Prop := (∀ x ∈ l.take k, sltOk x = true) ∧ ((l.take k).map keyS).Nodup
def balOk (l : List Slt) : Bool := decide (l.length ≤ 400 ∧ (∀ x ∈ l, sltOk x = true) ∧ (l.map keyS).Nodup)
def balCode (l : List Slt) : Int := if balOk l then 0 else 12
theorem balCode_or (l : List Slt) : balCode l = 0 ∨ balCode l = 12 := by unfold balCode; split <;> simp
theorem balTo_zero (l : List Slt) : balTo l 0 := by simp [balTo]
theorem key_in {l : List Slt} {s : Slt} : (∃ x ∈ l, isAR s.a s.r x = true) ↔ keyS s ∈ l.map keyS := by
  simp only [List.mem_map, isAR, keyS, decide_eq_true_eq, Prod.mk.injEq]
theorem balTo_succ {l : List Slt} {k : Nat} (hk : k < l.length) (h : balTo l k) (h1 : sltOk l[k] = true) (h2 : ¬ 0 ≤ idxP (isAR l[k].a l[k].r) (l.take k)) : balTo l (k + 1) := by
  unfold balTo at *
  rw [idxP_ge, key_in] at h2
  rw [List.take_succ_eq_append_getElem hk]
  refine ⟨fun t ht => ?_, ?_⟩
  · rcases List.mem_append.1 ht with ht | ht
    · exact h.1 t ht
    · simp at ht; subst ht; exact h1
  · rw [List.map_append, List.nodup_append]
    refine ⟨h.2, by simp, fun a ha b hb => ?_⟩
    simp only [List.map_cons, List.map_nil, List.mem_singleton] at hb
    subst hb; exact fun e => h2 (e ▸ ha)
theorem balCode_bad {l : List Slt} {k : Nat} (hk : k < l.length) (h1 : sltOk l[k] = false) : balCode l = 12 := by
  unfold balCode balOk; rw [if_neg]; simp only [decide_eq_true_eq]; rintro ⟨_, h, _⟩; have := h _ (List.getElem_mem hk); simp_all
theorem balCode_twice {l : List Slt} {k : Nat} (hk : k < l.length) (h1 : 0 ≤ idxP (isAR l[k].a l[k].r) (l.take k)) : balCode l = 12 := by
  unfold balCode balOk; rw [if_neg]; simp only [decide_eq_true_eq]; rintro ⟨_, _, h⟩
  rw [idxP_ge] at h1
  obtain ⟨x, hx, hp⟩ := h1
  obtain ⟨j, hj, e⟩ := List.mem_iff_getElem.1 hx
  simp at hj e
  have := List.nodup_iff_pairwise_ne.1 h
  have := List.pairwise_iff_getElem.1 this j k (by simp; omega) (by simpa using hk) (by omega)
  simp only [List.getElem_map] at this
  subst e
  simp only [isAR, decide_eq_true_eq] at hp
  exact this (by unfold keyS; rw [hp.1, hp.2])
theorem balCode_long {l : List Slt} (h : 400 < l.length) : balCode l = 12 := by
  unfold balCode balOk; rw [if_neg]; simp only [decide_eq_true_eq]; omega
theorem balCode_ok {l : List Slt} (h0 : l.length ≤ 400) (h : balTo l l.length) : balCode l = 0 := by
  unfold balCode balOk; rw [if_pos]
  simp only [decide_eq_true_eq]
  unfold balTo at h
  rw [List.take_length] at h
  exact ⟨h0, h⟩

end Go.Proofs.YtpfmmncnhlfdgaaDoor
