/- What Insert tells of certificates of round 1: plain laws. -/
import Derived.Test.YtpfmmncnhlfdgaaDoorDag10
set_option linter.unusedVariables false
set_option linter.unusedSimpArgs false
attribute [local go_sem ↓] Go.wp_at_zero Go.wp_at_succ
namespace Go.Proofs.YtpfmmncnhlfdgaaDoor
open Go Go.RowKit

theorem crt_one {a : Int} {bs : List Bytes} {vs : List Int} (ha : 0 ≤ a ∧ a < 4) (hb : bs.length ≤ 3) (hd : digCode bs = 0) (hv : votGo none vs = 0) (h3 : 3 ≤ vs.length) (h4 : vs.length ≤ 4) : crtCode ⟨⟨a, 1, bs, []⟩, vs⟩ = 0 := by
  have hn : nodeOk a = true := by unfold nodeOk; exact decide_eq_true ha
  have hc : countOk 1 = true := by decide
  have hh : hdrCode ⟨a, 1, bs, []⟩ = 0 := by
    unfold hdrCode
    rw [if_neg (by simp [hn, hc]), if_neg (by simp; omega), if_neg (by simp [hd]), if_neg (by simp [digCode, digGo]), if_neg (by simp)]
  unfold crtCode
  rw [if_neg (by simp [hh]), if_neg (by simp; omega), if_neg (by simp [hv]), if_neg (by simp; omega)]
theorem ins_one {l : List Crt} {c : Crt} (hok : dagOk l = true) (hc : crtCode c = 0) (hp : c.h.ps = []) (ht : takenB l c.h = false) (hl : l.length < 400) : insCode l c = 0 :=
  ins_7 (dagCode_zero.2 hok) hc ht (by rw [hp]; rfl) (by rw [hp]; rfl) (by omega)
theorem taken_mem {l : List Crt} {c : Crt} {h : Hdr} (hc : c ∈ l) (ha : c.h.a = h.a) (hr : c.h.r = h.r) : takenB l h = true := by
  unfold takenB
  rw [List.any_eq_true]
  exact ⟨c, hc, by unfold isKey; exact decide_eq_true ⟨ha, hr⟩⟩
/-- Three of round 1, and one that comes late. -/
def lateC (a : Int) (vs : List Int) : Crt := ⟨⟨a, 1, [], []⟩, vs⟩
def lateL (k : Int) : Nat → List Crt
  | 0 => []
  | n + 1 => if (n : Int) = k then lateL k n else lateL k n ++ [lateC n [0, 1, 2]]
theorem lateL_mem {k : Int} : ∀ {n : Nat} {c : Crt}, c ∈ lateL k n → 0 ≤ c.h.a ∧ c.h.a < n ∧ c.h.a ≠ k
  | 0, c, h => by simp [lateL] at h
  | n + 1, c, h => by
    unfold lateL at h
    split at h
    · have := lateL_mem h; omega
    · rename_i hk
      rcases List.mem_append.1 h with h | h
      · have := lateL_mem h; omega
      · rw [List.mem_singleton.1 h]
        show 0 ≤ (n : Int) ∧ (n : Int) < ((n + 1 : Nat) : Int) ∧ (n : Int) ≠ k
        omega
theorem lateL_len (k : Int) : ∀ n, (lateL k n).length ≤ n
  | 0 => by simp [lateL]
  | n + 1 => by
    have := lateL_len k n
    unfold lateL
    split
    · omega
    · simp; omega
theorem late_code {l : List Crt} {a : Int} {vs : List Int} (hok : dagOk l = true) (ha : 0 ≤ a ∧ a < 4) (hm : ∀ c ∈ l, c.h.a ≠ a) (hl : l.length < 400) (hv : votGo none vs = 0) (h3 : vs.length = 3) : insCode l (lateC a vs) = 0 := by
  refine ins_one hok (crt_one ha (by simp) (by simp [digCode, digGo]) hv (by omega) (by omega)) rfl ?_ hl
  unfold takenB
  rw [List.any_eq_false]
  intro c hc h
  unfold isKey at h
  simp only [decide_eq_true_eq] at h
  exact hm c hc h.1
theorem lateL_ok {k : Int} : ∀ n, n ≤ 4 → dagOk (lateL k n) = true
  | 0, _ => dagOk_nil
  | n + 1, hn => by
    have ih := lateL_ok (k := k) n (by omega)
    unfold lateL
    split
    · exact ih
    · exact insCode_zero (late_code ih (by omega) (fun c hc => by have := lateL_mem hc; omega) (by have := lateL_len k n; omega) (by decide) rfl)
theorem late_step {k : Int} {n : Nat} (hn : n < 4) (hk : (n : Int) ≠ k) : insCode (lateL k n) (lateC n [0, 1, 2]) = 0 ∧ lateL k (n + 1) = lateL k n ++ [lateC n [0, 1, 2]] := by
  refine ⟨late_code (lateL_ok n (by omega)) (by omega) (fun c hc => by have := lateL_mem hc; omega) (by have := lateL_len k n; omega) (by decide) rfl, ?_⟩
  show (if (n : Int) = k then lateL k n else _) = _
  rw [if_neg hk]
theorem late_skip {k : Int} {n : Nat} (hk : (n : Int) = k) : lateL k (n + 1) = lateL k n := by
  show (if (n : Int) = k then lateL k n else _) = _
  rw [if_pos hk]
theorem late_rounds {l : List Crt} (h1 : ∀ c ∈ l, c.h.r = 1) (h3 : 3 ≤ l.length) : roundL l = 2 := by
  have e1 : roundOf l 1 = l := by unfold roundOf; rw [List.filter_eq_self]; intro c hc; exact decide_eq_true (h1 c hc)
  have e2 : roundOf l 2 = [] := by unfold roundOf; rw [List.filter_eq_nil_iff]; intro c hc; rw [h1 c hc]; decide
  refine roundL_eq ⟨by decide, fun q hq1 hq2 => ?_⟩ (by rw [e2]; decide)
  obtain rfl : q = 1 := by omega
  rw [e1]; exact h3
theorem lateL_round {k : Int} : ∀ {n : Nat} {c : Crt}, c ∈ lateL k n → c.h.r = 1
  | 0, c, h => by simp [lateL] at h
  | n + 1, c, h => by
    unfold lateL at h
    split at h
    · exact lateL_round h
    · rcases List.mem_append.1 h with h | h
      · exact lateL_round h
      · rw [List.mem_singleton.1 h]; rfl
theorem lateL_three {k : Int} (h0 : 0 ≤ k) (h4 : k < 4) : (lateL k 4).length = 3 := by
  obtain h | h | h | h : k = 0 ∨ k = 1 ∨ k = 2 ∨ k = 3 := by omega
  all_goals (subst h; rfl)
theorem late_all {k : Int} (h0 : 0 ≤ k) (h4 : k < 4) : dagOk (lateL k 4) = true ∧ roundL (lateL k 4) = 2 ∧ insCode (lateL k 4) (lateC k [1, 2, 3]) = 0 ∧ dagOk (lateL k 4 ++ [lateC k [1, 2, 3]]) = true ∧ roundL (lateL k 4 ++ [lateC k [1, 2, 3]]) = 2 ∧ (digsL (lateL k 4 ++ [lateC k [1, 2, 3]]) 1).length = 4 := by
  have hok := lateL_ok (k := k) 4 (by omega)
  have hl := lateL_three h0 h4
  have hi : insCode (lateL k 4) (lateC k [1, 2, 3]) = 0 := late_code hok ⟨h0, h4⟩ (fun c hc => (lateL_mem hc).2.2) (by omega) (by decide) rfl
  have hok2 := insCode_zero hi
  have hr : ∀ c ∈ lateL k 4 ++ [lateC k [1, 2, 3]], c.h.r = 1 := fun c hc => by
    rcases List.mem_append.1 hc with h | h
    · exact lateL_round h
    · rw [List.mem_singleton.1 h]; rfl
  refine ⟨hok, late_rounds (fun c hc => lateL_round hc) (by omega), hi, hok2, late_rounds hr (by simp; omega), ?_⟩
  rw [digsL_len, ofL_len (dagOk_solo hok2)]
  have e1 : roundOf (lateL k 4 ++ [lateC k [1, 2, 3]]) 1 = lateL k 4 ++ [lateC k [1, 2, 3]] := by unfold roundOf; rw [List.filter_eq_self]; intro c hc; exact decide_eq_true (hr c hc)
  rw [e1]; simp [hl]
end Go.Proofs.YtpfmmncnhlfdgaaDoor
