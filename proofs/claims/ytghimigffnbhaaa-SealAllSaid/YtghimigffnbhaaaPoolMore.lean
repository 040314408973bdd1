/- Pools: what an Add comes to where it is known; what holds of a pool of raw texts. -/
import Derived.Test.YtghimigffnbhaaaKeepPool
import Derived.Test.YtghimigffnbhaaaLib3
set_option linter.unusedVariables false
set_option linter.unusedSimpArgs false
namespace Go.Proofs.Ytghimigffnbhaaa
open Go Go.RowKit

theorem padd_ok {G : Nat → Prop} {n : Int} {l : List (List UInt8)} {v : Value} {t : List UInt8} {w : World} (hc : addCode n l t = 0) (h : RdT G w v l) :
    Calls Try.prog 20 #[.agg #[.int .i64 n, v], strV t] w fun e w' => ∃ ad cap, e = .returned (.tuple #[.agg #[.int .i64 n, .slice ad (l.length + 1) cap], .int .i64 0]) ∧ RdT (fun b => w.heap.size ≤ b) w' (.slice ad (l.length + 1) cap) (l ++ [t]) ∧ Below w.heap.size w w' := by
  refine (padd_any n v t w h).mono ?_
  rintro e w' ⟨v', rfl, hr, hb⟩
  have h1 : addNext n l t = n := by unfold addNext; rw [if_pos hc]
  have h2 : addTxs n l t = l ++ [t] := by unfold addTxs; rw [if_pos hc]
  rw [h2] at hr
  obtain ⟨ad, cap, rfl, _, _⟩ := hr.form
  rw [h1, hc]
  simp only [List.length_append, List.length_cons, List.length_nil, Nat.zero_add] at hr ⊢
  exact ⟨ad, cap, rfl, hr, hb⟩
theorem padd_no {G : Nat → Prop} {n c : Int} {l : List (List UInt8)} {v : Value} {t : List UInt8} {w : World} (hc : addCode n l t = c) (h0 : c ≠ 0) (h : RdT G w v l) :
    Calls Try.prog 20 #[.agg #[.int .i64 n, v], strV t] w fun e w' => ∃ ad cap, e = .returned (.tuple #[.agg #[.int .i64 0, .slice ad 0 cap], .int .i64 c]) ∧ Below w.heap.size w w' := by
  refine (padd_any n v t w h).mono ?_
  rintro e w' ⟨v', rfl, hr, hb⟩
  have h1 : addNext n l t = 0 := by unfold addNext; rw [if_neg (by rw [hc]; exact h0)]
  have h2 : addTxs n l t = [] := by unfold addTxs; rw [if_neg (by rw [hc]; exact h0)]
  rw [h2] at hr
  obtain ⟨ad, cap, rfl, _, _⟩ := hr.form
  rw [h1, hc]
  exact ⟨ad, cap, rfl, hb⟩

theorem txOf_txOk (s : List UInt8) : txOk (txOf s) = true := by unfold txOk; simp only [decide_eq_true_eq]; exact txOf_ok s
theorem addCode_ok {n : Int} {l : List (List UInt8)} {t : List UInt8} (h1 : poolOk n l = true) (h2 : txOk t = true) (h3 : ¬ t ∈ l) (h4 : l.length ≠ 40) : addCode n l t = 0 := by unfold addCode; simp [h1, h2, h3, h4]
theorem addCode_twice {n : Int} {l : List (List UInt8)} {t : List UInt8} (h1 : poolOk n l = true) (h2 : txOk t = true) (h3 : t ∈ l) : addCode n l t = 7 := by unfold addCode; simp [h1, h2, h3]
theorem addCode_size {n : Int} {l : List (List UInt8)} {t : List UInt8} (h1 : poolOk n l = true) (h2 : txOk t = false) : addCode n l t = 1 := by unfold addCode; simp [h1, h2]
theorem addCode_full {n : Int} {l : List (List UInt8)} {t : List UInt8} (h1 : poolOk n l = true) (h2 : txOk t = true) (h3 : ¬ t ∈ l) (h4 : l.length = 40) : addCode n l t = 6 := by unfold addCode; simp [h1, h2, h3, h4]
theorem poolOk_add {n : Int} {l : List (List UInt8)} {t : List UInt8} (h : addCode n l t = 0) : poolOk n (l ++ [t]) = true := by
  unfold addCode at h
  by_cases h1 : poolOk n l = false
  · simp [h1] at h
  · by_cases h2 : txOk t = false
    · simp [h1, h2] at h
    · by_cases h3 : t ∈ l
      · simp [h1, h2, h3] at h
      · by_cases h4 : l.length = 40
        · simp [h1, h2, h3, h4] at h
        · simp only [Bool.not_eq_false] at h1 h2
          unfold poolOk at h1 ⊢
          simp only [decide_eq_true_eq] at h1 ⊢
          obtain ⟨a, b, c, d, e⟩ := h1
          refine ⟨a, b, by simp; omega, fun x hx => ?_, ?_⟩
          · rcases List.mem_append.1 hx with hx | hx
            · exact d x hx
            · simp at hx; subst hx; exact h2
          · rw [List.nodup_append]
            refine ⟨e, by simp, fun a ha b hb => ?_⟩
            simp at hb; subst hb; exact fun e => h3 (e ▸ ha)
theorem addAll_ok {n : Int} {l : List (List UInt8)} {t : List UInt8} (h : poolOk n l = true) : poolOk n (addAll n l t) = true := by
  unfold addAll
  split
  · rename_i hc; exact poolOk_add hc
  · exact h
theorem addAll_len (n : Int) (l : List (List UInt8)) (t : List UInt8) : (addAll n l t).length ≤ l.length + 1 := by
  unfold addAll; split <;> simp
theorem fold_ok {n : Int} : ∀ (ts l : List (List UInt8)), poolOk n l = true → poolOk n (ts.foldl (addAll n) l) = true
  | [], _, h => h
  | t :: ts, l, h => fold_ok ts _ (addAll_ok h)
theorem fold_len {n : Int} : ∀ (ts l : List (List UInt8)), (ts.foldl (addAll n) l).length ≤ l.length + ts.length
  | [], l => by simp
  | t :: ts, l => by
    have h1 := fold_len (n := n) ts (addAll n l t)
    have h2 := addAll_len n l t
    simp only [List.foldl_cons, List.length_cons]; omega
theorem poolFold_ok {n : Int} (l : List (List UInt8)) (h1 : 1 ≤ n) (h2 : n ≤ 1048577) : poolOk n (poolFold n l) = true := by
  unfold poolFold
  apply fold_ok
  unfold poolOk
  simp [h1, h2]
theorem poolFold_len (n : Int) (l : List (List UInt8)) : (poolFold n (l.take 30)).length ≤ 30 := by
  have := fold_len (n := n) ((l.take 30).map txOf) []
  unfold poolFold
  simp only [List.length_nil, List.length_map, List.length_take] at this
  omega
theorem zeros_long (n : Nat) (h : 20 < n) : txOk (zeros n) = false := by unfold txOk; rw [length_zeros]; simp; omega

/-- An Add, whatever it comes to. -/
theorem padd_gen {G : Nat → Prop} {n nx c : Int} {l X : List (List UInt8)} {v : Value} {t : List UInt8} {w : World} (hc : addCode n l t = c) (hn : addNext n l t = nx) (hX : addTxs n l t = X) (h : RdT G w v l) :
    Calls Try.prog 20 #[.agg #[.int .i64 n, v], strV t] w fun e w' => ∃ ad cap, e = .returned (.tuple #[.agg #[.int .i64 nx, .slice ad X.length cap], .int .i64 c]) ∧ RdT (fun b => w.heap.size ≤ b) w' (.slice ad X.length cap) X ∧ Below w.heap.size w w' := by
  subst hc hn hX
  refine (padd_any n v t w h).mono ?_
  rintro e w' ⟨v', rfl, hr, hb⟩
  obtain ⟨ad, cap, rfl, _, _⟩ := hr.form
  exact ⟨ad, cap, rfl, hr, hb⟩
theorem mem_take_succ {P : List (List UInt8)} {t : List UInt8} {k : Nat} (h : k < P.length) : (t ∈ P.take (k + 1)) ↔ (t ∈ P.take k ∨ P[k] = t) := by
  rw [take_snoc' P k h, List.mem_append, List.mem_singleton, eq_comm (a := t)]
theorem mem_take_bool1 {P : List (List UInt8)} {t : List UInt8} {k : Nat} (h : k < P.length) (h1 : t ∈ P.take k) : true = decide (t ∈ P.take (k + 1)) := by
  rw [Bool.eq_iff_iff]; simp only [mem_take_succ h, decide_eq_true_eq, h1, true_or]
theorem mem_take_bool2 {P : List (List UInt8)} {t : List UInt8} {k : Nat} (h : k < P.length) (h1 : ¬ t ∈ P.take k) : (P[k] == t) = decide (t ∈ P.take (k + 1)) := by
  rw [Bool.eq_iff_iff]; simp only [mem_take_succ h, decide_eq_true_eq, beq_iff_eq, h1, false_or]
end Go.Proofs.Ytghimigffnbhaaa
