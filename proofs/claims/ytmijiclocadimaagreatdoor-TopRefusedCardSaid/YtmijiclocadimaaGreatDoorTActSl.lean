/- Acts as cells; acts that are made. -/
import Derived.Test.YtmijiclocadimaaGreatDoorTActs
set_option linter.unusedVariables false
set_option linter.unusedSimpArgs false
attribute [local go_sem ↓] Go.wp_at_zero Go.wp_at_succ
namespace Go.Proofs.YtmijiclocadimaaGreatDoor
open Go Go.RowKit

theorem actsCells_len (l : List LAct) : (l.flatMap actCells).length = 4 * l.length := by
  induction l with
  | nil => rfl
  | cons a l ih => simp only [List.flatMap_cons, List.length_append, List.length_cons, ih]; simp [actCells]; omega
theorem actsCells_at {l : List LAct} {j : Nat} (hj : j < l.length) {t : Nat} (ht : t < 4) : (l.flatMap actCells)[j * 4 + t]? = (actCells l[j])[t]? := by
  induction l generalizing j with
  | nil => simp at hj
  | cons a l ih =>
    cases j with
    | zero => simp only [List.flatMap_cons, Nat.zero_mul, Nat.zero_add, List.getElem_cons_zero]; rw [List.getElem?_append_left (by simpa [actCells] using ht)]
    | succ j =>
      have := ih (j := j) (by simpa using hj)
      rw [List.flatMap_cons, List.getElem?_append_right (by simp [actCells]; omega)]
      simp only [List.getElem_cons_succ]
      rw [← this]
      congr 1
      simp [actCells]; omega
theorem acts_flat : ∀ (l : List LAct) (vals : List Value), vals.length = l.length * 4 → (∀ j x, l[j]? = some x → (vals.drop (j * 4)).take 4 = actCells x) → vals = l.flatMap actCells
  | [], vals, hl, _ => List.eq_nil_of_length_eq_zero (by simpa using hl)
  | a :: l, vals, hl, h => by
    have h0 := h 0 a rfl
    simp only [Nat.zero_mul, List.drop_zero] at h0
    have hl' : vals.length = l.length * 4 + 4 := by rw [hl, List.length_cons]; omega
    have ih := acts_flat l (vals.drop 4) (by rw [List.length_drop, hl']; omega) (fun j x hx => by
      have := h (j + 1) x (by simpa using hx)
      rw [List.drop_drop]
      have e : 4 + j * 4 = (j + 1) * 4 := by omega
      rw [e]; exact this)
    rw [List.flatMap_cons, ← ih, ← h0, List.take_append_drop]
theorem acts_own {G : Nat → Prop} {base e : Nat} {w : World} {v : Value} {l : List LAct} (h : LstO RAct G base e w v l) : w.ownsRow base e 4 v l.length (l.flatMap actCells) := by
  obtain ⟨vals, h1, h2⟩ := h
  have := acts_flat l vals h1.1 (fun j x hx => h2 j x hx)
  rw [← this]; exact h1
theorem acts_one (l : List LAct) : ∀ u ∈ l.flatMap actCells, u.oneCell' = true := by
  intro u hu
  obtain ⟨a, -, hu⟩ := List.mem_flatMap.1 hu
  simp only [actCells, List.mem_cons, List.not_mem_nil, or_false] at hu
  rcases hu with rfl | rfl | rfl | rfl <;> rfl
theorem acts_sl {G : Nat → Prop} {w : World} {v : Value} {l : List LAct} (h : RdS RAct G w v l) : SlCells w v l.length 4 (l.flatMap actCells) := by
  obtain ⟨vals, h1, h2, -⟩ := h.flatOf (by decide) (fun {G w cs x} hr u hu => acts_one [x] u (by have hr' : cs = actCells x := hr; subst hr'; simpa using hu))
  obtain ⟨ad, c, k1, k2, k3, k4⟩ := h1
  have := acts_flat l vals k3 (fun j x hx => h2 j x hx)
  rw [← this]; exact ⟨ad, c, k1, k2, k3, k4⟩
theorem acts_lst {base e : Nat} {w : World} {v : Value} {l : List LAct} (h : w.ownsRow base e 4 v l.length (l.flatMap actCells)) : LstO RAct (fun _ => False) base e w v l :=
  ⟨_, h, fun j x hx => by
    have hj : j < l.length := by
      rcases Nat.lt_or_ge j l.length with h | h
      · exact h
      · simp [List.getElem?_eq_none h] at hx
    show ((l.flatMap actCells).drop (j * 4)).take 4 = actCells x
    apply List.ext_getElem?
    intro t
    rcases Nat.lt_or_ge t 4 with ht | ht
    · rw [List.getElem?_take_of_lt ht, List.getElem?_drop, actsCells_at hj ht]
      rw [List.getElem?_eq_getElem hj] at hx
      rw [Option.some.inj hx]
    · rw [List.getElem?_eq_none (by simp; omega), List.getElem?_eq_none (by simpa [actCells] using ht)]⟩
/-- An act that is zero. -/
def actZ : LAct := ⟨0, 0, 0, []⟩
theorem made_acts (K : Nat) (hK : K ≤ 1000000) : ∃ cs : List Value, (∀ (w : World) (b : Nat), BoxAt w b cs 30 → RdS RAct (fun _ => True) w (.slice (some ⟨b, 0, none⟩) K K) (List.replicate K actZ)) ∧ ∀ w : World, (Instr.makeSlice 27 (.int .i64 (K : Int)) (.int .i64 (K : Int))).run Tryz.prog w = .ok (.slice (some ⟨w.heap.size, 0, none⟩) K K) (w.alloc (.cells cs.toArray 30)) := by
  obtain ⟨ht, i, z, hi, hz, hsize, hby, hzs, -⟩ := elemAct
  have hz' : z = .agg #[.int .i64 0, .int .i64 0, .int .i64 0, .string ⟨#[]⟩] := by
    have h0 : (Tryz.prog.info? 30).map (fun i => i.zero) = some (some (.agg #[.int .i64 0, .int .i64 0, .int .i64 0, .string ⟨#[]⟩])) := by kernel_rfl
    rw [hi] at h0
    simp only [Option.map_some, Option.some.injEq] at h0
    rw [hz] at h0
    exact Option.some.inj h0
  subst hz'
  refine ⟨(madeCells (Value.agg #[.int .i64 0, .int .i64 0, .int .i64 0, .string ⟨#[]⟩]).cells (K * 4)).toList, fun w b hb => ?_, fun w => ?_⟩
  · refine ⟨_, K, by rw [List.length_replicate], by rw [List.length_replicate]; exact Nat.le_refl _, by unfold maxLen; omega, fun h => by simp at h, fun j x hx => ?_⟩
    have hj : j < K := by
      rcases Nat.lt_or_ge j K with q | q
      · exact q
      · rw [List.getElem?_eq_none (by simpa using q)] at hx; simp at hx
    obtain rfl : x = actZ := by
      rw [List.getElem?_eq_getElem (by simpa using hj), List.getElem_replicate] at hx
      exact (Option.some.inj hx).symm
    have hc : (Value.agg #[.int .i64 0, .int .i64 0, .int .i64 0, .string ⟨#[]⟩]).cells = #[.int .i64 0, .int .i64 0, .int .i64 0, .string ⟨#[]⟩] := by rfl
    refine ⟨b, 0, actCells actZ, rfl, trivial, fun t c ht => ?_, rfl⟩
    have ht4 : t < 4 := by
      rcases Nat.lt_or_ge t 4 with h | h
      · exact h
      · rw [List.getElem?_eq_none (by simpa [actCells] using h)] at ht; simp at ht
    have := hb.cell (j * 4 + t) (v := c) (by
      rw [hc]
      have e0 : (j * 4) % 4 = 0 := by omega
      have e1 : (j * 4 + 1) % 4 = 1 := by omega
      have e2 : (j * 4 + 2) % 4 = 2 := by omega
      have e3 : (j * 4 + 3) % 4 = 3 := by omega
      have b0 : j * 4 < K * 4 := by omega
      have b1 : j * 4 + 1 < K * 4 := by omega
      have b2 : j * 4 + 2 < K * 4 := by omega
      have b3 : j * 4 + 3 < K * 4 := by omega
      match t, ht4 with
      | 0, _ => simp [actCells, actZ] at ht; subst ht; simp [madeCells, b0, e0]
      | 1, _ => simp [actCells, actZ] at ht; subst ht; simp [madeCells, b1, e1]
      | 2, _ => simp [actCells, actZ] at ht; subst ht; simp [madeCells, b2, e2]
      | 3, _ => simp [actCells, actZ] at ht; subst ht; simp [madeCells, b3, e3])
    simpa [RAct] using this
  · have hr := run_make (P := Tryz.prog) w 27 30 i _ ht hi hz .i64 .i64 K K (by omega) (by omega) (by rw [hby]; omega) (by omega)
    rw [hr, hsize]
    simp only [Int.toNat_natCast, Array.toArray_toList]
theorem code_ok (k n p : Int) (t : Bytes) (k1 : 1 ≤ k) (k2 : k ≤ 10) (n1 : hasN k = true → 0 ≤ n ∧ n < 4) (n2 : hasN k = false → n = 0) (p1 : hasP k = true → 0 ≤ p ∧ p ≤ 400000) (p2 : hasP k = false → p = 0) (t1 : hasT k = true → t.length ≤ 4000) (t2 : hasT k = false → t = []) : actCode ⟨k, n, p, t⟩ = 0 := by
  have s1 : (ByteArray.mk t.toArray).size = t.length := by simp [ByteArray.size]
  show actCheck k n p ⟨t.toArray⟩ = 0
  unfold actCheck
  rw [if_neg (by omega), if_neg, if_neg, if_neg]
  · rintro (⟨h, h2⟩ | ⟨h, h2⟩ | ⟨h, h2⟩)
    · exact h2 (n2 h)
    · exact h2 (p2 h)
    · rw [s1, t2 h] at h2; exact h2 rfl
  · rintro ⟨h, h2⟩
    have := t1 h
    rw [s1] at h2; omega
  · rintro (⟨h, h2⟩ | ⟨h, h2⟩)
    · have := n1 h; omega
    · have := p1 h; omega
theorem code_gear (g : GearD) : actCode (gearA g) = 0 := by
  have p0 := pickedZ_range g.k 20 (by omega)
  have p1 := pickedZ_range g.a 4 (by omega)
  have p2 := pickedZ_range g.b 400 (by omega)
  have p3 := pickedZ_range g.b 700 (by omega)
  have e1 : (encL (msgOf g.b g.a g.b g.a [g.t])).length ≤ 300 := (encL_lenN (msgOf_code _ _ _ _ _)).2
  have w1 : (wordB g).length = 3 := rfl
  unfold gearA gearZ
  generalize pickedZ g.k 20 = z at *
  generalize encL (msgOf g.b g.a g.b g.a [g.t]) = E at *
  generalize wordB g = W at *
  by_cases q1 : z ≤ 1
  · rw [if_pos q1]; exact code_ok 1 _ _ _ (by decide) (by decide) (fun _ => p1) (fun h => absurd h (by decide)) (fun h => absurd h (by decide)) (fun _ => rfl) (fun _ => (by show W.length ≤ 4000; omega)) (fun h => absurd h (by decide))
  rw [if_neg q1]
  by_cases q5 : z ≤ 5
  · rw [if_pos q5]; exact code_ok 2 _ _ _ (by decide) (by decide) (fun _ => p1) (fun h => absurd h (by decide)) (fun h => absurd h (by decide)) (fun _ => rfl) (fun h => absurd h (by decide)) (fun _ => rfl)
  rw [if_neg q5]
  by_cases q9 : z ≤ 9
  · rw [if_pos q9]; exact code_ok 3 _ _ _ (by decide) (by decide) (fun _ => p1) (fun h => absurd h (by decide)) (fun h => absurd h (by decide)) (fun _ => rfl) (fun h => absurd h (by decide)) (fun _ => rfl)
  rw [if_neg q9]
  by_cases q11 : z ≤ 11
  · rw [if_pos q11]; exact code_ok 4 _ _ _ (by decide) (by decide) (fun h => absurd h (by decide)) (fun _ => rfl) (fun _ => ⟨p2.1, by show pickedZ g.b 400 ≤ 400000; omega⟩) (fun h => absurd h (by decide)) (fun h => absurd h (by decide)) (fun _ => rfl)
  rw [if_neg q11]
  by_cases q12 : z ≤ 12
  · rw [if_pos q12]; exact code_ok 5 _ _ _ (by decide) (by decide) (fun h => absurd h (by decide)) (fun _ => rfl) (fun _ => ⟨p2.1, by show pickedZ g.b 400 ≤ 400000; omega⟩) (fun h => absurd h (by decide)) (fun h => absurd h (by decide)) (fun _ => rfl)
  rw [if_neg q12]
  by_cases q13 : z ≤ 13
  · rw [if_pos q13]; exact code_ok 6 _ _ _ (by decide) (by decide) (fun h => absurd h (by decide)) (fun _ => rfl) (fun _ => ⟨p2.1, by show pickedZ g.b 400 ≤ 400000; omega⟩) (fun h => absurd h (by decide)) (fun h => absurd h (by decide)) (fun _ => rfl)
  rw [if_neg q13]
  by_cases q14 : z ≤ 14
  · rw [if_pos q14]; exact code_ok 7 _ _ _ (by decide) (by decide) (fun _ => p1) (fun h => absurd h (by decide)) (fun _ => ⟨p3.1, by show pickedZ g.b 700 ≤ 400000; omega⟩) (fun h => absurd h (by decide)) (fun h => absurd h (by decide)) (fun _ => rfl)
  rw [if_neg q14]
  by_cases q15 : z ≤ 15
  · rw [if_pos q15]; exact code_ok 8 _ _ _ (by decide) (by decide) (fun _ => p1) (fun h => absurd h (by decide)) (fun h => absurd h (by decide)) (fun _ => rfl) (fun h => absurd h (by decide)) (fun _ => rfl)
  rw [if_neg q15]
  by_cases q16 : z ≤ 16
  · rw [if_pos q16]; exact code_ok 9 _ _ _ (by decide) (by decide) (fun _ => p1) (fun h => absurd h (by decide)) (fun h => absurd h (by decide)) (fun _ => rfl) (fun _ => (by show E.length ≤ 4000; omega)) (fun h => absurd h (by decide))
  rw [if_neg q16]
  exact code_ok 10 _ _ _ (by decide) (by decide) (fun h => absurd h (by decide)) (fun _ => rfl) (fun h => absurd h (by decide)) (fun _ => rfl) (fun h => absurd h (by decide)) (fun _ => rfl)
theorem code_bent : actCode ⟨2, 4, 0, []⟩ = 2 := by decide
end Go.Proofs.YtmijiclocadimaaGreatDoor
