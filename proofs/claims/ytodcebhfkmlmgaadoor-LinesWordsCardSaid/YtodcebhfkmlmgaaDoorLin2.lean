/- lines: a line's act, and what Read makes of lines: plain laws. No program is named. -/
import Derived.Test.YtodcebhfkmlmgaaDoorLin
set_option linter.unusedVariables false
set_option linter.unusedSimpArgs false
namespace Go.Proofs.YtodcebhfkmlmgaaDoor
open Go Go.Lib

/-- The kind of a word: the last one of the table that it is, 0 if none. -/
def kindGo (w : List UInt8) : Nat → Int
  | 0 => 0
  | n + 1 => if wordsL.getD (n + 1) [] = w then ((n + 1 : Nat) : Int) else kindGo w n
def kindOf (w : List UInt8) : Int := kindGo w 10
def partsMany (k : Int) : Nat := (if actN k then 1 else 0) + (if actP k then 1 else 0) + (if actT k then 1 else 0)
/-- The parts of an act, read one by one. -/
def oneN (k : Int) (ps : List (List UInt8)) : Int × Bool := if actN k then numL (ps.headD []) else (0, false)
def oneP (k : Int) (ps : List (List UInt8)) : Int × Bool := if actP k then numL (ps.headD []) else (0, false)
def oneT (k : Int) (ps : List (List UInt8)) : List UInt8 × Bool := if actT k then unhexL (ps.headD []) else ([], false)
def restN (k : Int) (ps : List (List UInt8)) : List (List UInt8) := if actN k then ps.tail else ps
def restP (k : Int) (ps : List (List UInt8)) : List (List UInt8) := if actP k then ps.tail else ps
def oneA (k : Int) (ps : List (List UInt8)) : LAct := ⟨k, (oneN k ps).1, (oneP k (restN k ps)).1, (oneT k (restP k (restN k ps))).1⟩
def oneOk (k : Int) (ps : List (List UInt8)) : Bool := decide ((oneN k ps).2 = actN k ∧ (oneP k (restN k ps)).2 = actP k ∧ (oneT k (restP k (restN k ps))).2 = actT k)
def oneW (w : List UInt8) (ps : List (List UInt8)) : LAct × Bool :=
  if kindOf w = 0 ∨ ps.length ≠ partsMany (kindOf w) then (⟨kindOf w, 0, 0, []⟩, false)
  else (oneA (kindOf w) ps, oneOk (kindOf w) ps)
def oneL (s : List UInt8) : LAct × Bool := oneW ((spl s).headD []) (spl s).tail
theorem kindOf_word : ∀ k : Fin 11, kindOf (wordOf (k.val : Int)) = if k.val = 0 then 0 else (k.val : Int) := by decide +kernel
theorem kindOf_at {k : Int} (h1 : 1 ≤ k) (h2 : k ≤ 10) : kindOf (wordOf k) = k := by
  obtain ⟨n, rfl⟩ : ∃ n : Nat, k = n := ⟨k.toNat, by omega⟩
  have := kindOf_word ⟨n, by omega⟩
  simp only at this
  rw [this, if_neg (by omega)]
theorem kindGo_of (w : List UInt8) : ∀ n, n ≤ 10 → kindGo w n ≠ 0 → 1 ≤ kindGo w n ∧ kindGo w n ≤ n ∧ wordOf (kindGo w n) = w
  | 0, _, h => by simp [kindGo] at h
  | n + 1, hn, h => by
    rw [kindGo] at h ⊢
    by_cases hq : wordsL.getD (n + 1) [] = w
    · rw [if_pos hq]
      refine ⟨by omega, by omega, ?_⟩
      unfold wordOf
      simpa using hq
    · rw [if_neg hq] at h ⊢
      have := kindGo_of w n (by omega) h
      exact ⟨this.1, by omega, this.2.2⟩
theorem kindOf_of {w : List UInt8} (h : kindOf w ≠ 0) : 1 ≤ kindOf w ∧ kindOf w ≤ 10 ∧ wordOf (kindOf w) = w := kindGo_of w 10 (Nat.le_refl _) h
theorem kindOf_range (w : List UInt8) : 0 ≤ kindOf w ∧ kindOf w ≤ 10 := by
  by_cases h : kindOf w = 0
  · omega
  · have := kindOf_of h; omega
/-- No byte of a line is a blank or an end, but for the blanks between its parts. -/
def Tight (s : List UInt8) : Prop := 32 ∉ s ∧ 10 ∉ s
theorem tight_word : ∀ k : Fin 11, 32 ∉ wordOf (k.val : Int) ∧ 10 ∉ wordOf (k.val : Int) := by decide +kernel
theorem tight_wordOf {k : Int} (h1 : 1 ≤ k) (h2 : k ≤ 10) : Tight (wordOf k) := by
  obtain ⟨n, rfl⟩ : ∃ n : Nat, k = n := ⟨k.toNat, by omega⟩
  exact tight_word ⟨n, by omega⟩
theorem tight_itoa {n : Int} (h : 0 ≤ n) : Tight (itoa n) := by
  have e : itoa n = decDigits n.toNat := by unfold itoa; rw [if_neg (by omega)]
  rw [e]
  constructor <;> intro hm
  · have := dec_mem _ _ hm; simp at this
  · have := dec_mem _ _ hm; simp at this
theorem tight_hexD : ∀ n : Fin 16, hexD n.val ≠ 32 ∧ hexD n.val ≠ 10 := by decide +kernel
theorem tight_hex (t : List UInt8) : Tight (hexL t) := by
  have key : ∀ c ∈ hexL t, c ≠ 32 ∧ c ≠ 10 := by
    intro c hc
    obtain ⟨d, -, hd⟩ := List.mem_flatMap.1 hc
    simp only [List.mem_cons, List.not_mem_nil, or_false] at hd
    rcases hd with rfl | rfl
    · exact tight_hexD ⟨d.toNat / 16, by have := d.toNat_lt; omega⟩
    · exact tight_hexD ⟨d.toNat % 16, by omega⟩
  exact ⟨fun h => (key _ h).1 rfl, fun h => (key _ h).2 rfl⟩
/-- The parts behind the word. -/
def partsOf (a : LAct) : List (List UInt8) := (if actN a.k then [itoa a.n] else []) ++ (if actP a.k then [itoa a.p] else []) ++ (if actT a.k then [hexL a.t] else [])
theorem lineOf_parts (a : LAct) : lineOf a = wordOf a.k ++ (partsOf a).flatMap fun x => 32 :: x := by
  unfold lineOf lineN lineP lineT partsOf
  cases actN a.k <;> cases actP a.k <;> cases actT a.k <;> simp
theorem spl_parts : ∀ (w : List UInt8) (ps : List (List UInt8)), 32 ∉ w → (∀ x ∈ ps, 32 ∉ x) → spl (w ++ ps.flatMap fun x => 32 :: x) = w :: ps
  | w, [], hw, _ => by simp [spl_none hw]
  | w, x :: ps, hw, hp => by
    rw [List.flatMap_cons, List.cons_append, spl_at hw, spl_parts x ps (hp x (by simp)) (fun y hy => hp y (by simp [hy]))]
theorem lineCode_parts {a : LAct} (h : lineCode a = 0) : (1 ≤ a.k ∧ a.k ≤ 10) ∧ (actN a.k = true → 0 ≤ a.n ∧ a.n < 4) ∧ (actP a.k = true → 0 ≤ a.p ∧ a.p ≤ 400000) ∧ (actT a.k = true → a.t.length ≤ 4000) ∧ (actN a.k = false → a.n = 0) ∧ (actP a.k = false → a.p = 0) ∧ (actT a.k = false → a.t = []) := by
  unfold lineCode at h
  split at h
  · simp at h
  · rename_i h1
    split at h
    · simp at h
    · rename_i h2
      split at h
      · simp at h
      · rename_i h3
        split at h
        · simp at h
        · rename_i h4
          simp only [not_or, not_and, Decidable.not_not] at h1 h2 h3 h4
          refine ⟨⟨by omega, by omega⟩, fun q => ?_, fun q => ?_, fun q => ?_, h4.1, h4.2.1, h4.2.2⟩
          · have := h2.1 q; omega
          · have := h2.2 q; omega
          · have := h3 q; omega
theorem parts_tight {a : LAct} (h : lineCode a = 0) : ∀ x ∈ partsOf a, Tight x := by
  obtain ⟨-, h1, h2, -, -⟩ := lineCode_parts h
  intro x hx
  unfold partsOf at hx
  simp only [List.mem_append] at hx
  rcases hx with (hx | hx) | hx
  · split at hx
    · rename_i q; simp only [List.mem_singleton] at hx; rw [hx]; exact tight_itoa (h1 q).1
    · simp at hx
  · split at hx
    · rename_i q; simp only [List.mem_singleton] at hx; rw [hx]; exact tight_itoa (h2 q).1
    · simp at hx
  · split at hx
    · simp only [List.mem_singleton] at hx; rw [hx]; exact tight_hex _
    · simp at hx
theorem lineOf_no10 {a : LAct} (h : lineCode a = 0) : 10 ∉ lineOf a := by
  rw [lineOf_parts]
  intro hm
  rcases List.mem_append.1 hm with hm | hm
  · have := lineCode_parts h; exact (tight_wordOf this.1.1 this.1.2).2 hm
  · obtain ⟨x, hx, hq⟩ := List.mem_flatMap.1 hm
    rcases List.mem_cons.1 hq with e | e
    · simp at e
    · exact (parts_tight h x hx).2 e
/-- A line of an act that may be reads as it. -/
theorem oneL_line {a : LAct} (h : lineCode a = 0) : oneL (lineOf a) = (a, true) := by
  obtain ⟨⟨k1, k2⟩, h1, h2, -, h4, h5, h6⟩ := lineCode_parts h
  have hs : spl (lineOf a) = wordOf a.k :: partsOf a := by
    rw [lineOf_parts]
    exact spl_parts _ _ (tight_wordOf k1 k2).1 (fun x hx => (parts_tight h x hx).1)
  unfold oneL
  rw [hs]
  show oneW (wordOf a.k) (partsOf a) = (a, true)
  unfold oneW
  rw [kindOf_at k1 k2]
  have hm : (partsOf a).length = partsMany a.k := by
    unfold partsOf partsMany
    cases actN a.k <;> cases actP a.k <;> cases actT a.k <;> rfl
  rw [if_neg (by simp [hm]; omega)]
  clear hm hs h
  obtain ⟨k, n, p, t⟩ := a
  simp only at *
  have q1 : actN k = true → numL (itoa n) = (n, true) := fun q => numL_itoa n (h1 q).1 (by have := (h1 q).2; omega)
  have q2 : actP k = true → numL (itoa p) = (p, true) := fun q => numL_itoa p (h2 q).1 (by have := (h2 q).2; omega)
  clear h1 h2
  unfold oneA oneOk oneN oneP oneT restN restP partsOf
  cases hN : actN k <;> cases hP : actP k <;> cases hT : actT k <;> simp [hN, hP, hT] at q1 q2 h4 h5 h6 ⊢ <;> simp [q1, q2, h4, h5, h6, unhexL_hex]
/-- And what reads as an act that may be is its line. -/
theorem line_oneL {s : List UInt8} (h : (oneL s).2 = true) : lineOf (oneL s).1 = s := by
  have hj := spl_join s
  unfold oneL at h ⊢
  cases hq : spl s with
  | nil => exact absurd hq (spl_ne s)
  | cons w ps =>
    rw [hq] at h hj
    replace h : (oneW w ps).2 = true := h
    show lineOf (oneW w ps).1 = s
    unfold oneW at h ⊢
    by_cases hc : kindOf w = 0 ∨ ps.length ≠ partsMany (kindOf w)
    · rw [if_pos hc] at h; simp at h
    · rw [if_neg hc] at h ⊢
      simp only [not_or, Decidable.not_not] at hc
      obtain ⟨k1, k2, hw⟩ := kindOf_of hc.1
      generalize kindOf w = k at *
      have hlen := hc.2
      subst hw
      simp only at h ⊢
      unfold oneOk at h
      simp only [decide_eq_true_eq] at h
      obtain ⟨e1, e2, e3⟩ := h
      unfold lineOf lineN lineP lineT
      simp only [oneA]
      unfold joinSp at hj
      unfold oneN oneP oneT restN restP at *
      unfold partsMany at hlen
      rw [← hj]
      rcases Bool.eq_false_or_eq_true (actN k) with hN | hN <;> rcases Bool.eq_false_or_eq_true (actP k) with hP | hP <;> rcases Bool.eq_false_or_eq_true (actT k) with hT | hT <;> simp only [hN, hP, hT, if_true, if_false, Bool.false_eq_true] at e1 e2 e3 hlen ⊢
      all_goals
        match ps, hlen with
        | [], hlen => first | (simp at hlen; done) | simp
        | [x], hlen => first | (simp at hlen; done) | (simp at e1 e2 e3 ⊢; first | (rw [(numL_of e1).1]) | (rw [(numL_of e2).1]) | (rw [unhexL_of e3]))
        | [x, y], hlen => first | (simp at hlen; done) | (simp at e1 e2 e3 ⊢; first | (rw [(numL_of e1).1, (numL_of e2).1]) | (rw [(numL_of e1).1, unhexL_of e3]) | (rw [(numL_of e2).1, unhexL_of e3]))
        | [x, y, z], hlen => first | (simp at hlen; done) | (simp at e1 e2 e3 ⊢; rw [(numL_of e1).1, (numL_of e2).1, unhexL_of e3])
        | x :: y :: z :: u :: v, hlen => simp at hlen
/-! ### Read -/
def readGo : Nat → List UInt8 → Nat → List LAct → List LAct × Nat × Int
  | 0, _, i, _ => ([], i, 1)
  | f + 1, s, i, out =>
    if s = [] then (out, 0, 0)
    else if f = 0 then ([], i, 1)
    else if (cutN s).2.2 = false then ([], i, 4)
    else if (oneL (cutN s).1).2 = false then ([], i, 4)
    else if lineCode (oneL (cutN s).1).1 ≠ 0 then ([], i, lineCode (oneL (cutN s).1).1)
    else readGo f (cutN s).2.1 (i + 1) (out ++ [(oneL (cutN s).1).1])
def readL (s : List UInt8) : List LAct × Nat × Int := readGo 3001 s 0 []
theorem showL_ne {a : LAct} {l : List LAct} : showL (a :: l) ≠ [] := by rw [showL_cons]; simp
theorem readGo_show : ∀ (f : Nat) (l : List LAct) (i : Nat) (out : List LAct), (∀ a ∈ l, lineCode a = 0) → l.length < f → readGo f (showL l) i out = (out ++ l, 0, 0)
  | 0, l, i, out, _, hf => by omega
  | f + 1, [], i, out, _, _ => by rw [show showL [] = [] from rfl, readGo, if_pos rfl]; simp
  | f + 1, a :: l, i, out, h, hf => by
    have ha := h a (by simp)
    have hc := cutN_at (lineOf_no10 ha) (showL l)
    rw [readGo, if_neg showL_ne, if_neg (by simp at hf; omega), showL_cons, hc]
    simp only [oneL_line ha, Bool.true_eq_false, if_false]
    rw [if_neg (by simp [ha]), readGo_show f l (i + 1) _ (fun x hx => h x (by simp [hx])) (by simp at hf; omega)]
    simp
/-- Acts that may be are read as they are shown. -/
theorem readL_show {l : List LAct} (h : ∀ a ∈ l, lineCode a = 0) (hl : l.length ≤ 3000) : readL (showL l) = (l, 0, 0) := by
  have := readGo_show 3001 l 0 [] h (by omega)
  simpa [readL] using this
theorem readGo_of : ∀ (f : Nat) (s : List UInt8) (i : Nat) (out : List LAct), (readGo f s i out).2.2 = 0 → (readGo f s i out).2.1 = 0 ∧ ∃ l, (readGo f s i out).1 = out ++ l ∧ s = showL l ∧ (∀ a ∈ l, lineCode a = 0) ∧ l.length < f
  | 0, s, i, out, h => by simp [readGo] at h
  | f + 1, s, i, out, h => by
    rw [readGo] at h ⊢
    by_cases h0 : s = []
    · subst h0
      rw [if_pos rfl] at h ⊢
      exact ⟨rfl, [], by simp, rfl, by simp, by simp⟩
    · rw [if_neg h0] at h ⊢
      by_cases hf : f = 0
      · rw [if_pos hf] at h; simp at h
      · rw [if_neg hf] at h ⊢
        by_cases h1 : (cutN s).2.2 = false
        · rw [if_pos h1] at h; simp at h
        · rw [if_neg h1] at h ⊢
          by_cases h2 : (oneL (cutN s).1).2 = false
          · rw [if_pos h2] at h; simp at h
          · rw [if_neg h2] at h ⊢
            by_cases h3 : lineCode (oneL (cutN s).1).1 ≠ 0
            · rw [if_pos h3] at h; simp only at h; exact absurd h h3
            · rw [if_neg h3] at h ⊢
              obtain ⟨e0, l, e1, e2, e3, e4⟩ := readGo_of f _ _ _ h
              have hc := cutN_of (s := s) (by simpa using h1)
              have hline := line_oneL (s := (cutN s).1) (by simpa using h2)
              refine ⟨e0, (oneL (cutN s).1).1 :: l, by rw [e1]; simp, ?_, ?_, by simp; omega⟩
              · rw [showL_cons, hline, ← e2]; exact hc.1
              · intro a ha
                rcases List.mem_cons.1 ha with rfl | ha
                · exact Decidable.not_not.1 h3
                · exact e3 a ha
theorem readL_of {s : List UInt8} (h : (readL s).2.2 = 0) : (readL s).2.1 = 0 ∧ s = showL (readL s).1 ∧ (∀ a ∈ (readL s).1, lineCode a = 0) ∧ (readL s).1.length ≤ 3000 := by
  obtain ⟨e0, l, e1, e2, e3, e4⟩ := readGo_of 3001 s 0 [] h
  have e1' : (readL s).1 = l := by unfold readL; rw [e1]; simp
  rw [e1']
  exact ⟨e0, e2, e3, by omega⟩
theorem readGo_bad : ∀ (f : Nat) (s : List UInt8) (i : Nat) (out : List LAct), (readGo f s i out).2.2 ≠ 0 → (readGo f s i out).1 = []
  | 0, s, i, out, h => rfl
  | f + 1, s, i, out, h => by
    rw [readGo] at h ⊢
    repeat' split at h
    all_goals first | (simp_all; done) | skip
    all_goals (first | (simp only [*]; done) | (rename_i a b c d e; rw [if_neg a, if_neg b, if_neg c, if_neg d, if_neg e]; exact readGo_bad f _ _ _ h) | skip)
end Go.Proofs.YtodcebhfkmlmgaaDoor
