/- lines: acts as lines: plain laws. No program is named. -/
import Derived.Lib.ItoaNum
import Derived.Lib.ItoaLen
import Derived.Lib.AtoiAllCases
import Derived.Lib.Split
import Derived.Lib.SplitLaws
import Derived.Lib.IndexLaws
import Derived.Lib.Bytealg
set_option linter.unusedVariables false
set_option linter.unusedSimpArgs false
namespace Go.Proofs.YtodcebhfkmlmgaaDoor
open Go Go.Lib

/-- An act. -/
structure LAct where
  k : Int
  n : Int
  p : Int
  t : List UInt8
  deriving DecidableEq
def actN (k : Int) : Bool := decide (k = 1 ∨ k = 2 ∨ k = 3 ∨ k = 7 ∨ k = 8 ∨ k = 9)
def actP (k : Int) : Bool := decide (k = 4 ∨ k = 5 ∨ k = 6 ∨ k = 7)
def actT (k : Int) : Bool := decide (k = 1 ∨ k = 9)
def lineCode (a : LAct) : Int :=
  if a.k < 1 ∨ 10 < a.k then 3
  else if (actN a.k = true ∧ (a.n < 0 ∨ 4 ≤ a.n)) ∨ (actP a.k = true ∧ (a.p < 0 ∨ 400000 < a.p)) then 2
  else if actT a.k = true ∧ 4000 < a.t.length then 1
  else if (actN a.k = false ∧ a.n ≠ 0) ∨ (actP a.k = false ∧ a.p ≠ 0) ∨ (actT a.k = false ∧ a.t ≠ []) then 4
  else 0
def wSubmit : List UInt8 := [115, 117, 98, 109, 105, 116]
def wWork : List UInt8 := [119, 111, 114, 107]
def wSync : List UInt8 := [115, 121, 110, 99]
def wTake : List UInt8 := [116, 97, 107, 101]
def wLose : List UInt8 := [108, 111, 115, 101]
def wCopy : List UInt8 := [99, 111, 112, 121]
def wCrash : List UInt8 := [99, 114, 97, 115, 104]
def wStart : List UInt8 := [115, 116, 97, 114, 116]
def wForge : List UInt8 := [102, 111, 114, 103, 101]
def wFlow : List UInt8 := [102, 108, 111, 119]
def wordsL : List (List UInt8) := [[], wSubmit, wWork, wSync, wTake, wLose, wCopy, wCrash, wStart, wForge, wFlow]
def wordOf (k : Int) : List UInt8 := wordsL.getD k.toNat []
def hexDigits : List UInt8 := [48, 49, 50, 51, 52, 53, 54, 55, 56, 57, 97, 98, 99, 100, 101, 102]
def hexD (n : Nat) : UInt8 := hexDigits.getD n 0
def hexL (t : List UInt8) : List UInt8 := t.flatMap fun c => [hexD (c.toNat / 16), hexD (c.toNat % 16)]
theorem hexL_nil : hexL [] = [] := rfl
theorem hexL_cons (c : UInt8) (t : List UInt8) : hexL (c :: t) = hexD (c.toNat / 16) :: hexD (c.toNat % 16) :: hexL t := rfl
theorem hexL_snoc (t : List UInt8) (c : UInt8) : hexL (t ++ [c]) = hexL t ++ [hexD (c.toNat / 16), hexD (c.toNat % 16)] := by simp [hexL]
theorem hexL_len (t : List UInt8) : (hexL t).length = 2 * t.length := by
  induction t with
  | nil => rfl
  | cons c t ih => rw [hexL_cons]; simp only [List.length_cons, ih]; omega
/-- One act's line, without its end. -/
def lineN (a : LAct) : List UInt8 := if actN a.k then 32 :: itoa a.n else []
def lineP (a : LAct) : List UInt8 := if actP a.k then 32 :: itoa a.p else []
def lineT (a : LAct) : List UInt8 := if actT a.k then 32 :: hexL a.t else []
def lineOf (a : LAct) : List UInt8 := wordOf a.k ++ lineN a ++ lineP a ++ lineT a
def showA (a : LAct) : List UInt8 := lineOf a ++ [10]
def showL (l : List LAct) : List UInt8 := l.flatMap showA
theorem showL_cons (a : LAct) (l : List LAct) : showL (a :: l) = lineOf a ++ 10 :: showL l := by simp [showL, showA]
theorem showL_snoc (l : List LAct) (a : LAct) : showL (l ++ [a]) = showL l ++ showA a := by simp [showL]
theorem showL_append (l m : List LAct) : showL (l ++ m) = showL l ++ showL m := by simp [showL]

/-! ### cut and split -/
def cutN : List UInt8 → List UInt8 × List UInt8 × Bool
  | [] => ([], [], false)
  | c :: r => if c = 10 then ([], r, true) else (c :: (cutN r).1, (cutN r).2.1, (cutN r).2.2)
theorem index_one (b c : UInt8) (l : List UInt8) : index (b :: l) [c] = if b = c then 0 else if index l [c] = -1 then -1 else index l [c] + 1 := by
  by_cases h : b = c
  · subst h
    rw [if_pos rfl]
    exact index_first (i := 0) (Nat.zero_le _) (by simp [occAt]) (fun _ h => absurd h (Nat.not_lt_zero _))
  · rw [if_neg h]
    have hp : ([c] : List UInt8).isPrefixOf (b :: l) = false := by simp [List.isPrefixOf]; exact fun e => h e.symm
    conv => lhs; unfold index
    rw [hp]
    by_cases h2 : index l [c] = -1
    · simp [h2]
    · have : (index l [c] == -1) = false := by rw [beq_eq_false_iff_ne]; exact h2
      simp [h2, this]
theorem cut_eq : ∀ s : List UInt8, Lib.cut s [10] = cutN s
  | [] => rfl
  | b :: l => by
    have ih := cut_eq l
    unfold Lib.cut at ih ⊢
    rw [index_one, cutN]
    by_cases h : b = 10
    · subst h; simp
    · rw [if_neg h, if_neg h]
      have hge := index_ge l [10]
      by_cases h2 : index l [10] = -1
      · rw [h2] at ih ⊢
        simp only [Int.reduceNeg, Int.reduceLE, if_false, if_true] at ih ⊢
        rw [← ih]
      · rw [if_neg h2]
        rw [if_pos (by omega)] at ih
        rw [if_pos (by omega), ← ih]
        obtain ⟨i, hi⟩ : ∃ i : Nat, index l [10] = i := ⟨(index l [10]).toNat, by omega⟩
        rw [hi]
        have e1 : ((i : Int) + 1).toNat = i + 1 := by omega
        simp [e1]
theorem cutN_at {a : List UInt8} (h : 10 ∉ a) (r : List UInt8) : cutN (a ++ 10 :: r) = (a, r, true) := by
  induction a with
  | nil => simp [cutN]
  | cons c t ih =>
    have h1 : c ≠ 10 := fun e => h (by simp [e])
    have h2 : 10 ∉ t := fun e => h (by simp [e])
    rw [List.cons_append, cutN, if_neg h1, ih h2]
theorem cutN_none {a : List UInt8} (h : 10 ∉ a) : cutN a = (a, [], false) := by
  induction a with
  | nil => rfl
  | cons c t ih =>
    have h1 : c ≠ 10 := fun e => h (by simp [e])
    have h2 : 10 ∉ t := fun e => h (by simp [e])
    rw [cutN, if_neg h1, ih h2]
theorem cutN_of : ∀ {s : List UInt8}, (cutN s).2.2 = true → s = (cutN s).1 ++ 10 :: (cutN s).2.1 ∧ 10 ∉ (cutN s).1
  | [], h => by simp [cutN] at h
  | c :: r, h => by
    rw [cutN] at h ⊢
    by_cases h1 : c = 10
    · rw [if_pos h1] at h ⊢; subst h1; exact ⟨rfl, by simp⟩
    · rw [if_neg h1] at h ⊢
      have ih := cutN_of (s := r) h
      refine ⟨by simp only [List.cons_append]; rw [← ih.1], by simp only [List.mem_cons, not_or]; exact ⟨fun e => h1 e.symm, ih.2⟩⟩
theorem cutN_len (s : List UInt8) : (cutN s).2.1.length ≤ s.length := by
  induction s with
  | nil => simp [cutN]
  | cons c r ih => rw [cutN]; split <;> simp <;> omega
theorem cutN_len1 (s : List UInt8) : (cutN s).1.length ≤ s.length := by
  induction s with
  | nil => simp [cutN]
  | cons c r ih => rw [cutN]; split <;> simp <;> omega
def spl : List UInt8 → List (List UInt8)
  | [] => [[]]
  | c :: r => if c = 32 then [] :: spl r else (c :: (spl r).headD []) :: (spl r).tail
theorem spl_ne (s : List UInt8) : spl s ≠ [] := by cases s <;> simp [spl]; split <;> simp
theorem splitK_spl : ∀ s : List UInt8, splitK [32] 0 (count s [32]) s = spl s
  | [] => rfl
  | b :: l => by
    have ih := splitK_spl l
    by_cases h : b = 32
    · subst h
      rw [count_cons_eq, Nat.add_comm, splitK, index_one, if_pos rfl, spl, if_pos rfl]
      simp [ih]
    · rw [count_cons_ne b 32 l h, spl, if_neg h]
      have hge := index_ge l [32]
      rcases hc : count l [32] with _ | n
      · rw [hc] at ih
        rw [← ih]; rfl
      · rw [hc] at ih
        rw [← ih, splitK, splitK, index_one, if_neg h]
        by_cases h2 : index l [32] = -1
        · simp [h2]
        · obtain ⟨i, hi⟩ : ∃ i : Nat, index l [32] = i := ⟨(index l [32]).toNat, by omega⟩
          rw [if_neg h2, hi]
          have e0 : ((i : Int) == -1) = false := by rw [beq_eq_false_iff_ne]; omega
          have e00 : ((i : Int) + 1 == -1) = false := by rw [beq_eq_false_iff_ne]; omega
          have e1 : ((i : Int) + 1).toNat = i + 1 := by omega
          simp [e0, e00, e1]
theorem split_eq (s : List UInt8) : Lib.split s [32] = spl s := splitK_spl s
theorem spl_none {a : List UInt8} (h : 32 ∉ a) : spl a = [a] := by
  induction a with
  | nil => rfl
  | cons c t ih =>
    have h1 : c ≠ 32 := fun e => h (by simp [e])
    rw [spl, if_neg h1, ih (fun e => h (by simp [e]))]; rfl
theorem spl_at {a : List UInt8} (h : 32 ∉ a) (r : List UInt8) : spl (a ++ 32 :: r) = a :: spl r := by
  induction a with
  | nil => simp [spl]
  | cons c t ih =>
    have h1 : c ≠ 32 := fun e => h (by simp [e])
    rw [List.cons_append, spl, if_neg h1, ih (fun e => h (by simp [e]))]; rfl
/-- The pieces, one behind the other. -/
def joinSp : List (List UInt8) → List UInt8
  | [] => []
  | a :: t => a ++ t.flatMap fun x => 32 :: x
theorem spl_join (s : List UInt8) : joinSp (spl s) = s := by
  induction s with
  | nil => rfl
  | cons c r ih =>
    rw [spl]
    by_cases h : c = 32
    · rw [if_pos h]
      subst h
      cases hq : spl r with
      | nil => exact absurd hq (spl_ne r)
      | cons x t => rw [hq] at ih; simp [joinSp] at ih ⊢; exact ih
    · rw [if_neg h]
      cases hq : spl r with
      | nil => exact absurd hq (spl_ne r)
      | cons x t => rw [hq] at ih; simp [joinSp] at ih ⊢; exact ih
theorem spl_len (s : List UInt8) : (spl s).length ≤ s.length + 1 := by
  induction s with
  | nil => simp [spl]
  | cons c r ih =>
    rw [spl]
    by_cases h : c = 32
    · rw [if_pos h]; simp; omega
    · rw [if_neg h]; simp; omega
/-! ### numbers and texts -/
def numL (s : List UInt8) : Int × Bool :=
  match atoiAll s with
  | .ok v => (v, decide (0 ≤ v ∧ itoa v = s))
  | .range => (atoiSat s, false)
  | _ => (0, false)
theorem dec_mem (u : Nat) : ∀ c ∈ decDigits u, 48 ≤ c.toNat ∧ c.toNat ≤ 57 := by
  intro c hc
  rw [decDigits_eq] at hc
  obtain ⟨t, -, rfl⟩ := List.mem_map.1 hc
  unfold dg
  simp
  omega
theorem dec_ne (u : Nat) : decDigits u ≠ [] := by
  intro h
  have := decDigits_length u
  rw [h] at this
  have := nDigits_pos u
  simp at *; omega
theorem parseUint_dec (u : Nat) (hu : u < 9223372036854775808) : parseUint10 0 (decDigits u) = .ok u := by
  have key : ∀ (u : Nat), u < 9223372036854775808 → ∀ (r : List UInt8), parseUint10 0 (decDigits u ++ r) = parseUint10 u r := by
    intro u
    induction u using Nat.strongRecOn with
    | _ u ih =>
      intro hu r
      by_cases h : u < 10
      · rw [decDigits, dif_pos h]
        simp only [List.singleton_append, parseUint10]
        have e : (UInt8.ofNat (48 + u)).toNat = 48 + u := by simp; omega
        rw [e, if_pos (by omega), if_neg (by omega), if_neg (by omega)]
        congr 1; omega
      · rw [decDigits, dif_neg h, List.append_assoc, ih (u / 10) (by omega) (by omega)]
        simp only [List.singleton_append, parseUint10]
        have e : (UInt8.ofNat (48 + u % 10)).toNat = 48 + u % 10 := by simp; omega
        rw [e, if_pos (by omega), if_neg (by omega), if_neg (by omega)]
        congr 1; omega
  have := key u hu []
  simpa [parseUint10] using this
theorem atoi_itoa (n : Int) (h0 : 0 ≤ n) (h1 : n < 9223372036854775808) : atoiAll (itoa n) = .ok n := by
  obtain ⟨u, rfl⟩ : ∃ u : Nat, n = u := ⟨n.toNat, by omega⟩
  have e : itoa (u : Int) = decDigits u := by unfold itoa; rw [if_neg (by omega)]; simp
  rw [e]
  obtain ⟨c, r, hq⟩ : ∃ c r, decDigits u = c :: r := by
    cases hq : decDigits u with
    | nil => exact absurd hq (dec_ne u)
    | cons c r => exact ⟨c, r, rfl⟩
  have hc := dec_mem u c (by rw [hq]; simp)
  have hp := parseUint_dec u (by omega)
  unfold atoiAll
  rw [hq] at hp ⊢
  simp only
  rw [if_neg (by omega)]
  unfold parseMag
  rw [if_neg (by simp), hp]
  simp only
  rw [if_neg (by omega), if_neg (by omega), if_neg (by omega)]
theorem numL_itoa (n : Int) (h0 : 0 ≤ n) (h1 : n < 9223372036854775808) : numL (itoa n) = (n, true) := by
  unfold numL
  rw [atoi_itoa n h0 h1]
  simp [h0]
theorem numL_of {s : List UInt8} (h : (numL s).2 = true) : itoa (numL s).1 = s ∧ 0 ≤ (numL s).1 := by
  unfold numL at h ⊢
  split at h
  · rename_i v hv
    simp only [decide_eq_true_eq] at h
    exact ⟨h.2, h.1⟩
  · simp at h
  · simp at h
def digV (c : UInt8) : Int := indexByte hexDigits c
theorem digV_range (c : UInt8) : -1 ≤ digV c ∧ digV c < 16 := by
  refine ⟨indexByte_ge _ _, ?_⟩
  by_cases h : digV c = -1
  · omega
  · have := indexByte_ge hexDigits c
    obtain ⟨o, ho⟩ : ∃ o : Nat, digV c = o := ⟨(digV c).toNat, by unfold digV at *; omega⟩
    have h1 := (indexByte_some ho).1
    have h2 : o < hexDigits.length := by
      rcases Nat.lt_or_ge o hexDigits.length with h | h
      · exact h
      · rw [List.getElem?_eq_none h] at h1; simp at h1
    have h3 : hexDigits.length = 16 := rfl
    omega
theorem digV_of {c : UInt8} (h : 0 ≤ digV c) : hexD (digV c).toNat = c := by
  obtain ⟨o, ho⟩ : ∃ o : Nat, digV c = o := ⟨(digV c).toNat, by omega⟩
  have h1 := (indexByte_some ho).1
  rw [ho]
  unfold hexD
  simp [h1]
theorem digV_hexD : ∀ n : Fin 16, digV (hexD n.val) = (n.val : Int) := by decide +kernel
theorem digV_hex {n : Nat} (h : n < 16) : digV (hexD n) = n := digV_hexD ⟨n, h⟩
def unh : List UInt8 → List UInt8 → List UInt8 × Bool
  | acc, [] => (acc, true)
  | acc, [_] => ([], false)
  | acc, c :: d :: r => if digV c < 0 ∨ digV d < 0 then ([], false) else unh (acc ++ [UInt8.ofNat ((digV c).toNat * 16 + (digV d).toNat)]) r
def unhexL (s : List UInt8) : List UInt8 × Bool := if s.length % 2 ≠ 0 then ([], false) else unh [] s
theorem hex_div {c : UInt8} : UInt8.ofNat (c.toNat / 16 * 16 + c.toNat % 16) = c := by
  have : c.toNat / 16 * 16 + c.toNat % 16 = c.toNat := by omega
  rw [this]; simp
theorem unh_hex : ∀ (t acc : List UInt8), unh acc (hexL t) = (acc ++ t, true)
  | [], acc => by simp [hexL, unh]
  | c :: t, acc => by
    have h1 : c.toNat / 16 < 16 := by have := c.toNat_lt; omega
    have h2 : c.toNat % 16 < 16 := by omega
    rw [hexL_cons, unh, digV_hex h1, digV_hex h2, if_neg (by omega), unh_hex t]
    simp only [Int.toNat_natCast, hex_div, List.append_assoc, List.singleton_append]
theorem unhexL_hex (t : List UInt8) : unhexL (hexL t) = (t, true) := by
  unfold unhexL
  rw [if_neg (by rw [hexL_len]; omega), unh_hex]; rfl
theorem unh_of : ∀ (s acc : List UInt8), (unh acc s).2 = true → ∃ t, (unh acc s).1 = acc ++ t ∧ hexL t = s
  | [], acc, _ => ⟨[], by simp [unh], rfl⟩
  | [c], acc, h => by simp [unh] at h
  | c :: d :: r, acc, h => by
    rw [unh] at h ⊢
    split at h
    · simp at h
    · rename_i hq
      rw [if_neg hq]
      obtain ⟨t, h1, h2⟩ := unh_of r _ h
      have k1 := digV_range c
      have k2 := digV_range d
      have q1 := digV_of (c := c) (by omega)
      have q2 := digV_of (c := d) (by omega)
      have e : (UInt8.ofNat ((digV c).toNat * 16 + (digV d).toNat)).toNat = (digV c).toNat * 16 + (digV d).toNat := by simp; omega
      refine ⟨UInt8.ofNat ((digV c).toNat * 16 + (digV d).toNat) :: t, by rw [h1]; simp, ?_⟩
      rw [hexL_cons, h2, e]
      have e1 : ((digV c).toNat * 16 + (digV d).toNat) / 16 = (digV c).toNat := by omega
      have e2 : ((digV c).toNat * 16 + (digV d).toNat) % 16 = (digV d).toNat := by omega
      rw [e1, e2, q1, q2]
theorem unhexL_of {s : List UInt8} (h : (unhexL s).2 = true) : hexL (unhexL s).1 = s := by
  unfold unhexL at h ⊢
  split at h
  · simp at h
  · rename_i hq
    rw [if_neg hq]
    obtain ⟨t, h1, h2⟩ := unh_of s [] h
    rw [h1]; simpa using h2
end Go.Proofs.YtodcebhfkmlmgaaDoor
