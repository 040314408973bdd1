/- What the checks answer: plain numbers. No program is named. -/
set_option linter.unusedVariables false
set_option linter.unusedSimpArgs false
namespace Go.Proofs.YtialhdmdeggenaaDoor
abbrev Bytes := List UInt8
def nodeOk (n : Int) : Bool := decide (0 ≤ n ∧ n < 4)
def countOk (n : Int) : Bool := decide (1 ≤ n ∧ n ≤ 1048576)
/-- digests: of 32 bytes, all different. -/
def digGo (seen : List Bytes) : List Bytes → Int
  | [] => 0
  | d :: t => if d.length ≠ 32 then 4 else if d ∈ seen then 7 else digGo (seen ++ [d]) t
def digCode (l : List Bytes) : Int := digGo [] l
theorem digGo_nil (s : List Bytes) : digGo s [] = 0 := rfl
theorem digGo_form {s : List Bytes} {d : Bytes} {t : List Bytes} (h : d.length ≠ 32) : digGo s (d :: t) = 4 := by unfold digGo; rw [if_pos h]
theorem digGo_twice {s : List Bytes} {d : Bytes} {t : List Bytes} (h : d.length = 32) (h1 : d ∈ s) : digGo s (d :: t) = 7 := by unfold digGo; rw [if_neg (by simp [h]), if_pos h1]
theorem digGo_next {s : List Bytes} {d : Bytes} {t : List Bytes} (h : d.length = 32) (h1 : ¬ d ∈ s) : digGo s (d :: t) = digGo (s ++ [d]) t := by
  rw [digGo, if_neg (by simp [h]), if_neg h1]
theorem digGo_zero : ∀ (t s : List Bytes), digGo s t = 0 ↔ (∀ d ∈ t, d.length = 32) ∧ (∀ d ∈ t, d ∉ s) ∧ t.Nodup
  | [], s => by simp [digGo]
  | d :: t, s => by
    by_cases h : d.length = 32
    · by_cases h1 : d ∈ s
      · rw [digGo_twice h h1]; simp [h1]
      · rw [digGo_next h h1, digGo_zero t]
        simp only [List.mem_append, not_or, List.mem_cons, List.nodup_cons, forall_eq_or_imp, List.not_mem_nil, not_false_eq_true, and_true]
        constructor
        · rintro ⟨a, b, c⟩
          exact ⟨⟨h, a⟩, ⟨h1, fun x hx => (b x hx).1⟩, fun hd => (b d hd).2 rfl, c⟩
        · rintro ⟨⟨_, a⟩, ⟨_, b⟩, c, e⟩
          exact ⟨a, fun x hx => ⟨b x hx, fun hxd => c (by rw [← hxd]; exact hx)⟩, e⟩
    · rw [digGo_form h]; simp [h]
theorem digCode_zero (l : List Bytes) : digCode l = 0 ↔ (∀ d ∈ l, d.length = 32) ∧ l.Nodup := by
  unfold digCode; rw [digGo_zero]; simp
theorem digGo_form_at (t : List Bytes) : ∀ s, digGo s t = 0 ∨ digGo s t = 4 ∨ digGo s t = 7 := by
  induction t with
  | nil => intro s; exact .inl rfl
  | cons d t ih =>
    intro s
    unfold digGo
    split
    · exact .inr (.inl rfl)
    · split
      · exact .inr (.inr rfl)
      · exact ih _

/-- A batch. -/
structure Bat where
  a : Int
  n : Int
  txs : List Bytes
def txLen (t : Bytes) : Bool := decide (1 ≤ t.length ∧ t.length ≤ 20)
def batCode (b : Bat) : Int :=
  if nodeOk b.a = false ∨ countOk b.n = false then 2 else if b.txs.length < 1 ∨ 4 < b.txs.length then 1 else if b.txs.all txLen then 0 else 1
/-- A header. -/
structure Hdr where
  a : Int
  r : Int
  bs : List Bytes
  ps : List Bytes
def hdrCode (h : Hdr) : Int :=
  if nodeOk h.a = false ∨ countOk h.r = false then 2 else if 3 < h.bs.length ∨ 4 < h.ps.length then 1
  else if digCode h.bs ≠ 0 then digCode h.bs else if digCode h.ps ≠ 0 then digCode h.ps
  else if (h.r = 1 ∧ 0 < h.ps.length) ∨ (1 < h.r ∧ h.ps.length < 3) then 10 else 0
/-- Voters. -/
def votGo (last : Option Int) : List Int → Int
  | [] => 0
  | v :: t => if nodeOk v = false then 2 else if (match last with | none => false | some u => decide (v ≤ u)) = true then 9 else votGo (some v) t
/-- A certificate. -/
structure Crt where
  h : Hdr
  vs : List Int
def crtCode (c : Crt) : Int :=
  if hdrCode c.h ≠ 0 then hdrCode c.h else if 4 < c.vs.length then 1 else if votGo none c.vs ≠ 0 then votGo none c.vs else if c.vs.length < 3 then 10 else 0
/-- A slot. -/
structure Slt where
  a : Int
  r : Int
  d : Bytes
def sltCode (a r : Int) (n : Nat) : Int := if nodeOk a = false ∨ countOk r = false then 2 else if n ≠ 32 then 4 else 0
end Go.Proofs.YtialhdmdeggenaaDoor
