/- The small texts of this seat, in one. -/
import Derived.WalkKit
import Derived.WalkSpells
import Derived.Lib.Hide
import Derived.Laws.AppendOwnNone
import Derived.Laws.BytesString
import Derived.Deep.AppendLies
import Derived.RegionTactic
import Derived.Test.YtmijiclocadimaaGreatDoorRows
import Derived.Outline
import Derived.BigGuardPart
import Derived.BigQuiet
import Derived.Deep.QuietTactic
import Derived.WalkSmall
import Derived.Deep.RegionHeld3
import Derived.WalkLawsBesides
import Derived.Laws.Rows
import Derived.Laws.CopyOwn
import Derived.Lib.AppendStr
import Derived.ProofKit
import Derived.OpenShut
import Derived.Deep.Slices
import Derived.SizedLaws
import Derived.Shelf.SlSortCmp.SmallK
import Derived.Shelf.SlGeneric
import Derived.Shelf.Small.Bits
/- What the checks answer: plain numbers. No program is named. -/
set_option linter.unusedVariables false
set_option linter.unusedSimpArgs false
namespace Go.Proofs.YtmijiclocadimaaGreatDoor
abbrev Bytes := List UInt8
def nodeOk (n : Int) : Bool := decide (0 ≤ n ∧ n < 4)
def countOk (n : Int) : Bool := decide (1 ≤ n ∧ n ≤ 1048576)
/-- digests: of 32 bytes, all different. -/
def digGo (seen : List Bytes) : List Bytes → Int
  | [] => 0
  | d :: t => if d.length ≠ 32 then 4 else if d ∈ seen then 7 else digGo (seen ++ [d]) t
def digCode (l : List Bytes) : Int := digGo [] l
theorem digGo_nil (s : List Bytes) : digGo s [] = 0 := rfl
theorem digGo_form {s : List Bytes} {d : Bytes} {t : List Bytes} (h : d.length ≠ 32) : digGo s (d :: t) = 4 := by unfold digGo; rw [if_pos h]
theorem digGo_twice {s : List Bytes} {d : Bytes} {t : List Bytes} (h : d.length = 32) (h1 : d ∈ s) : digGo s (d :: t) = 7 := by unfold digGo; rw [if_neg (by simp [h]), if_pos h1]
theorem digGo_next {s : List Bytes} {d : Bytes} {t : List Bytes} (h : d.length = 32) (h1 : ¬ d ∈ s) : digGo s (d :: t) = digGo (s ++ [d]) t := by
  rw [digGo, if_neg (by simp [h]), if_neg h1]
theorem digGo_zero : ∀ (t s : List Bytes), digGo s t = 0 ↔ (∀ d ∈ t, d.length = 32) ∧ (∀ d ∈ t, d ∉ s) ∧ t.Nodup
  | [], s => by simp [digGo]
  | d :: t, s => by
    by_cases h : d.length = 32
    · by_cases h1 : d ∈ s
      · rw [digGo_twice h h1]; simp [h1]
      · rw [digGo_next h h1, digGo_zero t]
        simp only [List.mem_append, not_or, List.mem_cons, List.nodup_cons, forall_eq_or_imp, List.not_mem_nil, not_false_eq_true, and_true]
        constructor
        · rintro ⟨a, b, c⟩
          exact ⟨⟨h, a⟩, ⟨h1, fun x hx => (b x hx).1⟩, fun hd => (b d hd).2 rfl, c⟩
        · rintro ⟨⟨_, a⟩, ⟨_, b⟩, c, e⟩
          exact ⟨a, fun x hx => ⟨b x hx, fun hxd => c (by rw [← hxd]; exact hx)⟩, e⟩
    · rw [digGo_form h]; simp [h]
theorem digCode_zero (l : List Bytes) : digCode l = 0 ↔ (∀ d ∈ l, d.length = 32) ∧ l.Nodup := by
  unfold digCode; rw [digGo_zero]; simp
theorem digGo_form_at (t : List Bytes) : ∀ s, digGo s t = 0 ∨ digGo s t = 4 ∨ digGo s t = 7 := by
  induction t with
  | nil => intro s; exact .inl rfl
  | cons d t ih =>
    intro s
    unfold digGo
    split
    · exact .inr (.inl rfl)
    · split
      · exact .inr (.inr rfl)
      · exact ih _

/-- A batch. -/
structure Bat where
  a : Int
  n : Int
  txs : List Bytes
def txLen (t : Bytes) : Bool := decide (1 ≤ t.length ∧ t.length ≤ 20)
def batCode (b : Bat) : Int :=
  if nodeOk b.a = false ∨ countOk b.n = false then 2 else if b.txs.length < 1 ∨ 4 < b.txs.length then 1 else if b.txs.all txLen then 0 else 1
/-- A header. -/
structure Hdr where
  a : Int
  r : Int
  bs : List Bytes
  ps : List Bytes
def hdrCode (h : Hdr) : Int :=
  if nodeOk h.a = false ∨ countOk h.r = false then 2 else if 3 < h.bs.length ∨ 4 < h.ps.length then 1
  else if digCode h.bs ≠ 0 then digCode h.bs else if digCode h.ps ≠ 0 then digCode h.ps
  else if (h.r = 1 ∧ 0 < h.ps.length) ∨ (1 < h.r ∧ h.ps.length < 3) then 10 else 0
/-- Voters. -/
def votGo (last : Option Int) : List Int → Int
  | [] => 0
  | v :: t => if nodeOk v = false then 2 else if (match last with | none => false | some u => decide (v ≤ u)) = true then 9 else votGo (some v) t
/-- A certificate. -/
structure Crt where
  h : Hdr
  vs : List Int
def crtCode (c : Crt) : Int :=
  if hdrCode c.h ≠ 0 then hdrCode c.h else if 4 < c.vs.length then 1 else if votGo none c.vs ≠ 0 then votGo none c.vs else if c.vs.length < 3 then 10 else 0
/-- A slot. -/
structure Slt where
  a : Int
  r : Int
  d : Bytes
def sltCode (a r : Int) (n : Nat) : Int := if nodeOk a = false ∨ countOk r = false then 2 else if n ≠ 32 then 4 else 0
end Go.Proofs.YtmijiclocadimaaGreatDoor
/- What a slice reads as, and that it goes on reading so. Plain lemmas on worlds; no program is named. -/
set_option linter.unusedVariables false
set_option linter.unusedSimpArgs false
namespace Go.Proofs.YtmijiclocadimaaGreatDoor
open Go Go.RowKit

theorem ret_intH {k : IntKind} {a b : Int} (h : b = a) : Ending.returned (.int k a) = .returned (.int k b) := by rw [h]
theorem ret_boolH {a b : Bool} (h : b = a) : Ending.returned (.bool a) = .returned (.bool b) := by rw [h]

/-- Every cell of an allowed block holds what it held. -/
def Keep (G : Nat → Prop) (w w' : World) : Prop := ∀ b o v, G b → w.cell? ⟨b, o, none⟩ = some v → w'.cell? ⟨b, o, none⟩ = some v

theorem Keep.refl (G : Nat → Prop) (w : World) : Keep G w w := fun _ _ _ _ h => h
theorem Keep.trans {G : Nat → Prop} {a b c : World} (h : Keep G a b) (h' : Keep G b c) : Keep G a c := fun x o v hg hc => h' x o v hg (h x o v hg hc)
theorem Keep.mono {G G' : Nat → Prop} {a b : World} (h : Keep G a b) (hg : ∀ x, G' x → G x) : Keep G' a b := fun x o v hx hc => h x o v (hg x hx) hc
theorem Keep.below {G : Nat → Prop} {w w' : World} (h : Below w.heap.size w w') : Keep G w w' := fun b o v _ hc => by
  rw [h.cell (p := ⟨b, o, none⟩) (World.block_lt_of_cell? w _ hc)]; exact hc
theorem Keep.belowB {B : Nat} {G : Nat → Prop} {w w' : World} (h : Below B w w') (hG : ∀ b, G b → b < B) : Keep G w w' := fun b o v hb hc => by
  rw [h.cell (p := ⟨b, o, none⟩) (hG b hb)]; exact hc
theorem Keep.alloc (G : Nat → Prop) (w : World) (o : Obj) : Keep G w (w.alloc o) := Keep.below ((Below.refl _ _).alloc (Nat.le_refl _) _)
theorem Keep.drew (G : Nat → Prop) (w : World) : Keep G w w.drew := Keep.below (Below.refl _ _).drew
theorem Keep.setCell {G : Nat → Prop} {w : World} {p : Addr} (hp : ¬ G p.block) (u : Value) : Keep G w (w.setCell p u) := fun b o v hb hc => by
  rw [World.cell?_of_block (w := w) (a := ⟨b, o, none⟩) (Below.heap_setCell w p u b (fun e => hp (e ▸ hb)))]; exact hc
theorem Keep.grown {G : Nat → Prop} {w w' : World} {row : Option Nat} (hg : w.grownBy w' row) (hr : ∀ k, row = some k → ¬ G k) : Keep G w w' := fun b o v hb hc =>
  hg.cell (a := ⟨b, o, none⟩) hc (fun e => hr b e.symm hb)

/-- How a run of cells reads as a datum; it goes on reading so where its blocks are kept. -/
structure Rel (α : Type) where
  size : Nat
  rd : (Nat → Prop) → World → List Value → α → Prop
  len : ∀ {G w cs x}, rd G w cs x → cs.length = size
  keep : ∀ {G w cs x G' w'}, rd G w cs x → Keep G w w' → (∀ b, G b → G' b) → rd G' w' cs x
  /-- what reads avoids blocks that do not exist yet -/
  low : ∀ {G w cs x}, rd G w cs x → rd (fun b => G b ∧ b < w.heap.size) w cs x

/-- A slice value that reads as a list. -/
def RdS {α : Type} (R : Rel α) (G : Nat → Prop) (w : World) (v : Value) (l : List α) : Prop :=
  ∃ ad cap, v = .slice ad l.length cap ∧ l.length ≤ cap ∧ cap ≤ maxLen ∧ (ad = none → cap = 0) ∧
    ∀ j x, l[j]? = some x → ∃ b o cs, ad = some ⟨b, o, none⟩ ∧ G b ∧ (∀ t c, cs[t]? = some c → w.cell? ⟨b, o + (j * R.size + t), none⟩ = some c) ∧ R.rd G w cs x

section
variable {α : Type} {R : Rel α} {G G' : Nat → Prop} {w w' : World} {v : Value} {l : List α}

theorem RdS.keep (h : RdS R G w v l) (hk : Keep G w w') (hg : ∀ b, G b → G' b) : RdS R G' w' v l := by
  obtain ⟨ad, cap, rfl, h1, h2, h0, h3⟩ := h
  refine ⟨ad, cap, rfl, h1, h2, h0, fun j x hx => ?_⟩
  obtain ⟨b, o, cs, ha, hb, hc, hr⟩ := h3 j x hx
  exact ⟨b, o, cs, ha, hg b hb, fun t c ht => hk _ _ _ hb (hc t c ht), R.keep hr hk hg⟩
theorem RdS.low (hs : 0 < R.size) (h : RdS R G w v l) : RdS R (fun b => G b ∧ b < w.heap.size) w v l := by
  obtain ⟨ad, cap, rfl, h1, h2, h0, h3⟩ := h
  refine ⟨ad, cap, rfl, h1, h2, h0, fun j x hx => ?_⟩
  obtain ⟨b, o, cs, ha, hb, hc, hr⟩ := h3 j x hx
  have hl := R.len hr
  refine ⟨b, o, cs, ha, ⟨hb, ?_⟩, hc, R.low hr⟩
  have : cs[0]? = some (cs[0]'(by omega)) := by simp
  exact World.block_lt_of_cell? w _ (hc 0 _ this)
theorem RdS.below (h : RdS R G w v l) (hk : Below w.heap.size w w') (hg : ∀ b, G b → G' b) : RdS R G' w' v l := h.keep (Keep.below hk) hg
theorem RdS.mono (h : RdS R G w v l) (hg : ∀ b, G b → G' b) : RdS R G' w v l := h.keep (Keep.refl _ _) hg
theorem RdS.nil (R : Rel α) (G : Nat → Prop) (w : World) : RdS R G w (.slice none 0 0) [] := ⟨none, 0, rfl, by simp, by unfold maxLen; omega, fun _ => rfl, fun j x hx => by simp at hx⟩
/-- The value's own form. -/
theorem RdS.form (h : RdS R G w v l) : ∃ ad cap, v = .slice ad l.length cap ∧ l.length ≤ cap ∧ cap ≤ maxLen :=
  let ⟨ad, cap, h0, h1, h2, _, _⟩ := h; ⟨ad, cap, h0, h1, h2⟩
theorem RdS.form0 (h : RdS R G w v l) : ∃ ad cap, v = .slice ad l.length cap ∧ l.length ≤ cap ∧ cap ≤ maxLen ∧ (ad = none → cap = 0) :=
  let ⟨ad, cap, h0, h1, h2, h3, _⟩ := h; ⟨ad, cap, h0, h1, h2, h3⟩
theorem RdS.at {ad : Option Addr} {n cap : Nat} (h : RdS R G w (.slice ad n cap) l) (j : Nat) (hj : j < l.length) :
    ∃ b o cs, ad = some ⟨b, o, none⟩ ∧ G b ∧ (∀ t c, cs[t]? = some c → w.cell? ⟨b, o + (j * R.size + t), none⟩ = some c) ∧ R.rd G w cs l[j] := by
  obtain ⟨ad', cap', he, h1, h2, hn0, h3⟩ := h
  simp only [Value.slice.injEq] at he
  obtain ⟨rfl, rfl, rfl⟩ := he
  exact h3 j _ (by simp [hj])
theorem RdS.len {ad : Option Addr} {n cap : Nat} (h : RdS R G w (.slice ad n cap) l) : n = l.length ∧ n ≤ cap ∧ cap ≤ maxLen ∧ (ad = none → cap = 0) := by
  obtain ⟨ad', cap', he, h1, h2, hn0, h3⟩ := h
  simp only [Value.slice.injEq] at he
  obtain ⟨rfl, rfl, rfl⟩ := he
  exact ⟨rfl, h1, h2, hn0⟩
theorem RdS.take {ad : Option Addr} {n cap : Nat} (h : RdS R G w (.slice ad n cap) l) (k : Nat) (hk : k ≤ l.length) : RdS R G w (.slice ad k cap) (l.take k) := by
  obtain ⟨h0, h1, h2, hn0⟩ := h.len
  have hl : (l.take k).length = k := by simp; omega
  refine ⟨ad, cap, by rw [hl], by omega, h2, hn0, fun j x hx => ?_⟩
  have hj : j < (l.take k).length := by
    rcases Nat.lt_or_ge j (l.take k).length with h | h
    · exact h
    · simp [List.getElem?_eq_none h] at hx
  obtain ⟨b, o, cs, ha, hb, hc, hr⟩ := h.at j (by omega)
  have : x = l[j]'(by omega) := by
    rw [List.getElem?_take_of_lt (by omega)] at hx
    rw [List.getElem?_eq_getElem (by omega)] at hx
    exact (Option.some.inj hx).symm
  subst this
  exact ⟨b, o, cs, ha, hb, hc, hr⟩
theorem RdS.drop {b o : Nat} {n cap : Nat} (h : RdS R G w (.slice (some ⟨b, o, none⟩) n cap) l) (k : Nat) (hk : k ≤ l.length) : RdS R G w (.slice (some ⟨b, o + k * R.size, none⟩) (n - k) (cap - k)) (l.drop k) := by
  obtain ⟨h0, h1, h2, hn0⟩ := h.len
  refine ⟨_, _, by rw [List.length_drop, h0], by simp; omega, by omega, fun h => by simp at h, fun j x hx => ?_⟩
  rw [List.getElem?_drop] at hx
  have hj : k + j < l.length := by
    rcases Nat.lt_or_ge (k + j) l.length with h | h
    · exact h
    · simp [List.getElem?_eq_none h] at hx
  obtain ⟨b', o', cs, ha, hb, hc, hr⟩ := h.at (k + j) hj
  simp only [Option.some.injEq, Addr.mk.injEq, and_true] at ha
  obtain ⟨rfl, rfl⟩ := ha
  have : x = l[k + j]'hj := by rw [List.getElem?_eq_getElem hj] at hx; exact (Option.some.inj hx).symm
  subst this
  exact ⟨b, _, cs, rfl, hb, fun t c ht => by have := hc t c ht; rw [show o + k * R.size + (j * R.size + t) = o + ((k + j) * R.size + t) by rw [Nat.add_mul]; omega]; exact this, hr⟩
end

/-! ### Elements of one cell that hold their own value -/
def flat {α : Type} (f : α → Value) : Rel α where
  size := 1
  rd := fun _ _ cs x => cs = [f x]
  len := fun h => by simp [h]
  keep := fun h _ _ => h
  low := fun h => h
abbrev RInt : Rel Int := flat (Value.int .i64)
abbrev RByte : Rel UInt8 := flat (fun c => Value.int .u8 c.toNat)
/-- A text, as a value. -/
abbrev strV (s : List UInt8) : Value := .string ⟨s.toArray⟩
abbrev RStr : Rel (List UInt8) := flat (fun s => Value.string ⟨s.toArray⟩)
abbrev RdI := RdS RInt
abbrev RdB := RdS RByte
abbrev RdT := RdS RStr

/-- The cell of an element of one cell. -/
theorem RdS.cell {α : Type} {f : α → Value} {G : Nat → Prop} {w : World} {l : List α} {ad : Option Addr} {n cap : Nat} (h : RdS (flat f) G w (.slice ad n cap) l) (j : Nat) (hj : j < l.length) :
    ∃ b o, ad = some ⟨b, o, none⟩ ∧ G b ∧ w.cell? ⟨b, o + j, none⟩ = some (f l[j]) := by
  obtain ⟨b, o, cs, ha, hb, hc, hr⟩ := h.at j hj
  have hr' : cs = [f l[j]] := hr
  subst hr'
  exact ⟨b, o, ha, hb, by have := hc 0 _ rfl; simpa [flat] using this⟩
/-- All cells at once. -/
theorem RdS.cells {α : Type} {f : α → Value} {G : Nat → Prop} {w : World} {l : List α} {b o : Nat} {n cap : Nat} (h : RdS (flat f) G w (.slice (some ⟨b, o, none⟩) n cap) l) (j : Nat) (hj : j < l.length) :
    w.cell? ⟨b, o + j, none⟩ = some (f l[j]) := by
  obtain ⟨b', o', ha, _, hc⟩ := h.cell j hj
  simp only [Option.some.injEq, Addr.mk.injEq, and_true] at ha
  obtain ⟨rfl, rfl⟩ := ha
  exact hc

/-- An elements' relation for slices of such. -/
def sliceOf {α : Type} (R : Rel α) (hs : 0 < R.size) : Rel (List α) where
  size := 1
  rd := fun G w cs x => ∃ v, cs = [v] ∧ RdS R G w v x
  len := fun ⟨_, h, _⟩ => by simp [h]
  keep := fun ⟨v, h, hr⟩ hk hg => ⟨v, h, hr.keep hk hg⟩
  low := fun ⟨v, h, hr⟩ => ⟨v, h, hr.low hs⟩
abbrev RBytes : Rel (List UInt8) := sliceOf RByte (by decide)
abbrev RdBB := RdS RBytes

/-- What the call owns reads as a list. -/
theorem RdS.of_owns {α : Type} {f : α → Value} {G : Nat → Prop} {w : World} {base e n : Nat} {v : Value} {l : List α} (h : w.ownsRow base e 1 v n (l.map f)) (hG : ∀ b, base ≤ b → G b) : RdS (flat f) G w v l := by
  obtain ⟨hl, h⟩ := h
  have hn : n = l.length := by simpa using hl.symm
  subst hn
  rcases h with ⟨rfl, h0⟩ | ⟨g, cap, cur, rfl, hb, hg, h1, h2, h3, h4⟩
  · have : l = [] := List.eq_nil_of_length_eq_zero h0
    subst this; exact RdS.nil _ _ _
  · refine ⟨_, cap, rfl, h1, h2, fun h => by simp at h, fun j x hx => ⟨g, 0, [f x], rfl, hG g hb, fun t c ht => ?_, rfl⟩⟩
    match t, ht with
    | 0, ht =>
      simp at ht; subst ht
      have hx' : (l.map f)[j]? = some (f x) := by simp [hx]
      rw [← h4, Nat.mul_one] at hx'
      have hj : j < l.length := by
        rcases Nat.lt_or_ge j l.length with h | h
        · exact h
        · simp [List.getElem?_eq_none h] at hx
      rw [List.getElem?_take_of_lt hj] at hx'
      simp [World.cell?, hg, flat]
      simpa using hx'

/-! ### append -/
/-- What is known of a slice type's elements. -/
def ElemOk (P : Program) (t e : TypeId) (size bytes : Nat) : Prop :=
  P.underlying t = some (.slice e) ∧ ∃ i z, P.info? e = some i ∧ i.zero = some z ∧ i.size = size ∧ i.bytes = bytes ∧ z.cells.size = size ∧ 0 < size
theorem elemOk_of {P : Program} {t e : TypeId} {size bytes : Nat} {z : Value} (h1 : P.underlying t = some (.slice e)) (h2 : (P.info? e).map (fun i => (i.zero, i.size, i.bytes)) = some (some z, size, bytes)) (h3 : z.cells.size = size) (h4 : 0 < size) : ElemOk P t e size bytes := by
  obtain ⟨i, hi, a, b, c⟩ := info_parts h2
  exact ⟨h1, i, z, hi, a, b, c, h3, h4⟩

/-- The cells of a slice value, one behind the other. -/
def SlCells (w : World) (vx : Value) (m size : Nat) (news : List Value) : Prop :=
  ∃ ad c, vx = .slice ad m c ∧ (ad = none → c = 0 ∧ m = 0) ∧ news.length = m * size ∧ ∀ j u, news[j]? = some u → ∃ b o, ad = some ⟨b, o, none⟩ ∧ w.cell? ⟨b, o + j, none⟩ = some u
theorem RdS.slCells {α : Type} {f : α → Value} {G : Nat → Prop} {w : World} {v : Value} {l : List α} (h : RdS (flat f) G w v l) : SlCells w v l.length 1 (l.map f) := by
  obtain ⟨ad, cap, rfl, h1, h2, h0, h3⟩ := h
  refine ⟨ad, cap, rfl, fun h => ?_, by simp, fun j u hj => ?_⟩
  · have := h0 h; omega
  · simp only [List.getElem?_map, Option.map_eq_some_iff] at hj
    obtain ⟨x, hx, rfl⟩ := hj
    obtain ⟨b, o, cs, ha, hb, hc, hr⟩ := h3 j x hx
    have hr' : cs = [f x] := hr
    subst hr'
    exact ⟨b, o, ha, by have := hc 0 _ rfl; simpa [flat] using this⟩
theorem SlCells.below {w w' : World} {vx : Value} {m size : Nat} {news : List Value} (h : SlCells w vx m size news) (hb : Below w.heap.size w w') : SlCells w' vx m size news := by
  obtain ⟨ad, c, h1, h2, h3, h4⟩ := h
  refine ⟨ad, c, h1, h2, h3, fun j u hj => ?_⟩
  obtain ⟨b, o, ha, hc⟩ := h4 j u hj
  exact ⟨b, o, ha, by rw [hb.cell (p := ⟨b, o + j, none⟩) (World.block_lt_of_cell? w _ hc)]; exact hc⟩
theorem SlCells.drew {w : World} {vx : Value} {m size : Nat} {news : List Value} (h : SlCells w vx m size news) : SlCells w.drew vx m size news := h
theorem ownsRow_mono {w : World} {base base' e size n : Nat} {v : Value} {xs : List Value} (h : w.ownsRow base e size v n xs) (hb : base' ≤ base) : w.ownsRow base' e size v n xs := by
  obtain ⟨h1, h2⟩ := h
  refine ⟨h1, ?_⟩
  rcases h2 with h2 | ⟨g, cap, cur, hv, hg, r⟩
  · exact Or.inl h2
  · exact Or.inr ⟨g, cap, cur, hv, Nat.le_trans hb hg, r⟩
theorem ownsRow_form {w : World} {base e size n : Nat} {v : Value} {xs : List Value} (h : w.ownsRow base e size v n xs) : ∃ ad cap, v = .slice ad n cap := by
  rcases h.2 with ⟨rfl, rfl⟩ | ⟨g, cap, cur, hv, _⟩
  · exact ⟨_, _, rfl⟩
  · exact ⟨_, _, hv⟩
/-- A new block of one element. -/
theorem slCells_new (w : World) (cs : List Value) (e : TypeId) (size : Nat) (hs : cs.length = size) : SlCells (w.alloc (.cells cs.toArray e)) (.slice (some ⟨w.heap.size, 0, none⟩) 1 1) 1 size cs :=
  ⟨_, _, rfl, fun h => by simp at h, by omega, fun j u hj => ⟨_, _, rfl, by unfold World.cell?; rw [heap_alloc_new]; simpa using hj⟩⟩

theorem run_append_sl {P : Program} {t e : TypeId} {size bytes : Nat} (hE : ElemOk P t e size bytes) (w : World) (base : Nat) (ty : TypeId) (v : Value) (n : Nat) (xs : List Value) (hown : w.ownsRow base e size v n xs)
    (vx : Value) (m : Nat) (news : List Value) (hx : SlCells w vx m size news) (h1 : ∀ u ∈ news, u.oneCell' = true) (h63 : n + m ≤ maxLen) (hbytes : (n + m) * bytes ≤ 140737488355328) (hbase : base ≤ w.heap.size) :
    ∃ v' w', (Builtin.append_ #[t, t] ty #[v, vx]).run P w = .ok v' w' ∧ w'.ownsRow base e size v' (n + m) (xs ++ news) ∧ w.grownBy w' v.ownBlock := by
  obtain ⟨ht, i, z, hi, hz, hsize, hby, hzs, hsz⟩ := hE
  obtain ⟨ad, c, rfl, h0, hl, hc⟩ := hx
  rcases ad with _ | a
  · obtain ⟨rfl, rfl⟩ := h0 rfl
    have hn : news = [] := List.eq_nil_of_length_eq_zero (by simpa using hl)
    subst hn
    have hr := run_append_owned_none (P := P) (w := w) base t ty e i size ht hi v n xs hown
    exact ⟨v, w, hr, by simpa using hown, ⟨rfl, rfl, rfl, Nat.le_refl _, fun _ _ _ => rfl⟩⟩
  · have hnews : ∀ j u, news[j]? = some u → w.cell? (a.add j) = some u := fun j u hj => by
      obtain ⟨b, o, ha, hcell⟩ := hc j u hj
      simp only [Option.some.injEq] at ha
      subst ha
      unfold Addr.add
      split
      · rename_i h; subst h; simpa using hcell
      · exact hcell
    obtain ⟨v', w', hr, h2, h3, _⟩ := run_append_own (P := P) w base t ty e i z size bytes ht hi hz hsize hby hzs hsz v n xs hown a m c news hl hnews h1 h63 hbytes hbase
    exact ⟨v', w', hr, h2, h3⟩

theorem wp_append_sl {P : Program} {w : World} {o : Oper} {a : Act} {K : Act → World → Prop} {Q : Exit → Act → World → Prop} (s x : Operand) (t : TypeId)
    (ho : o.op = .call { callee := .builtin .append, args := #[s, x], argTypes := #[t, t] })
    {e : TypeId} {size bytes : Nat} (hE : ElemOk P t e size bytes) (base : Nat) (vs : Value) (hs : a.eval s = vs) (n : Nat) (xs : List Value) (hown : w.ownsRow base e size vs n xs)
    (vx : Value) (hvx : a.eval x = vx) (m : Nat) (news : List Value) (hx : SlCells w vx m size news) (h1 : ∀ u ∈ news, u.oneCell' = true) (h63 : n + m ≤ maxLen) (hbytes : (n + m) * bytes ≤ 140737488355328) (hbase : base ≤ w.heap.size)
    (h : ∀ v' w', w'.ownsRow base e size v' (n + m) (xs ++ news) → w.grownBy w' vs.ownBlock → K (a.put o.dst v') w') : o.wp P a w K Q := by
  subst hs hvx
  obtain ⟨v', w', hr, h2, h3⟩ := run_append_sl hE w base o.type (a.eval s) n xs hown (a.eval x) m news hx h1 h63 hbytes hbase
  unfold Oper.wp execOp
  simp only [ho, resolve, invoke, builtin, Sem.run_bind, Sem.run_pure, Result.andThen_ok, List.map_toArray, List.map_cons, List.map_nil, hr]
  exact h v' w' h2 h3

/-- The same as a step of a region that draws its order. -/
theorem step_append_sl {P : Program} {ops : Array Oper} {w : World} {o : Oper} {a : Act} {K : Act → World → Prop} {Q : Exit → Act → World → Prop} {E : Prop} (hgd : o.guard = none) (s x : Operand) (t : TypeId)
    (ho : o.op = .call { callee := .builtin .append, args := #[s, x], argTypes := #[t, t] })
    {e : TypeId} {size bytes : Nat} (hE : ElemOk P t e size bytes) (base : Nat) (vs : Value) (hs : a.eval s = vs) (n : Nat) (xs : List Value) (hown : w.ownsRow base e size vs n xs)
    (vx : Value) (hvx : a.eval x = vx) (m : Nat) (news : List Value) (hx : SlCells w vx m size news) (h1 : ∀ u ∈ news, u.oneCell' = true) (h63 : n + m ≤ maxLen) (hbytes : (n + m) * bytes ≤ 140737488355328) (hbase : base ≤ w.heap.size)
    (h : ∀ v' w', w'.ownsRow base e size v' (n + m) (xs ++ news) → w.grownBy w' vs.ownBlock → K (a.put o.dst v') w') :
    if Region.wanted o (yielded ops a.tmps) = true then Oper.wp P o a w K Q else E := by
  have hw : Region.wanted o (yielded ops a.tmps) = true := by simp [Region.wanted, hgd]
  rw [if_pos hw]
  exact wp_append_sl s x t ho hE base vs hs n xs hown vx hvx m news hx h1 h63 hbytes hbase h

/-- 'append' onto what the call owns, whatever is appended. -/
theorem wpList_append_sl {P : Program} {w : World} {ops : Array Oper} {rest : List Oper} {o : Oper} {a : Act} {Q : Exit → Act → World → Prop} (hgd : o.guard = none) (s x : Operand) (t : TypeId)
    (ho : o.op = .call { callee := .builtin .append, args := #[s, x], argTypes := #[t, t] })
    {e : TypeId} {size bytes : Nat} (hE : ElemOk P t e size bytes) (base : Nat) (vs : Value) (hs : a.eval s = vs) (n : Nat) (xs : List Value) (hown : w.ownsRow base e size vs n xs)
    (vx : Value) (hvx : a.eval x = vx) (m : Nat) (news : List Value) (hx : SlCells w vx m size news) (h1 : ∀ u ∈ news, u.oneCell' = true) (h63 : n + m ≤ maxLen) (hbytes : (n + m) * bytes ≤ 140737488355328) (hbase : base ≤ w.heap.size)
    (h : ∀ v' w', w'.ownsRow base e size v' (n + m) (xs ++ news) → w.grownBy w' vs.ownBlock → wpList P ops Q rest (a.put o.dst v') w') : wpList P ops Q (o :: rest) a w := by
  subst hs hvx
  refine wpList_plain hgd fun K hK => ?_
  obtain ⟨v', w', hr, h2, h3⟩ := run_append_sl hE w base o.type (a.eval s) n xs hown (a.eval x) m news hx h1 h63 hbytes hbase
  unfold Oper.wp execOp
  simp only [ho, resolve, invoke, builtin, Sem.run_bind, Sem.run_pure, Result.andThen_ok, List.map_toArray, List.map_cons, List.map_nil, hr]
  exact hK _ _ (h v' w' h2 h3)
/-- Behind a call that makes memory: the old cells and marks read as before. -/
theorem bcell {W w1 : World} (hb : Below W.heap.size W w1) : (∀ b o, b < W.heap.size → w1.cell? ⟨b, o, none⟩ = W.cell? ⟨b, o, none⟩) ∧ (∀ b o, b < W.heap.size → w1.frozen? ⟨b, o, none⟩ = W.frozen? ⟨b, o, none⟩) :=
  ⟨fun b o h => hb.cell (p := ⟨b, o, none⟩) h, fun b o h => hb.frozen (p := ⟨b, o, none⟩) h⟩

/-- The row that was written is one of the call's own. -/
theorem ownBlock_ge {w : World} {base e size n : Nat} {v : Value} {xs : List Value} (h : w.ownsRow base e size v n xs) : ∀ k, v.ownBlock = some k → base ≤ k := fun k hk => (h.lt k hk).1
theorem oneCell_map {α : Type} (f : α → Value) (l : List α) (hf : ∀ x, (f x).oneCell' = true) : ∀ u ∈ l.map f, u.oneCell' = true := by
  intro u hu
  obtain ⟨x, _, rfl⟩ := List.mem_map.1 hu
  exact hf x

/-! ### A block of the call's own: a variable in memory -/
def BoxAt (w : World) (b : Nat) (cs : List Value) (T : TypeId) : Prop := w.heap[b]? = some (.cells cs.toArray T (0, 0))
section
variable {w w' : World} {b : Nat} {cs : List Value} {T : TypeId}
theorem BoxAt.cell (h : BoxAt w b cs T) (j : Nat) {v : Value} (hv : cs[j]? = some v) : w.cell? ⟨b, j, none⟩ = some v := by
  unfold BoxAt at h; simp [World.cell?, h, hv]
theorem BoxAt.free (h : BoxAt w b cs T) (j : Nat) : w.frozen? ⟨b, j, none⟩ = false := by
  unfold BoxAt at h; simp [World.frozen?, h]
theorem BoxAt.lt (h : BoxAt w b cs T) : b < w.heap.size := lt_of_block h
theorem BoxAt.below {B : Nat} (h : BoxAt w b cs T) (hb : Below B w w') (hl : b < B) : BoxAt w' b cs T := (hb.block b hl).trans h
theorem BoxAt.belowS (h : BoxAt w b cs T) (hb : Below w.heap.size w w') : BoxAt w' b cs T := h.below hb h.lt
theorem BoxAt.drew (h : BoxAt w b cs T) : BoxAt w.drew b cs T := h
theorem BoxAt.alloc (h : BoxAt w b cs T) (o : Obj) : BoxAt (w.alloc o) b cs T := (Below.heap_alloc w o b h.lt).trans h
theorem BoxAt.new (w : World) (cs : List Value) (T : TypeId) : BoxAt (w.alloc (.cells cs.toArray T)) w.heap.size cs T := heap_alloc_new w _
theorem BoxAt.set (h : BoxAt w b cs T) (j : Nat) (u : Value) : BoxAt (w.setCell ⟨b, j, none⟩ u) b (cs.set j u) T := by
  have := heap_setCell_same w b j cs.toArray T u h
  unfold BoxAt; rw [this]; simp
theorem BoxAt.setOther (h : BoxAt w b cs T) {p : Addr} (hp : b ≠ p.block) (u : Value) : BoxAt (w.setCell p u) b cs T := (Below.heap_setCell w p u b hp).trans h
theorem BoxAt.grown {row : Option Nat} (h : BoxAt w b cs T) (hg : w.grownBy w' row) (hr : row ≠ some b) : BoxAt w' b cs T := (hg.block b h.lt (fun e => hr e.symm)).trans h
end
end Go.Proofs.YtmijiclocadimaaGreatDoor
/- More plain lemmas on worlds; no program is named. -/
set_option linter.unusedVariables false
set_option linter.unusedSimpArgs false
namespace Go.Proofs.YtmijiclocadimaaGreatDoor
open Go Go.RowKit
theorem BoxAt.newAt (w : World) (cs : List Value) (T : TypeId) {n : Nat} (hn : n = w.heap.size) : BoxAt (w.alloc (.cells cs.toArray T)) n cs T := hn ▸ BoxAt.new w cs T
theorem Keep.setCell' {G : Nat → Prop} {a w : World} {p : Addr} (h : Keep G a w) (hp : ¬ G p.block) (u : Value) : Keep G a (w.setCell p u) := h.trans (Keep.setCell hp u)
theorem Keep.alloc' {G : Nat → Prop} {a w : World} (h : Keep G a w) (o : Obj) : Keep G a (w.alloc o) := h.trans (Keep.alloc G w o)
theorem Keep.drew' {G : Nat → Prop} {a w : World} (h : Keep G a w) : Keep G a w.drew := h.trans (Keep.drew G w)
/-- Both cells of a variable of two cells are written. -/
theorem BoxAt.set2 {w : World} {b : Nat} {a0 a1 : Value} {T : TypeId} (h : BoxAt w b [a0, a1] T) (u0 u1 : Value) : BoxAt ((w.setCell ⟨b, 0, none⟩ u0).setCell ⟨b, 1, none⟩ u1) b [u0, u1] T := (h.set 0 u0).set 1 u1
theorem BoxAt.set3 {w : World} {b : Nat} {a0 a1 a2 : Value} {T : TypeId} (h : BoxAt w b [a0, a1, a2] T) (u0 u1 u2 : Value) : BoxAt (((w.setCell ⟨b, 0, none⟩ u0).setCell ⟨b, 1, none⟩ u1).setCell ⟨b, 2, none⟩ u2) b [u0, u1, u2] T := ((h.set 0 u0).set 1 u1).set 2 u2
/-- A block that was there reads, and may be written, as before. -/
theorem bcellAt {W w1 : World} (hb : Below W.heap.size W w1) (b : Nat) (h : b < W.heap.size) : (∀ o, w1.cell? ⟨b, o, none⟩ = W.cell? ⟨b, o, none⟩) ∧ (∀ o, w1.frozen? ⟨b, o, none⟩ = W.frozen? ⟨b, o, none⟩) :=
  ⟨fun o => hb.cell (p := ⟨b, o, none⟩) h, fun o => hb.frozen (p := ⟨b, o, none⟩) h⟩
end Go.Proofs.YtmijiclocadimaaGreatDoor
/- Conversions between texts and bytes; make. No program is named. -/
set_option linter.unusedVariables false
set_option linter.unusedSimpArgs false
namespace Go.Proofs.YtmijiclocadimaaGreatDoor
open Go Go.RowKit

theorem foldl_push (l : List UInt8) : ∀ s : ByteArray, (l.map (fun c => ((c.toNat : Nat) : Int))).foldl (fun r n => r.push (UInt8.ofNat n.toNat)) s = ⟨(s.data.toList ++ l).toArray⟩ := by
  induction l with
  | nil => intro s; simp
  | cons c l ih =>
    intro s
    simp only [List.map_cons, List.foldl_cons, ih]
    congr 2
    show (s.data.push (UInt8.ofNat (c.toNat : Int).toNat)).toList ++ l = _
    simp

theorem run_bytesToString_rd {P : Program} {G : Nat → Prop} {w : World} {v : Value} {l : List UInt8} (h : RdB G w v l) : (Conv.bytesToString v).run P w = .ok (strV l) w := by
  obtain ⟨ad, cap, rfl, h1, h2, h0⟩ := h.form0
  rcases ad with _ | a
  · have : l = [] := List.eq_nil_of_length_eq_zero (by have := h0 rfl; omega)
    subst this
    rfl
  · have hc : ∀ j v, (l.map (fun c => Value.int .u8 c.toNat))[j]? = some v → w.cell? (a.add j) = some v := fun j u hj => by
      simp only [List.getElem?_map, Option.map_eq_some_iff] at hj
      obtain ⟨x, hx, rfl⟩ := hj
      have hjl : j < l.length := by
        rcases Nat.lt_or_ge j l.length with h | h
        · exact h
        · simp [List.getElem?_eq_none h] at hx
      obtain ⟨b, o, ha, _, hcell⟩ := h.cell j hjl
      simp only [Option.some.injEq] at ha
      subst ha
      rw [List.getElem?_eq_getElem hjl] at hx
      obtain rfl := Option.some.inj hx
      unfold Addr.add
      split
      · rename_i h; subst h; simpa using hcell
      · exact hcell
    have hl := run_loadCells_list (P := P) (w := w) a _ hc
    have hm : l.map (fun c => Value.int .u8 c.toNat) = (l.map (fun c => ((c.toNat : Nat) : Int))).map (Value.int .u8) := by simp
    rw [hm] at hl
    have := run_bytesToString (P := P) w a l.length cap (l.map (fun c => ((c.toNat : Nat) : Int))) (by simpa using hl)
    rw [this, foldl_push]
    rfl

/-- 'string(b)'. -/
theorem wpList_bytes_str {P : Program} {w : World} {ops : Array Oper} {rest : List Oper} {o : Oper} {a : Act} {Q : Exit → Act → World → Prop} (hgd : o.guard = none) (src dst : TypeId) (x : Operand)
    (ho : o.op = .convert src dst x) {e : TypeId} (hs : P.underlying src = some (.slice e)) (he : P.underlying e = some (.int .u8)) (hd : P.underlying dst = some .string)
    (v : Value) (hv : a.eval x = v) {G : Nat → Prop} (l : List UInt8) (hr : RdB G w v l)
    (h : wpList P ops Q rest (a.put o.dst (strV l)) w) : wpList P ops Q (o :: rest) a w := by
  subst hv
  refine wpList_plain hgd fun K hK => ?_
  have hrun : (convert src dst (a.eval x)).run P w = .ok (strV l) w := by
    obtain ⟨ad, cap, hf, _⟩ := hr.form
    have h2 := run_bytesToString_rd (P := P) hr
    rw [hf] at h2 ⊢
    rw [run_convert_bytes_string (P := P) w src dst e ad _ cap hs he hd]
    exact h2
  unfold Oper.wp execOp
  simp only [ho, Sem.run_bind, Sem.run_pure, Result.andThen_ok, hrun]
  exact hK _ _ h

/-- n times a value. -/
def vzeros (n : Nat) (z : Value) : List Value := List.replicate n z
/-- 'make([]T, n)', elements of one cell. -/
theorem wpList_make_z {P : Program} {w : World} {ops : Array Oper} {rest : List Oper} {o : Oper} {a : Act} {Q : Exit → Act → World → Prop} (hgd : o.guard = none) (l c : Operand) (t : TypeId)
    (ho : o.op = .makeSlice t l c) {e : TypeId} {bytes : Nat} {z : Value} (ht : P.underlying t = some (.slice e)) (hinfo : (P.info? e).map (fun i => (i.zero, i.size, i.bytes)) = some (some z, 1, bytes)) (hzc : z.cells = #[z])
    (n : Nat) (L C : Int) (hl : a.eval l = .int .i64 L) (hc : a.eval c = .int .i64 C) (hL : L = (n : Int)) (hC : C = (n : Int)) (hb : bytes * n ≤ 281474976710656) (hm : n ≤ maxLen)
    (h : ∀ w', w'.ownsRow w.heap.size e 1 (.slice (some ⟨w.heap.size, 0, none⟩) n n) n (vzeros n z) → Below w.heap.size w w' → w'.heap.size = w.heap.size + 1 → wpList P ops Q rest (a.put o.dst (.slice (some ⟨w.heap.size, 0, none⟩) n n)) w') :
    wpList P ops Q (o :: rest) a w := by
  subst hL hC
  obtain ⟨i, hi, hz0, hz1, hz2⟩ := info_parts hinfo
  refine wpList_plain hgd fun K hK => ?_
  have hm' : n ≤ 9223372036854775807 := by unfold maxLen at hm; omega
  have hr := run_make (P := P) w t e i z ht hi hz0 .i64 .i64 n n (by omega) (by omega) (by rw [hz2, ← Int.natCast_mul]; omega) (by omega)
  unfold Oper.wp execOp
  simp only [ho, hl, hc, Sem.run_bind, Sem.run_pure, Result.andThen_ok, hr, Int.toNat_natCast]
  refine hK _ _ (h _ ?_ ((Below.refl _ _).alloc (Nat.le_refl _) _) (by simp))
  unfold vzeros
  refine ⟨by simp, Or.inr ⟨w.heap.size, n, _, rfl, Nat.le_refl _, heap_alloc_new w _, Nat.le_refl _, hm, by rw [size_madeCells, hz1], ?_⟩⟩
  rw [hz1, Nat.mul_one, hzc]
  apply List.ext_getElem
  · simp [madeCells]
  · intro j h1 h2
    simp [madeCells]
    rw [Nat.mod_one]; rfl
/-- n noughts. -/
def zeros (n : Nat) : List UInt8 := List.replicate n 0
theorem length_zeros (n : Nat) : (zeros n).length = n := by simp [zeros]
theorem rdB_zeros {G : Nat → Prop} {w : World} {base e n : Nat} {v : Value} (h : w.ownsRow base e 1 v n (vzeros n (.int .u8 0))) (hG : ∀ b, base ≤ b → G b) : RdB G w v (zeros n) :=
  RdS.of_owns (by unfold zeros; rw [List.map_replicate]; exact h) hG

/-- The cells of n noughts. -/
def zcells (n : Nat) : Array Value := (vzeros n (.int .u8 0)).toArray
theorem hmake_rule {P : Program} {t e : TypeId} (ht : P.underlying t = some (.slice e)) (hinfo : (P.info? e).map (fun i => (i.zero, i.size, i.bytes)) = some (some (.int .u8 0), 1, 1)) (n : Nat) (L : Int) (hL : L = (n : Int)) (hn : n ≤ 281474976710656) (w : World) :
    (Instr.makeSlice t (.int .i64 L) (.int .i64 L)).run P w = .ok (.slice (some ⟨w.heap.size, 0, none⟩) n n) (w.alloc (.cells (zcells n) e)) := by
  subst hL
  obtain ⟨i, hi, hz0, hz1, hz2⟩ := info_parts hinfo
  have hr := run_make (P := P) w t e i (.int .u8 0) ht hi hz0 .i64 .i64 n n (by omega) (by omega) (by rw [hz2]; omega) (by omega)
  rw [hr, hz1]
  simp only [Int.toNat_natCast, Nat.mul_one]
  have hm : madeCells (Value.int IntKind.u8 0).cells n = zcells n := by
    apply Array.ext'
    simp only [zcells, vzeros, madeCells]
    apply List.ext_getElem
    · simp
    · intro j h1 h2
      simp [Value.cells]
      rw [Nat.mod_one]; rfl
  rw [hm]
/-- A block of n noughts. -/
def ZBlock (w : World) (b n : Nat) (e : TypeId) : Prop := w.heap[b]? = some (.cells (zcells n) e (0, 0))
theorem ZBlock.new {w : World} {b n : Nat} {e : TypeId} (hb : b = w.heap.size) : ZBlock (w.alloc (.cells (zcells n) e)) b n e := hb ▸ heap_alloc_new w _
theorem ZBlock.alloc {w : World} {b n : Nat} {e : TypeId} (h : ZBlock w b n e) (o : Obj) : ZBlock (w.alloc o) b n e := (Below.heap_alloc w o b (lt_of_block h)).trans h
theorem ZBlock.drew {w : World} {b n : Nat} {e : TypeId} (h : ZBlock w b n e) : ZBlock w.drew b n e := h
theorem ZBlock.rd {w : World} {b n : Nat} {e : TypeId} (h : ZBlock w b n e) (hn : n ≤ maxLen) : RdB (fun _ => True) w (.slice (some ⟨b, 0, none⟩) n n) (zeros n) :=
  RdS.of_owns (base := 0) (e := e) (n := n) ⟨by simp [length_zeros], Or.inr ⟨b, n, zcells n, rfl, Nat.zero_le _, h, Nat.le_refl _, hn, by simp [zcells, vzeros], by simp [zcells, vzeros, zeros]⟩⟩ (fun _ _ => trivial)
theorem hstr_rule {P : Program} {src dst e : TypeId} (hs : P.underlying src = some (.slice e)) (he : P.underlying e = some (.int .u8)) (hd : P.underlying dst = some .string) (n : Nat) (hn : n ≤ maxLen) (w : World) (b : Nat) (h : ZBlock w b n e) :
    (convert src dst (.slice (some ⟨b, 0, none⟩) n n)).run P w = .ok (strV (zeros n)) w := by
  rw [run_convert_bytes_string (P := P) w src dst e _ _ _ hs he hd]
  exact run_bytesToString_rd (h.rd hn)
end Go.Proofs.YtmijiclocadimaaGreatDoor
/- append, and where the new slice lies: in the form of XLib's laws. -/
set_option linter.unusedVariables false
set_option linter.unusedSimpArgs false
namespace Go.Proofs.YtmijiclocadimaaGreatDoor
open Go Go.RowKit

theorem wpList_append_at1 {P : Program} {w : World} {ops : Array Oper} {rest : List Oper} {o : Oper} {a : Act} {Q : Exit → Act → World → Prop} (hgd : o.guard = none) (s x : Operand) (t : TypeId)
    (ho : o.op = .call { callee := .builtin .append, args := #[s, x], argTypes := #[t, t] })
    {e : TypeId} {size bytes : Nat} (hE : ElemOk P t e size bytes) (base : Nat) (vs : Value) (hs : a.eval s = vs) (n : Nat) (xs : List Value) (hown : w.ownsRow base e size vs n xs)
    (vx : Value) (hvx : a.eval x = vx) (m : Nat) (news : List Value) (hx : SlCells w vx m size news) (h1 : ∀ u ∈ news, u.oneCell' = true) (hm : 0 < m) (h63 : n + m ≤ maxLen) (hbytes : (n + m) * bytes ≤ 140737488355328) (hbase : base ≤ w.heap.size)
    (H : Nat) (hH : w.heap.size = H)
    (h : ∀ g cap w', w'.ownsRow base e size (.slice (some ⟨g, 0, none⟩) (n + m) cap) (n + m) (xs ++ news) → w.grownBy w' vs.ownBlock → (vs.ownBlock = some g ∨ g = H) → g < w'.heap.size → wpList P ops Q rest (a.put o.dst (.slice (some ⟨g, 0, none⟩) (n + m) cap)) w') : wpList P ops Q (o :: rest) a w := by
  obtain ⟨ht, i, z, hi, hz, hsize, hby, hzs, hsz⟩ := hE
  obtain ⟨ad, c, rfl, h0, hl, hc⟩ := hx
  rcases ad with _ | ad
  · have := (h0 rfl).2; omega
  · refine wpList_append_lies w hgd s x t ho base e i z size bytes ht hi hz hsize hby hzs hsz vs n xs hs hown ad m c news hvx hl (fun j u hj => ?_) h1 hm h63 hbytes hbase H hH h
    obtain ⟨b, o, ha, hcell⟩ := hc j u hj
    simp only [Option.some.injEq] at ha
    subst ha
    unfold Addr.add
    split
    · rename_i h; subst h; simpa using hcell
    · exact hcell
theorem ownsRow_below {w w' : World} {base e size n : Nat} {v : Value} {xs : List Value} (h : w.ownsRow base e size v n xs) (hb : Below w.heap.size w w') : w'.ownsRow base e size v n xs := by
  obtain ⟨h1, h2⟩ := h
  refine ⟨h1, ?_⟩
  rcases h2 with h2 | ⟨g, cap, cur, hv, hg, hh, r⟩
  · exact Or.inl h2
  · refine Or.inr ⟨g, cap, cur, hv, hg, ?_, r⟩
    rw [hb.block g (lt_of_block hh)]; exact hh
theorem ownsRow_setCell {w : World} {base e size n : Nat} {v : Value} {xs : List Value} (h : w.ownsRow base e size v n xs) {p : Addr} (hp : p.block < base) (u : Value) : (w.setCell p u).ownsRow base e size v n xs := by
  obtain ⟨h1, h2⟩ := h
  refine ⟨h1, ?_⟩
  rcases h2 with h2 | ⟨g, cap, cur, hv, hg, hh, r⟩
  · exact Or.inl h2
  · refine Or.inr ⟨g, cap, cur, hv, hg, ?_, r⟩
    rw [Below.heap_setCell w p u g (by omega)]; exact hh
end Go.Proofs.YtmijiclocadimaaGreatDoor
/- Lists that the call builds by append, their elements read. No program is named. -/
set_option linter.unusedVariables false
set_option linter.unusedSimpArgs false
namespace Go.Proofs.YtmijiclocadimaaGreatDoor
open Go Go.RowKit

def LstO {α : Type} (R : Rel α) (G : Nat → Prop) (base e : Nat) (w : World) (v : Value) (l : List α) : Prop :=
  ∃ vals, w.ownsRow base e R.size v l.length vals ∧ ∀ j x, l[j]? = some x → R.rd (fun b => G b ∧ b < w.heap.size ∧ v.ownBlock ≠ some b) w ((vals.drop (j * R.size)).take R.size) x

section
variable {α : Type} {R : Rel α} {G G' : Nat → Prop} {base e : Nat} {w w' : World} {v : Value} {l : List α}

theorem LstO.nil (R : Rel α) (G : Nat → Prop) (base e : Nat) (w : World) : LstO R G base e w (.slice none 0 0) [] :=
  ⟨[], World.ownsRow_nil _ _ _ _, fun j x hx => by simp at hx⟩
theorem LstO.mono (h : LstO R G base e w v l) (hG : ∀ b, G b → G' b) : LstO R G' base e w v l := by
  obtain ⟨vals, h1, h2⟩ := h
  exact ⟨vals, h1, fun j x hx => R.keep (h2 j x hx) (Keep.refl _ _) (fun b hb => ⟨hG b hb.1, hb.2⟩)⟩
theorem LstO.below (h : LstO R G base e w v l) (hb : Below w.heap.size w w') : LstO R G base e w' v l := by
  obtain ⟨vals, h1, h2⟩ := h
  exact ⟨vals, ownsRow_below h1 hb, fun j x hx => R.keep (h2 j x hx) (Keep.below hb) (fun b hb' => ⟨hb'.1, Nat.lt_of_lt_of_le hb'.2.1 hb.size, hb'.2.2⟩)⟩
theorem LstO.alloc (h : LstO R G base e w v l) (o : Obj) : LstO R G base e (w.alloc o) v l := h.below ((Below.refl _ _).alloc (Nat.le_refl _) _)
theorem LstO.drew (h : LstO R G base e w v l) : LstO R G base e w.drew v l := h.below (Below.refl _ _).drew
theorem LstO.setCell (h : LstO R G base e w v l) {p : Addr} (hp : p.block < base) (hG : ¬ G p.block) (u : Value) : LstO R G base e (w.setCell p u) v l := by
  obtain ⟨vals, h1, h2⟩ := h
  refine ⟨vals, ownsRow_setCell h1 hp u, fun j x hx => R.keep (h2 j x hx) (Keep.setCell (fun h => hG h.1) u) (fun b hb => ⟨hb.1, ?_, hb.2.2⟩)⟩
  have : (w.setCell p u).heap.size = w.heap.size := by simp [World.setCell]
  omega
theorem LstO.own (h : LstO R G base e w v l) : ∃ vals, w.ownsRow base e R.size v l.length vals := let ⟨vals, h1, _⟩ := h; ⟨vals, h1⟩
theorem LstO.form (h : LstO R G base e w v l) : ∃ ad cap, v = .slice ad l.length cap := let ⟨vals, h1, _⟩ := h; ownsRow_form h1
/-- One more. -/
theorem LstO.push {vals : List Value} {g cap : Nat} {x : α} {cs : List Value} (h1 : w.ownsRow base e R.size v l.length vals)
    (h2 : ∀ j x, l[j]? = some x → R.rd (fun b => G b ∧ b < w.heap.size ∧ v.ownBlock ≠ some b) w ((vals.drop (j * R.size)).take R.size) x)
    (hx : R.rd (fun b => G b ∧ b < w.heap.size ∧ v.ownBlock ≠ some b) w cs x)
    (hown : w'.ownsRow base e R.size (.slice (some ⟨g, 0, none⟩) (l.length + 1) cap) (l.length + 1) (vals ++ cs)) (hgr : w.grownBy w' v.ownBlock) (hat : v.ownBlock = some g ∨ g = w.heap.size) :
    LstO R G base e w' (.slice (some ⟨g, 0, none⟩) (l.length + 1) cap) (l ++ [x]) := by
  have hlv : vals.length = l.length * R.size := h1.1
  have hk : Keep (fun b => G b ∧ b < w.heap.size ∧ v.ownBlock ≠ some b) w w' := Keep.grown hgr (fun k hk h => h.2.2 hk)
  have hm : ∀ b, (G b ∧ b < w.heap.size ∧ v.ownBlock ≠ some b) → (G b ∧ b < w'.heap.size ∧ (Value.slice (some ⟨g, 0, none⟩) (l.length + 1) cap).ownBlock ≠ some b) := fun b hb => ⟨hb.1, Nat.lt_of_lt_of_le hb.2.1 hgr.size, by
    simp only [Value.ownBlock, ne_eq, Option.some.injEq]
    rintro rfl
    rcases hat with hat | hat
    · exact hb.2.2 hat
    · omega⟩
  refine ⟨vals ++ cs, by simpa using hown, fun j y hy => ?_⟩
  rcases Nat.lt_trichotomy j l.length with hj | hj | hj
  · rw [List.getElem?_append_left hj] at hy
    have hr := h2 j y hy
    have hle : (j + 1) * R.size ≤ l.length * R.size := Nat.mul_le_mul_right _ hj
    rw [Nat.add_mul, Nat.one_mul] at hle
    rw [List.drop_append_of_le_length (by omega), List.take_append_of_le_length (by simp; omega)]
    exact R.keep hr hk hm
  · subst hj
    simp only [List.getElem?_append_right (Nat.le_refl _), Nat.sub_self, List.getElem?_cons_zero, Option.some.injEq] at hy
    subst hy
    rw [← hlv, List.drop_left' rfl, List.take_of_length_le (by rw [R.len hx]; omega)]
    exact R.keep hx hk hm
  · rw [List.getElem?_eq_none (by simp; omega)] at hy; simp at hy
/-- It reads. -/
theorem LstO.rd (h : LstO R G base e w v l) (hs : 0 < R.size) (hb : ∀ b, base ≤ b → b < w.heap.size → G' b) (hG : ∀ b, G b → b < w.heap.size → G' b) : RdS R G' w v l := by
  obtain ⟨vals, ⟨hl, h1⟩, h2⟩ := h
  rcases h1 with ⟨rfl, h0⟩ | ⟨g, cap, cur, rfl, hbg, hg, k1, k2, k3, k4⟩
  · have : l = [] := List.eq_nil_of_length_eq_zero h0
    subst this; exact RdS.nil _ _ _
  · refine ⟨_, cap, rfl, k1, k2, fun h => by simp at h, fun j x hx => ?_⟩
    have hj : j < l.length := by
      rcases Nat.lt_or_ge j l.length with h | h
      · exact h
      · simp [List.getElem?_eq_none h] at hx
    have hr := h2 j x hx
    refine ⟨g, 0, _, rfl, hb g hbg (lt_of_block hg), fun t c ht => ?_, R.keep hr (Keep.refl _ _) (fun b hb' => hG b hb'.1 hb'.2.1)⟩
    have hlen := R.len hr
    have ht' : t < R.size := by
      rcases Nat.lt_or_ge t R.size with h | h
      · exact h
      · rw [List.getElem?_eq_none (by omega)] at ht; simp at ht
    rw [List.getElem?_take_of_lt ht', List.getElem?_drop] at ht
    have hle : (j + 1) * R.size ≤ l.length * R.size := Nat.mul_le_mul_right _ hj
    rw [Nat.add_mul, Nat.one_mul] at hle
    rw [← k4, List.getElem?_take_of_lt (by omega)] at ht
    simp [World.cell?, hg]
    simpa using ht
end
/-- The same, its cells a letter. -/
def LstV {α : Type} (R : Rel α) (G : Nat → Prop) (base e : Nat) (w : World) (v : Value) (l : List α) (vals : List Value) : Prop :=
  w.ownsRow base e R.size v l.length vals ∧ ∀ j x, l[j]? = some x → R.rd (fun b => G b ∧ b < w.heap.size ∧ v.ownBlock ≠ some b) w ((vals.drop (j * R.size)).take R.size) x
section
variable {α : Type} {R : Rel α} {G G' : Nat → Prop} {base e : Nat} {w w' : World} {v : Value} {l : List α} {vs : List Value}
theorem LstO.valsOf (h : LstO R G base e w v l) : ∃ vs, LstV R G base e w v l vs := h
theorem LstV.o (h : LstV R G base e w v l vs) : LstO R G base e w v l := ⟨vs, h⟩
theorem LstV.own (h : LstV R G base e w v l vs) : w.ownsRow base e R.size v l.length vs := h.1
theorem LstV.below (h : LstV R G base e w v l vs) (hb : Below w.heap.size w w') : LstV R G base e w' v l vs :=
  ⟨ownsRow_below h.1 hb, fun j x hx => R.keep (h.2 j x hx) (Keep.below hb) (fun b hb' => ⟨hb'.1, Nat.lt_of_lt_of_le hb'.2.1 hb.size, hb'.2.2⟩)⟩
theorem LstV.alloc (h : LstV R G base e w v l vs) (o : Obj) : LstV R G base e (w.alloc o) v l vs := h.below ((Below.refl _ _).alloc (Nat.le_refl _) _)
theorem LstV.drew (h : LstV R G base e w v l vs) : LstV R G base e w.drew v l vs := h.below (Below.refl _ _).drew
theorem LstV.push {g cap : Nat} {x : α} {cs : List Value} (h : LstV R G base e w v l vs)
    (hx : R.rd (fun b => G b ∧ b < w.heap.size ∧ v.ownBlock ≠ some b) w cs x)
    (hown : w'.ownsRow base e R.size (.slice (some ⟨g, 0, none⟩) (l.length + 1) cap) (l.length + 1) (vs ++ cs)) (hgr : w.grownBy w' v.ownBlock) (hat : v.ownBlock = some g ∨ g = w.heap.size) :
    LstO R G base e w' (.slice (some ⟨g, 0, none⟩) (l.length + 1) cap) (l ++ [x]) := LstO.push h.1 h.2 hx hown hgr hat
theorem LstV.lt (h : LstV R G base e w v l vs) : ∀ k, v.ownBlock = some k → base ≤ k ∧ k < w.heap.size := h.1.lt
end
/-- The cells of a block that is known whole, as a slice of one element. -/
theorem BoxAt.slCells {w : World} {b size : Nat} {cs : List Value} {T : TypeId} (h : BoxAt w b cs T) (hs : cs.length = size) : SlCells w (.slice (some ⟨b, 0, none⟩) 1 1) 1 size cs :=
  ⟨_, _, rfl, fun h => by simp at h, by omega, fun j u hj => ⟨_, _, rfl, by have := h.cell j hj; simpa using this⟩⟩
theorem BoxAt.newsAt {w : World} {b : Nat} {cs : List Value} {T : TypeId} (h : BoxAt w b cs T) : ∀ j u, cs[j]? = some u → w.cell? ((⟨b, 0, none⟩ : Addr).add j) = some u := fun j u hu => by
  have hadd : (⟨b, 0, none⟩ : Addr).add j = ⟨b, j, none⟩ := by unfold Addr.add; split <;> simp_all
  rw [hadd]; exact h.cell j hu
/-- append of one element at a step of a region that draws. -/
theorem step_append_one {P : Program} {w : World} {ops : Array Oper} {o : Oper} {a : Act} {K : Act → World → Prop} {Q : Exit → Act → World → Prop} {E : Prop} (hgd : o.guard = none) (s x : Operand) (t : TypeId)
    (ho : o.op = .call { callee := .builtin .append, args := #[s, x], argTypes := #[t, t] })
    {e : TypeId} {size bytes : Nat} (hE : ElemOk P t e size bytes) (base : Nat) (v : Value) (n : Nat) (xs : List Value) (hs : a.eval s = v) (hown : w.ownsRow base e size v n xs)
    (b : Nat) (T : TypeId) (cs : List Value) (hx : a.eval x = .slice (some ⟨b, 0, none⟩) 1 1) (hbox : BoxAt w b cs T) (hl : cs.length = size) (h1 : ∀ u ∈ cs, u.oneCell' = true)
    (h63 : n + 1 ≤ maxLen) (hbytes : (n + 1) * bytes ≤ 140737488355328) (hbase : base ≤ w.heap.size)
    (h : ∀ g cap w', w'.ownsRow base e size (.slice (some ⟨g, 0, none⟩) (n + 1) cap) (n + 1) (xs ++ cs) → w.grownBy w' v.ownBlock → (v.ownBlock = some g ∨ g = w.heap.size) → g < w'.heap.size → K (a.put o.dst (.slice (some ⟨g, 0, none⟩) (n + 1) cap)) w') :
    if Region.wanted o (yielded ops a.tmps) = true then Oper.wp P o a w K Q else E := by
  obtain ⟨ht, i, z, hi, hz, hsize, hby, hzs, hsz⟩ := hE
  exact step_append_lies w hgd s x t ho base e i z size bytes ht hi hz hsize hby hzs hsz v n xs hs hown ⟨b, 0, none⟩ 1 1 cs hx (by omega) hbox.newsAt h1 (by omega) h63 hbytes hbase _ rfl h
/-- The same in a plain region. -/
theorem wpList_append_one {P : Program} {w : World} {ops : Array Oper} {rest : List Oper} {o : Oper} {a : Act} {Q : Exit → Act → World → Prop} (hgd : o.guard = none) (s x : Operand) (t : TypeId)
    (ho : o.op = .call { callee := .builtin .append, args := #[s, x], argTypes := #[t, t] })
    {e : TypeId} {size bytes : Nat} (hE : ElemOk P t e size bytes) (base : Nat) (v : Value) (n : Nat) (xs : List Value) (hs : a.eval s = v) (hown : w.ownsRow base e size v n xs)
    (b : Nat) (T : TypeId) (cs : List Value) (hx : a.eval x = .slice (some ⟨b, 0, none⟩) 1 1) (hbox : BoxAt w b cs T) (hl : cs.length = size) (h1 : ∀ u ∈ cs, u.oneCell' = true)
    (h63 : n + 1 ≤ maxLen) (hbytes : (n + 1) * bytes ≤ 140737488355328) (hbase : base ≤ w.heap.size)
    (h : ∀ g cap w', w'.ownsRow base e size (.slice (some ⟨g, 0, none⟩) (n + 1) cap) (n + 1) (xs ++ cs) → w.grownBy w' v.ownBlock → (v.ownBlock = some g ∨ g = w.heap.size) → g < w'.heap.size → wpList P ops Q rest (a.put o.dst (.slice (some ⟨g, 0, none⟩) (n + 1) cap)) w') : wpList P ops Q (o :: rest) a w :=
  wpList_plain hgd fun K hK => by
    obtain ⟨ht, i, z, hi, hz, hsize, hby, hzs, hsz⟩ := hE
    exact wp_append_lies w s x t ho base e i z size bytes ht hi hz hsize hby hzs hsz v n xs hs hown ⟨b, 0, none⟩ 1 1 cs hx (by omega) hbox.newsAt h1 (by omega) h63 hbytes hbase _ rfl fun g cap w' h2 h3 h4 h5 => hK _ _ (h g cap w' h2 h3 h4 h5)
end Go.Proofs.YtmijiclocadimaaGreatDoor
/- A list that is read, as the cells that an append takes. No program is named. -/
set_option linter.unusedVariables false
set_option linter.unusedSimpArgs false
namespace Go.Proofs.YtmijiclocadimaaGreatDoor
open Go Go.RowKit

theorem flatMap_drop {α : Type} {s : Nat} {f : Nat → List α} (hf : ∀ j, (f j).length = s) : ∀ (n k : Nat), k ≤ n → ((List.range n).flatMap f).drop (k * s) = ((List.range' k (n - k)).flatMap f)
  | n, 0, _ => by simp [List.range_eq_range']
  | n, k + 1, h => by
    have ih := flatMap_drop hf n k (by omega)
    have e : (k + 1) * s = k * s + s := by rw [Nat.add_mul, Nat.one_mul]
    rw [e, ← List.drop_drop, ih]
    have hk : n - k = (n - (k + 1)) + 1 := by omega
    rw [hk, List.range'_succ, List.flatMap_cons]
    rw [List.drop_append_of_le_length (by rw [hf]; exact Nat.le_refl _), List.drop_of_length_le (by rw [hf]; exact Nat.le_refl _), List.nil_append]
theorem flatMap_len {α : Type} {s : Nat} {f : Nat → List α} (hf : ∀ j, (f j).length = s) (n : Nat) : ((List.range n).flatMap f).length = n * s := by
  induction n with
  | zero => simp
  | succ n ih => rw [List.range_succ, List.flatMap_append, List.length_append, ih]; simp [hf, Nat.add_mul]
theorem flatMap_at {α : Type} {s : Nat} {f : Nat → List α} (hf : ∀ j, (f j).length = s) {n k : Nat} (hk : k < n) : (((List.range n).flatMap f).drop (k * s)).take s = f k := by
  rw [flatMap_drop hf n k (by omega)]
  have e : n - k = (n - (k + 1)) + 1 := by omega
  rw [e, List.range'_succ, List.flatMap_cons, List.take_append_of_le_length (by rw [hf]; exact Nat.le_refl _), List.take_of_length_le (by rw [hf]; exact Nat.le_refl _)]

/-- All cells of a list that is read. -/
theorem RdS.flatOf {α : Type} {R : Rel α} {G : Nat → Prop} {w : World} {v : Value} {l : List α} (h : RdS R G w v l) (hs : 0 < R.size) (h1 : ∀ {G w cs x}, R.rd G w cs x → ∀ u ∈ cs, u.oneCell' = true) :
    ∃ vals, SlCells w v l.length R.size vals ∧ (∀ j x, l[j]? = some x → R.rd G w ((vals.drop (j * R.size)).take R.size) x) ∧ ∀ u ∈ vals, u.oneCell' = true := by
  obtain ⟨ad, cap, rfl, k1, k2, k0, h3⟩ := h
  have hex : ∀ j : Nat, ∃ cs : List Value, cs.length = R.size ∧ ∀ x, l[j]? = some x → R.rd G w cs x ∧ ∃ b o, ad = some ⟨b, o, none⟩ ∧ ∀ t c, cs[t]? = some c → w.cell? ⟨b, o + (j * R.size + t), none⟩ = some c := by
    intro j
    rcases hx : l[j]? with _ | x
    · exact ⟨List.replicate R.size undef, by simp, fun x hx => by simp at hx⟩
    · obtain ⟨b, o, cs, ha, hb, hc, hr⟩ := h3 j x hx
      exact ⟨cs, R.len hr, fun y hy => by obtain rfl := Option.some.inj hy; exact ⟨hr, b, o, ha, hc⟩⟩
  obtain ⟨f, hf⟩ : ∃ f : Nat → List Value, ∀ j, (f j).length = R.size ∧ ∀ x, l[j]? = some x → R.rd G w (f j) x ∧ ∃ b o, ad = some ⟨b, o, none⟩ ∧ ∀ t c, (f j)[t]? = some c → w.cell? ⟨b, o + (j * R.size + t), none⟩ = some c :=
    ⟨fun j => (hex j).choose, fun j => (hex j).choose_spec⟩
  have hfl : ∀ j, (f j).length = R.size := fun j => (hf j).1
  refine ⟨(List.range l.length).flatMap f, ⟨ad, cap, rfl, fun h => ?_, flatMap_len hfl _, fun j u hj => ?_⟩, fun j x hx => ?_, fun u hu => ?_⟩
  · have := k0 h; omega
  · have hjl : j < l.length * R.size := by
      rcases Nat.lt_or_ge j (l.length * R.size) with h | h
      · exact h
      · rw [List.getElem?_eq_none (by rw [flatMap_len hfl]; exact h)] at hj; simp at hj
    have hq : j / R.size < l.length := (Nat.div_lt_iff_lt_mul hs).2 hjl
    have hr : j % R.size < R.size := Nat.mod_lt _ hs
    have hdec : (j / R.size) * R.size + j % R.size = j := by rw [Nat.mul_comm]; exact Nat.div_add_mod j R.size
    have hat := flatMap_at hfl hq
    have h1 : (f (j / R.size))[j % R.size]? = some u := by
      rw [← hat, List.getElem?_take_of_lt hr, List.getElem?_drop, hdec]; exact hj
    obtain ⟨_, b, o, ha, hc⟩ := (hf (j / R.size)).2 _ (List.getElem?_eq_getElem hq)
    refine ⟨b, o, ha, ?_⟩
    have := hc _ _ h1
    rw [hdec] at this
    exact this
  · have hjl : j < l.length := by
      rcases Nat.lt_or_ge j l.length with h | h
      · exact h
      · simp [List.getElem?_eq_none h] at hx
    rw [flatMap_at hfl hjl]
    exact ((hf j).2 x hx).1
  · obtain ⟨j, hj, hu⟩ := List.mem_flatMap.1 hu
    have hjl : j < l.length := by simpa using hj
    exact h1 ((hf j).2 _ (List.getElem?_eq_getElem hjl)).1 u hu

/-- Behind 'append(nil, v...)'. -/
theorem LstO.ofAppend {α : Type} {R : Rel α} {G : Nat → Prop} {e : Nat} {w w' : World} {l : List α} {vals : List Value} {g cap : Nat} {row : Option Nat}
    (h2 : ∀ j x, l[j]? = some x → R.rd (fun b => G b ∧ b < w.heap.size) w ((vals.drop (j * R.size)).take R.size) x)
    (hown : w'.ownsRow w.heap.size e R.size (.slice (some ⟨g, 0, none⟩) l.length cap) l.length vals) (hgr : w.grownBy w' row) (hrow : row = none) (hg : w.heap.size ≤ g) :
    LstO R (fun b => G b ∧ b < w.heap.size) w.heap.size e w' (.slice (some ⟨g, 0, none⟩) l.length cap) l := by
  subst hrow
  refine ⟨vals, hown, fun j x hx => R.keep (h2 j x hx) (Keep.grown hgr (fun k hk => by simp at hk)) (fun b hb => ⟨hb, Nat.lt_of_lt_of_le hb.2 hgr.size, ?_⟩)⟩
  simp only [Value.ownBlock, ne_eq, Option.some.injEq]
  omega
theorem LstV.ofAppend {α : Type} {R : Rel α} {G : Nat → Prop} {e H : Nat} {w w' : World} {l : List α} {vals : List Value} {g cap : Nat} {row : Option Nat}
    (h2 : ∀ j x, l[j]? = some x → R.rd (fun b => G b ∧ b < H) w ((vals.drop (j * R.size)).take R.size) x) (hH : H ≤ w.heap.size)
    (hown : w'.ownsRow H e R.size (.slice (some ⟨g, 0, none⟩) l.length cap) l.length vals) (hgr : w.grownBy w' row) (hrow : row = none) (hg : H ≤ g) :
    LstV R (fun b => (G b ∧ b < H) ∨ H ≤ b) H e w' (.slice (some ⟨g, 0, none⟩) l.length cap) l vals := by
  subst hrow
  refine ⟨hown, fun j x hx => R.keep (h2 j x hx) (Keep.grown hgr (fun k hk => by simp at hk)) (fun b hb => ⟨.inl hb, by have := hgr.size; omega, ?_⟩)⟩
  simp only [Value.ownBlock, ne_eq, Option.some.injEq]
  omega
theorem SlCells.some {w : World} {vx : Value} {m size : Nat} {news : List Value} (h : SlCells w vx m size news) (hm : 0 < m) : ∃ ad c, vx = .slice (some ad) m c ∧ news.length = m * size ∧ ∀ j u, news[j]? = some u → w.cell? (ad.add j) = some u := by
  obtain ⟨ad, c, rfl, h0, hl, hc⟩ := h
  rcases ad with _ | ad
  · have := (h0 rfl).2; omega
  · refine ⟨ad, c, rfl, hl, fun j u hj => ?_⟩
    obtain ⟨b, o, ha, hcell⟩ := hc j u hj
    simp only [Option.some.injEq] at ha
    subst ha
    unfold Addr.add
    split
    · rename_i h; subst h; simpa using hcell
    · exact hcell
/-- append of a list that is read, at a step of a region that draws. -/
theorem step_append_at1 {P : Program} {w : World} {ops : Array Oper} {o : Oper} {a : Act} {K : Act → World → Prop} {Q : Exit → Act → World → Prop} {E : Prop} (hgd : Region.wanted o (yielded ops a.tmps) = true) (s x : Operand) (t : TypeId)
    (ho : o.op = .call { callee := .builtin .append, args := #[s, x], argTypes := #[t, t] })
    {e : TypeId} {size bytes : Nat} (hE : ElemOk P t e size bytes) (base : Nat) (vs : Value) (n : Nat) (xs : List Value) (hs : a.eval s = vs) (hown : w.ownsRow base e size vs n xs)
    (vx : Value) (m : Nat) (news : List Value) (hvx : a.eval x = vx) (hx : SlCells w vx m size news) (h1 : ∀ u ∈ news, u.oneCell' = true) (hm : 0 < m) (h63 : n + m ≤ maxLen) (hbytes : (n + m) * bytes ≤ 140737488355328) (hbase : base ≤ w.heap.size)
    (h : ∀ g cap w', w'.ownsRow base e size (.slice (some ⟨g, 0, none⟩) (n + m) cap) (n + m) (xs ++ news) → w.grownBy w' vs.ownBlock → (vs.ownBlock = some g ∨ g = w.heap.size) → g < w'.heap.size → K (a.put o.dst (.slice (some ⟨g, 0, none⟩) (n + m) cap)) w') :
    if Region.wanted o (yielded ops a.tmps) = true then Oper.wp P o a w K Q else E := by
  rw [if_pos hgd]
  obtain ⟨ht, i, z, hi, hz, hsize, hby, hzs, hsz⟩ := hE
  obtain ⟨ad, c, rfl, hl, hc⟩ := hx.some hm
  exact wp_append_lies w s x t ho base e i z size bytes ht hi hz hsize hby hzs hsz vs n xs hs hown ad m c news hvx hl hc h1 hm h63 hbytes hbase _ rfl h
/-- append of one element there, whatever its guard. -/
theorem step_append_oneG {P : Program} {w : World} {ops : Array Oper} {o : Oper} {a : Act} {K : Act → World → Prop} {Q : Exit → Act → World → Prop} {E : Prop} (hgd : Region.wanted o (yielded ops a.tmps) = true) (s x : Operand) (t : TypeId)
    (ho : o.op = .call { callee := .builtin .append, args := #[s, x], argTypes := #[t, t] })
    {e : TypeId} {size bytes : Nat} (hE : ElemOk P t e size bytes) (base : Nat) (v : Value) (n : Nat) (xs : List Value) (hs : a.eval s = v) (hown : w.ownsRow base e size v n xs)
    (b : Nat) (T : TypeId) (cs : List Value) (hx : a.eval x = .slice (some ⟨b, 0, none⟩) 1 1) (hbox : BoxAt w b cs T) (hl : cs.length = size) (h1 : ∀ u ∈ cs, u.oneCell' = true)
    (h63 : n + 1 ≤ maxLen) (hbytes : (n + 1) * bytes ≤ 140737488355328) (hbase : base ≤ w.heap.size)
    (h : ∀ g cap w', w'.ownsRow base e size (.slice (some ⟨g, 0, none⟩) (n + 1) cap) (n + 1) (xs ++ cs) → w.grownBy w' v.ownBlock → (v.ownBlock = some g ∨ g = w.heap.size) → g < w'.heap.size → K (a.put o.dst (.slice (some ⟨g, 0, none⟩) (n + 1) cap)) w') :
    if Region.wanted o (yielded ops a.tmps) = true then Oper.wp P o a w K Q else E := by
  rw [if_pos hgd]
  obtain ⟨ht, i, z, hi, hz, hsize, hby, hzs, hsz⟩ := hE
  exact wp_append_lies w s x t ho base e i z size bytes ht hi hz hsize hby hzs hsz v n xs hs hown ⟨b, 0, none⟩ 1 1 cs hx (by omega) hbox.newsAt h1 (by omega) h63 hbytes hbase _ rfl h
end Go.Proofs.YtmijiclocadimaaGreatDoor
/- bytes.Equal, same, slices.Clone of bytes: what they compute. -/
set_option linter.unusedVariables false
set_option linter.unusedSimpArgs false
namespace Go.Proofs.YtmijiclocadimaaGreatDoor
open Go Go.RowKit

theorem elemB : ElemOk Tryz.prog 66 5 1 1 := elemOk_of (z := .int .u8 0) (by kernel_rfl) (by kernel_rfl) rfl (by decide)

theorem bytesEqual_any {G G' : Nat → Prop} {l m : List UInt8} (u v : Value) (w : World) (hu : RdB G w u l) (hv : RdB G' w v m) :
    Calls Tryz.prog 120 #[u, v] w fun e w' => e = .returned (.bool (decide (l = m))) ∧ w = w' := by
  go_enter Tryz.func120, Tryz.ntmps120
  go_wp2_with (first
    | (refine wpList_bytes_str rfl 66 9 (.tmp 5) rfl Tryz.underlying66 Tryz.underlying5 Tryz.underlying9 _ rfl _ hu ?_)
    | (refine wpList_bytes_str rfl 66 9 (.tmp 7) rfl Tryz.underlying66 Tryz.underlying5 Tryz.underlying9 _ rfl _ hv ?_))
  go_ret
  exact ⟨ret_boolH (by rw [Bool.eq_iff_iff]; simp), rfl⟩

/-- slices.Clone of bytes: the call's own. -/
theorem cloneB_any {G : Nat → Prop} {l : List UInt8} (v : Value) (w : World) (h : RdB G w v l) (hsz : l.length ≤ 140737488355328) :
    Calls Tryz.prog 38 #[v] w fun e w' => ∃ v', e = .returned v' ∧ w'.ownsRow w.heap.size 5 1 v' l.length (l.map fun c => Value.int .u8 c.toNat) ∧ Below w.heap.size w w' := by
  obtain ⟨ad, cap, rfl, h1, h2, h0⟩ := h.form0
  unfold maxLen at h2
  rcases ad with _ | ad
  · have hl : l = [] := List.eq_nil_of_length_eq_zero (by have := h0 rfl; omega)
    subst hl
    obtain rfl := h0 rfl
    have he := fun w' => Lib.run_eql_slice_nil (P := Tryz.prog) w' 66 5 none 0 0 0 0 Tryz.underlying66
    go_enter Tryz.func38, Tryz.ntmps38
    go_wp2
    go_ret
    exact ⟨_, rfl, World.ownsRow_nil _ _ _ _, Below.refl _ _⟩
  · have he := fun w' => Lib.run_eql_slice_nil (P := Tryz.prog) w' 66 5 (some ad) l.length cap 0 0 Tryz.underlying66
    go_enter Tryz.func38, Tryz.ntmps38
    go_wp2_with (at_builtin; refine wpList_append_sl rfl _ _ 66 rfl elemB w.heap.size _ rfl 0 [] (World.ownsRow_made w #[] 0 (Nat.le_refl _) (Nat.zero_le _) rfl) _ rfl l.length _ (h.keep (Keep.alloc G _ _) (fun _ h => h)).slCells (oneCell_map _ _ (fun _ => rfl)) (by unfold maxLen; omega) (by omega) (by simp) ?_; intro v' w' hown hgr)
    go_ret
    refine ⟨_, rfl, ?_, (((Below.refl _ _).alloc (Nat.le_refl _) _).grown hgr (by simp) (ownBlock_ge (World.ownsRow_made (e := 5) (size := 1) w #[] 0 (Nat.le_refl _) (Nat.zero_le _) rfl)))⟩
    simpa using hown
end Go.Proofs.YtmijiclocadimaaGreatDoor
/- sheaveskeep: sameTexts. -/
set_option linter.unusedVariables false
set_option linter.unusedSimpArgs false
namespace Go.Proofs.YtmijiclocadimaaGreatDoor
open Go Go.RowKit

/-- The world after some draws. -/
def Drawn (w w' : World) : Prop := ∃ n, w' = w.drewN n
theorem Drawn.refl (w : World) : Drawn w w := ⟨0, rfl⟩
theorem Drawn.step {w w' : World} (h : Drawn w w') (n : Nat) : Drawn w (w'.drewN n) := by
  obtain ⟨m, rfl⟩ := h
  exact ⟨m + n, World.drewN_drewN w m n⟩

theorem sameT_miss {l m : List (List UInt8)} {k : Nat} (h1 : k < l.length) (h2 : k < m.length) (h : l[k] ≠ m[k]) : decide (l = m) = false := by
  simp only [decide_eq_false_iff_not]
  rintro rfl
  exact h rfl
theorem sameT_all {l m : List (List UInt8)} (hl : l.length = m.length) (h : ∀ j, j < l.length → l[j]? = m[j]?) : decide (l = m) = true := by
  simp only [decide_eq_true_eq]
  apply List.ext_getElem? 
  intro j
  rcases Nat.lt_or_ge j l.length with hj | hj
  · exact h j hj
  · rw [List.getElem?_eq_none hj, List.getElem?_eq_none (by omega)]

set_option maxHeartbeats 400000 in
theorem sameTexts_any {G G' : Nat → Prop} {l m : List (List UInt8)} (u v : Value) (w : World) (hu : RdT G w u l) (hv : RdT G' w v m) :
    Calls Tryz.prog 39 #[u, v] w fun e w' => e = .returned (.bool (decide (l = m))) ∧ Drawn w w' := by
  obtain ⟨ad, cap, rfl, h1, h2⟩ := hu.form
  obtain ⟨ad', cap', rfl, h1', h2'⟩ := hv.form
  unfold maxLen at h2 h2'
  by_cases hl : l.length = m.length
  · have hln : ((l.length : Int) != (m.length : Int)) = false := by simp [hl]
    have HL := Lib.hid hl
    clear hl
    go_enter Tryz.func39, Tryz.ntmps39
    go_wp2
    go_loopw [5] (fun i wr => ∃ k n : Nat, k ≤ l.length ∧ i = .int .i64 k ∧ (∀ j, j < k → l[j]? = m[j]?) ∧ wr = w.drewN n) (fun i _ => l.length - (intOf i).toNat)
    case atStart => exact ⟨0, 0, Nat.zero_le _, rfl, fun j hj => by omega, rfl⟩
    case round =>
      obtain ⟨k, n, hk, rfl, hno, rfl⟩ := hrel
      have HN := Lib.hid hno; clear hno
      by_cases hlt : k < l.length
      · have hlt' : k < m.length := by have := HL.out; omega
        obtain ⟨b, o, rfl, -, hc⟩ := hu.cell k hlt
        obtain ⟨b', o', rfl, -, hc'⟩ := hv.cell k hlt'
        have i0 : (0 : Int) ≤ (k : Int) := by omega
        have i1 : (k : Int) < (l.length : Int) := by omega
        have i2 : (k : Int) < (m.length : Int) := by omega
        by_cases he : l[k] = m[k]
        · have hb : (l[k] == m[k]) = true := by simp [he]
          have HE := Lib.hid he
          clear he
          go_wp2_with fail
          go_quiet (fail)
          go_wp2
          go_roundw
          case rel => exact ⟨k + 1, _, by omega, by go_num, fun j hj => by
            rcases Nat.lt_or_eq_of_le (Nat.le_of_lt_succ hj) with h' | h'
            · exact HN.out j h'
            · subst h'; rw [List.getElem?_eq_getElem hlt, List.getElem?_eq_getElem hlt', HE.out], rfl⟩
          case measure => simp [intOf]; omega
        · have hb : (l[k] == m[k]) = false := by simp [he]
          have HE := Lib.hid (sameT_miss hlt hlt' he)
          clear he
          go_wp2_with fail
          go_quiet (fail)
          go_wp2
          go_ret
          exact ⟨ret_boolH HE.out, Drawn.step ⟨n, rfl⟩ nq⟩
      · have HE := Lib.hid (sameT_all HL.out (fun j hj => HN.out j (by omega)))
        go_wp2
        go_ret
        exact ⟨ret_boolH HE.out, _, rfl⟩
  · have hln : ((l.length : Int) != (m.length : Int)) = true := by simp; omega
    have HR := Lib.hid (show decide (l = m) = false by simp only [decide_eq_false_iff_not]; rintro rfl; exact hl rfl)
    clear hl
    go_enter Tryz.func39, Tryz.ntmps39
    go_wp2
    go_ret
    exact ⟨ret_boolH HR.out, Drawn.refl _⟩
end Go.Proofs.YtmijiclocadimaaGreatDoor
/- sheaveskeep.same: are bytes the same? -/
set_option linter.unusedVariables false
set_option linter.unusedSimpArgs false
namespace Go.Proofs.YtmijiclocadimaaGreatDoor
open Go Go.RowKit
theorem same_any {G G' : Nat → Prop} {l m : List UInt8} (u v : Value) (w : World) (hu : RdB G w u l) (hv : RdB G' w v m) :
    Calls Tryz.prog 61 #[u, v] w fun e w' => e = .returned (.bool (decide (l = m))) ∧ w = w' := by
  go_enter Tryz.func61, Tryz.ntmps61
  go_wp2_with (first
    | (refine wpList_bytes_str rfl 66 9 (.tmp 5) rfl Tryz.underlying66 Tryz.underlying5 Tryz.underlying9 _ rfl _ hu ?_)
    | (refine wpList_bytes_str rfl 66 9 (.tmp 7) rfl Tryz.underlying66 Tryz.underlying5 Tryz.underlying9 _ rfl _ hv ?_))
  go_ret
  exact ⟨ret_boolH (by rw [Bool.eq_iff_iff]; simp), rfl⟩
end Go.Proofs.YtmijiclocadimaaGreatDoor
/- sheaveskeep.sameBatch: what it computes. -/
set_option linter.unusedVariables false
set_option linter.unusedSimpArgs false
namespace Go.Proofs.YtmijiclocadimaaGreatDoor
open Go Go.RowKit

theorem Drawn.below {w w' : World} (h : Drawn w w') : Below w.heap.size w w' := by obtain ⟨n, rfl⟩ := h; exact below_drewN (Below.refl _ _) n
set_option maxRecDepth 100000 in
set_option maxHeartbeats 1000000 in
theorem sameBatch_any {G G' : Nat → Prop} (a n a' n' : Int) (d d' : List (List UInt8)) (v v' : Value) (w : World) (hd : RdT G w v d) (hd' : RdT G' w v' d') :
    Calls Tryz.prog 41 #[.agg #[.int .i64 a, .int .i64 n, v], .agg #[.int .i64 a', .int .i64 n', v']] w fun e w' => e = .returned (.bool (decide (a = a' ∧ n = n' ∧ d = d'))) ∧ Below w.heap.size w w' := by
  obtain ⟨ad, cap, rfl, -, -⟩ := hd.form
  obtain ⟨ad', cap', rfl, -, -⟩ := hd'.form
  have hR := ((Below.refl w.heap.size w).alloc (Nat.le_refl _) (.cells #[.int .i64 a, .int .i64 n, .slice ad d.length cap] 55)).alloc (by simp) (.cells #[.int .i64 a', .int .i64 n', .slice ad' d'.length cap'] 55)
  have HD := Lib.hid (hd.keep ((Keep.alloc G w (.cells #[.int .i64 a, .int .i64 n, .slice ad d.length cap] 55)).trans (Keep.alloc G _ (.cells #[.int .i64 a', .int .i64 n', .slice ad' d'.length cap'] 55))) (fun _ h => h))
  have HD' := Lib.hid (hd'.keep ((Keep.alloc G' w (.cells #[.int .i64 a, .int .i64 n, .slice ad d.length cap] 55)).trans (Keep.alloc G' _ (.cells #[.int .i64 a', .int .i64 n', .slice ad' d'.length cap'] 55))) (fun _ h => h))
  have HR := Lib.hid hR
  clear hR
  go_enter Tryz.func41, Tryz.ntmps41
  by_cases h1 : a = a'
  · by_cases h2 : n = n'
    · have HE := Lib.hid (show decide (a = a' ∧ n = n' ∧ d = d') = decide (d = d') by simp [h1, h2])
      have e1 : (a == a') = true := by simp [h1]
      have e2 : (n == n') = true := by simp [h2]
      clear h1 h2
      go_wp2_with (go_at_call 39; refine (sameTexts_any _ _ _ HD.out HD'.out).mono ?_; rintro e w' ⟨rfl, m, rfl⟩)
      go_ret
      exact ⟨ret_boolH HE.out, below_drewN HR.out _⟩
    · have HE := Lib.hid (show decide (a = a' ∧ n = n' ∧ d = d') = false by simp [h1, h2])
      have e1 : (a == a') = true := by simp [h1]
      have e2 : (n == n') = false := by simp [h2]
      clear h1 h2
      go_wp2
      go_ret
      exact ⟨ret_boolH HE.out, HR.out⟩
  · have HE := Lib.hid (show decide (a = a' ∧ n = n' ∧ d = d') = false by simp [h1])
    have e1 : (a == a') = false := by simp [h1]
    clear h1
    go_wp2
    go_ret
    exact ⟨ret_boolH HE.out, HR.out⟩
end Go.Proofs.YtmijiclocadimaaGreatDoor
/- Bytes as a text. No program is named. -/
set_option linter.unusedVariables false
set_option linter.unusedSimpArgs false
namespace Go.Proofs.YtmijiclocadimaaGreatDoor
open Go Go.RowKit
theorem conv_bytes_str {P : Program} {src dst e : TypeId} (hs : P.underlying src = some (.slice e)) (he : P.underlying e = some (.int .u8)) (hd : P.underlying dst = some .string) {G : Nat → Prop} {w : World} {v : Value} {l : Bytes} (hr : RdB G w v l) :
    (convert src dst v).run P w = .ok (strV l) w := by
  obtain ⟨ad, cap, hf, _⟩ := hr.form
  have h2 := run_bytesToString_rd (P := P) hr
  rw [hf] at h2 ⊢
  rw [run_convert_bytes_string (P := P) w src dst e ad _ cap hs he hd]
  exact h2
end Go.Proofs.YtmijiclocadimaaGreatDoor
/- A region that draws: what is known of the world may be made stronger on the way. No program is named. -/
set_option linter.unusedVariables false
set_option linter.unusedSimpArgs false
namespace Go.Proofs.YtmijiclocadimaaGreatDoor
open Go Go.RowKit

theorem wpAnyH_strong {P : Program} {ops : Array Oper} {Q : Exit → Act → World → Prop} {md : Region.Mode} {S S' : World → Prop} (h : ∀ w, S' w → S w) :
    ∀ (fuel : Nat) (listed : Array Bool) (a : Act) (w : World), wpAnyH P md ops Q S' fuel listed a w → wpAnyH P md ops Q S fuel listed a w
  | 0, _, _, _, h' => h'
  | fuel + 1, _, _, _, h' => ⟨h'.1, fun i hi => wpOp_mono (fun a' w' q => ⟨h w' q.1, wpAnyH_strong h fuel _ a' w' q.2⟩) (h'.2 i hi)⟩
end Go.Proofs.YtmijiclocadimaaGreatDoor
/- picked: what it computes. -/
set_option linter.unusedVariables false
set_option linter.unusedSimpArgs false
namespace Go.Proofs.YtmijiclocadimaaGreatDoor
open Go.RowKit

theorem ret_int {k : IntKind} {a b : Int} (h : a = b) : Ending.returned (.int k a) = .returned (.int k b) := by rw [h]

/-- picked, as a number. -/
def pickedZ (n many : Int) : Int := (if n < 0 then -(n + 1) else n) % many

theorem pickedZ_range (n many : Int) (h : 0 < many) : 0 ≤ pickedZ n many ∧ pickedZ n many < many := by
  unfold pickedZ; exact ⟨Int.emod_nonneg _ (by omega), Int.emod_lt_of_pos _ h⟩

theorem picked_any (n many : Int) (w : World) (h1 : -9223372036854775808 ≤ n) (h2 : n ≤ 9223372036854775807) (h3 : 1 ≤ many) (h4 : many ≤ 9223372036854775807) :
    Calls Tryz.prog 30 #[.int .i64 n, .int .i64 many] w fun e w' => e = .returned (.int .i64 (pickedZ n many)) ∧ w = w' := by
  have h5 : ¬ many = 0 := by omega
  by_cases hn : n < 0
  · go_enter Tryz.func30, Tryz.ntmps30
    go_wp2
    go_ret
    exact ⟨ret_int (by unfold pickedZ; rw [if_pos hn]; rw [← Int.neg_tmod]; exact Int.tmod_eq_emod_of_nonneg (by omega)), rfl⟩
  · go_enter Tryz.func30, Tryz.ntmps30
    go_wp2
    go_ret
    exact ⟨ret_int (by unfold pickedZ; rw [if_neg (by omega)]), rfl⟩

end Go.Proofs.YtmijiclocadimaaGreatDoor
/- bits.RotateLeft32 by a count that lies between 0 and 32; the mixing of a block, as a function of lists. -/
set_option linter.unusedVariables false
set_option linter.unusedSimpArgs false
namespace Go.Proofs.YtmijiclocadimaaGreatDoor
open Go Go.RowKit

def rotZ (s x : Int) : Int := bits BinOp.or IntKind.u32 (x * 2 ^ s.toNat % 4294967296) (x / 2 ^ (32 - s).toNat)
def xorZ (a b : Int) : Int := bits BinOp.xor IntKind.u32 a b
def addZ (a b : Int) : Int := IntKind.u32.wrap (a + b)
theorem rot_any (x : Int) (w : World) (k : Int) (s : Int) (hk : bits BinOp.and IntKind.u64 (IntKind.u64.wrap k) 31 = s) (s0 : 0 < s) (s1 : s < 32) : Calls Tryz.prog 186 #[.int .u32 x, .int .i64 k] w fun e w' => e = .returned (.int .u32 (rotZ s x)) ∧ w = w' := by
  have e32 : IntKind.u64.wrap (32 - s) = 32 - s := by unfold IntKind.wrap; simp [IntKind.bits, IntKind.signed]; omega
  go_enter Tryz.func186, Tryz.ntmps186
  go_wp2
  go_ret
  exact ⟨rfl, rfl⟩
theorem rot16 (x : Int) (w : World) : Calls Tryz.prog 186 #[.int .u32 x, .int .i64 (-16)] w fun e w' => e = .returned (.int .u32 (rotZ 16 x)) ∧ w = w' := rot_any x w (-16) 16 (by decide) (by omega) (by omega)
theorem rot12 (x : Int) (w : World) : Calls Tryz.prog 186 #[.int .u32 x, .int .i64 (-12)] w fun e w' => e = .returned (.int .u32 (rotZ 20 x)) ∧ w = w' := rot_any x w (-12) 20 (by decide) (by omega) (by omega)
theorem rot8 (x : Int) (w : World) : Calls Tryz.prog 186 #[.int .u32 x, .int .i64 (-8)] w fun e w' => e = .returned (.int .u32 (rotZ 24 x)) ∧ w = w' := rot_any x w (-8) 24 (by decide) (by omega) (by omega)
theorem rot7 (x : Int) (w : World) : Calls Tryz.prog 186 #[.int .u32 x, .int .i64 (-7)] w fun e w' => e = .returned (.int .u32 (rotZ 25 x)) ∧ w = w' := rot_any x w (-7) 25 (by decide) (by omega) (by omega)
end Go.Proofs.YtmijiclocadimaaGreatDoor
/- Variables of many cells: read and written whole, the world a letter. No program is named. -/
set_option linter.unusedVariables false
set_option linter.unusedSimpArgs false
namespace Go.Proofs.YtmijiclocadimaaGreatDoor
open Go Go.RowKit

theorem wpList_load_box {P : Program} {w : World} {ops : Array Oper} {rest : List Oper} {o : Oper} {a : Act} {Q : Exit → Act → World → Prop} (hgd : o.guard = none) (ty : TypeId) (x : Operand) (ho : o.op = .load ty x)
    (b : Nat) (hx : a.eval x = .pointer (some ⟨b, 0, none⟩)) (cs : List Value) (T : TypeId) (hb : BoxAt w b cs T) {d : TypeDesc}
    (hu : P.underlying ty = some d) (hd : (match d with | .struct _ | .array _ _ => true | _ => false) = true) (hi : (P.info? ty).map (·.size) = some cs.toArray.size)
    (h : wpList P ops Q rest (a.put o.dst (.agg cs.toArray)) w) : wpList P ops Q (o :: rest) a w :=
  wpList_load_row hgd ty x ho b hx T cs.toArray (0, 0) d hb hu hd hi h
theorem wpList_store_box {P : Program} {w : World} {ops : Array Oper} {rest : List Oper} {o : Oper} {a : Act} {Q : Exit → Act → World → Prop} (hgd : o.guard = none) (ty : TypeId) (x y : Operand) (ho : o.op = .store ty x y)
    (b : Nat) (cs : List Value) (hx : a.eval x = .pointer (some ⟨b, 0, none⟩)) (hy : a.eval y = .agg cs.toArray) (T : TypeId) (old : List Value) (hb : BoxAt w b old T)
    (hi : (P.info? ty).map (·.size) = some cs.toArray.size) (hl : old.length = cs.length) (h1 : cs.all (·.oneCell') = true)
    (h : ∀ w', BoxAt w' b cs T → Below b w w' → (∀ b' cs' T', b' ≠ b → BoxAt w b' cs' T' → BoxAt w' b' cs' T') → w'.heap.size = w.heap.size → wpList P ops Q rest (a.put o.dst undef) w') : wpList P ops Q (o :: rest) a w :=
  wpList_store_row hgd ty x y ho b cs.toArray hx hy T old.toArray hb hi (by simpa using hl) (by simpa using h1)
    (h _ (setRow_heap w b old.toArray cs.toArray T _ hb) (below_setRow (Below.refl _ _) (Nat.le_refl _) _) (fun b' cs' T' hne h' => (setRow_other w b b' _ hne).trans h') (by simp))
/-- A new variable, and what is stored into it at once. -/
theorem wpList_store_new {P : Program} {w : World} {ops : Array Oper} {rest : List Oper} {o : Oper} {a : Act} {Q : Exit → Act → World → Prop} (hgd : o.guard = none) (ty : TypeId) (x y : Operand) (ho : o.op = .store ty x y)
    (cs : List Value) (T : TypeId) (old : List Value) (hx : a.eval x = .pointer (some ⟨w.heap.size, 0, none⟩)) (hy : a.eval y = .agg cs.toArray)
    (hi : (P.info? ty).map (·.size) = some cs.toArray.size) (hl : old.length = cs.length) (h1 : cs.all (·.oneCell') = true)
    (h : ∀ w', BoxAt w' w.heap.size cs T → Below w.heap.size w w' → w'.heap.size = w.heap.size + 1 → wpList P ops Q rest (a.put o.dst undef) w') : wpList P ops Q (o :: rest) a (w.alloc (.cells old.toArray T)) :=
  wpList_store_box hgd ty x y ho w.heap.size cs hx hy T old (BoxAt.new w old T) hi hl h1
    (fun w' hb hw _ hs => h w' hb (((Below.refl _ w).alloc (Nat.le_refl _) _).trans hw) (by rw [hs]; simp))
/-- The store into a new variable as an equation: the world behind it a letter. -/
theorem store_new_eq {P : Program} (w : World) (ty : TypeId) (cs old : List Value) (T : TypeId) (hi : (P.info? ty).map (·.size) = some cs.toArray.size) (hl : old.length = cs.length) (h1 : cs.all (·.oneCell') = true) :
    ∃ w', (Instr.storeAt ty (.pointer (some ⟨w.heap.size, 0, none⟩)) (.agg cs.toArray)).run P ((w.alloc (.cells old.toArray T)).drew) = .ok () w' ∧ BoxAt w' w.heap.size cs T ∧ Below w.heap.size w w' ∧ w'.heap.size = w.heap.size + 1 := by
  have hb : BoxAt ((w.alloc (.cells old.toArray T)).drew) w.heap.size old T := (BoxAt.new w old T).drew
  refine ⟨((w.alloc (.cells old.toArray T)).drew).setRow w.heap.size cs.toArray, ?_, setRow_heap _ _ _ _ _ _ hb, below_setRow (((Below.refl _ w).alloc (Nat.le_refl _) _).drew) (Nat.le_refl _) _, by simp⟩
  simp only [Instr.storeAt, Instr.sureAddr, Sem.run_bind, Sem.run_pure, Result.andThen_ok]
  exact run_storeVar_row _ _ T ty old.toArray cs.toArray hb hi (by simpa using hl) (by simpa using h1)
/-- The same as the walk's simp leaves it. -/
theorem storeCells_new_eq {P : Program} (w : World) (ty : TypeId) (cs old : List Value) (T : TypeId) (hi : (P.info? ty).map (·.size) = some cs.toArray.size) (hl : old.length = cs.length) (h1 : cs.all (·.oneCell') = true) :
    ∃ w', (storeCells ⟨w.heap.size, 0, none⟩ cs 0).run P ((w.alloc (.cells old.toArray T)).drew) = .ok () w' ∧ BoxAt w' w.heap.size cs T ∧ Below w.heap.size w w' ∧ w'.heap.size = w.heap.size + 1 := by
  have hb : BoxAt ((w.alloc (.cells old.toArray T)).drew) w.heap.size old T := (BoxAt.new w old T).drew
  refine ⟨((w.alloc (.cells old.toArray T)).drew).setRow w.heap.size cs.toArray, ?_, setRow_heap _ _ _ _ _ _ hb, below_setRow (((Below.refl _ w).alloc (Nat.le_refl _) _).drew) (Nat.le_refl _) _, by simp⟩
  have := run_storeVar_row (P := P) ((w.alloc (.cells old.toArray T)).drew) w.heap.size T ty old.toArray cs.toArray hb hi (by simpa using hl) (by simpa using h1)
  cases hq : P.info? ty with
  | none => simp [hq] at hi
  | some i =>
    have hs : cs.length = i.size := by simp [hq] at hi; omega
    simpa [storeVar, sizeOf, typeInfo, hq, Value.cells, hs] using this
end Go.Proofs.YtmijiclocadimaaGreatDoor
/- Messages as data, and what is said of them. No program is named. -/
set_option linter.unusedVariables false
set_option linter.unusedSimpArgs false
namespace Go.Proofs.YtmijiclocadimaaGreatDoor
open Go Go.RowKit

structure Msg where
  f : Int
  t : Int
  k : Int
  b : Bat
  h : Hdr
  s : Slt
  c : Crt
  r : Int
def bat0 : Bat := ⟨0, 0, []⟩
def hdr0 : Hdr := ⟨0, 0, [], []⟩
def slt0 : Slt := ⟨0, 0, []⟩
def crt0 : Crt := ⟨hdr0, []⟩
def nhB (a r : Int) (n1 n2 : Nat) : Bool := a == 0 && (r == 0 && (n1 + n2 == 0))
def noHdr (h : Hdr) : Bool := nhB h.a h.r h.bs.length h.ps.length
/-- It carries nothing. -/
def noneM (m : Msg) : Bool :=
  m.b.a == 0 && (m.b.n == 0 && (m.b.txs.length == 0 && (noHdr m.h && (m.s.a == 0 && (m.s.r == 0 && (m.s.d.length == 0 && (noHdr m.c.h && (m.c.vs.length == 0 && m.r == 0))))))))
/-- Without what its kind carries. -/
def Msg.less (m : Msg) : Msg :=
  if m.k = 1 then { m with b := bat0 } else if m.k = 2 then { m with h := hdr0 } else if m.k = 3 then { m with s := slt0 } else if m.k = 4 then { m with c := crt0 } else { m with r := 0 }
def msgPart (m : Msg) : Int :=
  if m.k = 1 then batCode m.b else if m.k = 2 then hdrCode m.h else if m.k = 3 then sltCode m.s.a m.s.r m.s.d.length else if m.k = 4 then crtCode m.c else if countOk m.r = true then 0 else 2
def msgCode (m : Msg) : Int :=
  if nodeOk m.f = false ∨ nodeOk m.t = false then 2 else if m.k < 1 ∨ 5 < m.k then 3 else if msgPart m ≠ 0 then msgPart m else if noneM m.less = true then 0 else 4

/-- The slices of a message. -/
structure MV where
  tx : Value
  bs : Value
  ps : Value
  d : Value
  cbs : Value
  cps : Value
  vs : Value
def msgCells (m : Msg) (v : MV) : List Value :=
  [.int .i64 m.f, .int .i64 m.t, .int .i64 m.k, .int .i64 m.b.a, .int .i64 m.b.n, v.tx, .int .i64 m.h.a, .int .i64 m.h.r, v.bs, v.ps, .int .i64 m.s.a, .int .i64 m.s.r, v.d, .int .i64 m.c.h.a, .int .i64 m.c.h.r, v.cbs, v.cps, v.vs, .int .i64 m.r]
structure RdM (G : Nat → Prop) (w : World) (v : MV) (m : Msg) : Prop where
  tx : RdT G w v.tx m.b.txs
  bs : RdBB G w v.bs m.h.bs
  ps : RdBB G w v.ps m.h.ps
  d : RdB G w v.d m.s.d
  cbs : RdBB G w v.cbs m.c.h.bs
  cps : RdBB G w v.cps m.c.h.ps
  vs : RdI G w v.vs m.c.vs
theorem RdM.keep {G G' : Nat → Prop} {w w' : World} {v : MV} {m : Msg} (h : RdM G w v m) (hk : Keep G w w') (hg : ∀ b, G b → G' b) : RdM G' w' v m :=
  ⟨h.tx.keep hk hg, h.bs.keep hk hg, h.ps.keep hk hg, h.d.keep hk hg, h.cbs.keep hk hg, h.cps.keep hk hg, h.vs.keep hk hg⟩
theorem RdM.below {G G' : Nat → Prop} {w w' : World} {v : MV} {m : Msg} (h : RdM G w v m) (hb : Below w.heap.size w w') (hg : ∀ b, G b → G' b) : RdM G' w' v m := h.keep (Keep.below hb) hg
theorem RdM.mono {G G' : Nat → Prop} {w : World} {v : MV} {m : Msg} (h : RdM G w v m) (hg : ∀ b, G b → G' b) : RdM G' w v m := h.keep (Keep.refl _ _) hg
theorem RdM.low {G : Nat → Prop} {w : World} {v : MV} {m : Msg} (h : RdM G w v m) : RdM (fun b => G b ∧ b < w.heap.size) w v m :=
  ⟨h.tx.low (by decide), h.bs.low (by decide), h.ps.low (by decide), h.d.low (by decide), h.cbs.low (by decide), h.cps.low (by decide), h.vs.low (by decide)⟩
/-- Its numbers and lists are of a size that may be. -/
structure MsgOk (m : Msg) : Prop where
  tx : ∀ t ∈ m.b.txs, t.length ≤ 9223372036854775807
  h : m.h.bs.length + m.h.ps.length ≤ 9223372036854775807
  c : m.c.h.bs.length + m.c.h.ps.length ≤ 9223372036854775807
end Go.Proofs.YtmijiclocadimaaGreatDoor
/- Results that lie in memory; single operations of a walk. No program is named. -/
set_option linter.unusedVariables false
set_option linter.unusedSimpArgs false
namespace Go.Proofs.YtmijiclocadimaaGreatDoor
open Go Go.RowKit

theorem results_cell_tmp {P : Program} {fn : Func} {p q : Tmp} {ty : TypeId} (h : fn.results = #[.cell p ty, .tmp q]) (tmps : Array Value) (w : World) (g : Nat) (T : TypeId) (cs : List Value) (d : TypeDesc) (y : Value)
    (hp : tmps.getD p undef = .pointer (some ⟨g, 0, none⟩)) (hq : tmps.getD q undef = y) (hg : BoxAt w g cs T)
    (hu : P.underlying ty = some d) (hd : (match d with | .struct _ | .array _ _ => true | _ => false) = true) (hi : (P.info? ty).map (·.size) = some cs.toArray.size) :
    (results fn tmps).run P w = .ok (.tuple #[.agg cs.toArray, y]) w := by
  have hp' : tmps[p]?.getD undef = .pointer (some ⟨g, 0, none⟩) := by simpa [Array.getD_eq_getD_getElem?] using hp
  have hq' : tmps[q]?.getD undef = y := by simpa [Array.getD_eq_getD_getElem?] using hq
  simp [results, h, hp', hq', asAddr, run_loadVar_row w g T ty cs.toArray (0, 0) d hg hu hd hi]
/-- A slice literal of one element. -/
theorem wp_build1 {P : Program} {w : World} {o : Oper} {a : Act} {K : Act → World → Prop} {Q : Exit → Act → World → Prop} {t e : TypeId} (x : Operand) (ho : o.op = .buildSlice t 1 #[(0, x)]) {v : Value}
    (hr : ∀ w, (Instr.buildSlice t 1 #[(0, v)]).run P w = .ok (.slice (some ⟨w.heap.size, 0, none⟩) 1 1) (w.alloc (.cells #[v] e))) (hx : a.eval x = v)
    (h : K (a.put o.dst (.slice (some ⟨w.heap.size, 0, none⟩) 1 1)) (w.alloc (.cells #[v] e))) : Oper.wp P o a w K Q := by
  subst hx
  have := hr w
  unfold Oper.wp execOp
  simp only [ho, Sem.run_bind, List.map_toArray, List.map_cons, List.map_nil, this, Result.andThen_ok]
  exact h
/-- append of one element, at the operation itself. -/
theorem wp_append_oneK {P : Program} {w : World} {o : Oper} {a : Act} {K : Act → World → Prop} {Q : Exit → Act → World → Prop} (s x : Operand) (t : TypeId)
    (ho : o.op = .call { callee := .builtin .append, args := #[s, x], argTypes := #[t, t] })
    {e : TypeId} {size bytes : Nat} (hE : ElemOk P t e size bytes) (base : Nat) (v : Value) (n : Nat) (xs : List Value) (hs : a.eval s = v) (hown : w.ownsRow base e size v n xs)
    (b : Nat) (T : TypeId) (cs : List Value) (hx : a.eval x = .slice (some ⟨b, 0, none⟩) 1 1) (hbox : BoxAt w b cs T) (hl : cs.length = size) (h1 : ∀ u ∈ cs, u.oneCell' = true)
    (h63 : n + 1 ≤ maxLen) (hbytes : (n + 1) * bytes ≤ 140737488355328) (hbase : base ≤ w.heap.size)
    (h : ∀ g cap w', w'.ownsRow base e size (.slice (some ⟨g, 0, none⟩) (n + 1) cap) (n + 1) (xs ++ cs) → w.grownBy w' v.ownBlock → (v.ownBlock = some g ∨ g = w.heap.size) → g < w'.heap.size → K (a.put o.dst (.slice (some ⟨g, 0, none⟩) (n + 1) cap)) w') : Oper.wp P o a w K Q := by
  obtain ⟨ht, i, z, hi, hz, hsize, hby, hzs, hsz⟩ := hE
  exact wp_append_lies w s x t ho base e i z size bytes ht hi hz hsize hby hzs hsz v n xs hs hown ⟨b, 0, none⟩ 1 1 cs hx (by omega) hbox.newsAt h1 (by omega) h63 hbytes hbase _ rfl h
theorem wpList_store_boxG {P : Program} {w : World} {ops : Array Oper} {rest : List Oper} {o : Oper} {a : Act} {Q : Exit → Act → World → Prop} (hgd : o.guard = none) (ty : TypeId) (x y : Operand) (ho : o.op = .store ty x y)
    (b : Nat) (cs : List Value) (hx : a.eval x = .pointer (some ⟨b, 0, none⟩)) (hy : a.eval y = .agg cs.toArray) (T : TypeId) (old : List Value) (hb : BoxAt w b old T)
    (hi : (P.info? ty).map (·.size) = some cs.toArray.size) (hl : old.length = cs.length) (h1 : cs.all (·.oneCell') = true)
    (h : ∀ w', BoxAt w' b cs T → Below b w w' → w.grownBy w' (some b) → wpList P ops Q rest (a.put o.dst undef) w') : wpList P ops Q (o :: rest) a w :=
  wpList_store_row hgd ty x y ho b cs.toArray hx hy T old.toArray hb hi (by simpa using hl) (by simpa using h1)
    (h _ (setRow_heap w b old.toArray cs.toArray T _ hb) (below_setRow (Below.refl _ _) (Nat.le_refl _) _)
      ⟨(below_setRow (Below.refl b w) (Nat.le_refl _) _).os, (below_setRow (Below.refl b w) (Nat.le_refl _) _).tape, (below_setRow (Below.refl b w) (Nat.le_refl _) _).output, by simp, fun k hk hne => setRow_other w b k _ (fun e => hne (by rw [e]))⟩)
theorem msgCells_one {G : Nat → Prop} {w : World} {v : MV} {m : Msg} (h : RdM G w v m) : (msgCells m v).all (·.oneCell') = true := by
  obtain ⟨h1, h2, h3, h4, h5, h6, h7⟩ := h
  obtain ⟨x1, x2, x3, x4, x5, x6, x7⟩ := v
  obtain ⟨a1, c1, rfl, -, -⟩ := h1.form
  obtain ⟨a2, c2, rfl, -, -⟩ := h2.form
  obtain ⟨a3, c3, rfl, -, -⟩ := h3.form
  obtain ⟨a4, c4, rfl, -, -⟩ := h4.form
  obtain ⟨a5, c5, rfl, -, -⟩ := h5.form
  obtain ⟨a6, c6, rfl, -, -⟩ := h6.form
  obtain ⟨a7, c7, rfl, -, -⟩ := h7.form
  rfl
end Go.Proofs.YtmijiclocadimaaGreatDoor
/- Bytes that are appended to a slice that the call, or its caller, owns. No program is named. -/
set_option linter.unusedVariables false
set_option linter.unusedSimpArgs false
namespace Go.Proofs.YtmijiclocadimaaGreatDoor
open Go Go.RowKit

abbrev byteVs (l : Bytes) : List Value := l.map fun c => Value.int .u8 c.toNat
theorem grownBy_trans {a b c : World} {r r' : Option Nat} (h : a.grownBy b r) (h' : b.grownBy c r') (hr : r' = r ∨ ∀ k, r' = some k → a.heap.size ≤ k) : a.grownBy c r :=
  ⟨h'.os.trans h.os, h'.tape.trans h.tape, h'.output.trans h.output, Nat.le_trans h.size h'.size, fun k hk hne => by
    rw [h'.block k (Nat.lt_of_lt_of_le hk h.size) (fun e => ?_), h.block k hk hne]
    rcases hr with rfl | hr
    · exact hne e
    · have := hr k e.symm; omega⟩
theorem grownBy_of_below {a b : World} (h : Below a.heap.size a b) (r : Option Nat) : a.grownBy b r := ⟨h.os, h.tape, h.output, h.size, fun k hk _ => h.block k hk⟩
/-- v became v', which holds the bytes l; all else is as it was. -/
structure AppB (base e : Nat) (w : World) (v : Value) (w' : World) (v' : Value) (l : Bytes) : Prop where
  own : w'.ownsRow base e 1 v' l.length (byteVs l)
  gr : w.grownBy w' v.ownBlock
  at' : v'.ownBlock = v.ownBlock ∨ ∀ k, v'.ownBlock = some k → w.heap.size ≤ k
section
variable {base e : Nat} {w w' w'' : World} {v v' v'' : Value} {l l' : Bytes}
theorem AppB.refl (h : w.ownsRow base e 1 v l.length (byteVs l)) : AppB base e w v w v l := ⟨h, ⟨rfl, rfl, rfl, Nat.le_refl _, fun _ _ _ => rfl⟩, .inl rfl⟩
theorem AppB.trans (h : AppB base e w v w' v' l) (k : AppB base e w' v' w'' v'' l') : AppB base e w v w'' v'' l' := by
  refine ⟨k.own, grownBy_trans h.gr k.gr ?_, ?_⟩
  · exact h.at'
  · rcases k.at' with e | e
    · rw [e]; exact h.at'
    · exact .inr fun j hj => Nat.le_trans h.gr.size (e j hj)
theorem AppB.below (h : AppB base e w v w' v' l) (hb : Below w'.heap.size w' w'') : AppB base e w v w'' v' l :=
  ⟨ownsRow_below h.own hb, grownBy_trans h.gr (grownBy_of_below hb v.ownBlock) (.inl rfl), h.at'⟩
theorem AppB.before {w0 : World} (hb : Below w0.heap.size w0 w) (h : AppB base e w v w' v' l) : AppB base e w0 v w' v' l :=
  ⟨h.own, grownBy_trans (grownBy_of_below hb v.ownBlock) h.gr (.inl rfl), h.at'.imp id fun k j hj => Nat.le_trans hb.size (k j hj)⟩
theorem AppB.size (h : AppB base e w v w' v' l) : w.heap.size ≤ w'.heap.size := h.gr.size
theorem AppB.form (h : AppB base e w v w' v' l) : ∃ ad cap, v' = .slice ad l.length cap := ownsRow_form h.own
theorem AppB.box {b : Nat} {cs : List Value} {T : TypeId} (h : AppB base e w v w' v' l) (hx : BoxAt w b cs T) (hn : v.ownBlock ≠ some b) : BoxAt w' b cs T := hx.grown h.gr hn
theorem AppB.keep {G : Nat → Prop} (h : AppB base e w v w' v' l) (hG : ∀ k, v.ownBlock = some k → ¬ G k) : Keep G w w' := Keep.grown h.gr hG
theorem AppB.bel {B : Nat} {a : World} (h : AppB base e w v w' v' l) (hb : Below B a w) (hB : B ≤ w.heap.size) (hv : ∀ k, v.ownBlock = some k → B ≤ k) : Below B a w' := hb.grown h.gr hB hv
theorem AppB.rd {G : Nat → Prop} (h : AppB base e w v w' v' l) (hG : ∀ b, base ≤ b → G b) : RdB G w' v' l := RdS.of_owns h.own hG
theorem AppB.apart {G : Nat → Prop} (h : AppB base e w v w' v' l) (hG : ∀ b, G b → v.ownBlock ≠ some b) : ∀ b, (G b ∧ b < w.heap.size) → v'.ownBlock ≠ some b := fun b hb e => by
  rcases h.at' with h | h
  · exact hG b hb.1 (h ▸ e)
  · have := h b e; omega
theorem AppB.keepG {G : Nat → Prop} (h : AppB base e w v w' v' l) (hG : ∀ b, G b → v.ownBlock ≠ some b) : Keep G w w' := h.keep (fun k hk hg => hG k hg hk)
theorem AppB.list {l1 : Bytes} (h : AppB base e w v w' v' l) (e1 : l = l1) : AppB base e w v w' v' l1 := e1 ▸ h
/-- From append's law. -/
theorem AppB.of {g cap n m : Nat} {news : Bytes} {vs : List Value} {w0 : World} {H : Nat} (hn : l.length = n) (hm : news.length = m) (hown : w'.ownsRow base e 1 (.slice (some ⟨g, 0, none⟩) (n + m) cap) (n + m) (byteVs l ++ vs)) (hvs : vs = byteVs news)
    (hgr : w0.grownBy w' v.ownBlock) (hat : v.ownBlock = some g ∨ g = H) (hH : w0.heap.size = H) (hw : Below w.heap.size w w0) : AppB base e w v w' (.slice (some ⟨g, 0, none⟩) (n + m) cap) (l ++ news) := by
  subst hn hm hvs
  refine ⟨?_, grownBy_trans (grownBy_of_below hw v.ownBlock) hgr (.inl rfl), ?_⟩
  · rw [List.length_append, byteVs, List.map_append]; exact hown
  · rcases hat with h | h
    · exact .inl (by rw [h]; rfl)
    · exact .inr fun k hk => by have := hw.size; simp [Value.ownBlock] at hk; omega
end
theorem BoxAt.slCellsN {w : World} {b n c : Nat} {cs : List Value} {T : TypeId} (h : BoxAt w b cs T) (hn : cs.length = n) : SlCells w (.slice (some ⟨b, 0, none⟩) n c) n 1 cs :=
  ⟨_, _, rfl, fun h => by simp at h, by omega, fun j u hj => ⟨_, _, rfl, by have := h.cell j hj; simpa using this⟩⟩
theorem lit_ownsN (w : World) (l : List Value) (e : TypeId) (hn : l.length ≤ 1000 := by simp) (h0 : 0 < l.length := by simp) : (w.alloc (.cells l.toArray e)).ownsRow w.heap.size e 1 (.slice (some ⟨w.heap.size, 0, none⟩) l.length l.length) l.length l :=
  ⟨by simp, .inr ⟨w.heap.size, l.length, l.toArray, rfl, Nat.le_refl _, heap_alloc_new w _, Nat.le_refl _, by unfold maxLen; omega, by simp, by simp⟩⟩
end Go.Proofs.YtmijiclocadimaaGreatDoor
/- A string's bytes appended to a row that is there, and where the new slice lies. No program is named. -/
set_option linter.unusedVariables false
set_option linter.unusedSimpArgs false
namespace Go.Proofs.YtmijiclocadimaaGreatDoor
open Go Go.RowKit

theorem strCells_bytes (s : Bytes) : Lib.strCells ⟨s.toArray⟩ = byteVs s := by unfold Lib.strCells byteVs; simp
theorem strSize (s : Bytes) : (⟨s.toArray⟩ : ByteArray).size = s.length := rfl
theorem run_append_str_at {P : Program} (w : World) (base : Nat) (t u ty e : TypeId) (i : TypeInfo) (ht : P.underlying t = some (.slice e)) (hu : P.underlying u = some .string) (hi : P.info? e = some i) (hz : i.zero = some (.int .u8 0))
    (hsize : i.size = 1) (hby : i.bytes = 1) (g0 cap0 n : Nat) (xs : List Value) (hown : w.ownsRow base e 1 (.slice (some ⟨g0, 0, none⟩) n cap0) n xs) (s : Bytes)
    (h63 : n + s.length ≤ 9223372036854775807) (hbytes : n + s.length ≤ 140737488355328) (hbase : base ≤ w.heap.size) :
    ∃ g cap w', (Builtin.append_ #[t, u] ty #[.slice (some ⟨g0, 0, none⟩) n cap0, .string ⟨s.toArray⟩]).run P w = .ok (.slice (some ⟨g, 0, none⟩) (n + s.length) cap) w' ∧
      w'.ownsRow base e 1 (.slice (some ⟨g, 0, none⟩) (n + s.length) cap) (n + s.length) (xs ++ byteVs s) ∧ w.grownBy w' (some g0) ∧ (g = g0 ∨ g = w.heap.size) := by
  obtain ⟨v', w', hr, h2, h3, -⟩ := Lib.run_append_own_string (P := P) w base t u ty e i ht hu hi hz hsize hby _ n xs hown ⟨s.toArray⟩ (by unfold maxLen; rw [strSize]; omega) (by rw [strSize]; exact hbytes) hbase
  rw [strSize, strCells_bytes] at h2
  by_cases hroom : n + s.length ≤ cap0
  · obtain ⟨g, cap, cur, hv, -, hg, -, -, hcs, -⟩ : ∃ g cap cur, (Value.slice (some ⟨g0, 0, none⟩) n cap0 : Value) = .slice (some ⟨g, 0, none⟩) n cap ∧ base ≤ g ∧ w.heap[g]? = some (.cells cur e (0, 0)) ∧ n ≤ cap ∧ cap ≤ maxLen ∧ cur.size = cap * 1 ∧ cur.toList.take (n * 1) = xs := by
      rcases hown.2 with ⟨h, -⟩ | h
      · simp at h
      · exact h
    simp only [Value.slice.injEq, Option.some.injEq, Addr.mk.injEq, and_true] at hv
    obtain ⟨rfl, -, rfl⟩ := hv
    have hr' := Lib.run_append_room_string (P := P) w t u ty e i ht hu hi hsize g0 n cap0 cur hg ⟨s.toArray⟩ (by rw [strSize]; exact hroom) (by rw [strSize]; omega)
    rw [strSize] at hr'
    have he := hr.symm.trans hr'
    simp only [Result.ok.injEq] at he
    obtain ⟨e1, e2⟩ := he
    subst e1
    exact ⟨g0, cap0, w', hr, h2, h3, .inl rfl⟩
  · have hr' := Lib.run_append_grow_string (P := P) w t u ty e i (.int .u8 0) ht hu hi hz ⟨g0, 0, none⟩ n cap0 xs (by rw [hsize]; simpa using hown.1) (hown.cells rfl) ⟨s.toArray⟩ (by rw [strSize]; omega) (by rw [strSize]; omega) (by rw [hby, strSize]; exact growslice_fits (by omega) (by omega))
    rw [strSize] at hr'
    have he := hr.symm.trans hr'
    simp only [Result.ok.injEq] at he
    obtain ⟨e1, e2⟩ := he
    subst e1
    exact ⟨_, _, w', hr, h2, h3, .inr rfl⟩
/-- The operation, for the walk. -/
theorem wpList_append_strat {P : Program} {w : World} {ops : Array Oper} {rest : List Oper} {o : Oper} {a : Act} {Q : Exit → Act → World → Prop} (hgd : o.guard = none) (sl x : Operand) (t u : TypeId)
    (ho : o.op = .call { callee := .builtin .append, args := #[sl, x], argTypes := #[t, u] })
    {e : TypeId} (hE : ElemOk P t e 1 1) (hz : (P.info? e).map (fun i => i.zero) = some (some (.int .u8 0))) (hu : P.underlying u = some .string) (base : Nat)
    (g0 cap0 n : Nat) (hs : a.eval sl = .slice (some ⟨g0, 0, none⟩) n cap0) (xs : List Value) (hown : w.ownsRow base e 1 (.slice (some ⟨g0, 0, none⟩) n cap0) n xs) (s : Bytes) (hx : a.eval x = .string ⟨s.toArray⟩)
    (h63 : n + s.length ≤ 9223372036854775807) (hbytes : n + s.length ≤ 140737488355328) (hbase : base ≤ w.heap.size)
    (h : ∀ g cap w', w'.ownsRow base e 1 (.slice (some ⟨g, 0, none⟩) (n + s.length) cap) (n + s.length) (xs ++ byteVs s) → w.grownBy w' (some g0) → (g = g0 ∨ g = w.heap.size) → wpList P ops Q rest (a.put o.dst (.slice (some ⟨g, 0, none⟩) (n + s.length) cap)) w') : wpList P ops Q (o :: rest) a w := by
  obtain ⟨ht, i, z, hi, hzz, hsize, hby, -, -⟩ := hE
  have hz' : i.zero = some (.int .u8 0) := by rw [hi] at hz; simpa using hz
  refine wpList_plain hgd fun K hK => ?_
  obtain ⟨g, cap, w', hr, h2, h3, h4⟩ := run_append_str_at (P := P) w base t u o.type e i ht hu hi hz' hsize hby g0 cap0 n xs hown s h63 hbytes hbase
  unfold Oper.wp execOp
  simp only [ho, resolve, invoke, builtin, Sem.run_bind, Sem.run_pure, Result.andThen_ok, List.map_toArray, List.map_cons, List.map_nil, hs, hx, hr]
  exact hK _ _ (h g cap w' h2 h3 h4)
/-- The same at a step of a region that draws. -/
theorem step_append_strat {P : Program} {w : World} {ops : Array Oper} {o : Oper} {a : Act} {K : Act → World → Prop} {Q : Exit → Act → World → Prop} {E : Prop} (hgd : Region.wanted o (yielded ops a.tmps) = true) (sl x : Operand) (t u : TypeId)
    (ho : o.op = .call { callee := .builtin .append, args := #[sl, x], argTypes := #[t, u] })
    {e : TypeId} (hE : ElemOk P t e 1 1) (hz : (P.info? e).map (fun i => i.zero) = some (some (.int .u8 0))) (hu : P.underlying u = some .string) (base : Nat)
    (g0 cap0 n : Nat) (hs : a.eval sl = .slice (some ⟨g0, 0, none⟩) n cap0) (xs : List Value) (hown : w.ownsRow base e 1 (.slice (some ⟨g0, 0, none⟩) n cap0) n xs) (s : Bytes) (hx : a.eval x = .string ⟨s.toArray⟩)
    (h63 : n + s.length ≤ 9223372036854775807) (hbytes : n + s.length ≤ 140737488355328) (hbase : base ≤ w.heap.size)
    (h : ∀ g cap w', w'.ownsRow base e 1 (.slice (some ⟨g, 0, none⟩) (n + s.length) cap) (n + s.length) (xs ++ byteVs s) → w.grownBy w' (some g0) → (g = g0 ∨ g = w.heap.size) → K (a.put o.dst (.slice (some ⟨g, 0, none⟩) (n + s.length) cap)) w') :
    if Region.wanted o (yielded ops a.tmps) = true then Oper.wp P o a w K Q else E := by
  rw [if_pos hgd]
  obtain ⟨ht, i, z, hi, hzz, hsize, hby, -, -⟩ := hE
  have hz' : i.zero = some (.int .u8 0) := by rw [hi] at hz; simpa using hz
  obtain ⟨g, cap, w', hr, h2, h3, h4⟩ := run_append_str_at (P := P) w base t u o.type e i ht hu hi hz' hsize hby g0 cap0 n xs hown s h63 hbytes hbase
  unfold Oper.wp execOp
  simp only [ho, resolve, invoke, builtin, Sem.run_bind, Sem.run_pure, Result.andThen_ok, List.map_toArray, List.map_cons, List.map_nil, hs, hx, hr]
  exact h g cap w' h2 h3 h4
theorem AppB.ofStr {base e : Nat} {w w' : World} {l s : Bytes} {g g0 cap cap0 n : Nat} (hn : l.length = n) (hown : w'.ownsRow base e 1 (.slice (some ⟨g, 0, none⟩) (n + s.length) cap) (n + s.length) (byteVs l ++ byteVs s))
    (hgr : w.grownBy w' (some g0)) (hat : g = g0 ∨ g = w.heap.size) : AppB base e w (.slice (some ⟨g0, 0, none⟩) n cap0) w' (.slice (some ⟨g, 0, none⟩) (n + s.length) cap) (l ++ s) :=
  AppB.of (w := w) (H := w.heap.size) hn rfl hown rfl hgr (hat.imp (fun h => by rw [h]; rfl) id) rfl (Below.refl _ _)
end Go.Proofs.YtmijiclocadimaaGreatDoor
/- min of two numbers, as one step of a walk; lists of byte slices that lie in one variable. No program is named. -/
set_option linter.unusedVariables false
set_option linter.unusedSimpArgs false
namespace Go.Proofs.YtmijiclocadimaaGreatDoor
open Go Go.RowKit

theorem wpList_min {P : Program} {w : World} {ops : Array Oper} {rest : List Oper} {o : Oper} {a : Act} {Q : Exit → Act → World → Prop} (hgd : o.guard = none) (x y : Operand) (t t' : TypeId)
    (ho : o.op = .call { callee := .builtin .min, args := #[x, y], argTypes := #[t, t'] }) (p q n : Int) (hx : a.eval x = .int .i64 p) (hy : a.eval y = .int .i64 q) (hn : (p ≤ q ∧ n = p) ∨ (¬ p ≤ q ∧ n = q))
    (h : wpList P ops Q rest (a.put o.dst (.int .i64 n)) w) : wpList P ops Q (o :: rest) a w := by
  refine wpList_plain hgd fun K hK => ?_
  have hr : (Builtin.min_ #[t, t'] o.type #[.int .i64 p, .int .i64 q]).run P w = .ok (.int .i64 n) w := by
    have e : (if q < p then q else p) = n := by
      rcases hn with ⟨h1, h2⟩ | ⟨h1, h2⟩
      · rw [if_neg (by omega)]; exact h2.symm
      · rw [if_pos (by omega)]; exact h2.symm
    simp [Builtin.min_, Builtin.min2, e]
  unfold Oper.wp execOp
  simp only [ho, resolve, invoke, builtin, Sem.run_bind, Sem.run_pure, Result.andThen_ok, List.map_toArray, List.map_cons, List.map_nil, hx, hy, hr]
  exact hK _ _ h
theorem rdBB_box {G : Nat → Prop} {w : World} {B : Nat} {vs : List Value} {ls : List (List UInt8)} {T : TypeId} {n : Nat} (hb : BoxAt w B vs T) (hG : G B) (hn : vs.length = ls.length) (hl : ls.length = n) (hm : n ≤ maxLen)
    (h : ∀ (j : Nat) (v : Value) (x : List UInt8), vs[j]? = some v → ls[j]? = some x → RdB G w v x) : RdBB G w (.slice (some ⟨B, 0, none⟩) n n) ls := by
  subst hl
  refine ⟨_, _, rfl, Nat.le_refl _, hm, fun h => by simp at h, fun j x hx => ?_⟩
  have hj : j < vs.length := by
    rcases Nat.lt_or_ge j ls.length with q | q
    · omega
    · rw [List.getElem?_eq_none q] at hx; simp at hx
  have hv : vs[j]? = some vs[j] := List.getElem?_eq_getElem hj
  refine ⟨B, 0, [vs[j]], rfl, hG, fun t c ht => ?_, vs[j], rfl, h j _ x hv hx⟩
  match t, ht with
  | 0, ht =>
    simp at ht; subst ht
    have := hb.cell j hv
    simpa [sliceOf] using this
theorem rdBB_one {G : Nat → Prop} {w : World} {B : Nat} {v : Value} {l : List UInt8} {T : TypeId} (hb : BoxAt w B [v] T) (hG : G B) (h : RdB G w v l) : RdBB G w (.slice (some ⟨B, 0, none⟩) 1 1) [l] :=
  rdBB_box hb hG rfl rfl (by unfold maxLen; omega) (fun j u x h1 h2 => by
    match j, h1, h2 with
    | 0, h1, h2 => simp at h1 h2; subst h1 h2; exact h)
theorem rdBB_two {G : Nat → Prop} {w : World} {B : Nat} {v v' : Value} {l l' : List UInt8} {T : TypeId} (hb : BoxAt w B [v, v'] T) (hG : G B) (h : RdB G w v l) (h' : RdB G w v' l') : RdBB G w (.slice (some ⟨B, 0, none⟩) 2 2) [l, l'] :=
  rdBB_box hb hG rfl rfl (by unfold maxLen; omega) (fun j u x h1 h2 => by
    match j, h1, h2 with
    | 0, h1, h2 => simp at h1 h2; subst h1 h2; exact h
    | 1, h1, h2 => simp at h1 h2; subst h1 h2; exact h')
end Go.Proofs.YtmijiclocadimaaGreatDoor
/- How the arguments of a law are opened: what reads as data is a list of the call's own kind. No program is named. -/
set_option linter.unusedVariables false
set_option linter.unusedSimpArgs false
namespace Go.Proofs.YtmijiclocadimaaGreatDoor
open Go Go.RowKit

/-- Whatever reads as data of the type T is an R. -/
def Opens {α : Type} (P : Program) (T : TypeId) (R : Rel α) : Prop :=
  ∀ (H : Type) (enc : TypeId × Value → H) (w : World) (held : Bool) (fuel : Nat) (cs : List Value) (x : DataW H × List MemPlace), DataW.trod enc P w 0 (fun _ => true) held fuel T cs = some x → ∃ a, R.rd (fun _ => True) w cs a

theorem spot_of_cell {w : World} {a : Addr} {v : Value} (h : w.cell? a = some v) : a.spot = none := by
  unfold World.cell? at h
  split at h
  · split at h
    · simp at h
    · rename_i hs; simpa using hs
  · simp at h

theorem cells_at {w : World} {base n : Nat} {a : Addr} {cs : List Value} (h : w.cells? base a n = some cs) (j : Nat) (v : Value) (hj : cs[j]? = some v) : w.cell? (a.add j) = some v := by
  obtain ⟨_, hl, hc⟩ := World.cells?_some h
  have hjl : j < cs.length := by
    rcases Nat.lt_or_ge j cs.length with h | h
    · exact h
    · simp [List.getElem?_eq_none h] at hj
  have := hc j (by omega)
  rw [this, hj]

theorem Opens.slice {α : Type} {P : Program} {t e : TypeId} {R : Rel α} (ht : P.underlying t = some (.slice e)) (hc : P.cellsOf e = R.size) (hs : 0 < R.size) (h : Opens P e R) :
    ∀ (H : Type) (enc : TypeId × Value → H) (w : World) (held : Bool) (fuel : Nat) (cs : List Value) (x : DataW H × List MemPlace), DataW.trod enc P w 0 (fun _ => true) held fuel t cs = some x →
      ∃ v l, cs = [v] ∧ RdS R (fun _ => True) w v l := by
  intro H enc w held fuel cs x hx
  rcases Go.Deep.open_slice ht hx with ⟨rfl, _⟩ | ⟨a, len, cap, m, n, D, Pl, rfl, _, hl, hm, hmm, _, hi⟩
  · exact ⟨_, [], rfl, RdS.nil _ _ _⟩
  · have hi' : ∀ i, i < len → ∃ a, ∃ cs', w.cells? 0 (Addr.add ‹Addr› (i * P.cellsOf e)) (P.cellsOf e) = some cs' ∧ R.rd (fun _ => True) w cs' a := fun i hil => by
      obtain ⟨cs', h1, h2⟩ := hi i (by simp at hmm; omega)
      obtain ⟨y, hy⟩ := h H enc w held n cs' _ h2
      exact ⟨y, cs', h1, hy⟩
    obtain ⟨f, hf⟩ : ∃ f : Fin len → α, ∀ i : Fin len, ∃ cs', w.cells? 0 (a.add (i.val * P.cellsOf e)) (P.cellsOf e) = some cs' ∧ R.rd (fun _ => True) w cs' (f i) :=
      ⟨fun i => (hi' i.val i.isLt).choose, fun i => (hi' i.val i.isLt).choose_spec⟩
    refine ⟨_, List.ofFn f, rfl, some a, cap, by simp, by simpa using hl, hm, fun h => by simp at h, fun j y hy => ?_⟩
    have hj : j < len := by
      rcases Nat.lt_or_ge j len with h | h
      · exact h
      · rw [List.getElem?_eq_none (by simpa using h)] at hy; simp at hy
    obtain ⟨cs', h1, h2⟩ := hf ⟨j, hj⟩
    have hy' : f ⟨j, hj⟩ = y := by simpa [List.getElem?_ofFn, hj] using hy
    rw [hy'] at h2
    have hlen := R.len h2
    have hcell := cells_at h1
    have hspot : a.spot = none ∨ 0 < j * P.cellsOf e := by
      rcases Nat.eq_zero_or_pos (j * P.cellsOf e) with h0 | h0
      · left
        have := hcell 0 _ (List.getElem?_eq_getElem (by omega))
        have := spot_of_cell this
        simpa [Addr.add, h0] using this
      · exact Or.inr h0
    have hspot0 : a.spot = none := by
      have hz : 0 < len := by omega
      obtain ⟨c0, k1, k2⟩ := hf ⟨0, hz⟩
      have := cells_at k1 0 _ (List.getElem?_eq_getElem (by have := R.len k2; omega))
      have := spot_of_cell this
      simpa [Addr.add] using this
    obtain ⟨b, o, sp⟩ := a
    simp only at hspot0
    subst hspot0
    refine ⟨b, o, cs', rfl, trivial, fun t c hct => ?_, h2⟩
    have := hcell t c hct
    rw [Go.Deep.add_add] at this
    rw [← hc]
    unfold Addr.add at this
    split at this
    · rename_i hz; rw [hz]; simpa using this
    · exact this

/-- A text, no longer than a text may be. -/
def RTextB : Rel (List UInt8) where
  size := 1
  rd := fun _ _ cs x => cs = [strV x] ∧ x.length ≤ 9223372036854775807
  len := fun h => by simp [h.1]
  keep := fun h _ _ => h
  low := fun h => h
theorem opens_text {P : Program} {T : TypeId} (h : P.underlying T = some .string) : Opens P T RTextB := by
  intro H enc w held fuel cs x hx
  obtain ⟨s, rfl, _, hs⟩ := DataW.trod_string h hx
  refine ⟨s.data.toList, rfl, ?_⟩
  have : s.size ≤ maxLen := hs
  unfold maxLen at this
  have e : s.size = s.data.toList.length := rfl
  omega
/-- An int, within its bounds. -/
def RIntB : Rel Int where
  size := 1
  rd := fun _ _ cs x => cs = [.int .i64 x] ∧ -9223372036854775808 ≤ x ∧ x ≤ 9223372036854775807
  len := fun h => by simp [h.1]
  keep := fun h _ _ => h
  low := fun h => h
theorem wf_i64 {x : Int} (h : (Lit.int .i64 x).wf = true) : -9223372036854775808 ≤ x ∧ x ≤ 9223372036854775807 := by
  exact bounds_i64 h
theorem opens_int {P : Program} {T : TypeId} (h : P.underlying T = some (.int .i64)) : Opens P T RIntB := by
  intro H enc w held fuel cs x hx
  obtain ⟨a, e0, rfl, wa⟩ := DataW.trod_int h hx
  exact ⟨a, e0, wf_i64 wa⟩
def RByteB : Rel UInt8 := RByte
theorem opens_byte {P : Program} {T : TypeId} (h : P.underlying T = some (.int .u8)) : Opens P T RByte := by
  intro H enc w held fuel cs x hx
  obtain ⟨a, e0, rfl, wa⟩ := DataW.trod_int h hx
  have := bounds_u8 wa
  subst e0
  refine ⟨UInt8.ofNat a.toNat, ?_⟩
  show [Value.int .u8 a] = [Value.int .u8 ((UInt8.ofNat a.toNat).toNat : Int)]
  have : ((UInt8.ofNat a.toNat).toNat : Int) = a := by
    rw [UInt8.toNat_ofNat']; omega
  rw [this]

/-- From one relation of elements to a weaker one, and a fact on each element. -/
theorem RdS.weaken {α : Type} {R R' : Rel α} {p : α → Prop} {G : Nat → Prop} {w : World} {v : Value} {l : List α} (hs : R.size = R'.size) (hi : ∀ {G w cs x}, R.rd G w cs x → R'.rd G w cs x ∧ p x) (h : RdS R G w v l) : RdS R' G w v l ∧ ∀ x ∈ l, p x := by
  obtain ⟨ad, cap, rfl, h1, h2, h0, h3⟩ := h
  refine ⟨⟨ad, cap, rfl, h1, h2, h0, fun j x hx => ?_⟩, fun x hx => ?_⟩
  · obtain ⟨b, o, cs, ha, hb, hc, hr⟩ := h3 j x hx
    exact ⟨b, o, cs, ha, hb, by rw [← hs]; exact hc, (hi hr).1⟩
  · obtain ⟨j, hj, e⟩ := List.mem_iff_getElem.1 hx
    obtain ⟨b, o, cs, ha, hb, hc, hr⟩ := h3 j x (by simp [hj, e])
    exact (hi hr).2

/-- The arguments read behind the call as before it. -/
theorem argBack {H : Type} {enc : TypeId × Value → H} {P : Program} {t : TypeId} {W W' : World} {v : Value} {d : DataW H} {ps : List MemPlace} (hl : laidOutB P = true) (hr : P.readableRec t = true) (hrow : t < P.types.size)
    (h : DataW.Trod enc P W 0 (fun _ => true) true t v d ps) (hb : Below W.heap.size W W') : DataW.Trod enc P W' 0 (fun b => decide (b < W.heap.size)) true t v d ps :=
  Below.trod hl hr hrow h hb (by obtain ⟨m, hm⟩ := h; exact DataW.trod_lt m _ _ _ hm)
/-- A list of texts. -/
theorem open_textsL {H : Type} {enc : TypeId × Value → H} {P : Program} {t e : TypeId} {W : World} {v : Value} {d : DataW H} {ps : List MemPlace} (ht : P.underlying t = some (.slice e)) (he : P.underlying e = some .string) (hc : P.cellsOf e = 1)
    {a : Option Addr} {n c : Nat} (hv : v = .slice a n c) (h : DataW.Trod enc P W 0 (fun _ => true) true t v d ps) : ∃ l : List (List UInt8), RdT (fun _ => True) W v l ∧ ∀ s ∈ l, s.length ≤ 9223372036854775807 := by
  subst hv
  obtain ⟨fuel, hf⟩ := h
  obtain ⟨v', l, e1, h1⟩ := (opens_text he).slice ht hc (by decide) H enc W true fuel _ _ hf
  simp only [Value.cells, List.cons.injEq, and_true] at e1
  subst e1
  exact ⟨l, RdS.weaken (R := RTextB) (R' := RStr) (p := fun s => s.length ≤ 9223372036854775807) rfl (fun hx => ⟨hx.1, hx.2⟩) h1⟩
/-- A list of ints. -/
theorem open_intsL {H : Type} {enc : TypeId × Value → H} {P : Program} {t e : TypeId} {W : World} {v : Value} {d : DataW H} {ps : List MemPlace} (ht : P.underlying t = some (.slice e)) (he : P.underlying e = some (.int .i64)) (hc : P.cellsOf e = 1)
    {a : Option Addr} {n c : Nat} (hv : v = .slice a n c) (h : DataW.Trod enc P W 0 (fun _ => true) true t v d ps) : ∃ l : List Int, RdI (fun _ => True) W v l ∧ ∀ s ∈ l, -9223372036854775808 ≤ s ∧ s ≤ 9223372036854775807 := by
  subst hv
  obtain ⟨fuel, hf⟩ := h
  obtain ⟨v', l, e1, h1⟩ := (opens_int he).slice ht hc (by decide) H enc W true fuel _ _ hf
  simp only [Value.cells, List.cons.injEq, and_true] at e1
  subst e1
  exact ⟨l, RdS.weaken (R := RIntB) (R' := RInt) (p := fun s => -9223372036854775808 ≤ s ∧ s ≤ 9223372036854775807) rfl (fun hx => ⟨hx.1, hx.2⟩) h1⟩
/-- Bytes. -/
theorem open_bytesL {H : Type} {enc : TypeId × Value → H} {P : Program} {t e : TypeId} {W : World} {v : Value} {d : DataW H} {ps : List MemPlace} (ht : P.underlying t = some (.slice e)) (he : P.underlying e = some (.int .u8)) (hc : P.cellsOf e = 1)
    {a : Option Addr} {n c : Nat} (hv : v = .slice a n c) (h : DataW.Trod enc P W 0 (fun _ => true) true t v d ps) : ∃ l : List UInt8, RdB (fun _ => True) W v l := by
  subst hv
  obtain ⟨fuel, hf⟩ := h
  obtain ⟨v', l, e1, h1⟩ := (opens_byte he).slice ht hc (by decide) H enc W true fuel _ _ hf
  simp only [Value.cells, List.cons.injEq, and_true] at e1
  subst e1
  exact ⟨l, h1⟩
end Go.Proofs.YtmijiclocadimaaGreatDoor
/- How raw numbers that come in are opened. -/
set_option linter.unusedVariables false
set_option linter.unusedSimpArgs false
namespace Go.Proofs.YtmijiclocadimaaGreatDoor
open Go Go.RowKit Go.ChangeShapes Go.WideShapes Go.Deep

structure RawD where
  k : Int
  a : Int
  b : Int
  c : Int
  txs : List (List UInt8)
def i64In (x : Int) : Prop := -9223372036854775808 ≤ x ∧ x ≤ 9223372036854775807
/-- A raw's texts read, its numbers are within their bounds. -/
def RawOk (G : Nat → Prop) (w : World) (vt : Value) (x : RawD) : Prop :=
  i64In x.k ∧ i64In x.a ∧ i64In x.b ∧ i64In x.c ∧ RdT G w vt x.txs ∧ ∀ t ∈ x.txs, t.length ≤ 9223372036854775807
def RRaw : Rel RawD where
  size := 5
  rd := fun G w cs x => ∃ v, cs = [.int .i64 x.k, .int .i64 x.a, .int .i64 x.b, .int .i64 x.c, v] ∧ RawOk G w v x
  len := fun ⟨_, h, _⟩ => by simp [h]
  keep := fun ⟨v, h, a, b, c, d, e, f⟩ hk hg => ⟨v, h, a, b, c, d, e.keep hk hg, f⟩
  low := fun ⟨v, h, a, b, c, d, e, f⟩ => ⟨v, h, a, b, c, d, e.low (by decide), f⟩
theorem RawOk.keep {G G' : Nat → Prop} {w w' : World} {vt : Value} {x : RawD} (h : RawOk G w vt x) (hk : Keep G w w') (hg : ∀ b, G b → G' b) : RawOk G' w' vt x :=
  ⟨h.1, h.2.1, h.2.2.1, h.2.2.2.1, h.2.2.2.2.1.keep hk hg, h.2.2.2.2.2⟩
theorem RawOk.one {G : Nat → Prop} {w : World} {vt : Value} {x : RawD} (h : RawOk G w vt x) : vt.oneCell' = true := by
  obtain ⟨ad, cap, rfl, _⟩ := h.2.2.2.2.1.form
  rfl
set_option maxRecDepth 100000 in
theorem opens_raw : Opens Tryz.prog 109 RRaw := by
  intro H enc w held fuel cs x hx
  obtain ⟨xs, n, _, hx', hlen, hyl, hg⟩ := DataW.trod_struct Tryz.underlying109 hx
  have hl : cs.length = 5 := hlen.trans (by kernel_rfl)
  have hc3 : Tryz.prog.cellsOf 3 = 1 := by kernel_rfl
  have hcT : Tryz.prog.cellsOf 44 = 1 := by kernel_rfl
  match cs, hl with
  | [c0, c1, c2, c3, c4], _ =>
    match xs, hyl with
    | [y0, y1, y2, y3, y4], _ =>
      have g0 := hg 0 _ rfl
      have g1 := hg 1 _ rfl
      have g2 := hg 2 _ rfl
      have g3 := hg 3 _ rfl
      have g4 := hg 4 _ rfl
      simp only [List.getElem_toArray, List.getElem_cons_zero, List.getElem_cons_succ, hc3, hcT, List.drop_zero, List.drop_succ_cons, List.take_succ_cons, List.take_zero, List.getElem?_cons_zero, List.getElem?_cons_succ] at g0 g1 g2 g3 g4
      obtain ⟨a0, e0, _, b0⟩ := DataW.trod_int Tryz.underlying3 g0
      obtain ⟨a1, e1, _, b1⟩ := DataW.trod_int Tryz.underlying3 g1
      obtain ⟨a2, e2, _, b2⟩ := DataW.trod_int Tryz.underlying3 g2
      obtain ⟨a3, e3, _, b3⟩ := DataW.trod_int Tryz.underlying3 g3
      obtain ⟨v, l, e4, hl4⟩ := (opens_text (P := Tryz.prog) (T := 9) Tryz.underlying9).slice Tryz.underlying44 (by kernel_rfl) (by decide) H enc w held n _ _ g4
      simp only [List.cons.injEq, and_true] at e0 e1 e2 e3 e4
      subst e0 e1 e2 e3 e4
      obtain ⟨r1, r2⟩ := RdS.weaken (R := RTextB) (R' := RStr) (p := fun s => s.length ≤ 9223372036854775807) rfl (fun hx => ⟨hx.1, hx.2⟩) hl4
      exact ⟨⟨a0, a1, a2, a3, l⟩, c4, rfl, wf_i64 b0, wf_i64 b1, wf_i64 b2, wf_i64 b3, r1, r2⟩
set_option maxRecDepth 100000 in
theorem open_raw {H : Type} {enc : TypeId × Value → H} {W : World} {r : Reach} {b0 : Nat} {v : Value} {d : DataW H} {ps : List MemPlace} (hv : Value.okWide Tryz.prog W r b0 109 v)
    (h : DataW.Trod enc Tryz.prog W 0 (fun _ => true) true 109 v d ps) : ∃ (vt : Value) (x : RawD), v = .agg #[.int .i64 x.k, .int .i64 x.a, .int .i64 x.b, .int .i64 x.c, vt] ∧ RawOk (fun _ => True) W vt x := by
  obtain ⟨cs, rfl, hsz⟩ := okWide_struct Tryz.underlying109 hv
  obtain ⟨fuel, hf⟩ := h
  obtain ⟨x, v, e, hx⟩ := opens_raw H enc W true fuel _ _ hf
  have e' : cs.toList = [.int .i64 x.k, .int .i64 x.a, .int .i64 x.b, .int .i64 x.c, v] := e
  refine ⟨v, x, ?_, hx⟩
  rw [← Array.toArray_toList (xs := cs), e']
end Go.Proofs.YtmijiclocadimaaGreatDoor
/- An element of a list of raw numbers. -/
set_option linter.unusedVariables false
set_option linter.unusedSimpArgs false
namespace Go.Proofs.YtmijiclocadimaaGreatDoor
open Go Go.RowKit
theorem RdS.raw {G : Nat → Prop} {w : World} {l : List RawD} {ad : Option Addr} {n cap : Nat} (h : RdS RRaw G w (.slice ad n cap) l) (j : Nat) (hj : j < l.length) :
    ∃ b o v, ad = some ⟨b, o, none⟩ ∧ G b ∧ w.cell? ⟨b, o + j * 5, none⟩ = some (.int .i64 l[j].k) ∧ w.cell? ⟨b, o + j * 5 + 1, none⟩ = some (.int .i64 l[j].a) ∧ w.cell? ⟨b, o + j * 5 + 2, none⟩ = some (.int .i64 l[j].b) ∧ w.cell? ⟨b, o + j * 5 + 3, none⟩ = some (.int .i64 l[j].c) ∧ w.cell? ⟨b, o + j * 5 + 4, none⟩ = some v ∧ RawOk G w v l[j] := by
  obtain ⟨b, o, cs, ha, hb, hc, v, rfl, hr⟩ := h.at j hj
  exact ⟨b, o, v, ha, hb, hc 0 _ rfl, hc 1 _ rfl, hc 2 _ rfl, hc 3 _ rfl, hc 4 _ rfl, hr⟩
end Go.Proofs.YtmijiclocadimaaGreatDoor
/- A list that is copied by append, and one element more. No program is named. -/
set_option linter.unusedVariables false
set_option linter.unusedSimpArgs false
namespace Go.Proofs.YtmijiclocadimaaGreatDoor
open Go Go.RowKit

section
variable {α : Type} {R : Rel α} {G : Nat → Prop} {w : World} {v : Value} {l : List α}
/-- append(nil, l...). -/
theorem RdS.copyOf (h : RdS R G w v l) (hs : 0 < R.size) (h1 : ∀ {G w cs x}, R.rd G w cs x → ∀ u ∈ cs, u.oneCell' = true) (e : Nat) :
    ∃ vals, SlCells w v l.length R.size vals ∧ (∀ u ∈ vals, u.oneCell' = true) ∧
      ∀ (w0 w' : World) (v' : Value), Below w.heap.size w w0 → w'.ownsRow w.heap.size e R.size v' (0 + l.length) ([] ++ vals) → w0.grownBy w' (Value.slice none 0 0).ownBlock →
        LstV R (fun b => (G b ∧ b < w.heap.size) ∨ w.heap.size ≤ b) w.heap.size e w' v' l vals := by
  obtain ⟨vals, k1, k2, k3⟩ := (h.low hs).flatOf hs h1
  refine ⟨vals, k1, k3, fun w0 w' v' hb hown hgr => ?_⟩
  rw [Nat.zero_add, List.nil_append] at hown
  refine ⟨hown, fun j x hx => R.keep (k2 j x hx) ((Keep.belowB hb (fun b h => h.2)).trans (Keep.grown hgr (fun k hk => by simp [Value.ownBlock] at hk))) (fun b hb' => ⟨.inl hb', ?_, fun e => ?_⟩)⟩
  · exact Nat.lt_of_lt_of_le hb'.2 (Nat.le_trans hb.size hgr.size)
  · have := ownBlock_ge hown _ e; have := hb'.2; omega
/-- .. and one element more. -/
theorem LstV.dup {H e g cap : Nat} {W w' : World} {vals cs : List Value} {x : α} (hL : LstV R (fun b => (G b ∧ b < H) ∨ H ≤ b) H e W v l vals) (hs : 0 < R.size) (hHW : H ≤ W.heap.size)
    (hx : R.rd (fun b => (G b ∧ b < H) ∨ (H ≤ b ∧ b < W.heap.size ∧ v.ownBlock ≠ some b)) W cs x)
    (hown : w'.ownsRow H e R.size (.slice (some ⟨g, 0, none⟩) (l.length + 1) cap) (l.length + 1) (vals ++ cs)) (hgr : W.grownBy w' v.ownBlock) (hat : v.ownBlock = some g ∨ g = W.heap.size) :
    RdS R (fun b => (G b ∧ b < H) ∨ H ≤ b) w' (.slice (some ⟨g, 0, none⟩) (l.length + 1) cap) (l ++ [x]) := by
  refine (hL.push (R.keep hx (Keep.refl _ _) (fun b hb => ?_)) hown hgr hat).rd hs (fun b h1 h2 => .inr h1) (fun b h1 h2 => h1)
  rcases hb with hb | hb
  · exact ⟨.inl hb, Nat.lt_of_lt_of_le hb.2 hHW, fun e => by have := (hL.lt _ e).1; have := hb.2; omega⟩
  · exact ⟨.inr hb.1, hb.2⟩
end
theorem wp_append_at1 {P : Program} {w : World} {o : Oper} {a : Act} {K : Act → World → Prop} {Q : Exit → Act → World → Prop} (s x : Operand) (t : TypeId)
    (ho : o.op = .call { callee := .builtin .append, args := #[s, x], argTypes := #[t, t] })
    {e : TypeId} {size bytes : Nat} (hE : ElemOk P t e size bytes) (base : Nat) (vs : Value) (n : Nat) (xs : List Value) (hs : a.eval s = vs) (hown : w.ownsRow base e size vs n xs)
    (vx : Value) (m : Nat) (news : List Value) (hvx : a.eval x = vx) (hx : SlCells w vx m size news) (h1 : ∀ u ∈ news, u.oneCell' = true) (hm : 0 < m) (h63 : n + m ≤ maxLen) (hbytes : (n + m) * bytes ≤ 140737488355328) (hbase : base ≤ w.heap.size)
    (h : ∀ g cap w', w'.ownsRow base e size (.slice (some ⟨g, 0, none⟩) (n + m) cap) (n + m) (xs ++ news) → w.grownBy w' vs.ownBlock → (vs.ownBlock = some g ∨ g = w.heap.size) → g < w'.heap.size → K (a.put o.dst (.slice (some ⟨g, 0, none⟩) (n + m) cap)) w') :
    Oper.wp P o a w K Q := by
  obtain ⟨ht, i, z, hi, hz, hsize, hby, hzs, hsz⟩ := hE
  obtain ⟨ad, c, rfl, hl, hc⟩ := hx.some hm
  exact wp_append_lies w s x t ho base e i z size bytes ht hi hz hsize hby hzs hsz vs n xs hs hown ad m c news hvx hl hc h1 hm h63 hbytes hbase _ rfl h
theorem wp_append_one {P : Program} {w : World} {o : Oper} {a : Act} {K : Act → World → Prop} {Q : Exit → Act → World → Prop} (s x : Operand) (t : TypeId)
    (ho : o.op = .call { callee := .builtin .append, args := #[s, x], argTypes := #[t, t] })
    {e : TypeId} {size bytes : Nat} (hE : ElemOk P t e size bytes) (base : Nat) (v : Value) (n : Nat) (xs : List Value) (hs : a.eval s = v) (hown : w.ownsRow base e size v n xs)
    (b : Nat) (T : TypeId) (cs : List Value) (hx : a.eval x = .slice (some ⟨b, 0, none⟩) 1 1) (hbox : BoxAt w b cs T) (hl : cs.length = size) (h1 : ∀ u ∈ cs, u.oneCell' = true)
    (h63 : n + 1 ≤ maxLen) (hbytes : (n + 1) * bytes ≤ 140737488355328) (hbase : base ≤ w.heap.size)
    (h : ∀ g cap w', w'.ownsRow base e size (.slice (some ⟨g, 0, none⟩) (n + 1) cap) (n + 1) (xs ++ cs) → w.grownBy w' v.ownBlock → (v.ownBlock = some g ∨ g = w.heap.size) → g < w'.heap.size → K (a.put o.dst (.slice (some ⟨g, 0, none⟩) (n + 1) cap)) w') :
    Oper.wp P o a w K Q := by
  obtain ⟨ht, i, z, hi, hz, hsize, hby, hzs, hsz⟩ := hE
  exact wp_append_lies w s x t ho base e i z size bytes ht hi hz hsize hby hzs hsz v n xs hs hown ⟨b, 0, none⟩ 1 1 cs hx (by omega) hbox.newsAt h1 (by omega) h63 hbytes hbase _ rfl h
end Go.Proofs.YtmijiclocadimaaGreatDoor
/- A row of structs that the shelf's sort has turned: what it reads as. No program is named. -/
set_option linter.unusedVariables false
set_option linter.unusedSimpArgs false
namespace Go.Proofs.YtmijiclocadimaaGreatDoor
open Go Go.RowKit Go.Sort

theorem flatMap_range {α : Type} [Inhabited α] (d : Array α) (enc : α → List Value) : d.toList.flatMap enc = (List.range d.size).flatMap fun i => enc d[i]! := by
  have h : d.toList = (List.range d.size).map fun (i : Nat) => d[i]! := by
    apply List.ext_getElem
    · simp
    · intro j h1 h2
      have hj : j < d.size := by simpa using h1
      simp [hj]
  conv => lhs; rw [h]
  rw [List.flatMap_map]
theorem flatK_toList {α : Type} [Inhabited α] {enc : α → List Value} {k : Nat} (hk0 : 0 < k) (hk : ∀ x, (enc x).length = k) (d : Array α) : (flatK enc k d).toList = d.toList.flatMap enc := by
  rw [flatMap_range]
  have hf : ∀ i : Nat, (enc d[i]!).length = k := fun i => hk _
  apply List.ext_getElem
  · rw [flatMap_len hf]; simp
  · intro t h1 h2
    have ht : t < d.size * k := by simpa using h1
    have hq : t / k < d.size := (Nat.div_lt_iff_lt_mul hk0).2 ht
    have hr : t % k < k := Nat.mod_lt _ hk0
    have hdec : (t / k) * k + t % k = t := by rw [Nat.mul_comm]; exact Nat.div_add_mod t k
    have hat := flatMap_at hf hq
    have e1 : ((List.range d.size).flatMap fun i => enc d[i]!)[t]? = (enc d[t / k]!)[t % k]? := by
      rw [← hat, List.getElem?_take_of_lt hr, List.getElem?_drop, hdec]
    have e2 : (flatK enc k d)[t]! = (enc d[t / k]!)[t % k]! := get_flatK enc k d t ht
    rw [List.getElem?_eq_getElem h2, List.getElem?_eq_getElem (by rw [hk]; exact hr)] at e1
    have e3 := Option.some.inj e1
    rw [e3]
    have e4 : (flatK enc k d)[t]! = (flatK enc k d).toList[t] := by
      rw [getElem!_pos (flatK enc k d) t (by simpa using ht)]; rfl
    rw [← e4, e2, getElem!_pos (enc d[t / k]!) (t % k) (by rw [hk]; exact hr)]
theorem holds_of_owns {α : Type} [Inhabited α] {enc : α → List Value} {k : Nat} (hk0 : 0 < k) (hk : ∀ x, (enc x).length = k) {w : World} {base e n g cap : Nat} {d : Array α}
    (h : w.ownsRow base e k (.slice (some ⟨g, 0, none⟩) n cap) n (d.toList.flatMap enc)) : HoldsK enc k w g 0 d := by
  obtain ⟨hl, h⟩ := h
  rcases h with ⟨h, -⟩ | ⟨g', cap', cur, hv, hb, hg, k1, k2, k3, k4⟩
  · simp at h
  · simp only [Value.slice.injEq, Option.some.injEq, Addr.mk.injEq, and_true] at hv
    obtain ⟨rfl, -, rfl⟩ := hv
    intro j hj
    have hjl : j < (d.toList.flatMap enc).length := by rw [← flatK_toList hk0 hk]; simpa using hj
    have hc : cur[j]? = some (flatK enc k d)[j]! := by
      have e1 : (cur.toList.take (n * k))[j]? = some (d.toList.flatMap enc)[j] := by rw [k4]; exact List.getElem?_eq_getElem hjl
      rw [List.getElem?_take_of_lt (by rw [← hl]; exact hjl)] at e1
      have e2 : (flatK enc k d)[j]! = (d.toList.flatMap enc)[j] := by
        rw [getElem!_pos (flatK enc k d) j hj]
        have : (flatK enc k d)[j] = (flatK enc k d).toList[j]'(by simpa using hj) := rfl
        rw [this]
        simp only [flatK_toList hk0 hk]
      rw [e2]
      simpa using e1
    refine ⟨?_, ?_⟩
    · simp [World.cell?, hg, hc]
    · simp [World.frozen?, hg]
theorem take_putCells {F cur : Array Value} {m : Nat} (hF : F.size = m) (hm : m ≤ cur.size) : (putCells id 0 F cur).toList.take m = F.toList := by
  apply List.ext_getElem
  · simp [putCells]; omega
  · intro j h1 h2
    have hj : j < F.size := by simpa using h2
    simp [putCells, hj]
theorem sorted_world {α : Type} [Inhabited α] {enc : α → List Value} {k : Nat} (hk0 : 0 < k) (hk : ∀ x, (enc x).length = k) {w : World} {base e n g cap m : Nat} {d d' : Array α} {os : Array Obj}
    (h : w.ownsRow base e k (.slice (some ⟨g, 0, none⟩) n cap) n (d.toList.flatMap enc)) (hs : d'.size = d.size) :
    (sortWorldK enc k w g 0 m d' os).ownsRow base e k (.slice (some ⟨g, 0, none⟩) n cap) n (d'.toList.flatMap enc) ∧ w.grownBy (sortWorldK enc k w g 0 m d' os) (some g) := by
  obtain ⟨hl, h⟩ := h
  have hlen : ∀ x : Array α, (x.toList.flatMap enc).length = x.size * k := fun x => by rw [← flatK_toList hk0 hk]; simp
  rcases h with ⟨h, -⟩ | ⟨g', cap', cur, hv, hb, hg, k1, k2, k3, k4⟩
  · simp at h
  · simp only [Value.slice.injEq, Option.some.injEq, Addr.mk.injEq, and_true] at hv
    obtain ⟨rfl, -, rfl⟩ := hv
    have hgl : g < w.heap.size := lt_of_block hg
    have hnk : d'.size * k = n * k := by rw [hs, ← hlen, hl]
    have hblk : (sortWorldK enc k w g 0 m d' os).heap[g]? = some (.cells (putCells id 0 (flatK enc k d') cur) e (0, 0)) := by
      unfold sortWorldK putRowK
      rw [heap_grow_old _ _ (by rw [size_putRow]; exact hgl)]
      show (mapBlock (Go.Sort.ahead w m) g _).heap[g]? = _
      simp [mapBlock, Array.getElem?_modify, Go.Sort.ahead, hg, onCells]
    have hcap : n * k ≤ cap * k := Nat.mul_le_mul_right _ k1
    refine ⟨⟨by rw [hlen]; exact hnk, .inr ⟨g, cap, _, rfl, hb, hblk, k1, k2, by simp [putCells]; exact k3, ?_⟩⟩, ⟨rfl, rfl, rfl, ?_, fun b hb hne => ?_⟩⟩
    · rw [← flatK_toList hk0 hk]
      exact take_putCells (by simpa using hnk) (by omega)
    · unfold sortWorldK putRowK; simp [Go.Sort.ahead]
    · unfold sortWorldK putRowK
      rw [heap_grow_old _ _ (by rw [size_putRow]; exact hb)]
      show (mapBlock (Go.Sort.ahead w m) g _).heap[b]? = _
      have hbg : ¬ g = b := fun e => hne (by rw [e])
      simp [mapBlock, Array.getElem?_modify, Go.Sort.ahead, hbg]
theorem permIn_perm {α : Type} [Inhabited α] {d d' : Array α} (h : PermIn 0 d.size d d') : d'.toList.Perm d.toList := by
  obtain ⟨h1, -, h3⟩ := h
  have e1 : (d'.extract 0 d.size).toList = d'.toList := by rw [← h1]; simp
  have e2 : (d.extract 0 d.size).toList = d.toList := by simp
  rw [e1, e2] at h3
  exact h3
theorem sortedIn_pairwise {α : Type} [Inhabited α] {lt : α → α → Bool} {d d' : Array α} (hs : d'.size = d.size) (h : SortedIn lt 0 d.size d') : d'.toList.Pairwise fun x y => lt y x = false := by
  rw [List.pairwise_iff_getElem]
  intro i j hi hj hij
  have hi' : i < d'.size := by simpa using hi
  have hj' : j < d'.size := by simpa using hj
  have := h i j (Nat.zero_le _) hij (by omega)
  rw [getElem!_pos d' i hi', getElem!_pos d' j hj'] at this
  simpa using this
end Go.Proofs.YtmijiclocadimaaGreatDoor
/- The shelf's contracts of slices.SortFunc and math/bits.Len, laid at this program: written by the kit's own tool. -/
set_option linter.unusedVariables false
namespace Go.Proofs.YtmijiclocadimaaGreatDoor
open Go.Shelf
def sortLay_ren : Go.Shelf.Ren := ⟨fun | 6 => 71 | 15 => 107 | 14 => 106 | 28 => 159 | 29 => 160 | 20 => 151 | 21 => 152 | 22 => 153 | 23 => 154 | 24 => 155 | 25 => 156 | 26 => 157 | 27 => 158 | 46 => 187 | 47 => 188 | 48 => 189 | 49 => 190 | 50 => 191 | 57 => 201 | n => n, fun | 22 => 41 | 24 => 65 | 25 => 135 | 3 => 3 | 39 => 164 | 0 => 0 | 53 => 210 | 55 => 226 | 4 => 4 | 46 => 218 | 45 => 217 | 50 => 222 | 5 => 5 | 9 => 9 | 66 => 253 | 70 => 257 | 76 => 265 | 77 => 266 | n => n, fun | n => n⟩
theorem sortLay : Go.Proofs.SlLaysF0.n6 Tryz.prog sortLay_ren := {
  mixed := by kernel_rfl
  f6 := ⟨Tryz.f71.name, by decide, Tryz.func71.trans (congrArg some (by kernel_rfl))⟩
  f14 := ⟨Tryz.f106.name, by decide, Tryz.func106.trans (congrArg some (by kernel_rfl))⟩
  f15 := Tryz.func107.trans (congrArg some (by kernel_rfl))
  f20 := ⟨Tryz.f151.name, by decide, Tryz.func151.trans (congrArg some (by kernel_rfl))⟩
  f21 := ⟨Tryz.f152.name, by decide, Tryz.func152.trans (congrArg some (by kernel_rfl))⟩
  f22 := ⟨Tryz.f153.name, by decide, Tryz.func153.trans (congrArg some (by kernel_rfl))⟩
  f23 := ⟨Tryz.f154.name, by decide, Tryz.func154.trans (congrArg some (by kernel_rfl))⟩
  f24 := ⟨Tryz.f155.name, by decide, Tryz.func155.trans (congrArg some (by kernel_rfl))⟩
  f25 := ⟨Tryz.f156.name, by decide, Tryz.func156.trans (congrArg some (by kernel_rfl))⟩
  f26 := ⟨Tryz.f157.name, by decide, Tryz.func157.trans (congrArg some (by kernel_rfl))⟩
  f27 := ⟨Tryz.f158.name, by decide, Tryz.func158.trans (congrArg some (by kernel_rfl))⟩
  f28 := Tryz.func159.trans (congrArg some (by kernel_rfl))
  f29 := Tryz.func160.trans (congrArg some (by kernel_rfl))
  f46 := ⟨Tryz.f187.name, by decide, Tryz.func187.trans (congrArg some (by kernel_rfl))⟩
  f47 := Tryz.func188.trans (congrArg some (by kernel_rfl))
  f48 := Tryz.func189.trans (congrArg some (by kernel_rfl))
  f49 := ⟨Tryz.f190.name, by decide, Tryz.func190.trans (congrArg some (by kernel_rfl))⟩
  f50 := ⟨Tryz.f191.name, by decide, Tryz.func191.trans (congrArg some (by kernel_rfl))⟩
  f57 := ⟨Tryz.f201.name, by decide, Tryz.func201.trans (congrArg some (by kernel_rfl))⟩
  t0 := Tryz.underlying0
  a0 := Tryz.isAgg0
  z0 := Tryz.sizeOf0
  v0 := Tryz.zeroValue0
  t3 := Tryz.underlying3
  a3 := Tryz.isAgg3
  z3 := Tryz.sizeOf3
  v3 := Tryz.zeroValue3
  t4 := Tryz.underlying4
  a4 := Tryz.isAgg4
  z4 := Tryz.sizeOf4
  v4 := Tryz.zeroValue4
  t5 := Tryz.underlying5
  a5 := Tryz.isAgg5
  z5 := Tryz.sizeOf5
  v5 := Tryz.zeroValue5
  t9 := Tryz.underlying9
  a9 := Tryz.isAgg9
  z9 := Tryz.sizeOf9
  v9 := Tryz.zeroValue9
  t22 := Tryz.underlying41
  a22 := Tryz.isAgg41
  z22 := Tryz.sizeOf41
  v22 := Tryz.zeroValue41
  t25 := Tryz.underlying135
  a25 := Tryz.isAgg135
  z25 := Tryz.sizeOf135
  v25 := Tryz.zeroValue135
  t39 := Tryz.underlying164
  a39 := Tryz.isAgg164
  z39 := Tryz.sizeOf164
  v39 := Tryz.zeroValue164
  t45 := Tryz.underlying217
  a45 := Tryz.isAgg217
  z45 := Tryz.sizeOf217
  v45 := Tryz.zeroValue217
  t46 := Tryz.underlying218
  a46 := Tryz.isAgg218
  z46 := Tryz.sizeOf218
  v46 := Tryz.zeroValue218
  t50 := Tryz.underlying222
  a50 := Tryz.isAgg222
  z50 := Tryz.sizeOf222
  v50 := Tryz.zeroValue222
  t53 := Tryz.underlying210
  a53 := Tryz.isAgg210
  z53 := Tryz.sizeOf210
  v53 := Tryz.zeroValue210
  t55 := Tryz.underlying226
  a55 := Tryz.isAgg226
  z55 := Tryz.sizeOf226
  v55 := Tryz.zeroValue226
  t66 := Tryz.underlying253
  a66 := Tryz.isAgg253
  z66 := Tryz.sizeOf253
  v66 := Tryz.zeroValue253
  t70 := Tryz.underlying257
  a70 := Tryz.isAgg257
  z70 := Tryz.sizeOf257
  v70 := Tryz.zeroValue257
  t76 := Tryz.underlying265
  a76 := Tryz.isAgg265
  z76 := Tryz.sizeOf265
  v76 := Tryz.zeroValue265
  t77 := Tryz.underlying266
  a77 := Tryz.isAgg266
  z77 := Tryz.sizeOf266
  v77 := Tryz.zeroValue266 }
def bitsLay_ren : Go.Shelf.Ren := ⟨fun | 125 => 107 | 128 => 159 | 129 => 160 | n => n, fun | 46 => 164 | 3 => 3 | 51 => 210 | 53 => 226 | 4 => 4 | 5 => 5 | 9 => 9 | n => n, fun | n => n⟩
theorem bitsLay : Go.Proofs.Lays.n125 Tryz.prog bitsLay_ren := {
  mixed := by kernel_rfl
  f125 := Tryz.func107.trans (congrArg some (by kernel_rfl))
  f128 := Tryz.func159.trans (congrArg some (by kernel_rfl))
  f129 := Tryz.func160.trans (congrArg some (by kernel_rfl))
  t3 := Tryz.underlying3
  a3 := Tryz.isAgg3
  z3 := Tryz.sizeOf3
  v3 := Tryz.zeroValue3
  t4 := Tryz.underlying4
  a4 := Tryz.isAgg4
  z4 := Tryz.sizeOf4
  v4 := Tryz.zeroValue4
  t5 := Tryz.underlying5
  a5 := Tryz.isAgg5
  z5 := Tryz.sizeOf5
  v5 := Tryz.zeroValue5
  t9 := Tryz.underlying9
  a9 := Tryz.isAgg9
  z9 := Tryz.sizeOf9
  v9 := Tryz.zeroValue9
  t46 := Tryz.underlying164
  a46 := Tryz.isAgg164
  z46 := Tryz.sizeOf164
  v46 := Tryz.zeroValue164
  t51 := Tryz.underlying210
  a51 := Tryz.isAgg210
  z51 := Tryz.sizeOf210
  v51 := Tryz.zeroValue210
  t53 := Tryz.underlying226
  a53 := Tryz.isAgg226
  z53 := Tryz.sizeOf226
  v53 := Tryz.zeroValue226 }
end Go.Proofs.YtmijiclocadimaaGreatDoor
