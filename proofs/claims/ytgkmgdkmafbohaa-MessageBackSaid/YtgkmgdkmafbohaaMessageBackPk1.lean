/- What a slice reads as, and that it goes on reading so. Plain lemmas on worlds; no program is named. -/
import Derived.WalkKit
import Derived.WalkSpells
import Derived.Lib.Hide
import Derived.Laws.AppendOwnNone
import Derived.Deep.AppendLies
import Derived.RegionTactic
import Derived.Laws.BytesString
import Derived.Test.YtgkmgdkmafbohaaRows
import Derived.Outline
import Derived.BigGuardPart
import Derived.Deep.DeepCutAuto
import Derived.Deep.RegionHeld3
import Derived.Deep.DrawnRows
import Derived.WalkLawsBesides
import Derived.BigQuiet
import Derived.Deep.QuietTactic
import Derived.Lib.AppendStr
import Derived.IntWalk
import Derived.Laws.Rows
import Derived.Laws.CopyOwn
/- What a slice reads as, and that it goes on reading so. Plain lemmas on worlds; no program is named. -/
set_option linter.unusedVariables false
set_option linter.unusedSimpArgs false
namespace Go.Proofs.Ytgkmgdkmafbohaa
open Go Go.RowKit

theorem ret_intH {k : IntKind} {a b : Int} (h : b = a) : Ending.returned (.int k a) = .returned (.int k b) := by rw [h]
theorem ret_boolH {a b : Bool} (h : b = a) : Ending.returned (.bool a) = .returned (.bool b) := by rw [h]

/-- Every cell of an allowed block holds what it held. -/
def Keep (G : Nat → Prop) (w w' : World) : Prop := ∀ b o v, G b → w.cell? ⟨b, o, none⟩ = some v → w'.cell? ⟨b, o, none⟩ = some v

theorem Keep.refl (G : Nat → Prop) (w : World) : Keep G w w := fun _ _ _ _ h => h
theorem Keep.trans {G : Nat → Prop} {a b c : World} (h : Keep G a b) (h' : Keep G b c) : Keep G a c := fun x o v hg hc => h' x o v hg (h x o v hg hc)
theorem Keep.mono {G G' : Nat → Prop} {a b : World} (h : Keep G a b) (hg : ∀ x, G' x → G x) : Keep G' a b := fun x o v hx hc => h x o v (hg x hx) hc
theorem Keep.below {G : Nat → Prop} {w w' : World} (h : Below w.heap.size w w') : Keep G w w' := fun b o v _ hc => by
  rw [h.cell (p := ⟨b, o, none⟩) (World.block_lt_of_cell? w _ hc)]; exact hc
theorem Keep.belowB {B : Nat} {G : Nat → Prop} {w w' : World} (h : Below B w w') (hG : ∀ b, G b → b < B) : Keep G w w' := fun b o v hb hc => by
  rw [h.cell (p := ⟨b, o, none⟩) (hG b hb)]; exact hc
theorem Keep.alloc (G : Nat → Prop) (w : World) (o : Obj) : Keep G w (w.alloc o) := Keep.below ((Below.refl _ _).alloc (Nat.le_refl _) _)
theorem Keep.drew (G : Nat → Prop) (w : World) : Keep G w w.drew := Keep.below (Below.refl _ _).drew
theorem Keep.setCell {G : Nat → Prop} {w : World} {p : Addr} (hp : ¬ G p.block) (u : Value) : Keep G w (w.setCell p u) := fun b o v hb hc => by
  rw [World.cell?_of_block (w := w) (a := ⟨b, o, none⟩) (Below.heap_setCell w p u b (fun e => hp (e ▸ hb)))]; exact hc
theorem Keep.grown {G : Nat → Prop} {w w' : World} {row : Option Nat} (hg : w.grownBy w' row) (hr : ∀ k, row = some k → ¬ G k) : Keep G w w' := fun b o v hb hc =>
  hg.cell (a := ⟨b, o, none⟩) hc (fun e => hr b e.symm hb)

/-- How a run of cells reads as a datum; it goes on reading so where its blocks are kept. -/
structure Rel (α : Type) where
  size : Nat
  rd : (Nat → Prop) → World → List Value → α → Prop
  len : ∀ {G w cs x}, rd G w cs x → cs.length = size
  keep : ∀ {G w cs x G' w'}, rd G w cs x → Keep G w w' → (∀ b, G b → G' b) → rd G' w' cs x
  /-- what reads avoids blocks that do not exist yet -/
  low : ∀ {G w cs x}, rd G w cs x → rd (fun b => G b ∧ b < w.heap.size) w cs x

/-- A slice value that reads as a list. -/
def RdS {α : Type} (R : Rel α) (G : Nat → Prop) (w : World) (v : Value) (l : List α) : Prop :=
  ∃ ad cap, v = .slice ad l.length cap ∧ l.length ≤ cap ∧ cap ≤ maxLen ∧ (ad = none → cap = 0) ∧
    ∀ j x, l[j]? = some x → ∃ b o cs, ad = some ⟨b, o, none⟩ ∧ G b ∧ (∀ t c, cs[t]? = some c → w.cell? ⟨b, o + (j * R.size + t), none⟩ = some c) ∧ R.rd G w cs x

section
variable {α : Type} {R : Rel α} {G G' : Nat → Prop} {w w' : World} {v : Value} {l : List α}

theorem RdS.keep (h : RdS R G w v l) (hk : Keep G w w') (hg : ∀ b, G b → G' b) : RdS R G' w' v l := by
  obtain ⟨ad, cap, rfl, h1, h2, h0, h3⟩ := h
  refine ⟨ad, cap, rfl, h1, h2, h0, fun j x hx => ?_⟩
  obtain ⟨b, o, cs, ha, hb, hc, hr⟩ := h3 j x hx
  exact ⟨b, o, cs, ha, hg b hb, fun t c ht => hk _ _ _ hb (hc t c ht), R.keep hr hk hg⟩
theorem RdS.low (hs : 0 < R.size) (h : RdS R G w v l) : RdS R (fun b => G b ∧ b < w.heap.size) w v l := by
  obtain ⟨ad, cap, rfl, h1, h2, h0, h3⟩ := h
  refine ⟨ad, cap, rfl, h1, h2, h0, fun j x hx => ?_⟩
  obtain ⟨b, o, cs, ha, hb, hc, hr⟩ := h3 j x hx
  have hl := R.len hr
  refine ⟨b, o, cs, ha, ⟨hb, ?_⟩, hc, R.low hr⟩
  have : cs[0]? = some (cs[0]'(by omega)) := by simp
  exact World.block_lt_of_cell? w _ (hc 0 _ this)
theorem RdS.below (h : RdS R G w v l) (hk : Below w.heap.size w w') (hg : ∀ b, G b → G' b) : RdS R G' w' v l := h.keep (Keep.below hk) hg
theorem RdS.mono (h : RdS R G w v l) (hg : ∀ b, G b → G' b) : RdS R G' w v l := h.keep (Keep.refl _ _) hg
theorem RdS.nil (R : Rel α) (G : Nat → Prop) (w : World) : RdS R G w (.slice none 0 0) [] := ⟨none, 0, rfl, by simp, by unfold maxLen; omega, fun _ => rfl, fun j x hx => by simp at hx⟩
/-- The value's own form. -/
theorem RdS.form (h : RdS R G w v l) : ∃ ad cap, v = .slice ad l.length cap ∧ l.length ≤ cap ∧ cap ≤ maxLen :=
  let ⟨ad, cap, h0, h1, h2, _, _⟩ := h; ⟨ad, cap, h0, h1, h2⟩
theorem RdS.form0 (h : RdS R G w v l) : ∃ ad cap, v = .slice ad l.length cap ∧ l.length ≤ cap ∧ cap ≤ maxLen ∧ (ad = none → cap = 0) :=
  let ⟨ad, cap, h0, h1, h2, h3, _⟩ := h; ⟨ad, cap, h0, h1, h2, h3⟩
theorem RdS.at {ad : Option Addr} {n cap : Nat} (h : RdS R G w (.slice ad n cap) l) (j : Nat) (hj : j < l.length) :
    ∃ b o cs, ad = some ⟨b, o, none⟩ ∧ G b ∧ (∀ t c, cs[t]? = some c → w.cell? ⟨b, o + (j * R.size + t), none⟩ = some c) ∧ R.rd G w cs l[j] := by
  obtain ⟨ad', cap', he, h1, h2, hn0, h3⟩ := h
  simp only [Value.slice.injEq] at he
  obtain ⟨rfl, rfl, rfl⟩ := he
  exact h3 j _ (by simp [hj])
theorem RdS.len {ad : Option Addr} {n cap : Nat} (h : RdS R G w (.slice ad n cap) l) : n = l.length ∧ n ≤ cap ∧ cap ≤ maxLen ∧ (ad = none → cap = 0) := by
  obtain ⟨ad', cap', he, h1, h2, hn0, h3⟩ := h
  simp only [Value.slice.injEq] at he
  obtain ⟨rfl, rfl, rfl⟩ := he
  exact ⟨rfl, h1, h2, hn0⟩
theorem RdS.take {ad : Option Addr} {n cap : Nat} (h : RdS R G w (.slice ad n cap) l) (k : Nat) (hk : k ≤ l.length) : RdS R G w (.slice ad k cap) (l.take k) := by
  obtain ⟨h0, h1, h2, hn0⟩ := h.len
  have hl : (l.take k).length = k := by simp; omega
  refine ⟨ad, cap, by rw [hl], by omega, h2, hn0, fun j x hx => ?_⟩
  have hj : j < (l.take k).length := by
    rcases Nat.lt_or_ge j (l.take k).length with h | h
    · exact h
    · simp [List.getElem?_eq_none h] at hx
  obtain ⟨b, o, cs, ha, hb, hc, hr⟩ := h.at j (by omega)
  have : x = l[j]'(by omega) := by
    rw [List.getElem?_take_of_lt (by omega)] at hx
    rw [List.getElem?_eq_getElem (by omega)] at hx
    exact (Option.some.inj hx).symm
  subst this
  exact ⟨b, o, cs, ha, hb, hc, hr⟩
theorem RdS.drop {b o : Nat} {n cap : Nat} (h : RdS R G w (.slice (some ⟨b, o, none⟩) n cap) l) (k : Nat) (hk : k ≤ l.length) : RdS R G w (.slice (some ⟨b, o + k * R.size, none⟩) (n - k) (cap - k)) (l.drop k) := by
  obtain ⟨h0, h1, h2, hn0⟩ := h.len
  refine ⟨_, _, by rw [List.length_drop, h0], by simp; omega, by omega, fun h => by simp at h, fun j x hx => ?_⟩
  rw [List.getElem?_drop] at hx
  have hj : k + j < l.length := by
    rcases Nat.lt_or_ge (k + j) l.length with h | h
    · exact h
    · simp [List.getElem?_eq_none h] at hx
  obtain ⟨b', o', cs, ha, hb, hc, hr⟩ := h.at (k + j) hj
  simp only [Option.some.injEq, Addr.mk.injEq, and_true] at ha
  obtain ⟨rfl, rfl⟩ := ha
  have : x = l[k + j]'hj := by rw [List.getElem?_eq_getElem hj] at hx; exact (Option.some.inj hx).symm
  subst this
  exact ⟨b, _, cs, rfl, hb, fun t c ht => by have := hc t c ht; rw [show o + k * R.size + (j * R.size + t) = o + ((k + j) * R.size + t) by rw [Nat.add_mul]; omega]; exact this, hr⟩
end

/-! ### Elements of one cell that hold their own value -/
def flat {α : Type} (f : α → Value) : Rel α where
  size := 1
  rd := fun _ _ cs x => cs = [f x]
  len := fun h => by simp [h]
  keep := fun h _ _ => h
  low := fun h => h
abbrev RInt : Rel Int := flat (Value.int .i64)
abbrev RByte : Rel UInt8 := flat (fun c => Value.int .u8 c.toNat)
/-- A text, as a value. -/
abbrev strV (s : List UInt8) : Value := .string ⟨s.toArray⟩
abbrev RStr : Rel (List UInt8) := flat (fun s => Value.string ⟨s.toArray⟩)
abbrev RdI := RdS RInt
abbrev RdB := RdS RByte
abbrev RdT := RdS RStr

/-- The cell of an element of one cell. -/
theorem RdS.cell {α : Type} {f : α → Value} {G : Nat → Prop} {w : World} {l : List α} {ad : Option Addr} {n cap : Nat} (h : RdS (flat f) G w (.slice ad n cap) l) (j : Nat) (hj : j < l.length) :
    ∃ b o, ad = some ⟨b, o, none⟩ ∧ G b ∧ w.cell? ⟨b, o + j, none⟩ = some (f l[j]) := by
  obtain ⟨b, o, cs, ha, hb, hc, hr⟩ := h.at j hj
  have hr' : cs = [f l[j]] := hr
  subst hr'
  exact ⟨b, o, ha, hb, by have := hc 0 _ rfl; simpa [flat] using this⟩
/-- All cells at once. -/
theorem RdS.cells {α : Type} {f : α → Value} {G : Nat → Prop} {w : World} {l : List α} {b o : Nat} {n cap : Nat} (h : RdS (flat f) G w (.slice (some ⟨b, o, none⟩) n cap) l) (j : Nat) (hj : j < l.length) :
    w.cell? ⟨b, o + j, none⟩ = some (f l[j]) := by
  obtain ⟨b', o', ha, _, hc⟩ := h.cell j hj
  simp only [Option.some.injEq, Addr.mk.injEq, and_true] at ha
  obtain ⟨rfl, rfl⟩ := ha
  exact hc

/-- An elements' relation for slices of such. -/
def sliceOf {α : Type} (R : Rel α) (hs : 0 < R.size) : Rel (List α) where
  size := 1
  rd := fun G w cs x => ∃ v, cs = [v] ∧ RdS R G w v x
  len := fun ⟨_, h, _⟩ => by simp [h]
  keep := fun ⟨v, h, hr⟩ hk hg => ⟨v, h, hr.keep hk hg⟩
  low := fun ⟨v, h, hr⟩ => ⟨v, h, hr.low hs⟩
abbrev RBytes : Rel (List UInt8) := sliceOf RByte (by decide)
abbrev RdBB := RdS RBytes

/-- What the call owns reads as a list. -/
theorem RdS.of_owns {α : Type} {f : α → Value} {G : Nat → Prop} {w : World} {base e n : Nat} {v : Value} {l : List α} (h : w.ownsRow base e 1 v n (l.map f)) (hG : ∀ b, base ≤ b → G b) : RdS (flat f) G w v l := by
  obtain ⟨hl, h⟩ := h
  have hn : n = l.length := by simpa using hl.symm
  subst hn
  rcases h with ⟨rfl, h0⟩ | ⟨g, cap, cur, rfl, hb, hg, h1, h2, h3, h4⟩
  · have : l = [] := List.eq_nil_of_length_eq_zero h0
    subst this; exact RdS.nil _ _ _
  · refine ⟨_, cap, rfl, h1, h2, fun h => by simp at h, fun j x hx => ⟨g, 0, [f x], rfl, hG g hb, fun t c ht => ?_, rfl⟩⟩
    match t, ht with
    | 0, ht =>
      simp at ht; subst ht
      have hx' : (l.map f)[j]? = some (f x) := by simp [hx]
      rw [← h4, Nat.mul_one] at hx'
      have hj : j < l.length := by
        rcases Nat.lt_or_ge j l.length with h | h
        · exact h
        · simp [List.getElem?_eq_none h] at hx
      rw [List.getElem?_take_of_lt hj] at hx'
      simp [World.cell?, hg, flat]
      simpa using hx'

/-! ### append -/
/-- What is known of a slice type's elements. -/
def ElemOk (P : Program) (t e : TypeId) (size bytes : Nat) : Prop :=
  P.underlying t = some (.slice e) ∧ ∃ i z, P.info? e = some i ∧ i.zero = some z ∧ i.size = size ∧ i.bytes = bytes ∧ z.cells.size = size ∧ 0 < size
theorem elemOk_of {P : Program} {t e : TypeId} {size bytes : Nat} {z : Value} (h1 : P.underlying t = some (.slice e)) (h2 : (P.info? e).map (fun i => (i.zero, i.size, i.bytes)) = some (some z, size, bytes)) (h3 : z.cells.size = size) (h4 : 0 < size) : ElemOk P t e size bytes := by
  obtain ⟨i, hi, a, b, c⟩ := info_parts h2
  exact ⟨h1, i, z, hi, a, b, c, h3, h4⟩

/-- The cells of a slice value, one behind the other. -/
def SlCells (w : World) (vx : Value) (m size : Nat) (news : List Value) : Prop :=
  ∃ ad c, vx = .slice ad m c ∧ (ad = none → c = 0 ∧ m = 0) ∧ news.length = m * size ∧ ∀ j u, news[j]? = some u → ∃ b o, ad = some ⟨b, o, none⟩ ∧ w.cell? ⟨b, o + j, none⟩ = some u
theorem RdS.slCells {α : Type} {f : α → Value} {G : Nat → Prop} {w : World} {v : Value} {l : List α} (h : RdS (flat f) G w v l) : SlCells w v l.length 1 (l.map f) := by
  obtain ⟨ad, cap, rfl, h1, h2, h0, h3⟩ := h
  refine ⟨ad, cap, rfl, fun h => ?_, by simp, fun j u hj => ?_⟩
  · have := h0 h; omega
  · simp only [List.getElem?_map, Option.map_eq_some_iff] at hj
    obtain ⟨x, hx, rfl⟩ := hj
    obtain ⟨b, o, cs, ha, hb, hc, hr⟩ := h3 j x hx
    have hr' : cs = [f x] := hr
    subst hr'
    exact ⟨b, o, ha, by have := hc 0 _ rfl; simpa [flat] using this⟩
theorem SlCells.below {w w' : World} {vx : Value} {m size : Nat} {news : List Value} (h : SlCells w vx m size news) (hb : Below w.heap.size w w') : SlCells w' vx m size news := by
  obtain ⟨ad, c, h1, h2, h3, h4⟩ := h
  refine ⟨ad, c, h1, h2, h3, fun j u hj => ?_⟩
  obtain ⟨b, o, ha, hc⟩ := h4 j u hj
  exact ⟨b, o, ha, by rw [hb.cell (p := ⟨b, o + j, none⟩) (World.block_lt_of_cell? w _ hc)]; exact hc⟩
theorem SlCells.drew {w : World} {vx : Value} {m size : Nat} {news : List Value} (h : SlCells w vx m size news) : SlCells w.drew vx m size news := h
theorem ownsRow_mono {w : World} {base base' e size n : Nat} {v : Value} {xs : List Value} (h : w.ownsRow base e size v n xs) (hb : base' ≤ base) : w.ownsRow base' e size v n xs := by
  obtain ⟨h1, h2⟩ := h
  refine ⟨h1, ?_⟩
  rcases h2 with h2 | ⟨g, cap, cur, hv, hg, r⟩
  · exact Or.inl h2
  · exact Or.inr ⟨g, cap, cur, hv, Nat.le_trans hb hg, r⟩
theorem ownsRow_form {w : World} {base e size n : Nat} {v : Value} {xs : List Value} (h : w.ownsRow base e size v n xs) : ∃ ad cap, v = .slice ad n cap := by
  rcases h.2 with ⟨rfl, rfl⟩ | ⟨g, cap, cur, hv, _⟩
  · exact ⟨_, _, rfl⟩
  · exact ⟨_, _, hv⟩
/-- A new block of one element. -/
theorem slCells_new (w : World) (cs : List Value) (e : TypeId) (size : Nat) (hs : cs.length = size) : SlCells (w.alloc (.cells cs.toArray e)) (.slice (some ⟨w.heap.size, 0, none⟩) 1 1) 1 size cs :=
  ⟨_, _, rfl, fun h => by simp at h, by omega, fun j u hj => ⟨_, _, rfl, by unfold World.cell?; rw [heap_alloc_new]; simpa using hj⟩⟩

theorem run_append_sl {P : Program} {t e : TypeId} {size bytes : Nat} (hE : ElemOk P t e size bytes) (w : World) (base : Nat) (ty : TypeId) (v : Value) (n : Nat) (xs : List Value) (hown : w.ownsRow base e size v n xs)
    (vx : Value) (m : Nat) (news : List Value) (hx : SlCells w vx m size news) (h1 : ∀ u ∈ news, u.oneCell' = true) (h63 : n + m ≤ maxLen) (hbytes : (n + m) * bytes ≤ 140737488355328) (hbase : base ≤ w.heap.size) :
    ∃ v' w', (Builtin.append_ #[t, t] ty #[v, vx]).run P w = .ok v' w' ∧ w'.ownsRow base e size v' (n + m) (xs ++ news) ∧ w.grownBy w' v.ownBlock := by
  obtain ⟨ht, i, z, hi, hz, hsize, hby, hzs, hsz⟩ := hE
  obtain ⟨ad, c, rfl, h0, hl, hc⟩ := hx
  rcases ad with _ | a
  · obtain ⟨rfl, rfl⟩ := h0 rfl
    have hn : news = [] := List.eq_nil_of_length_eq_zero (by simpa using hl)
    subst hn
    have hr := run_append_owned_none (P := P) (w := w) base t ty e i size ht hi v n xs hown
    exact ⟨v, w, hr, by simpa using hown, ⟨rfl, rfl, rfl, Nat.le_refl _, fun _ _ _ => rfl⟩⟩
  · have hnews : ∀ j u, news[j]? = some u → w.cell? (a.add j) = some u := fun j u hj => by
      obtain ⟨b, o, ha, hcell⟩ := hc j u hj
      simp only [Option.some.injEq] at ha
      subst ha
      unfold Addr.add
      split
      · rename_i h; subst h; simpa using hcell
      · exact hcell
    obtain ⟨v', w', hr, h2, h3, _⟩ := run_append_own (P := P) w base t ty e i z size bytes ht hi hz hsize hby hzs hsz v n xs hown a m c news hl hnews h1 h63 hbytes hbase
    exact ⟨v', w', hr, h2, h3⟩

theorem wp_append_sl {P : Program} {w : World} {o : Oper} {a : Act} {K : Act → World → Prop} {Q : Exit → Act → World → Prop} (s x : Operand) (t : TypeId)
    (ho : o.op = .call { callee := .builtin .append, args := #[s, x], argTypes := #[t, t] })
    {e : TypeId} {size bytes : Nat} (hE : ElemOk P t e size bytes) (base : Nat) (vs : Value) (hs : a.eval s = vs) (n : Nat) (xs : List Value) (hown : w.ownsRow base e size vs n xs)
    (vx : Value) (hvx : a.eval x = vx) (m : Nat) (news : List Value) (hx : SlCells w vx m size news) (h1 : ∀ u ∈ news, u.oneCell' = true) (h63 : n + m ≤ maxLen) (hbytes : (n + m) * bytes ≤ 140737488355328) (hbase : base ≤ w.heap.size)
    (h : ∀ v' w', w'.ownsRow base e size v' (n + m) (xs ++ news) → w.grownBy w' vs.ownBlock → K (a.put o.dst v') w') : o.wp P a w K Q := by
  subst hs hvx
  obtain ⟨v', w', hr, h2, h3⟩ := run_append_sl hE w base o.type (a.eval s) n xs hown (a.eval x) m news hx h1 h63 hbytes hbase
  unfold Oper.wp execOp
  simp only [ho, resolve, invoke, builtin, Sem.run_bind, Sem.run_pure, Result.andThen_ok, List.map_toArray, List.map_cons, List.map_nil, hr]
  exact h v' w' h2 h3

/-- The same as a step of a region that draws its order. -/
theorem step_append_sl {P : Program} {ops : Array Oper} {w : World} {o : Oper} {a : Act} {K : Act → World → Prop} {Q : Exit → Act → World → Prop} {E : Prop} (hgd : o.guard = none) (s x : Operand) (t : TypeId)
    (ho : o.op = .call { callee := .builtin .append, args := #[s, x], argTypes := #[t, t] })
    {e : TypeId} {size bytes : Nat} (hE : ElemOk P t e size bytes) (base : Nat) (vs : Value) (hs : a.eval s = vs) (n : Nat) (xs : List Value) (hown : w.ownsRow base e size vs n xs)
    (vx : Value) (hvx : a.eval x = vx) (m : Nat) (news : List Value) (hx : SlCells w vx m size news) (h1 : ∀ u ∈ news, u.oneCell' = true) (h63 : n + m ≤ maxLen) (hbytes : (n + m) * bytes ≤ 140737488355328) (hbase : base ≤ w.heap.size)
    (h : ∀ v' w', w'.ownsRow base e size v' (n + m) (xs ++ news) → w.grownBy w' vs.ownBlock → K (a.put o.dst v') w') :
    if Region.wanted o (yielded ops a.tmps) = true then Oper.wp P o a w K Q else E := by
  have hw : Region.wanted o (yielded ops a.tmps) = true := by simp [Region.wanted, hgd]
  rw [if_pos hw]
  exact wp_append_sl s x t ho hE base vs hs n xs hown vx hvx m news hx h1 h63 hbytes hbase h

/-- 'append' onto what the call owns, whatever is appended. -/
theorem wpList_append_sl {P : Program} {w : World} {ops : Array Oper} {rest : List Oper} {o : Oper} {a : Act} {Q : Exit → Act → World → Prop} (hgd : o.guard = none) (s x : Operand) (t : TypeId)
    (ho : o.op = .call { callee := .builtin .append, args := #[s, x], argTypes := #[t, t] })
    {e : TypeId} {size bytes : Nat} (hE : ElemOk P t e size bytes) (base : Nat) (vs : Value) (hs : a.eval s = vs) (n : Nat) (xs : List Value) (hown : w.ownsRow base e size vs n xs)
    (vx : Value) (hvx : a.eval x = vx) (m : Nat) (news : List Value) (hx : SlCells w vx m size news) (h1 : ∀ u ∈ news, u.oneCell' = true) (h63 : n + m ≤ maxLen) (hbytes : (n + m) * bytes ≤ 140737488355328) (hbase : base ≤ w.heap.size)
    (h : ∀ v' w', w'.ownsRow base e size v' (n + m) (xs ++ news) → w.grownBy w' vs.ownBlock → wpList P ops Q rest (a.put o.dst v') w') : wpList P ops Q (o :: rest) a w := by
  subst hs hvx
  refine wpList_plain hgd fun K hK => ?_
  obtain ⟨v', w', hr, h2, h3⟩ := run_append_sl hE w base o.type (a.eval s) n xs hown (a.eval x) m news hx h1 h63 hbytes hbase
  unfold Oper.wp execOp
  simp only [ho, resolve, invoke, builtin, Sem.run_bind, Sem.run_pure, Result.andThen_ok, List.map_toArray, List.map_cons, List.map_nil, hr]
  exact hK _ _ (h v' w' h2 h3)
/-- Behind a call that makes memory: the old cells and marks read as before. -/
theorem bcell {W w1 : World} (hb : Below W.heap.size W w1) : (∀ b o, b < W.heap.size → w1.cell? ⟨b, o, none⟩ = W.cell? ⟨b, o, none⟩) ∧ (∀ b o, b < W.heap.size → w1.frozen? ⟨b, o, none⟩ = W.frozen? ⟨b, o, none⟩) :=
  ⟨fun b o h => hb.cell (p := ⟨b, o, none⟩) h, fun b o h => hb.frozen (p := ⟨b, o, none⟩) h⟩

/-- The row that was written is one of the call's own. -/
theorem ownBlock_ge {w : World} {base e size n : Nat} {v : Value} {xs : List Value} (h : w.ownsRow base e size v n xs) : ∀ k, v.ownBlock = some k → base ≤ k := fun k hk => (h.lt k hk).1
theorem oneCell_map {α : Type} (f : α → Value) (l : List α) (hf : ∀ x, (f x).oneCell' = true) : ∀ u ∈ l.map f, u.oneCell' = true := by
  intro u hu
  obtain ⟨x, _, rfl⟩ := List.mem_map.1 hu
  exact hf x

/-! ### A block of the call's own: a variable in memory -/
def BoxAt (w : World) (b : Nat) (cs : List Value) (T : TypeId) : Prop := w.heap[b]? = some (.cells cs.toArray T (0, 0))
section
variable {w w' : World} {b : Nat} {cs : List Value} {T : TypeId}
theorem BoxAt.cell (h : BoxAt w b cs T) (j : Nat) {v : Value} (hv : cs[j]? = some v) : w.cell? ⟨b, j, none⟩ = some v := by
  unfold BoxAt at h; simp [World.cell?, h, hv]
theorem BoxAt.free (h : BoxAt w b cs T) (j : Nat) : w.frozen? ⟨b, j, none⟩ = false := by
  unfold BoxAt at h; simp [World.frozen?, h]
theorem BoxAt.lt (h : BoxAt w b cs T) : b < w.heap.size := lt_of_block h
theorem BoxAt.below {B : Nat} (h : BoxAt w b cs T) (hb : Below B w w') (hl : b < B) : BoxAt w' b cs T := (hb.block b hl).trans h
theorem BoxAt.belowS (h : BoxAt w b cs T) (hb : Below w.heap.size w w') : BoxAt w' b cs T := h.below hb h.lt
theorem BoxAt.drew (h : BoxAt w b cs T) : BoxAt w.drew b cs T := h
theorem BoxAt.alloc (h : BoxAt w b cs T) (o : Obj) : BoxAt (w.alloc o) b cs T := (Below.heap_alloc w o b h.lt).trans h
theorem BoxAt.new (w : World) (cs : List Value) (T : TypeId) : BoxAt (w.alloc (.cells cs.toArray T)) w.heap.size cs T := heap_alloc_new w _
theorem BoxAt.set (h : BoxAt w b cs T) (j : Nat) (u : Value) : BoxAt (w.setCell ⟨b, j, none⟩ u) b (cs.set j u) T := by
  have := heap_setCell_same w b j cs.toArray T u h
  unfold BoxAt; rw [this]; simp
theorem BoxAt.setOther (h : BoxAt w b cs T) {p : Addr} (hp : b ≠ p.block) (u : Value) : BoxAt (w.setCell p u) b cs T := (Below.heap_setCell w p u b hp).trans h
theorem BoxAt.grown {row : Option Nat} (h : BoxAt w b cs T) (hg : w.grownBy w' row) (hr : row ≠ some b) : BoxAt w' b cs T := (hg.block b h.lt (fun e => hr e.symm)).trans h
end
end Go.Proofs.Ytgkmgdkmafbohaa
/- More plain lemmas on worlds; no program is named. -/
set_option linter.unusedVariables false
set_option linter.unusedSimpArgs false
namespace Go.Proofs.Ytgkmgdkmafbohaa
open Go Go.RowKit
theorem BoxAt.newAt (w : World) (cs : List Value) (T : TypeId) {n : Nat} (hn : n = w.heap.size) : BoxAt (w.alloc (.cells cs.toArray T)) n cs T := hn ▸ BoxAt.new w cs T
theorem Keep.setCell' {G : Nat → Prop} {a w : World} {p : Addr} (h : Keep G a w) (hp : ¬ G p.block) (u : Value) : Keep G a (w.setCell p u) := h.trans (Keep.setCell hp u)
theorem Keep.alloc' {G : Nat → Prop} {a w : World} (h : Keep G a w) (o : Obj) : Keep G a (w.alloc o) := h.trans (Keep.alloc G w o)
theorem Keep.drew' {G : Nat → Prop} {a w : World} (h : Keep G a w) : Keep G a w.drew := h.trans (Keep.drew G w)
/-- Both cells of a variable of two cells are written. -/
theorem BoxAt.set2 {w : World} {b : Nat} {a0 a1 : Value} {T : TypeId} (h : BoxAt w b [a0, a1] T) (u0 u1 : Value) : BoxAt ((w.setCell ⟨b, 0, none⟩ u0).setCell ⟨b, 1, none⟩ u1) b [u0, u1] T := (h.set 0 u0).set 1 u1
theorem BoxAt.set3 {w : World} {b : Nat} {a0 a1 a2 : Value} {T : TypeId} (h : BoxAt w b [a0, a1, a2] T) (u0 u1 u2 : Value) : BoxAt (((w.setCell ⟨b, 0, none⟩ u0).setCell ⟨b, 1, none⟩ u1).setCell ⟨b, 2, none⟩ u2) b [u0, u1, u2] T := ((h.set 0 u0).set 1 u1).set 2 u2
/-- A block that was there reads, and may be written, as before. -/
theorem bcellAt {W w1 : World} (hb : Below W.heap.size W w1) (b : Nat) (h : b < W.heap.size) : (∀ o, w1.cell? ⟨b, o, none⟩ = W.cell? ⟨b, o, none⟩) ∧ (∀ o, w1.frozen? ⟨b, o, none⟩ = W.frozen? ⟨b, o, none⟩) :=
  ⟨fun o => hb.cell (p := ⟨b, o, none⟩) h, fun o => hb.frozen (p := ⟨b, o, none⟩) h⟩
end Go.Proofs.Ytgkmgdkmafbohaa
/- append, and where the new slice lies: in the form of XLib's laws. -/
set_option linter.unusedVariables false
set_option linter.unusedSimpArgs false
namespace Go.Proofs.Ytgkmgdkmafbohaa
open Go Go.RowKit

theorem wpList_append_at1 {P : Program} {w : World} {ops : Array Oper} {rest : List Oper} {o : Oper} {a : Act} {Q : Exit → Act → World → Prop} (hgd : o.guard = none) (s x : Operand) (t : TypeId)
    (ho : o.op = .call { callee := .builtin .append, args := #[s, x], argTypes := #[t, t] })
    {e : TypeId} {size bytes : Nat} (hE : ElemOk P t e size bytes) (base : Nat) (vs : Value) (hs : a.eval s = vs) (n : Nat) (xs : List Value) (hown : w.ownsRow base e size vs n xs)
    (vx : Value) (hvx : a.eval x = vx) (m : Nat) (news : List Value) (hx : SlCells w vx m size news) (h1 : ∀ u ∈ news, u.oneCell' = true) (hm : 0 < m) (h63 : n + m ≤ maxLen) (hbytes : (n + m) * bytes ≤ 140737488355328) (hbase : base ≤ w.heap.size)
    (H : Nat) (hH : w.heap.size = H)
    (h : ∀ g cap w', w'.ownsRow base e size (.slice (some ⟨g, 0, none⟩) (n + m) cap) (n + m) (xs ++ news) → w.grownBy w' vs.ownBlock → (vs.ownBlock = some g ∨ g = H) → g < w'.heap.size → wpList P ops Q rest (a.put o.dst (.slice (some ⟨g, 0, none⟩) (n + m) cap)) w') : wpList P ops Q (o :: rest) a w := by
  obtain ⟨ht, i, z, hi, hz, hsize, hby, hzs, hsz⟩ := hE
  obtain ⟨ad, c, rfl, h0, hl, hc⟩ := hx
  rcases ad with _ | ad
  · have := (h0 rfl).2; omega
  · refine wpList_append_lies w hgd s x t ho base e i z size bytes ht hi hz hsize hby hzs hsz vs n xs hs hown ad m c news hvx hl (fun j u hj => ?_) h1 hm h63 hbytes hbase H hH h
    obtain ⟨b, o, ha, hcell⟩ := hc j u hj
    simp only [Option.some.injEq] at ha
    subst ha
    unfold Addr.add
    split
    · rename_i h; subst h; simpa using hcell
    · exact hcell
theorem ownsRow_below {w w' : World} {base e size n : Nat} {v : Value} {xs : List Value} (h : w.ownsRow base e size v n xs) (hb : Below w.heap.size w w') : w'.ownsRow base e size v n xs := by
  obtain ⟨h1, h2⟩ := h
  refine ⟨h1, ?_⟩
  rcases h2 with h2 | ⟨g, cap, cur, hv, hg, hh, r⟩
  · exact Or.inl h2
  · refine Or.inr ⟨g, cap, cur, hv, hg, ?_, r⟩
    rw [hb.block g (lt_of_block hh)]; exact hh
theorem ownsRow_setCell {w : World} {base e size n : Nat} {v : Value} {xs : List Value} (h : w.ownsRow base e size v n xs) {p : Addr} (hp : p.block < base) (u : Value) : (w.setCell p u).ownsRow base e size v n xs := by
  obtain ⟨h1, h2⟩ := h
  refine ⟨h1, ?_⟩
  rcases h2 with h2 | ⟨g, cap, cur, hv, hg, hh, r⟩
  · exact Or.inl h2
  · refine Or.inr ⟨g, cap, cur, hv, hg, ?_, r⟩
    rw [Below.heap_setCell w p u g (by omega)]; exact hh
end Go.Proofs.Ytgkmgdkmafbohaa
/- Lists that the call builds by append, their elements read. No program is named. -/
set_option linter.unusedVariables false
set_option linter.unusedSimpArgs false
namespace Go.Proofs.Ytgkmgdkmafbohaa
open Go Go.RowKit

def LstO {α : Type} (R : Rel α) (G : Nat → Prop) (base e : Nat) (w : World) (v : Value) (l : List α) : Prop :=
  ∃ vals, w.ownsRow base e R.size v l.length vals ∧ ∀ j x, l[j]? = some x → R.rd (fun b => G b ∧ b < w.heap.size ∧ v.ownBlock ≠ some b) w ((vals.drop (j * R.size)).take R.size) x

section
variable {α : Type} {R : Rel α} {G G' : Nat → Prop} {base e : Nat} {w w' : World} {v : Value} {l : List α}

theorem LstO.nil (R : Rel α) (G : Nat → Prop) (base e : Nat) (w : World) : LstO R G base e w (.slice none 0 0) [] :=
  ⟨[], World.ownsRow_nil _ _ _ _, fun j x hx => by simp at hx⟩
theorem LstO.mono (h : LstO R G base e w v l) (hG : ∀ b, G b → G' b) : LstO R G' base e w v l := by
  obtain ⟨vals, h1, h2⟩ := h
  exact ⟨vals, h1, fun j x hx => R.keep (h2 j x hx) (Keep.refl _ _) (fun b hb => ⟨hG b hb.1, hb.2⟩)⟩
theorem LstO.below (h : LstO R G base e w v l) (hb : Below w.heap.size w w') : LstO R G base e w' v l := by
  obtain ⟨vals, h1, h2⟩ := h
  exact ⟨vals, ownsRow_below h1 hb, fun j x hx => R.keep (h2 j x hx) (Keep.below hb) (fun b hb' => ⟨hb'.1, Nat.lt_of_lt_of_le hb'.2.1 hb.size, hb'.2.2⟩)⟩
theorem LstO.alloc (h : LstO R G base e w v l) (o : Obj) : LstO R G base e (w.alloc o) v l := h.below ((Below.refl _ _).alloc (Nat.le_refl _) _)
theorem LstO.drew (h : LstO R G base e w v l) : LstO R G base e w.drew v l := h.below (Below.refl _ _).drew
theorem LstO.setCell (h : LstO R G base e w v l) {p : Addr} (hp : p.block < base) (hG : ¬ G p.block) (u : Value) : LstO R G base e (w.setCell p u) v l := by
  obtain ⟨vals, h1, h2⟩ := h
  refine ⟨vals, ownsRow_setCell h1 hp u, fun j x hx => R.keep (h2 j x hx) (Keep.setCell (fun h => hG h.1) u) (fun b hb => ⟨hb.1, ?_, hb.2.2⟩)⟩
  have : (w.setCell p u).heap.size = w.heap.size := by simp [World.setCell]
  omega
theorem LstO.own (h : LstO R G base e w v l) : ∃ vals, w.ownsRow base e R.size v l.length vals := let ⟨vals, h1, _⟩ := h; ⟨vals, h1⟩
theorem LstO.form (h : LstO R G base e w v l) : ∃ ad cap, v = .slice ad l.length cap := let ⟨vals, h1, _⟩ := h; ownsRow_form h1
/-- One more. -/
theorem LstO.push {vals : List Value} {g cap : Nat} {x : α} {cs : List Value} (h1 : w.ownsRow base e R.size v l.length vals)
    (h2 : ∀ j x, l[j]? = some x → R.rd (fun b => G b ∧ b < w.heap.size ∧ v.ownBlock ≠ some b) w ((vals.drop (j * R.size)).take R.size) x)
    (hx : R.rd (fun b => G b ∧ b < w.heap.size ∧ v.ownBlock ≠ some b) w cs x)
    (hown : w'.ownsRow base e R.size (.slice (some ⟨g, 0, none⟩) (l.length + 1) cap) (l.length + 1) (vals ++ cs)) (hgr : w.grownBy w' v.ownBlock) (hat : v.ownBlock = some g ∨ g = w.heap.size) :
    LstO R G base e w' (.slice (some ⟨g, 0, none⟩) (l.length + 1) cap) (l ++ [x]) := by
  have hlv : vals.length = l.length * R.size := h1.1
  have hk : Keep (fun b => G b ∧ b < w.heap.size ∧ v.ownBlock ≠ some b) w w' := Keep.grown hgr (fun k hk h => h.2.2 hk)
  have hm : ∀ b, (G b ∧ b < w.heap.size ∧ v.ownBlock ≠ some b) → (G b ∧ b < w'.heap.size ∧ (Value.slice (some ⟨g, 0, none⟩) (l.length + 1) cap).ownBlock ≠ some b) := fun b hb => ⟨hb.1, Nat.lt_of_lt_of_le hb.2.1 hgr.size, by
    simp only [Value.ownBlock, ne_eq, Option.some.injEq]
    rintro rfl
    rcases hat with hat | hat
    · exact hb.2.2 hat
    · omega⟩
  refine ⟨vals ++ cs, by simpa using hown, fun j y hy => ?_⟩
  rcases Nat.lt_trichotomy j l.length with hj | hj | hj
  · rw [List.getElem?_append_left hj] at hy
    have hr := h2 j y hy
    have hle : (j + 1) * R.size ≤ l.length * R.size := Nat.mul_le_mul_right _ hj
    rw [Nat.add_mul, Nat.one_mul] at hle
    rw [List.drop_append_of_le_length (by omega), List.take_append_of_le_length (by simp; omega)]
    exact R.keep hr hk hm
  · subst hj
    simp only [List.getElem?_append_right (Nat.le_refl _), Nat.sub_self, List.getElem?_cons_zero, Option.some.injEq] at hy
    subst hy
    rw [← hlv, List.drop_left' rfl, List.take_of_length_le (by rw [R.len hx]; omega)]
    exact R.keep hx hk hm
  · rw [List.getElem?_eq_none (by simp; omega)] at hy; simp at hy
/-- It reads. -/
theorem LstO.rd (h : LstO R G base e w v l) (hs : 0 < R.size) (hb : ∀ b, base ≤ b → b < w.heap.size → G' b) (hG : ∀ b, G b → b < w.heap.size → G' b) : RdS R G' w v l := by
  obtain ⟨vals, ⟨hl, h1⟩, h2⟩ := h
  rcases h1 with ⟨rfl, h0⟩ | ⟨g, cap, cur, rfl, hbg, hg, k1, k2, k3, k4⟩
  · have : l = [] := List.eq_nil_of_length_eq_zero h0
    subst this; exact RdS.nil _ _ _
  · refine ⟨_, cap, rfl, k1, k2, fun h => by simp at h, fun j x hx => ?_⟩
    have hj : j < l.length := by
      rcases Nat.lt_or_ge j l.length with h | h
      · exact h
      · simp [List.getElem?_eq_none h] at hx
    have hr := h2 j x hx
    refine ⟨g, 0, _, rfl, hb g hbg (lt_of_block hg), fun t c ht => ?_, R.keep hr (Keep.refl _ _) (fun b hb' => hG b hb'.1 hb'.2.1)⟩
    have hlen := R.len hr
    have ht' : t < R.size := by
      rcases Nat.lt_or_ge t R.size with h | h
      · exact h
      · rw [List.getElem?_eq_none (by omega)] at ht; simp at ht
    rw [List.getElem?_take_of_lt ht', List.getElem?_drop] at ht
    have hle : (j + 1) * R.size ≤ l.length * R.size := Nat.mul_le_mul_right _ hj
    rw [Nat.add_mul, Nat.one_mul] at hle
    rw [← k4, List.getElem?_take_of_lt (by omega)] at ht
    simp [World.cell?, hg]
    simpa using ht
end
/-- The same, its cells a letter. -/
def LstV {α : Type} (R : Rel α) (G : Nat → Prop) (base e : Nat) (w : World) (v : Value) (l : List α) (vals : List Value) : Prop :=
  w.ownsRow base e R.size v l.length vals ∧ ∀ j x, l[j]? = some x → R.rd (fun b => G b ∧ b < w.heap.size ∧ v.ownBlock ≠ some b) w ((vals.drop (j * R.size)).take R.size) x
section
variable {α : Type} {R : Rel α} {G G' : Nat → Prop} {base e : Nat} {w w' : World} {v : Value} {l : List α} {vs : List Value}
theorem LstO.valsOf (h : LstO R G base e w v l) : ∃ vs, LstV R G base e w v l vs := h
theorem LstV.o (h : LstV R G base e w v l vs) : LstO R G base e w v l := ⟨vs, h⟩
theorem LstV.own (h : LstV R G base e w v l vs) : w.ownsRow base e R.size v l.length vs := h.1
theorem LstV.below (h : LstV R G base e w v l vs) (hb : Below w.heap.size w w') : LstV R G base e w' v l vs :=
  ⟨ownsRow_below h.1 hb, fun j x hx => R.keep (h.2 j x hx) (Keep.below hb) (fun b hb' => ⟨hb'.1, Nat.lt_of_lt_of_le hb'.2.1 hb.size, hb'.2.2⟩)⟩
theorem LstV.alloc (h : LstV R G base e w v l vs) (o : Obj) : LstV R G base e (w.alloc o) v l vs := h.below ((Below.refl _ _).alloc (Nat.le_refl _) _)
theorem LstV.drew (h : LstV R G base e w v l vs) : LstV R G base e w.drew v l vs := h.below (Below.refl _ _).drew
theorem LstV.push {g cap : Nat} {x : α} {cs : List Value} (h : LstV R G base e w v l vs)
    (hx : R.rd (fun b => G b ∧ b < w.heap.size ∧ v.ownBlock ≠ some b) w cs x)
    (hown : w'.ownsRow base e R.size (.slice (some ⟨g, 0, none⟩) (l.length + 1) cap) (l.length + 1) (vs ++ cs)) (hgr : w.grownBy w' v.ownBlock) (hat : v.ownBlock = some g ∨ g = w.heap.size) :
    LstO R G base e w' (.slice (some ⟨g, 0, none⟩) (l.length + 1) cap) (l ++ [x]) := LstO.push h.1 h.2 hx hown hgr hat
theorem LstV.lt (h : LstV R G base e w v l vs) : ∀ k, v.ownBlock = some k → base ≤ k ∧ k < w.heap.size := h.1.lt
end
/-- The cells of a block that is known whole, as a slice of one element. -/
theorem BoxAt.slCells {w : World} {b size : Nat} {cs : List Value} {T : TypeId} (h : BoxAt w b cs T) (hs : cs.length = size) : SlCells w (.slice (some ⟨b, 0, none⟩) 1 1) 1 size cs :=
  ⟨_, _, rfl, fun h => by simp at h, by omega, fun j u hj => ⟨_, _, rfl, by have := h.cell j hj; simpa using this⟩⟩
theorem BoxAt.newsAt {w : World} {b : Nat} {cs : List Value} {T : TypeId} (h : BoxAt w b cs T) : ∀ j u, cs[j]? = some u → w.cell? ((⟨b, 0, none⟩ : Addr).add j) = some u := fun j u hu => by
  have hadd : (⟨b, 0, none⟩ : Addr).add j = ⟨b, j, none⟩ := by unfold Addr.add; split <;> simp_all
  rw [hadd]; exact h.cell j hu
/-- append of one element at a step of a region that draws. -/
theorem step_append_one {P : Program} {w : World} {ops : Array Oper} {o : Oper} {a : Act} {K : Act → World → Prop} {Q : Exit → Act → World → Prop} {E : Prop} (hgd : o.guard = none) (s x : Operand) (t : TypeId)
    (ho : o.op = .call { callee := .builtin .append, args := #[s, x], argTypes := #[t, t] })
    {e : TypeId} {size bytes : Nat} (hE : ElemOk P t e size bytes) (base : Nat) (v : Value) (n : Nat) (xs : List Value) (hs : a.eval s = v) (hown : w.ownsRow base e size v n xs)
    (b : Nat) (T : TypeId) (cs : List Value) (hx : a.eval x = .slice (some ⟨b, 0, none⟩) 1 1) (hbox : BoxAt w b cs T) (hl : cs.length = size) (h1 : ∀ u ∈ cs, u.oneCell' = true)
    (h63 : n + 1 ≤ maxLen) (hbytes : (n + 1) * bytes ≤ 140737488355328) (hbase : base ≤ w.heap.size)
    (h : ∀ g cap w', w'.ownsRow base e size (.slice (some ⟨g, 0, none⟩) (n + 1) cap) (n + 1) (xs ++ cs) → w.grownBy w' v.ownBlock → (v.ownBlock = some g ∨ g = w.heap.size) → g < w'.heap.size → K (a.put o.dst (.slice (some ⟨g, 0, none⟩) (n + 1) cap)) w') :
    if Region.wanted o (yielded ops a.tmps) = true then Oper.wp P o a w K Q else E := by
  obtain ⟨ht, i, z, hi, hz, hsize, hby, hzs, hsz⟩ := hE
  exact step_append_lies w hgd s x t ho base e i z size bytes ht hi hz hsize hby hzs hsz v n xs hs hown ⟨b, 0, none⟩ 1 1 cs hx (by omega) hbox.newsAt h1 (by omega) h63 hbytes hbase _ rfl h
/-- The same in a plain region. -/
theorem wpList_append_one {P : Program} {w : World} {ops : Array Oper} {rest : List Oper} {o : Oper} {a : Act} {Q : Exit → Act → World → Prop} (hgd : o.guard = none) (s x : Operand) (t : TypeId)
    (ho : o.op = .call { callee := .builtin .append, args := #[s, x], argTypes := #[t, t] })
    {e : TypeId} {size bytes : Nat} (hE : ElemOk P t e size bytes) (base : Nat) (v : Value) (n : Nat) (xs : List Value) (hs : a.eval s = v) (hown : w.ownsRow base e size v n xs)
    (b : Nat) (T : TypeId) (cs : List Value) (hx : a.eval x = .slice (some ⟨b, 0, none⟩) 1 1) (hbox : BoxAt w b cs T) (hl : cs.length = size) (h1 : ∀ u ∈ cs, u.oneCell' = true)
    (h63 : n + 1 ≤ maxLen) (hbytes : (n + 1) * bytes ≤ 140737488355328) (hbase : base ≤ w.heap.size)
    (h : ∀ g cap w', w'.ownsRow base e size (.slice (some ⟨g, 0, none⟩) (n + 1) cap) (n + 1) (xs ++ cs) → w.grownBy w' v.ownBlock → (v.ownBlock = some g ∨ g = w.heap.size) → g < w'.heap.size → wpList P ops Q rest (a.put o.dst (.slice (some ⟨g, 0, none⟩) (n + 1) cap)) w') : wpList P ops Q (o :: rest) a w :=
  wpList_plain hgd fun K hK => by
    obtain ⟨ht, i, z, hi, hz, hsize, hby, hzs, hsz⟩ := hE
    exact wp_append_lies w s x t ho base e i z size bytes ht hi hz hsize hby hzs hsz v n xs hs hown ⟨b, 0, none⟩ 1 1 cs hx (by omega) hbox.newsAt h1 (by omega) h63 hbytes hbase _ rfl fun g cap w' h2 h3 h4 h5 => hK _ _ (h g cap w' h2 h3 h4 h5)
end Go.Proofs.Ytgkmgdkmafbohaa
/- What the checks answer: plain numbers. No program is named. -/
set_option linter.unusedVariables false
set_option linter.unusedSimpArgs false
namespace Go.Proofs.Ytgkmgdkmafbohaa
abbrev Bytes := List UInt8
def nodeOk (n : Int) : Bool := decide (0 ≤ n ∧ n < 4)
def countOk (n : Int) : Bool := decide (1 ≤ n ∧ n ≤ 1048576)
/-- digests: of 32 bytes, all different. -/
def digGo (seen : List Bytes) : List Bytes → Int
  | [] => 0
  | d :: t => if d.length ≠ 32 then 4 else if d ∈ seen then 7 else digGo (seen ++ [d]) t
def digCode (l : List Bytes) : Int := digGo [] l
theorem digGo_nil (s : List Bytes) : digGo s [] = 0 := rfl
theorem digGo_form {s : List Bytes} {d : Bytes} {t : List Bytes} (h : d.length ≠ 32) : digGo s (d :: t) = 4 := by unfold digGo; rw [if_pos h]
theorem digGo_twice {s : List Bytes} {d : Bytes} {t : List Bytes} (h : d.length = 32) (h1 : d ∈ s) : digGo s (d :: t) = 7 := by unfold digGo; rw [if_neg (by simp [h]), if_pos h1]
theorem digGo_next {s : List Bytes} {d : Bytes} {t : List Bytes} (h : d.length = 32) (h1 : ¬ d ∈ s) : digGo s (d :: t) = digGo (s ++ [d]) t := by
  rw [digGo, if_neg (by simp [h]), if_neg h1]
theorem digGo_zero : ∀ (t s : List Bytes), digGo s t = 0 ↔ (∀ d ∈ t, d.length = 32) ∧ (∀ d ∈ t, d ∉ s) ∧ t.Nodup
  | [], s => by simp [digGo]
  | d :: t, s => by
    by_cases h : d.length = 32
    · by_cases h1 : d ∈ s
      · rw [digGo_twice h h1]; simp [h1]
      · rw [digGo_next h h1, digGo_zero t]
        simp only [List.mem_append, not_or, List.mem_cons, List.nodup_cons, forall_eq_or_imp, List.not_mem_nil, not_false_eq_true, and_true]
        constructor
        · rintro ⟨a, b, c⟩
          exact ⟨⟨h, a⟩, ⟨h1, fun x hx => (b x hx).1⟩, fun hd => (b d hd).2 rfl, c⟩
        · rintro ⟨⟨_, a⟩, ⟨_, b⟩, c, e⟩
          exact ⟨a, fun x hx => ⟨b x hx, fun hxd => c (by rw [← hxd]; exact hx)⟩, e⟩
    · rw [digGo_form h]; simp [h]
theorem digCode_zero (l : List Bytes) : digCode l = 0 ↔ (∀ d ∈ l, d.length = 32) ∧ l.Nodup := by
  unfold digCode; rw [digGo_zero]; simp
theorem digGo_form_at (t : List Bytes) : ∀ s, digGo s t = 0 ∨ digGo s t = 4 ∨ digGo s t = 7 := by
  induction t with
  | nil => intro s; exact .inl rfl
  | cons d t ih =>
    intro s
    unfold digGo
    split
    · exact .inr (.inl rfl)
    · split
      · exact .inr (.inr rfl)
      · exact ih _

/-- A batch. -/
structure Bat where
  a : Int
  n : Int
  txs : List Bytes
def txLen (t : Bytes) : Bool := decide (1 ≤ t.length ∧ t.length ≤ 20)
def batCode (b : Bat) : Int :=
  if nodeOk b.a = false ∨ countOk b.n = false then 2 else if b.txs.length < 1 ∨ 4 < b.txs.length then 1 else if b.txs.all txLen then 0 else 1
/-- A header. -/
structure Hdr where
  a : Int
  r : Int
  bs : List Bytes
  ps : List Bytes
def hdrCode (h : Hdr) : Int :=
  if nodeOk h.a = false ∨ countOk h.r = false then 2 else if 3 < h.bs.length ∨ 4 < h.ps.length then 1
  else if digCode h.bs ≠ 0 then digCode h.bs else if digCode h.ps ≠ 0 then digCode h.ps
  else if (h.r = 1 ∧ 0 < h.ps.length) ∨ (1 < h.r ∧ h.ps.length < 3) then 10 else 0
/-- Voters. -/
def votGo (last : Option Int) : List Int → Int
  | [] => 0
  | v :: t => if nodeOk v = false then 2 else if (match last with | none => false | some u => decide (v ≤ u)) = true then 9 else votGo (some v) t
/-- A certificate. -/
structure Crt where
  h : Hdr
  vs : List Int
def crtCode (c : Crt) : Int :=
  if hdrCode c.h ≠ 0 then hdrCode c.h else if 4 < c.vs.length then 1 else if votGo none c.vs ≠ 0 then votGo none c.vs else if c.vs.length < 3 then 10 else 0
/-- A slot. -/
structure Slt where
  a : Int
  r : Int
  d : Bytes
def sltCode (a r : Int) (n : Nat) : Int := if nodeOk a = false ∨ countOk r = false then 2 else if n ≠ 32 then 4 else 0
end Go.Proofs.Ytgkmgdkmafbohaa
/- Bytes that are appended to a slice that the call, or its caller, owns. No program is named. -/
set_option linter.unusedVariables false
set_option linter.unusedSimpArgs false
namespace Go.Proofs.Ytgkmgdkmafbohaa
open Go Go.RowKit

abbrev byteVs (l : Bytes) : List Value := l.map fun c => Value.int .u8 c.toNat
theorem grownBy_trans {a b c : World} {r r' : Option Nat} (h : a.grownBy b r) (h' : b.grownBy c r') (hr : r' = r ∨ ∀ k, r' = some k → a.heap.size ≤ k) : a.grownBy c r :=
  ⟨h'.os.trans h.os, h'.tape.trans h.tape, h'.output.trans h.output, Nat.le_trans h.size h'.size, fun k hk hne => by
    rw [h'.block k (Nat.lt_of_lt_of_le hk h.size) (fun e => ?_), h.block k hk hne]
    rcases hr with rfl | hr
    · exact hne e
    · have := hr k e.symm; omega⟩
theorem grownBy_of_below {a b : World} (h : Below a.heap.size a b) (r : Option Nat) : a.grownBy b r := ⟨h.os, h.tape, h.output, h.size, fun k hk _ => h.block k hk⟩
/-- v became v', which holds the bytes l; all else is as it was. -/
structure AppB (base e : Nat) (w : World) (v : Value) (w' : World) (v' : Value) (l : Bytes) : Prop where
  own : w'.ownsRow base e 1 v' l.length (byteVs l)
  gr : w.grownBy w' v.ownBlock
  at' : v'.ownBlock = v.ownBlock ∨ ∀ k, v'.ownBlock = some k → w.heap.size ≤ k
section
variable {base e : Nat} {w w' w'' : World} {v v' v'' : Value} {l l' : Bytes}
theorem AppB.refl (h : w.ownsRow base e 1 v l.length (byteVs l)) : AppB base e w v w v l := ⟨h, ⟨rfl, rfl, rfl, Nat.le_refl _, fun _ _ _ => rfl⟩, .inl rfl⟩
theorem AppB.trans (h : AppB base e w v w' v' l) (k : AppB base e w' v' w'' v'' l') : AppB base e w v w'' v'' l' := by
  refine ⟨k.own, grownBy_trans h.gr k.gr ?_, ?_⟩
  · exact h.at'
  · rcases k.at' with e | e
    · rw [e]; exact h.at'
    · exact .inr fun j hj => Nat.le_trans h.gr.size (e j hj)
theorem AppB.below (h : AppB base e w v w' v' l) (hb : Below w'.heap.size w' w'') : AppB base e w v w'' v' l :=
  ⟨ownsRow_below h.own hb, grownBy_trans h.gr (grownBy_of_below hb v.ownBlock) (.inl rfl), h.at'⟩
theorem AppB.before {w0 : World} (hb : Below w0.heap.size w0 w) (h : AppB base e w v w' v' l) : AppB base e w0 v w' v' l :=
  ⟨h.own, grownBy_trans (grownBy_of_below hb v.ownBlock) h.gr (.inl rfl), h.at'.imp id fun k j hj => Nat.le_trans hb.size (k j hj)⟩
theorem AppB.size (h : AppB base e w v w' v' l) : w.heap.size ≤ w'.heap.size := h.gr.size
theorem AppB.form (h : AppB base e w v w' v' l) : ∃ ad cap, v' = .slice ad l.length cap := ownsRow_form h.own
theorem AppB.box {b : Nat} {cs : List Value} {T : TypeId} (h : AppB base e w v w' v' l) (hx : BoxAt w b cs T) (hn : v.ownBlock ≠ some b) : BoxAt w' b cs T := hx.grown h.gr hn
theorem AppB.keep {G : Nat → Prop} (h : AppB base e w v w' v' l) (hG : ∀ k, v.ownBlock = some k → ¬ G k) : Keep G w w' := Keep.grown h.gr hG
theorem AppB.bel {B : Nat} {a : World} (h : AppB base e w v w' v' l) (hb : Below B a w) (hB : B ≤ w.heap.size) (hv : ∀ k, v.ownBlock = some k → B ≤ k) : Below B a w' := hb.grown h.gr hB hv
theorem AppB.rd {G : Nat → Prop} (h : AppB base e w v w' v' l) (hG : ∀ b, base ≤ b → G b) : RdB G w' v' l := RdS.of_owns h.own hG
theorem AppB.apart {G : Nat → Prop} (h : AppB base e w v w' v' l) (hG : ∀ b, G b → v.ownBlock ≠ some b) : ∀ b, (G b ∧ b < w.heap.size) → v'.ownBlock ≠ some b := fun b hb e => by
  rcases h.at' with h | h
  · exact hG b hb.1 (h ▸ e)
  · have := h b e; omega
theorem AppB.keepG {G : Nat → Prop} (h : AppB base e w v w' v' l) (hG : ∀ b, G b → v.ownBlock ≠ some b) : Keep G w w' := h.keep (fun k hk hg => hG k hg hk)
theorem AppB.list {l1 : Bytes} (h : AppB base e w v w' v' l) (e1 : l = l1) : AppB base e w v w' v' l1 := e1 ▸ h
/-- From append's law. -/
theorem AppB.of {g cap n m : Nat} {news : Bytes} {vs : List Value} {w0 : World} {H : Nat} (hn : l.length = n) (hm : news.length = m) (hown : w'.ownsRow base e 1 (.slice (some ⟨g, 0, none⟩) (n + m) cap) (n + m) (byteVs l ++ vs)) (hvs : vs = byteVs news)
    (hgr : w0.grownBy w' v.ownBlock) (hat : v.ownBlock = some g ∨ g = H) (hH : w0.heap.size = H) (hw : Below w.heap.size w w0) : AppB base e w v w' (.slice (some ⟨g, 0, none⟩) (n + m) cap) (l ++ news) := by
  subst hn hm hvs
  refine ⟨?_, grownBy_trans (grownBy_of_below hw v.ownBlock) hgr (.inl rfl), ?_⟩
  · rw [List.length_append, byteVs, List.map_append]; exact hown
  · rcases hat with h | h
    · exact .inl (by rw [h]; rfl)
    · exact .inr fun k hk => by have := hw.size; simp [Value.ownBlock] at hk; omega
end
theorem BoxAt.slCellsN {w : World} {b n c : Nat} {cs : List Value} {T : TypeId} (h : BoxAt w b cs T) (hn : cs.length = n) : SlCells w (.slice (some ⟨b, 0, none⟩) n c) n 1 cs :=
  ⟨_, _, rfl, fun h => by simp at h, by omega, fun j u hj => ⟨_, _, rfl, by have := h.cell j hj; simpa using this⟩⟩
theorem lit_ownsN (w : World) (l : List Value) (e : TypeId) (hn : l.length ≤ 1000 := by simp) (h0 : 0 < l.length := by simp) : (w.alloc (.cells l.toArray e)).ownsRow w.heap.size e 1 (.slice (some ⟨w.heap.size, 0, none⟩) l.length l.length) l.length l :=
  ⟨by simp, .inr ⟨w.heap.size, l.length, l.toArray, rfl, Nat.le_refl _, heap_alloc_new w _, Nat.le_refl _, by unfold maxLen; omega, by simp, by simp⟩⟩
end Go.Proofs.Ytgkmgdkmafbohaa
/- Conversions between texts and bytes; make. No program is named. -/
set_option linter.unusedVariables false
set_option linter.unusedSimpArgs false
namespace Go.Proofs.Ytgkmgdkmafbohaa
open Go Go.RowKit

theorem foldl_push (l : List UInt8) : ∀ s : ByteArray, (l.map (fun c => ((c.toNat : Nat) : Int))).foldl (fun r n => r.push (UInt8.ofNat n.toNat)) s = ⟨(s.data.toList ++ l).toArray⟩ := by
  induction l with
  | nil => intro s; simp
  | cons c l ih =>
    intro s
    simp only [List.map_cons, List.foldl_cons, ih]
    congr 2
    show (s.data.push (UInt8.ofNat (c.toNat : Int).toNat)).toList ++ l = _
    simp

theorem run_bytesToString_rd {P : Program} {G : Nat → Prop} {w : World} {v : Value} {l : List UInt8} (h : RdB G w v l) : (Conv.bytesToString v).run P w = .ok (strV l) w := by
  obtain ⟨ad, cap, rfl, h1, h2, h0⟩ := h.form0
  rcases ad with _ | a
  · have : l = [] := List.eq_nil_of_length_eq_zero (by have := h0 rfl; omega)
    subst this
    rfl
  · have hc : ∀ j v, (l.map (fun c => Value.int .u8 c.toNat))[j]? = some v → w.cell? (a.add j) = some v := fun j u hj => by
      simp only [List.getElem?_map, Option.map_eq_some_iff] at hj
      obtain ⟨x, hx, rfl⟩ := hj
      have hjl : j < l.length := by
        rcases Nat.lt_or_ge j l.length with h | h
        · exact h
        · simp [List.getElem?_eq_none h] at hx
      obtain ⟨b, o, ha, _, hcell⟩ := h.cell j hjl
      simp only [Option.some.injEq] at ha
      subst ha
      rw [List.getElem?_eq_getElem hjl] at hx
      obtain rfl := Option.some.inj hx
      unfold Addr.add
      split
      · rename_i h; subst h; simpa using hcell
      · exact hcell
    have hl := run_loadCells_list (P := P) (w := w) a _ hc
    have hm : l.map (fun c => Value.int .u8 c.toNat) = (l.map (fun c => ((c.toNat : Nat) : Int))).map (Value.int .u8) := by simp
    rw [hm] at hl
    have := run_bytesToString (P := P) w a l.length cap (l.map (fun c => ((c.toNat : Nat) : Int))) (by simpa using hl)
    rw [this, foldl_push]
    rfl

/-- 'string(b)'. -/
theorem wpList_bytes_str {P : Program} {w : World} {ops : Array Oper} {rest : List Oper} {o : Oper} {a : Act} {Q : Exit → Act → World → Prop} (hgd : o.guard = none) (src dst : TypeId) (x : Operand)
    (ho : o.op = .convert src dst x) {e : TypeId} (hs : P.underlying src = some (.slice e)) (he : P.underlying e = some (.int .u8)) (hd : P.underlying dst = some .string)
    (v : Value) (hv : a.eval x = v) {G : Nat → Prop} (l : List UInt8) (hr : RdB G w v l)
    (h : wpList P ops Q rest (a.put o.dst (strV l)) w) : wpList P ops Q (o :: rest) a w := by
  subst hv
  refine wpList_plain hgd fun K hK => ?_
  have hrun : (convert src dst (a.eval x)).run P w = .ok (strV l) w := by
    obtain ⟨ad, cap, hf, _⟩ := hr.form
    have h2 := run_bytesToString_rd (P := P) hr
    rw [hf] at h2 ⊢
    rw [run_convert_bytes_string (P := P) w src dst e ad _ cap hs he hd]
    exact h2
  unfold Oper.wp execOp
  simp only [ho, Sem.run_bind, Sem.run_pure, Result.andThen_ok, hrun]
  exact hK _ _ h

/-- n times a value. -/
def vzeros (n : Nat) (z : Value) : List Value := List.replicate n z
/-- 'make([]T, n)', elements of one cell. -/
theorem wpList_make_z {P : Program} {w : World} {ops : Array Oper} {rest : List Oper} {o : Oper} {a : Act} {Q : Exit → Act → World → Prop} (hgd : o.guard = none) (l c : Operand) (t : TypeId)
    (ho : o.op = .makeSlice t l c) {e : TypeId} {bytes : Nat} {z : Value} (ht : P.underlying t = some (.slice e)) (hinfo : (P.info? e).map (fun i => (i.zero, i.size, i.bytes)) = some (some z, 1, bytes)) (hzc : z.cells = #[z])
    (n : Nat) (L C : Int) (hl : a.eval l = .int .i64 L) (hc : a.eval c = .int .i64 C) (hL : L = (n : Int)) (hC : C = (n : Int)) (hb : bytes * n ≤ 281474976710656) (hm : n ≤ maxLen)
    (h : ∀ w', w'.ownsRow w.heap.size e 1 (.slice (some ⟨w.heap.size, 0, none⟩) n n) n (vzeros n z) → Below w.heap.size w w' → w'.heap.size = w.heap.size + 1 → wpList P ops Q rest (a.put o.dst (.slice (some ⟨w.heap.size, 0, none⟩) n n)) w') :
    wpList P ops Q (o :: rest) a w := by
  subst hL hC
  obtain ⟨i, hi, hz0, hz1, hz2⟩ := info_parts hinfo
  refine wpList_plain hgd fun K hK => ?_
  have hm' : n ≤ 9223372036854775807 := by unfold maxLen at hm; omega
  have hr := run_make (P := P) w t e i z ht hi hz0 .i64 .i64 n n (by omega) (by omega) (by rw [hz2, ← Int.natCast_mul]; omega) (by omega)
  unfold Oper.wp execOp
  simp only [ho, hl, hc, Sem.run_bind, Sem.run_pure, Result.andThen_ok, hr, Int.toNat_natCast]
  refine hK _ _ (h _ ?_ ((Below.refl _ _).alloc (Nat.le_refl _) _) (by simp))
  unfold vzeros
  refine ⟨by simp, Or.inr ⟨w.heap.size, n, _, rfl, Nat.le_refl _, heap_alloc_new w _, Nat.le_refl _, hm, by rw [size_madeCells, hz1], ?_⟩⟩
  rw [hz1, Nat.mul_one, hzc]
  apply List.ext_getElem
  · simp [madeCells]
  · intro j h1 h2
    simp [madeCells]
    rw [Nat.mod_one]; rfl
/-- n noughts. -/
def zeros (n : Nat) : List UInt8 := List.replicate n 0
theorem length_zeros (n : Nat) : (zeros n).length = n := by simp [zeros]
theorem rdB_zeros {G : Nat → Prop} {w : World} {base e n : Nat} {v : Value} (h : w.ownsRow base e 1 v n (vzeros n (.int .u8 0))) (hG : ∀ b, base ≤ b → G b) : RdB G w v (zeros n) :=
  RdS.of_owns (by unfold zeros; rw [List.map_replicate]; exact h) hG

/-- The cells of n noughts. -/
def zcells (n : Nat) : Array Value := (vzeros n (.int .u8 0)).toArray
theorem hmake_rule {P : Program} {t e : TypeId} (ht : P.underlying t = some (.slice e)) (hinfo : (P.info? e).map (fun i => (i.zero, i.size, i.bytes)) = some (some (.int .u8 0), 1, 1)) (n : Nat) (L : Int) (hL : L = (n : Int)) (hn : n ≤ 281474976710656) (w : World) :
    (Instr.makeSlice t (.int .i64 L) (.int .i64 L)).run P w = .ok (.slice (some ⟨w.heap.size, 0, none⟩) n n) (w.alloc (.cells (zcells n) e)) := by
  subst hL
  obtain ⟨i, hi, hz0, hz1, hz2⟩ := info_parts hinfo
  have hr := run_make (P := P) w t e i (.int .u8 0) ht hi hz0 .i64 .i64 n n (by omega) (by omega) (by rw [hz2]; omega) (by omega)
  rw [hr, hz1]
  simp only [Int.toNat_natCast, Nat.mul_one]
  have hm : madeCells (Value.int IntKind.u8 0).cells n = zcells n := by
    apply Array.ext'
    simp only [zcells, vzeros, madeCells]
    apply List.ext_getElem
    · simp
    · intro j h1 h2
      simp [Value.cells]
      rw [Nat.mod_one]; rfl
  rw [hm]
/-- A block of n noughts. -/
def ZBlock (w : World) (b n : Nat) (e : TypeId) : Prop := w.heap[b]? = some (.cells (zcells n) e (0, 0))
theorem ZBlock.new {w : World} {b n : Nat} {e : TypeId} (hb : b = w.heap.size) : ZBlock (w.alloc (.cells (zcells n) e)) b n e := hb ▸ heap_alloc_new w _
theorem ZBlock.alloc {w : World} {b n : Nat} {e : TypeId} (h : ZBlock w b n e) (o : Obj) : ZBlock (w.alloc o) b n e := (Below.heap_alloc w o b (lt_of_block h)).trans h
theorem ZBlock.drew {w : World} {b n : Nat} {e : TypeId} (h : ZBlock w b n e) : ZBlock w.drew b n e := h
theorem ZBlock.rd {w : World} {b n : Nat} {e : TypeId} (h : ZBlock w b n e) (hn : n ≤ maxLen) : RdB (fun _ => True) w (.slice (some ⟨b, 0, none⟩) n n) (zeros n) :=
  RdS.of_owns (base := 0) (e := e) (n := n) ⟨by simp [length_zeros], Or.inr ⟨b, n, zcells n, rfl, Nat.zero_le _, h, Nat.le_refl _, hn, by simp [zcells, vzeros], by simp [zcells, vzeros, zeros]⟩⟩ (fun _ _ => trivial)
theorem hstr_rule {P : Program} {src dst e : TypeId} (hs : P.underlying src = some (.slice e)) (he : P.underlying e = some (.int .u8)) (hd : P.underlying dst = some .string) (n : Nat) (hn : n ≤ maxLen) (w : World) (b : Nat) (h : ZBlock w b n e) :
    (convert src dst (.slice (some ⟨b, 0, none⟩) n n)).run P w = .ok (strV (zeros n)) w := by
  rw [run_convert_bytes_string (P := P) w src dst e _ _ _ hs he hd]
  exact run_bytesToString_rd (h.rd hn)
end Go.Proofs.Ytgkmgdkmafbohaa
/- bytes.Equal, same, slices.Clone of bytes: what they compute. -/
set_option linter.unusedVariables false
set_option linter.unusedSimpArgs false
namespace Go.Proofs.Ytgkmgdkmafbohaa
open Go Go.RowKit

theorem elemB : ElemOk Try.prog 26 5 1 1 := elemOk_of (z := .int .u8 0) (by kernel_rfl) (by kernel_rfl) rfl (by decide)

theorem bytesEqual_any {G G' : Nat → Prop} {l m : List UInt8} (u v : Value) (w : World) (hu : RdB G w u l) (hv : RdB G' w v m) :
    Calls Try.prog 56 #[u, v] w fun e w' => e = .returned (.bool (decide (l = m))) ∧ w = w' := by
  go_enter Try.func56, Try.ntmps56
  go_wp2_with (first
    | (refine wpList_bytes_str rfl 26 9 (.tmp 5) rfl Try.underlying26 Try.underlying5 Try.underlying9 _ rfl _ hu ?_)
    | (refine wpList_bytes_str rfl 26 9 (.tmp 7) rfl Try.underlying26 Try.underlying5 Try.underlying9 _ rfl _ hv ?_))
  go_ret
  exact ⟨ret_boolH (by rw [Bool.eq_iff_iff]; simp), rfl⟩

/-- slices.Clone of bytes: the call's own. -/
theorem cloneB_any {G : Nat → Prop} {l : List UInt8} (v : Value) (w : World) (h : RdB G w v l) (hsz : l.length ≤ 140737488355328) :
    Calls Try.prog 52 #[v] w fun e w' => ∃ v', e = .returned v' ∧ w'.ownsRow w.heap.size 5 1 v' l.length (l.map fun c => Value.int .u8 c.toNat) ∧ Below w.heap.size w w' := by
  obtain ⟨ad, cap, rfl, h1, h2, h0⟩ := h.form0
  unfold maxLen at h2
  rcases ad with _ | ad
  · have hl : l = [] := List.eq_nil_of_length_eq_zero (by have := h0 rfl; omega)
    subst hl
    obtain rfl := h0 rfl
    have he := fun w' => Lib.run_eql_slice_nil (P := Try.prog) w' 26 5 none 0 0 0 0 Try.underlying26
    go_enter Try.func52, Try.ntmps52
    go_wp2
    go_ret
    exact ⟨_, rfl, World.ownsRow_nil _ _ _ _, Below.refl _ _⟩
  · have he := fun w' => Lib.run_eql_slice_nil (P := Try.prog) w' 26 5 (some ad) l.length cap 0 0 Try.underlying26
    go_enter Try.func52, Try.ntmps52
    go_wp2_with (at_builtin; refine wpList_append_sl rfl _ _ 26 rfl elemB w.heap.size _ rfl 0 [] (World.ownsRow_made w #[] 0 (Nat.le_refl _) (Nat.zero_le _) rfl) _ rfl l.length _ (h.keep (Keep.alloc G _ _) (fun _ h => h)).slCells (oneCell_map _ _ (fun _ => rfl)) (by unfold maxLen; omega) (by omega) (by simp) ?_; intro v' w' hown hgr)
    go_ret
    refine ⟨_, rfl, ?_, (((Below.refl _ _).alloc (Nat.le_refl _) _).grown hgr (by simp) (ownBlock_ge (World.ownsRow_made (e := 5) (size := 1) w #[] 0 (Nat.le_refl _) (Nat.zero_le _) rfl)))⟩
    simpa using hown
end Go.Proofs.Ytgkmgdkmafbohaa
/- wire's checks: node, count, digests, CheckBatch, CheckHeader, CheckCert, CheckSlot. -/
set_option linter.unusedVariables false
set_option linter.unusedSimpArgs false
namespace Go.Proofs.Ytgkmgdkmafbohaa
open Go Go.RowKit

theorem RdS.cellS {α : Type} {R : Rel α} {hs : 0 < R.size} {G : Nat → Prop} {w : World} {l : List (List α)} {ad : Option Addr} {n cap : Nat} (h : RdS (sliceOf R hs) G w (.slice ad n cap) l) (j : Nat) (hj : j < l.length) :
    ∃ b o v, ad = some ⟨b, o, none⟩ ∧ G b ∧ w.cell? ⟨b, o + j, none⟩ = some v ∧ RdS R G w v l[j] := by
  obtain ⟨b, o, cs, ha, hb, hc, v, rfl, hr⟩ := h.at j hj
  exact ⟨b, o, v, ha, hb, by have := hc 0 _ rfl; simpa [sliceOf] using this, hr⟩

theorem node_any (n : Int) (w : World) : Calls Try.prog 29 #[.int .i64 n] w fun e w' => e = .returned (.bool (nodeOk n)) ∧ w = w' := by
  go_enter Try.func29, Try.ntmps29
  go_wp2
  all_goals
    go_ret
    exact ⟨ret_boolH (by unfold nodeOk; rw [Bool.eq_iff_iff]; simp; omega), rfl⟩
theorem count_any (n : Int) (w : World) : Calls Try.prog 30 #[.int .i64 n] w fun e w' => e = .returned (.bool (countOk n)) ∧ w = w' := by
  go_enter Try.func30, Try.ntmps30
  go_wp2
  all_goals
    go_ret
    exact ⟨ret_boolH (by unfold countOk; rw [Bool.eq_iff_iff]; simp; omega), rfl⟩

theorem cslot_any (a r : Int) (ad : Option Addr) (n cap : Nat) (w : World) :
    Calls Try.prog 17 #[.agg #[.int .i64 a, .int .i64 r, .slice ad n cap]] w fun e w' => e = .returned (.int .i64 (sltCode a r n)) ∧ Below w.heap.size w w' := by
  have hR := (Below.refl w.heap.size w).alloc (Nat.le_refl _) (.cells #[.int .i64 a, .int .i64 r, .slice ad n cap] 29)
  go_enter Try.func17, Try.ntmps17
  cases h1 : nodeOk a
  · go_wp2_with (first
      | (go_at_call 29; refine (node_any _ _).mono ?_; rintro e w' ⟨rfl, rfl⟩)
      | (go_at_call 30; refine (count_any _ _).mono ?_; rintro e w' ⟨rfl, rfl⟩))
    go_ret
    exact ⟨ret_intH (by unfold sltCode; rw [if_pos (.inl h1)]), hR⟩
  · cases h2 : countOk r
    · go_wp2_with (first
        | (go_at_call 29; refine (node_any _ _).mono ?_; rintro e w' ⟨rfl, rfl⟩)
        | (go_at_call 30; refine (count_any _ _).mono ?_; rintro e w' ⟨rfl, rfl⟩))
      go_ret
      exact ⟨ret_intH (by unfold sltCode; rw [if_pos (.inr h2)]), hR⟩
    · by_cases h3 : n = 32
      · have hb : ((n : Int) != 32) = false := by simp [h3]
        have hv : sltCode a r n = 0 := by unfold sltCode; simp [h1, h2, h3]
        have HV := Lib.hid hv
        clear hv h3
        go_wp2_with (first
          | (go_at_call 29; refine (node_any _ _).mono ?_; rintro e w' ⟨rfl, rfl⟩)
          | (go_at_call 30; refine (count_any _ _).mono ?_; rintro e w' ⟨rfl, rfl⟩))
        go_ret
        exact ⟨ret_intH HV.out, hR⟩
      · have hb : ((n : Int) != 32) = true := by rw [bne_iff_ne]; omega
        have hv : sltCode a r n = 4 := by unfold sltCode; simp [h1, h2, h3]
        have HV := Lib.hid hv
        clear hv h3
        go_wp2_with (first
          | (go_at_call 29; refine (node_any _ _).mono ?_; rintro e w' ⟨rfl, rfl⟩)
          | (go_at_call 30; refine (count_any _ _).mono ?_; rintro e w' ⟨rfl, rfl⟩))
        go_ret
        exact ⟨ret_intH HV.out, hR⟩

/-! ### digests: a closure that compares with one digest -/
theorem digClo_any {G G' : Nat → Prop} {x d : Bytes} (vx vd : Value) (b : Nat) (w : World) (hx : RdB G w vx x) (hd : RdB G' w vd d) (hc : w.cell? ⟨b, 0, none⟩ = some vd) :
    Calls Try.prog 55 #[vx, .pointer (some ⟨b, 0, none⟩)] w fun e w' => e = .returned (.bool (decide (x = d))) ∧ w = w' := by
  obtain ⟨ad, cap, rfl, -, -⟩ := hd.form
  go_enter Try.func55, Try.ntmps55
  go_wp2_with (go_at_call 56; refine (bytesEqual_any _ _ _ hx hd).mono ?_; rintro e w' ⟨rfl, rfl⟩)
  go_ret
  exact ⟨rfl, rfl⟩

/-- The place of some bytes; -1: they are not there. -/
def idxB (l : List Bytes) (t : Bytes) : Int := if t ∈ l then (l.idxOf t : Int) else -1
theorem idxB_hit {l : List Bytes} {t : Bytes} {k : Nat} (hk : k < l.length) (hno : ∀ j, j < k → l[j]? ≠ some t) (h : l[k] = t) : idxB l t = k := by
  have hm : t ∈ l := h ▸ List.getElem_mem hk
  unfold idxB
  rw [if_pos hm]
  have h1 : l.idxOf t < l.length := List.idxOf_lt_length_of_mem hm
  have h2 : l[l.idxOf t]? = some t := by rw [List.getElem?_eq_getElem h1]; simp
  have h3 : ¬ l.idxOf t < k := fun hl => hno _ hl h2
  have h4 : ¬ k < l.idxOf t := fun hl => by
    have := List.not_of_lt_findIdx (p := fun x => x == t) (xs := l) (i := k) (by exact hl)
    simp [h] at this
  congr 1; omega
theorem idxB_miss {l : List Bytes} {t : Bytes} (hno : ∀ j, j < l.length → l[j]? ≠ some t) : idxB l t = -1 := by
  unfold idxB
  rw [if_neg]
  intro hm
  obtain ⟨j, hj, e⟩ := List.mem_iff_getElem.1 hm
  exact hno j hj (by simp [hj, e])
theorem idxB_ge {l : List Bytes} {t : Bytes} : (0 ≤ idxB l t) = (t ∈ l) := by
  unfold idxB
  by_cases h : t ∈ l <;> simp [h]

theorem digIndex_any {G G' : Nat → Prop} {l : List Bytes} {d : Bytes} (v vd : Value) (b : Nat) (w : World) (h : RdBB G w v l) (hd : RdB G' w vd d) (hcd : w.cell? ⟨b, 0, none⟩ = some vd) :
    Calls Try.prog 57 #[v, .func (.func 55) #[] #[.pointer (some ⟨b, 0, none⟩)]] w fun e w' => e = .returned (.int .i64 (idxB l d)) ∧ w = w' := by
  obtain ⟨ad, cap, rfl, h1, h2⟩ := h.form
  unfold maxLen at h2
  have HC := Lib.hid hcd
  clear hcd
  go_enter Try.func57, Try.ntmps57
  go_wp2
  go_loop [8] (fun i => ∃ k : Nat, k ≤ l.length ∧ i = .int .i64 k ∧ ∀ j, j < k → l[j]? ≠ some d) (fun i => l.length - (intOf i).toNat)
  case atStart => exact ⟨0, Nat.zero_le _, rfl, fun j hj => by omega⟩
  case round =>
    obtain ⟨k, hk, rfl, hno⟩ := hrel
    have HN := Lib.hid hno; clear hno
    by_cases hlt : k < l.length
    · obtain ⟨bb, o, vx, rfl, -, hc, hx⟩ := h.cellS k hlt
      obtain ⟨ad2, cap2, rfl, -, -⟩ := hx.form
      by_cases he : l[k] = d
      · have hr := Lib.hid (idxB_hit hlt HN.out he)
        have hb : decide (l[k] = d) = true := by simp [he]
        have HE := Lib.hid hb
        clear he hb
        go_wp2_with fail
        refine (digClo_any _ _ _ _ hx hd HC.out).mono ?_
        rintro e w' ⟨rfl, rfl⟩
        rw [HE.out]
        go_wp2
        go_ret
        exact ⟨ret_intH hr.out, rfl⟩
      · have hb : decide (l[k] = d) = false := by simp [he]
        have HE := Lib.hid hb
        have he' := Lib.hid he
        clear he hb
        go_wp2_with fail
        refine (digClo_any _ _ _ _ hx hd HC.out).mono ?_
        rintro e w' ⟨rfl, rfl⟩
        rw [HE.out]
        go_wp2
        go_round
        case rel => exact ⟨k + 1, by omega, by go_num, fun j hj => by
          rcases Nat.lt_or_eq_of_le (Nat.le_of_lt_succ hj) with h' | h'
          · exact HN.out j h'
          · subst h'; simp only [List.getElem?_eq_getElem hlt]; exact fun e => he'.out (Option.some.inj e)⟩
        case measure => simp [intOf]; omega
    · have hr := Lib.hid (idxB_miss (l := l) (t := d) (fun j hj => HN.out j (by omega)))
      go_wp2
      go_ret
      exact ⟨ret_intH hr.out, rfl⟩

theorem digContains_any {G G' : Nat → Prop} {l : List Bytes} {d : Bytes} (v vd : Value) (b : Nat) (w : World) (h : RdBB G w v l) (hd : RdB G' w vd d) (hcd : w.cell? ⟨b, 0, none⟩ = some vd) :
    Calls Try.prog 54 #[v, .func (.func 55) #[] #[.pointer (some ⟨b, 0, none⟩)]] w fun e w' => e = .returned (.bool (decide (d ∈ l))) ∧ w = w' := by
  have hge := Lib.hid (idxB_ge (l := l) (t := d))
  have HC := Lib.hid hcd
  clear hcd
  go_enter Try.func54, Try.ntmps54
  go_wp2_with (go_at_call 57; refine (digIndex_any _ _ _ _ h hd HC.out).mono ?_; rintro e w' ⟨rfl, rfl⟩)
  go_ret
  refine ⟨ret_boolH ?_, rfl⟩
  simp only [hge.out]
end Go.Proofs.Ytgkmgdkmafbohaa
/- picked: what it computes. -/
set_option linter.unusedVariables false
set_option linter.unusedSimpArgs false
namespace Go.Proofs.Ytgkmgdkmafbohaa
open Go.RowKit

theorem ret_int {k : IntKind} {a b : Int} (h : a = b) : Ending.returned (.int k a) = .returned (.int k b) := by rw [h]

/-- picked, as a number. -/
def pickedZ (n many : Int) : Int := (if n < 0 then -(n + 1) else n) % many

theorem pickedZ_range (n many : Int) (h : 0 < many) : 0 ≤ pickedZ n many ∧ pickedZ n many < many := by
  unfold pickedZ; exact ⟨Int.emod_nonneg _ (by omega), Int.emod_lt_of_pos _ h⟩

theorem picked_any (n many : Int) (w : World) (h1 : -9223372036854775808 ≤ n) (h2 : n ≤ 9223372036854775807) (h3 : 1 ≤ many) (h4 : many ≤ 9223372036854775807) :
    Calls Try.prog 15 #[.int .i64 n, .int .i64 many] w fun e w' => e = .returned (.int .i64 (pickedZ n many)) ∧ w = w' := by
  have h5 : ¬ many = 0 := by omega
  by_cases hn : n < 0
  · go_enter Try.func15, Try.ntmps15
    go_wp2
    go_ret
    exact ⟨ret_int (by unfold pickedZ; rw [if_pos hn]; rw [← Int.neg_tmod]; exact Int.tmod_eq_emod_of_nonneg (by omega)), rfl⟩
  · go_enter Try.func15, Try.ntmps15
    go_wp2
    go_ret
    exact ⟨ret_int (by unfold pickedZ; rw [if_neg (by omega)]), rfl⟩

end Go.Proofs.Ytgkmgdkmafbohaa
/- sheaveskeep.some, voters: what they make. -/
set_option linter.unusedVariables false
set_option linter.unusedSimpArgs false
namespace Go.Proofs.Ytgkmgdkmafbohaa
open Go Go.RowKit

theorem RdS.of_box {α : Type} {f : α → Value} {G : Nat → Prop} {w : World} {b : Nat} {l : List α} {T : TypeId} {cap : Nat} (h : BoxAt w b (l.map f) T) (hG : G b) (hc : l.length ≤ cap) (hm : cap ≤ maxLen) : RdS (flat f) G w (.slice (some ⟨b, 0, none⟩) l.length cap) l :=
  ⟨_, cap, rfl, hc, hm, fun h => by simp at h, fun j x hx => ⟨b, 0, [f x], rfl, hG, fun t c ht => by
    match t, ht with
    | 0, ht =>
      simp at ht; subst ht
      have := h.cell j (v := f x) (by simp [hx])
      simpa [flat] using this, rfl⟩⟩

/-- A byte out of a number. -/
def byteZ (n : Int) : UInt8 := UInt8.ofNat (n % 256).toNat
theorem byteZ_toNat (n : Int) : ((byteZ n).toNat : Int) = n % 256 := by
  unfold byteZ
  rw [UInt8.toNat_ofNat']
  omega
/-- some digest. -/
def someL (n m : Int) : Bytes := byteZ (pickedZ n 256) :: byteZ m :: [0, 0, 0, 0, 0, 0, 0, 0, 0, 0, 0, 0, 0, 0, 0, 0, 0, 0, 0, 0, 0, 0, 0, 0, 0, 0, 0, 0, 0, 1]
theorem someL_length (n m : Int) : (someL n m).length = 32 := rfl

theorem someL_cells (n m : Int) : (someL n m).map (fun c => Value.int .u8 c.toNat) = [.int .u8 (pickedZ n 256 % 256), .int .u8 (m % 256), .int .u8 0, .int .u8 0, .int .u8 0, .int .u8 0, .int .u8 0, .int .u8 0, .int .u8 0, .int .u8 0, .int .u8 0, .int .u8 0, .int .u8 0, .int .u8 0, .int .u8 0, .int .u8 0, .int .u8 0, .int .u8 0, .int .u8 0, .int .u8 0, .int .u8 0, .int .u8 0, .int .u8 0, .int .u8 0, .int .u8 0, .int .u8 0, .int .u8 0, .int .u8 0, .int .u8 0, .int .u8 0, .int .u8 0, .int .u8 1] := by
  unfold someL
  simp [byteZ_toNat]
set_option maxRecDepth 100000 in
set_option maxHeartbeats 1000000 in
theorem some_any (n m : Int) (w : World) (h1 : -9223372036854775808 ≤ n) (h2 : n ≤ 9223372036854775807) :
    Calls Try.prog 16 #[.int .i64 n, .int .i64 m] w fun e w' => e = .returned (.slice (some ⟨w.heap.size, 0, none⟩) 32 32) ∧
      BoxAt w' w.heap.size ((someL n m).map fun c => Value.int .u8 c.toNat) 5 ∧ Below w.heap.size w w' := by
  have hmk : ∀ w : World, (Instr.makeSlice 26 (.int .i64 32) (.int .i64 32)).run Try.prog w = .ok (.slice (some ⟨w.heap.size, 0, none⟩) 32 32) (w.alloc (.cells #[.int .u8 0, .int .u8 0, .int .u8 0, .int .u8 0, .int .u8 0, .int .u8 0, .int .u8 0, .int .u8 0, .int .u8 0, .int .u8 0, .int .u8 0, .int .u8 0, .int .u8 0, .int .u8 0, .int .u8 0, .int .u8 0, .int .u8 0, .int .u8 0, .int .u8 0, .int .u8 0, .int .u8 0, .int .u8 0, .int .u8 0, .int .u8 0, .int .u8 0, .int .u8 0, .int .u8 0, .int .u8 0, .int .u8 0, .int .u8 0, .int .u8 0, .int .u8 0] 5)) := fun _ => by kernel_rfl
  go_enter Try.func16, Try.ntmps16
  go_wp2_with (first
    | (go_at_call 15; refine (picked_any _ _ _ (by omega) (by omega) (by omega) (by omega)).mono ?_; rintro e w' ⟨rfl, rfl⟩))
  go_ret
  refine ⟨rfl, ?_, (Below.refl _ _).alloc (Nat.le_refl _) _⟩
  rw [someL_cells]
  exact BoxAt.new w _ _

/-- voters of a number. -/
def votersL (n : Int) : List Int := [0, 1, 2, 3].filter (fun i => decide (i ≠ pickedZ n 5))
theorem elemI : ElemOk Try.prog 38 3 1 8 := elemOk_of (z := .int .i64 0) (by kernel_rfl) (by kernel_rfl) rfl (by decide)

theorem vot_cases (k : Int) (h0 : 0 ≤ k) (h1 : k < 5) : k = 0 ∨ k = 1 ∨ k = 2 ∨ k = 3 ∨ k = 4 := by omega
/-- The first k of the four, without one. -/
def votTo (p : Int) (k : Nat) : List Int := ([0, 1, 2, 3].take k).filter (fun i => decide (i ≠ p))
theorem votTo_skip {p : Int} {k : Nat} (hk : k < 4) (h : (k : Int) = p) : votTo p (k + 1) = votTo p k := by
  subst h
  match k, hk with
  | 0, _ => rfl
  | 1, _ => rfl
  | 2, _ => rfl
  | 3, _ => rfl
theorem votTo_put {p : Int} {k : Nat} (hk : k < 4) (h : (k : Int) ≠ p) : votTo p (k + 1) = votTo p k ++ [(k : Int)] := by
  unfold votTo
  have e : ([0, 1, 2, 3] : List Int).take (k + 1) = ([0, 1, 2, 3] : List Int).take k ++ [(k : Int)] := by
    match k, hk with
    | 0, _ => rfl
    | 1, _ => rfl
    | 2, _ => rfl
    | 3, _ => rfl
  rw [e, List.filter_append, List.filter_cons, if_pos (by simpa using h)]
  rfl
theorem votTo_len (p : Int) (k : Nat) : (votTo p k).length ≤ 4 := by
  unfold votTo
  have h1 := List.length_filter_le (fun i => decide (i ≠ p)) (([0, 1, 2, 3] : List Int).take k)
  have h2 : (([0, 1, 2, 3] : List Int).take k).length ≤ 4 := List.length_take_le' _ _
  omega

set_option maxRecDepth 100000 in
set_option maxHeartbeats 1000000 in
theorem voters_any (n : Int) (w : World) (h1 : -9223372036854775808 ≤ n) (h2 : n ≤ 9223372036854775807) :
    Calls Try.prog 24 #[.int .i64 n] w fun e w' => ∃ v, e = .returned v ∧ w'.ownsRow w.heap.size 3 1 v (votersL n).length ((votersL n).map (Value.int .i64)) ∧ Below w.heap.size w w' := by
  obtain ⟨r1, r2⟩ := pickedZ_range n 5 (by omega)
  have HV := Lib.hid (show votersL n = votTo (pickedZ n 5) 4 from rfl)
  generalize hp : pickedZ n 5 = p at *
  have HP := Lib.hid hp
  clear hp
  go_enter Try.func24, Try.ntmps24
  go_wp2_with (first
    | (go_at_call 15; refine (picked_any _ _ _ (by omega) (by omega) (by omega) (by omega)).mono ?_; rintro e w' ⟨rfl, rfl⟩; rw [HP.out]))
  go_loopw [4, 5] (fun v i wr => ∃ k : Nat, k ≤ 4 ∧ i = .int .i64 k ∧ wr.ownsRow w.heap.size 3 1 v (votTo p k).length ((votTo p k).map (Value.int .i64)) ∧ Below w.heap.size w wr) (fun _ i _ => 4 - (intOf i).toNat)
  case atStart => exact ⟨0, Nat.zero_le _, rfl, World.ownsRow_nil _ _ _ _, Below.refl _ _⟩
  case round =>
    obtain ⟨k, hk, rfl, hown, hB⟩ := hrel
    have HO := Lib.hid hown
    clear hown
    have hz := hB.size
    by_cases hlt : (k : Int) < 4
    · by_cases e : (k : Int) = p
      · have hb : ((k : Int) != p) = false := by simp [e]
        have HS := Lib.hid (votTo_skip (by omega) e)
        clear e
        go_wp2
        go_roundw
        case rel => exact ⟨k + 1, by omega, by go_num, by rw [HS.out]; exact HO.out, hB⟩
        case measure => simp [intOf]; omega
      · have hb : ((k : Int) != p) = true := by rw [bne_iff_ne]; exact e
        have HS := Lib.hid (votTo_put (by omega) e)
        have hl := votTo_len p k
        clear e
        go_wp2_with (at_builtin; refine wpList_append_sl rfl _ _ 38 rfl elemI w.heap.size _ rfl (votTo p k).length ((votTo p k).map (Value.int .i64)) (HO.out.alloc _) _ rfl 1 [.int .i64 k] (by exact slCells_new _ [_] _ 1 rfl) (by simp [Value.oneCell']) (by unfold maxLen; omega) (by omega) (by simp; omega) ?_; intro v' w' hown' hgr)
        have hB' : Below w.heap.size w w' := (hB.alloc hz _).grown hgr (by simp; omega) (ownBlock_ge HO.out)
        go_roundw
        case rel => exact ⟨k + 1, by omega, by go_num, by rw [HS.out]; simpa using hown', hB'⟩
        case measure => simp [intOf]; omega
    · obtain rfl : k = 4 := by omega
      go_wp2
      go_ret
      exact ⟨_, rfl, by rw [HV.out]; exact HO.out, hB⟩
end Go.Proofs.Ytgkmgdkmafbohaa
/- wire.wide, putDigests, putHeader, putBatch: what they append. -/
set_option linter.unusedVariables false
set_option linter.unusedSimpArgs false
namespace Go.Proofs.Ytgkmgdkmafbohaa
open Go Go.RowKit

def wideL (n : Int) : Bytes := [byteZ (n / 65536), byteZ (n / 256), byteZ n]
set_option maxRecDepth 100000 in
set_option maxHeartbeats 1000000 in
theorem wide_any (base : Nat) (v : Value) (l : Bytes) (n : Int) (w : World) (h : w.ownsRow base 5 1 v l.length (byteVs l)) (hb : base ≤ w.heap.size) (hl : l.length ≤ 1000000) (h0 : 0 ≤ n) (h1 : n ≤ 9223372036854775807) :
    Calls Try.prog 37 #[v, .int .i64 n] w fun e w' => ∃ v', e = .returned v' ∧ AppB base 5 w v w' v' (l ++ wideL n) := by
  go_enter Try.func37, Try.ntmps37
  go_wp2_with (at_builtin; refine wpList_append_at1 rfl _ _ 26 rfl elemB base _ rfl l.length (byteVs l) (by exact ownsRow_below h ((Below.refl _ _).alloc (Nat.le_refl _) _)) _ rfl 3 [.int .u8 (n / 65536 % 256), .int .u8 (n / 256 % 256), .int .u8 (n % 256)] (by exact (BoxAt.new w [_, _, _] _).slCellsN rfl) (by simp [Value.oneCell']) (by decide) (by unfold maxLen; omega) (by omega) (by simp; omega) _ rfl ?_; intro g cap w1 hown hgr hat hlt)
  go_ret
  refine ⟨_, rfl, ?_⟩
  exact AppB.of rfl rfl hown (by simp [byteVs, wideL, byteZ_toNat]) hgr hat rfl ((Below.refl _ _).alloc (Nat.le_refl _) _)

def putDigestsL (l : List Bytes) : Bytes := byteZ l.length :: l.flatten
theorem flatten_take_succ {l : List Bytes} {k : Nat} (h : k < l.length) : (l.take (k + 1)).flatten = (l.take k).flatten ++ l[k] := by
  rw [List.take_succ_eq_append_getElem h, List.flatten_append]; simp
theorem flatten_len {l : List Bytes} (h : ∀ d ∈ l, d.length = 32) : l.flatten.length = 32 * l.length := by
  induction l with
  | nil => rfl
  | cons d t ih =>
    simp only [List.flatten_cons, List.length_append, List.length_cons]
    rw [h d (by simp), ih (fun x hx => h x (by simp [hx]))]; omega
set_option maxRecDepth 100000 in
set_option maxHeartbeats 1000000 in
theorem putDigests_any {G : Nat → Prop} (base : Nat) (v : Value) (l : Bytes) (vd : Value) (ds : List Bytes) (w : World) (h : w.ownsRow base 5 1 v l.length (byteVs l)) (hb : base ≤ w.heap.size) (hl : l.length ≤ 1000000)
    (hd : RdBB G w vd ds) (h32 : ∀ d ∈ ds, d.length = 32) (hn : ds.length ≤ 10) (hG : ∀ b, G b → v.ownBlock ≠ some b) :
    Calls Try.prog 49 #[v, vd] w fun e w' => ∃ v', e = .returned v' ∧ AppB base 5 w v w' v' (l ++ putDigestsL ds) := by
  obtain ⟨ad, cap, rfl, -, -⟩ := hd.form
  have hlow := hd.low (by decide)
  have HLOW := Lib.hid hlow
  have HL32 := Lib.hid h32
  have HGG := Lib.hid hG
  clear hd hlow h32 hG
  go_enter Try.func49, Try.ntmps49
  go_wp2_with (at_builtin; refine wpList_append_at1 rfl _ _ 26 rfl elemB base _ rfl l.length (byteVs l) (by exact ownsRow_below h ((Below.refl _ _).alloc (Nat.le_refl _) _)) _ rfl 1 [.int .u8 (ds.length : Int)] (by exact (BoxAt.new w [_] _).slCellsN rfl) (by simp [Value.oneCell']) (by decide) (by unfold maxLen; omega) (by omega) (by simp; omega) _ rfl ?_; intro g cap1 w1 hown hgr hat hlt)
  have hA : AppB base 5 w v w1 (.slice (some ⟨g, 0, none⟩) (l.length + 1) cap1) (l ++ [byteZ ds.length]) :=
    AppB.of rfl rfl hown (by simp [byteVs, byteZ_toNat]; omega) hgr hat rfl ((Below.refl _ _).alloc (Nat.le_refl _) _)
  have HA := Lib.hid hA
  clear hA hown hgr hat
  go_loopw [0, 15] (fun vw i wr => ∃ k : Nat, k ≤ ds.length ∧ i = .int .i64 k ∧ AppB base 5 w v wr vw (l ++ byteZ ds.length :: (ds.take k).flatten)) (fun _ i _ => ds.length - (intOf i).toNat)
  case atStart => exact ⟨0, Nat.zero_le _, rfl, by simpa using HA.out⟩
  case round =>
    obtain ⟨k, hk, rfl, hR⟩ := hrel
    have HR := Lib.hid hR
    by_cases hlt : k < ds.length
    · have hrd := HLOW.out.keep (G' := fun _ => True) (hR.keep (fun j hj hh => HGG.out _ hh.1 hj)) (fun _ _ => trivial)
      obtain ⟨b, o, vk, rfl, -, hc, hk2⟩ := hrd.cellS k hlt
      obtain ⟨adk, capk, rfl, -, -⟩ := hk2.form
      have h32 := HL32.out ds[k] (List.getElem_mem hlt)
      have HSL := Lib.hid (show SlCells wr (.slice adk ds[k].length capk) ds[k].length 1 (byteVs ds[k]) from hk2.slCells)
      have hfl : ((ds.take k).flatten).length ≤ 320 := by
        rw [flatten_len (fun d hd => HL32.out d (List.mem_of_mem_take hd)), List.length_take]; omega
      have hll : (l ++ byteZ ds.length :: (ds.take k).flatten).length ≤ 1000400 := by simp only [List.length_append, List.length_cons]; omega
      have hs := hR.size
      have HFL := Lib.hid (flatten_take_succ hlt)
      clear hR hrd hk2 hfl
      generalize hD : ds[k] = D at *
      generalize hL : l ++ byteZ ds.length :: (ds.take k).flatten = Lk at *
      have HD := Lib.hid hD
      have HLk := Lib.hid hL
      have d0 : 0 < D.length := by omega
      have d1 : D.length ≤ 32 := by omega
      clear hD hL h32
      go_wp2_with (at_builtin; refine wpList_append_at1 rfl _ _ 26 rfl elemB base _ rfl Lk.length (byteVs Lk) (by exact HR.out.own) _ rfl D.length (byteVs D) (by exact HSL.out) (oneCell_map _ _ (fun _ => rfl)) (by omega) (by unfold maxLen; omega) (by omega) (by omega) _ rfl ?_; intro g2 cap2 w2 hown hgr hat hlt2)
      have hA := HR.out.trans (AppB.of (w := wr) rfl rfl hown rfl hgr hat rfl (Below.refl _ _))
      have HA2 := Lib.hid hA
      clear hA hown hgr hat
      go_wp2_with fail
      go_roundw
      case rel => exact ⟨k + 1, by omega, by go_num, by rw [HFL.out, show l ++ byteZ ds.length :: ((ds.take k).flatten ++ D) = Lk ++ D by rw [← HLk.out]; simp]; exact HA2.out⟩
      case measure => simp [intOf]; omega
    · have hke : k = ds.length := by omega
      subst hke
      rw [List.take_length] at HR
      go_wp2
      go_ret
      exact ⟨_, rfl, HR.out⟩
end Go.Proofs.Ytgkmgdkmafbohaa
/- A list that is read, as the cells that an append takes. No program is named. -/
set_option linter.unusedVariables false
set_option linter.unusedSimpArgs false
namespace Go.Proofs.Ytgkmgdkmafbohaa
open Go Go.RowKit

theorem flatMap_drop {α : Type} {s : Nat} {f : Nat → List α} (hf : ∀ j, (f j).length = s) : ∀ (n k : Nat), k ≤ n → ((List.range n).flatMap f).drop (k * s) = ((List.range' k (n - k)).flatMap f)
  | n, 0, _ => by simp [List.range_eq_range']
  | n, k + 1, h => by
    have ih := flatMap_drop hf n k (by omega)
    have e : (k + 1) * s = k * s + s := by rw [Nat.add_mul, Nat.one_mul]
    rw [e, ← List.drop_drop, ih]
    have hk : n - k = (n - (k + 1)) + 1 := by omega
    rw [hk, List.range'_succ, List.flatMap_cons]
    rw [List.drop_append_of_le_length (by rw [hf]; exact Nat.le_refl _), List.drop_of_length_le (by rw [hf]; exact Nat.le_refl _), List.nil_append]
theorem flatMap_len {α : Type} {s : Nat} {f : Nat → List α} (hf : ∀ j, (f j).length = s) (n : Nat) : ((List.range n).flatMap f).length = n * s := by
  induction n with
  | zero => simp
  | succ n ih => rw [List.range_succ, List.flatMap_append, List.length_append, ih]; simp [hf, Nat.add_mul]
theorem flatMap_at {α : Type} {s : Nat} {f : Nat → List α} (hf : ∀ j, (f j).length = s) {n k : Nat} (hk : k < n) : (((List.range n).flatMap f).drop (k * s)).take s = f k := by
  rw [flatMap_drop hf n k (by omega)]
  have e : n - k = (n - (k + 1)) + 1 := by omega
  rw [e, List.range'_succ, List.flatMap_cons, List.take_append_of_le_length (by rw [hf]; exact Nat.le_refl _), List.take_of_length_le (by rw [hf]; exact Nat.le_refl _)]

/-- All cells of a list that is read. -/
theorem RdS.flatOf {α : Type} {R : Rel α} {G : Nat → Prop} {w : World} {v : Value} {l : List α} (h : RdS R G w v l) (hs : 0 < R.size) (h1 : ∀ {G w cs x}, R.rd G w cs x → ∀ u ∈ cs, u.oneCell' = true) :
    ∃ vals, SlCells w v l.length R.size vals ∧ (∀ j x, l[j]? = some x → R.rd G w ((vals.drop (j * R.size)).take R.size) x) ∧ ∀ u ∈ vals, u.oneCell' = true := by
  obtain ⟨ad, cap, rfl, k1, k2, k0, h3⟩ := h
  have hex : ∀ j : Nat, ∃ cs : List Value, cs.length = R.size ∧ ∀ x, l[j]? = some x → R.rd G w cs x ∧ ∃ b o, ad = some ⟨b, o, none⟩ ∧ ∀ t c, cs[t]? = some c → w.cell? ⟨b, o + (j * R.size + t), none⟩ = some c := by
    intro j
    rcases hx : l[j]? with _ | x
    · exact ⟨List.replicate R.size undef, by simp, fun x hx => by simp at hx⟩
    · obtain ⟨b, o, cs, ha, hb, hc, hr⟩ := h3 j x hx
      exact ⟨cs, R.len hr, fun y hy => by obtain rfl := Option.some.inj hy; exact ⟨hr, b, o, ha, hc⟩⟩
  obtain ⟨f, hf⟩ : ∃ f : Nat → List Value, ∀ j, (f j).length = R.size ∧ ∀ x, l[j]? = some x → R.rd G w (f j) x ∧ ∃ b o, ad = some ⟨b, o, none⟩ ∧ ∀ t c, (f j)[t]? = some c → w.cell? ⟨b, o + (j * R.size + t), none⟩ = some c :=
    ⟨fun j => (hex j).choose, fun j => (hex j).choose_spec⟩
  have hfl : ∀ j, (f j).length = R.size := fun j => (hf j).1
  refine ⟨(List.range l.length).flatMap f, ⟨ad, cap, rfl, fun h => ?_, flatMap_len hfl _, fun j u hj => ?_⟩, fun j x hx => ?_, fun u hu => ?_⟩
  · have := k0 h; omega
  · have hjl : j < l.length * R.size := by
      rcases Nat.lt_or_ge j (l.length * R.size) with h | h
      · exact h
      · rw [List.getElem?_eq_none (by rw [flatMap_len hfl]; exact h)] at hj; simp at hj
    have hq : j / R.size < l.length := (Nat.div_lt_iff_lt_mul hs).2 hjl
    have hr : j % R.size < R.size := Nat.mod_lt _ hs
    have hdec : (j / R.size) * R.size + j % R.size = j := by rw [Nat.mul_comm]; exact Nat.div_add_mod j R.size
    have hat := flatMap_at hfl hq
    have h1 : (f (j / R.size))[j % R.size]? = some u := by
      rw [← hat, List.getElem?_take_of_lt hr, List.getElem?_drop, hdec]; exact hj
    obtain ⟨_, b, o, ha, hc⟩ := (hf (j / R.size)).2 _ (List.getElem?_eq_getElem hq)
    refine ⟨b, o, ha, ?_⟩
    have := hc _ _ h1
    rw [hdec] at this
    exact this
  · have hjl : j < l.length := by
      rcases Nat.lt_or_ge j l.length with h | h
      · exact h
      · simp [List.getElem?_eq_none h] at hx
    rw [flatMap_at hfl hjl]
    exact ((hf j).2 x hx).1
  · obtain ⟨j, hj, hu⟩ := List.mem_flatMap.1 hu
    have hjl : j < l.length := by simpa using hj
    exact h1 ((hf j).2 _ (List.getElem?_eq_getElem hjl)).1 u hu

/-- Behind 'append(nil, v...)'. -/
theorem LstO.ofAppend {α : Type} {R : Rel α} {G : Nat → Prop} {e : Nat} {w w' : World} {l : List α} {vals : List Value} {g cap : Nat} {row : Option Nat}
    (h2 : ∀ j x, l[j]? = some x → R.rd (fun b => G b ∧ b < w.heap.size) w ((vals.drop (j * R.size)).take R.size) x)
    (hown : w'.ownsRow w.heap.size e R.size (.slice (some ⟨g, 0, none⟩) l.length cap) l.length vals) (hgr : w.grownBy w' row) (hrow : row = none) (hg : w.heap.size ≤ g) :
    LstO R (fun b => G b ∧ b < w.heap.size) w.heap.size e w' (.slice (some ⟨g, 0, none⟩) l.length cap) l := by
  subst hrow
  refine ⟨vals, hown, fun j x hx => R.keep (h2 j x hx) (Keep.grown hgr (fun k hk => by simp at hk)) (fun b hb => ⟨hb, Nat.lt_of_lt_of_le hb.2 hgr.size, ?_⟩)⟩
  simp only [Value.ownBlock, ne_eq, Option.some.injEq]
  omega
theorem LstV.ofAppend {α : Type} {R : Rel α} {G : Nat → Prop} {e H : Nat} {w w' : World} {l : List α} {vals : List Value} {g cap : Nat} {row : Option Nat}
    (h2 : ∀ j x, l[j]? = some x → R.rd (fun b => G b ∧ b < H) w ((vals.drop (j * R.size)).take R.size) x) (hH : H ≤ w.heap.size)
    (hown : w'.ownsRow H e R.size (.slice (some ⟨g, 0, none⟩) l.length cap) l.length vals) (hgr : w.grownBy w' row) (hrow : row = none) (hg : H ≤ g) :
    LstV R (fun b => (G b ∧ b < H) ∨ H ≤ b) H e w' (.slice (some ⟨g, 0, none⟩) l.length cap) l vals := by
  subst hrow
  refine ⟨hown, fun j x hx => R.keep (h2 j x hx) (Keep.grown hgr (fun k hk => by simp at hk)) (fun b hb => ⟨.inl hb, by have := hgr.size; omega, ?_⟩)⟩
  simp only [Value.ownBlock, ne_eq, Option.some.injEq]
  omega
theorem SlCells.some {w : World} {vx : Value} {m size : Nat} {news : List Value} (h : SlCells w vx m size news) (hm : 0 < m) : ∃ ad c, vx = .slice (some ad) m c ∧ news.length = m * size ∧ ∀ j u, news[j]? = some u → w.cell? (ad.add j) = some u := by
  obtain ⟨ad, c, rfl, h0, hl, hc⟩ := h
  rcases ad with _ | ad
  · have := (h0 rfl).2; omega
  · refine ⟨ad, c, rfl, hl, fun j u hj => ?_⟩
    obtain ⟨b, o, ha, hcell⟩ := hc j u hj
    simp only [Option.some.injEq] at ha
    subst ha
    unfold Addr.add
    split
    · rename_i h; subst h; simpa using hcell
    · exact hcell
/-- append of a list that is read, at a step of a region that draws. -/
theorem step_append_at1 {P : Program} {w : World} {ops : Array Oper} {o : Oper} {a : Act} {K : Act → World → Prop} {Q : Exit → Act → World → Prop} {E : Prop} (hgd : Region.wanted o (yielded ops a.tmps) = true) (s x : Operand) (t : TypeId)
    (ho : o.op = .call { callee := .builtin .append, args := #[s, x], argTypes := #[t, t] })
    {e : TypeId} {size bytes : Nat} (hE : ElemOk P t e size bytes) (base : Nat) (vs : Value) (n : Nat) (xs : List Value) (hs : a.eval s = vs) (hown : w.ownsRow base e size vs n xs)
    (vx : Value) (m : Nat) (news : List Value) (hvx : a.eval x = vx) (hx : SlCells w vx m size news) (h1 : ∀ u ∈ news, u.oneCell' = true) (hm : 0 < m) (h63 : n + m ≤ maxLen) (hbytes : (n + m) * bytes ≤ 140737488355328) (hbase : base ≤ w.heap.size)
    (h : ∀ g cap w', w'.ownsRow base e size (.slice (some ⟨g, 0, none⟩) (n + m) cap) (n + m) (xs ++ news) → w.grownBy w' vs.ownBlock → (vs.ownBlock = some g ∨ g = w.heap.size) → g < w'.heap.size → K (a.put o.dst (.slice (some ⟨g, 0, none⟩) (n + m) cap)) w') :
    if Region.wanted o (yielded ops a.tmps) = true then Oper.wp P o a w K Q else E := by
  rw [if_pos hgd]
  obtain ⟨ht, i, z, hi, hz, hsize, hby, hzs, hsz⟩ := hE
  obtain ⟨ad, c, rfl, hl, hc⟩ := hx.some hm
  exact wp_append_lies w s x t ho base e i z size bytes ht hi hz hsize hby hzs hsz vs n xs hs hown ad m c news hvx hl hc h1 hm h63 hbytes hbase _ rfl h
/-- append of one element there, whatever its guard. -/
theorem step_append_oneG {P : Program} {w : World} {ops : Array Oper} {o : Oper} {a : Act} {K : Act → World → Prop} {Q : Exit → Act → World → Prop} {E : Prop} (hgd : Region.wanted o (yielded ops a.tmps) = true) (s x : Operand) (t : TypeId)
    (ho : o.op = .call { callee := .builtin .append, args := #[s, x], argTypes := #[t, t] })
    {e : TypeId} {size bytes : Nat} (hE : ElemOk P t e size bytes) (base : Nat) (v : Value) (n : Nat) (xs : List Value) (hs : a.eval s = v) (hown : w.ownsRow base e size v n xs)
    (b : Nat) (T : TypeId) (cs : List Value) (hx : a.eval x = .slice (some ⟨b, 0, none⟩) 1 1) (hbox : BoxAt w b cs T) (hl : cs.length = size) (h1 : ∀ u ∈ cs, u.oneCell' = true)
    (h63 : n + 1 ≤ maxLen) (hbytes : (n + 1) * bytes ≤ 140737488355328) (hbase : base ≤ w.heap.size)
    (h : ∀ g cap w', w'.ownsRow base e size (.slice (some ⟨g, 0, none⟩) (n + 1) cap) (n + 1) (xs ++ cs) → w.grownBy w' v.ownBlock → (v.ownBlock = some g ∨ g = w.heap.size) → g < w'.heap.size → K (a.put o.dst (.slice (some ⟨g, 0, none⟩) (n + 1) cap)) w') :
    if Region.wanted o (yielded ops a.tmps) = true then Oper.wp P o a w K Q else E := by
  rw [if_pos hgd]
  obtain ⟨ht, i, z, hi, hz, hsize, hby, hzs, hsz⟩ := hE
  exact wp_append_lies w s x t ho base e i z size bytes ht hi hz hsize hby hzs hsz v n xs hs hown ⟨b, 0, none⟩ 1 1 cs hx (by omega) hbox.newsAt h1 (by omega) h63 hbytes hbase _ rfl h
end Go.Proofs.Ytgkmgdkmafbohaa
/- wire.putHeader, putBatch: what they append. -/
set_option linter.unusedVariables false
set_option linter.unusedSimpArgs false
namespace Go.Proofs.Ytgkmgdkmafbohaa
open Go Go.RowKit

def putHeaderL (h : Hdr) : Bytes := byteZ h.a :: (wideL h.r ++ (putDigestsL h.bs ++ putDigestsL h.ps))
theorem putDigestsL_len {l : List Bytes} (h : ∀ d ∈ l, d.length = 32) (hn : l.length ≤ 10) : (putDigestsL l).length ≤ 321 := by
  unfold putDigestsL; rw [List.length_cons, flatten_len h]; omega
theorem u8_wrap (a : Int) : IntKind.u8.wrap a = a % 256 := by first | rfl | simp [IntKind.wrap] | (unfold IntKind.wrap; simp)
set_option maxRecDepth 100000 in
set_option maxHeartbeats 4000000 in
theorem putHeader_any {G : Nat → Prop} (base : Nat) (v : Value) (l : Bytes) (a r : Int) (vb vp : Value) (bs ps : List Bytes) (w : World) (h : w.ownsRow base 5 1 v l.length (byteVs l)) (hb : base ≤ w.heap.size) (hl : l.length ≤ 1000)
    (hB : RdBB G w vb bs) (hP : RdBB G w vp ps) (h1 : ∀ d ∈ bs, d.length = 32) (h2 : ∀ d ∈ ps, d.length = 32) (n1 : bs.length ≤ 10) (n2 : ps.length ≤ 10) (hG : ∀ b, G b → v.ownBlock ≠ some b) (a0 : 0 ≤ a) (a1 : a < 4) (r0 : 0 ≤ r) (r1 : r ≤ 1048576) :
    Calls Try.prog 36 #[v, .agg #[.int .i64 a, .int .i64 r, vb, vp]] w fun e w' => ∃ v', e = .returned v' ∧ AppB base 5 w v w' v' (l ++ putHeaderL ⟨a, r, bs, ps⟩) := by
  obtain ⟨adb, capb, rfl, -, -⟩ := hB.form
  obtain ⟨adp, capp, rfl, -, -⟩ := hP.form
  have hblt : ∀ k, v.ownBlock = some k → base ≤ k ∧ k < w.heap.size := h.lt
  obtain ⟨w1, hw1⟩ : ∃ w1, w1 = w.alloc (.cells #[.int .i64 a, .int .i64 r, .slice adb bs.length capb, .slice adp ps.length capp] 37) := ⟨_, rfl⟩
  have hbw : Below w.heap.size w w1 := by rw [hw1]; exact (Below.refl _ _).alloc (Nat.le_refl _) _
  have bx : BoxAt w1 w.heap.size [.int .i64 a, .int .i64 r, .slice adb bs.length capb, .slice adp ps.length capp] 37 := by rw [hw1]; exact BoxAt.new w [_, _, _, _] _
  have HO := Lib.hid (ownsRow_below h hbw)
  have HBW := Lib.hid hbw
  have HBX := Lib.hid bx
  have HB := Lib.hid ((hB.low (by decide)).below hbw (fun _ h => h))
  have HP := Lib.hid ((hP.low (by decide)).below hbw (fun _ h => h))
  have HG' := Lib.hid (show ∀ b, (G b ∧ b < w.heap.size) → v.ownBlock ≠ some b from fun b hb => hG b hb.1)
  have hXv : v.ownBlock ≠ some w.heap.size := fun e => by have := (hblt _ e).2; omega
  have hb' : base ≤ w1.heap.size := by have := hbw.size; omega
  have H1 := Lib.hid h1
  have H2 := Lib.hid h2
  have x0 := bx.cell 0 rfl
  have x1 := bx.cell 1 rfl
  have x2 := bx.cell 2 rfl
  have x3 := bx.cell 3 rfl
  have hw3 : (wideL r).length = 3 := rfl
  have L1 := Lib.hid (show (l ++ [byteZ a]).length ≤ 1000000 by rw [List.length_append]; show l.length + 1 ≤ 1000000; omega)
  have L2 := Lib.hid (show (l ++ [byteZ a] ++ wideL r).length ≤ 1000000 by rw [List.length_append, List.length_append, hw3]; show l.length + 1 + 3 ≤ 1000000; omega)
  have L3 := Lib.hid (show (l ++ [byteZ a] ++ wideL r ++ putDigestsL bs).length ≤ 1000000 by
    have := putDigestsL_len h1 n1
    rw [List.length_append, List.length_append, List.length_append, hw3]; show l.length + 1 + 3 + _ ≤ 1000000; omega)
  clear hw3
  go_enter Try.func36, Try.ntmps36
  go_upto_region 1 with fail
  rw [← hw1]
  clear hw1 bx hbw h hB hP hG h1 h2
  go_region_held3 (fun w' => w'.cell? ⟨w.heap.size, 0, none⟩ = some (.int .i64 a) ∧ w'.cell? ⟨w.heap.size, 1, none⟩ = some (.int .i64 r) ∧ w'.cell? ⟨w.heap.size, 2, none⟩ = some (.slice adb bs.length capb) ∧ w'.cell? ⟨w.heap.size, 3, none⟩ = some (.slice adp ps.length capp)) (go_keep)
    (first
      | (refine step_append_at1 (by rfl) _ _ _ (by rfl) elemB base v l.length (byteVs l) (by rfl) (by exact ownsRow_below HO.out (by repeat (first | with_reducible exact Below.refl _ _ | with_reducible refine Below.drew ?_ | with_reducible refine Below.alloc ?_ (by first | omega | (simp <;> omega)) _))) _ 1 [.int .u8 (IntKind.u8.wrap a)] (by rfl) (by first | exact (BoxAt.new _ [_] _).slCellsN rfl | exact ((BoxAt.new _ [_] _).drew).slCellsN rfl) (by simp [Value.oneCell']) (by decide) (by unfold maxLen; omega) (by omega) (by first | omega | (simp; omega)) ?_;
          intro g cap w2 hown hgr hat hlt;
          have hA : AppB base 5 w1 v w2 (.slice (some ⟨g, 0, none⟩) (l.length + 1) cap) (l ++ [byteZ a]) := (AppB.of rfl rfl hown (by simp [byteVs, byteZ_toNat, u8_wrap]) hgr hat rfl (by repeat (first | with_reducible exact Below.refl _ _ | with_reducible refine Below.drew ?_ | with_reducible refine Below.alloc ?_ (by first | omega | (simp <;> omega)) _)));
          have HA := Lib.hid hA; have bx2 := hA.box HBX.out hXv; have y0 := bx2.cell 0 rfl; have y1 := bx2.cell 1 rfl; have y2 := bx2.cell 2 rfl; have y3 := bx2.cell 3 rfl; have s2 := hA.size; clear hA hown hgr hat bx2)
      | (go_at_call 37; refine (wide_any base _ (l ++ [byteZ a]) r _ HA.out.own (by omega) L1.out r0 (by omega)).mono ?_; rintro e w3 ⟨v3, rfl, hA3⟩; have hA := HA.out.trans hA3; have HA3 := Lib.hid hA; have bx3 := hA.box HBX.out hXv; have z0 := bx3.cell 0 rfl; have z1 := bx3.cell 1 rfl; have z2 := bx3.cell 2 rfl; have z3 := bx3.cell 3 rfl; have s3 := hA.size; clear hA hA3 bx3)
      | (go_at_call 49; refine (putDigests_any (ds := ps) base _ (l ++ [byteZ a] ++ wideL r ++ putDigestsL bs) _ _ HA4.out.own (by omega) L3.out (HP.out.keep (HA4.out.keepG HG'.out) (fun _ h => h)) H2.out n2 (fun b hb => HA4.out.apart HG'.out b ⟨hb, Nat.lt_of_lt_of_le hb.2 HBW.out.size⟩)).mono ?_; rintro e w5 ⟨v5, rfl, hA5⟩; have hA := HA4.out.trans hA5; have HA5 := Lib.hid hA; have bx5 := hA.box HBX.out hXv; have q0 := bx5.cell 0 rfl; have q1 := bx5.cell 1 rfl; have q2 := bx5.cell 2 rfl; have q3 := bx5.cell 3 rfl; clear hA hA5 bx5)
      | (go_at_call 49; refine (putDigests_any (ds := bs) base _ (l ++ [byteZ a] ++ wideL r) _ _ HA3.out.own (by omega) L2.out (HB.out.keep (HA3.out.keepG HG'.out) (fun _ h => h)) H1.out n1 (fun b hb => HA3.out.apart HG'.out b ⟨hb, Nat.lt_of_lt_of_le hb.2 HBW.out.size⟩)).mono ?_; rintro e w4 ⟨v4, rfl, hA4⟩; have hA := HA3.out.trans hA4; have HA4 := Lib.hid hA; have bx4 := hA.box HBX.out hXv; have p0 := bx4.cell 0 rfl; have p1 := bx4.cell 1 rfl; have p2 := bx4.cell 2 rfl; have p3 := bx4.cell 3 rfl; have s4 := hA.size; clear hA hA4 bx4))
  all_goals
    go_wp2
    go_ret
    exact ⟨_, rfl, (AppB.before HBW.out HA5.out).list (by simp [putHeaderL])⟩
end Go.Proofs.Ytgkmgdkmafbohaa
/- A string's bytes appended to a row that is there, and where the new slice lies. No program is named. -/
set_option linter.unusedVariables false
set_option linter.unusedSimpArgs false
namespace Go.Proofs.Ytgkmgdkmafbohaa
open Go Go.RowKit

theorem strCells_bytes (s : Bytes) : Lib.strCells ⟨s.toArray⟩ = byteVs s := by unfold Lib.strCells byteVs; simp
theorem strSize (s : Bytes) : (⟨s.toArray⟩ : ByteArray).size = s.length := rfl
theorem run_append_str_at {P : Program} (w : World) (base : Nat) (t u ty e : TypeId) (i : TypeInfo) (ht : P.underlying t = some (.slice e)) (hu : P.underlying u = some .string) (hi : P.info? e = some i) (hz : i.zero = some (.int .u8 0))
    (hsize : i.size = 1) (hby : i.bytes = 1) (g0 cap0 n : Nat) (xs : List Value) (hown : w.ownsRow base e 1 (.slice (some ⟨g0, 0, none⟩) n cap0) n xs) (s : Bytes)
    (h63 : n + s.length ≤ 9223372036854775807) (hbytes : n + s.length ≤ 140737488355328) (hbase : base ≤ w.heap.size) :
    ∃ g cap w', (Builtin.append_ #[t, u] ty #[.slice (some ⟨g0, 0, none⟩) n cap0, .string ⟨s.toArray⟩]).run P w = .ok (.slice (some ⟨g, 0, none⟩) (n + s.length) cap) w' ∧
      w'.ownsRow base e 1 (.slice (some ⟨g, 0, none⟩) (n + s.length) cap) (n + s.length) (xs ++ byteVs s) ∧ w.grownBy w' (some g0) ∧ (g = g0 ∨ g = w.heap.size) := by
  obtain ⟨v', w', hr, h2, h3, -⟩ := Lib.run_append_own_string (P := P) w base t u ty e i ht hu hi hz hsize hby _ n xs hown ⟨s.toArray⟩ (by unfold maxLen; rw [strSize]; omega) (by rw [strSize]; exact hbytes) hbase
  rw [strSize, strCells_bytes] at h2
  by_cases hroom : n + s.length ≤ cap0
  · obtain ⟨g, cap, cur, hv, -, hg, -, -, hcs, -⟩ : ∃ g cap cur, (Value.slice (some ⟨g0, 0, none⟩) n cap0 : Value) = .slice (some ⟨g, 0, none⟩) n cap ∧ base ≤ g ∧ w.heap[g]? = some (.cells cur e (0, 0)) ∧ n ≤ cap ∧ cap ≤ maxLen ∧ cur.size = cap * 1 ∧ cur.toList.take (n * 1) = xs := by
      rcases hown.2 with ⟨h, -⟩ | h
      · simp at h
      · exact h
    simp only [Value.slice.injEq, Option.some.injEq, Addr.mk.injEq, and_true] at hv
    obtain ⟨rfl, -, rfl⟩ := hv
    have hr' := Lib.run_append_room_string (P := P) w t u ty e i ht hu hi hsize g0 n cap0 cur hg ⟨s.toArray⟩ (by rw [strSize]; exact hroom) (by rw [strSize]; omega)
    rw [strSize] at hr'
    have he := hr.symm.trans hr'
    simp only [Result.ok.injEq] at he
    obtain ⟨e1, e2⟩ := he
    subst e1
    exact ⟨g0, cap0, w', hr, h2, h3, .inl rfl⟩
  · have hr' := Lib.run_append_grow_string (P := P) w t u ty e i (.int .u8 0) ht hu hi hz ⟨g0, 0, none⟩ n cap0 xs (by rw [hsize]; simpa using hown.1) (hown.cells rfl) ⟨s.toArray⟩ (by rw [strSize]; omega) (by rw [strSize]; omega) (by rw [hby, strSize]; exact growslice_fits (by omega) (by omega))
    rw [strSize] at hr'
    have he := hr.symm.trans hr'
    simp only [Result.ok.injEq] at he
    obtain ⟨e1, e2⟩ := he
    subst e1
    exact ⟨_, _, w', hr, h2, h3, .inr rfl⟩
/-- The operation, for the walk. -/
theorem wpList_append_strat {P : Program} {w : World} {ops : Array Oper} {rest : List Oper} {o : Oper} {a : Act} {Q : Exit → Act → World → Prop} (hgd : o.guard = none) (sl x : Operand) (t u : TypeId)
    (ho : o.op = .call { callee := .builtin .append, args := #[sl, x], argTypes := #[t, u] })
    {e : TypeId} (hE : ElemOk P t e 1 1) (hz : (P.info? e).map (fun i => i.zero) = some (some (.int .u8 0))) (hu : P.underlying u = some .string) (base : Nat)
    (g0 cap0 n : Nat) (hs : a.eval sl = .slice (some ⟨g0, 0, none⟩) n cap0) (xs : List Value) (hown : w.ownsRow base e 1 (.slice (some ⟨g0, 0, none⟩) n cap0) n xs) (s : Bytes) (hx : a.eval x = .string ⟨s.toArray⟩)
    (h63 : n + s.length ≤ 9223372036854775807) (hbytes : n + s.length ≤ 140737488355328) (hbase : base ≤ w.heap.size)
    (h : ∀ g cap w', w'.ownsRow base e 1 (.slice (some ⟨g, 0, none⟩) (n + s.length) cap) (n + s.length) (xs ++ byteVs s) → w.grownBy w' (some g0) → (g = g0 ∨ g = w.heap.size) → wpList P ops Q rest (a.put o.dst (.slice (some ⟨g, 0, none⟩) (n + s.length) cap)) w') : wpList P ops Q (o :: rest) a w := by
  obtain ⟨ht, i, z, hi, hzz, hsize, hby, -, -⟩ := hE
  have hz' : i.zero = some (.int .u8 0) := by rw [hi] at hz; simpa using hz
  refine wpList_plain hgd fun K hK => ?_
  obtain ⟨g, cap, w', hr, h2, h3, h4⟩ := run_append_str_at (P := P) w base t u o.type e i ht hu hi hz' hsize hby g0 cap0 n xs hown s h63 hbytes hbase
  unfold Oper.wp execOp
  simp only [ho, resolve, invoke, builtin, Sem.run_bind, Sem.run_pure, Result.andThen_ok, List.map_toArray, List.map_cons, List.map_nil, hs, hx, hr]
  exact hK _ _ (h g cap w' h2 h3 h4)
/-- The same at a step of a region that draws. -/
theorem step_append_strat {P : Program} {w : World} {ops : Array Oper} {o : Oper} {a : Act} {K : Act → World → Prop} {Q : Exit → Act → World → Prop} {E : Prop} (hgd : Region.wanted o (yielded ops a.tmps) = true) (sl x : Operand) (t u : TypeId)
    (ho : o.op = .call { callee := .builtin .append, args := #[sl, x], argTypes := #[t, u] })
    {e : TypeId} (hE : ElemOk P t e 1 1) (hz : (P.info? e).map (fun i => i.zero) = some (some (.int .u8 0))) (hu : P.underlying u = some .string) (base : Nat)
    (g0 cap0 n : Nat) (hs : a.eval sl = .slice (some ⟨g0, 0, none⟩) n cap0) (xs : List Value) (hown : w.ownsRow base e 1 (.slice (some ⟨g0, 0, none⟩) n cap0) n xs) (s : Bytes) (hx : a.eval x = .string ⟨s.toArray⟩)
    (h63 : n + s.length ≤ 9223372036854775807) (hbytes : n + s.length ≤ 140737488355328) (hbase : base ≤ w.heap.size)
    (h : ∀ g cap w', w'.ownsRow base e 1 (.slice (some ⟨g, 0, none⟩) (n + s.length) cap) (n + s.length) (xs ++ byteVs s) → w.grownBy w' (some g0) → (g = g0 ∨ g = w.heap.size) → K (a.put o.dst (.slice (some ⟨g, 0, none⟩) (n + s.length) cap)) w') :
    if Region.wanted o (yielded ops a.tmps) = true then Oper.wp P o a w K Q else E := by
  rw [if_pos hgd]
  obtain ⟨ht, i, z, hi, hzz, hsize, hby, -, -⟩ := hE
  have hz' : i.zero = some (.int .u8 0) := by rw [hi] at hz; simpa using hz
  obtain ⟨g, cap, w', hr, h2, h3, h4⟩ := run_append_str_at (P := P) w base t u o.type e i ht hu hi hz' hsize hby g0 cap0 n xs hown s h63 hbytes hbase
  unfold Oper.wp execOp
  simp only [ho, resolve, invoke, builtin, Sem.run_bind, Sem.run_pure, Result.andThen_ok, List.map_toArray, List.map_cons, List.map_nil, hs, hx, hr]
  exact h g cap w' h2 h3 h4
theorem AppB.ofStr {base e : Nat} {w w' : World} {l s : Bytes} {g g0 cap cap0 n : Nat} (hn : l.length = n) (hown : w'.ownsRow base e 1 (.slice (some ⟨g, 0, none⟩) (n + s.length) cap) (n + s.length) (byteVs l ++ byteVs s))
    (hgr : w.grownBy w' (some g0)) (hat : g = g0 ∨ g = w.heap.size) : AppB base e w (.slice (some ⟨g0, 0, none⟩) n cap0) w' (.slice (some ⟨g, 0, none⟩) (n + s.length) cap) (l ++ s) :=
  AppB.of (w := w) (H := w.heap.size) hn rfl hown rfl hgr (hat.imp (fun h => by rw [h]; rfl) id) rfl (Below.refl _ _)
end Go.Proofs.Ytgkmgdkmafbohaa
/- wire.putBatch: what it appends. -/
set_option linter.unusedVariables false
set_option linter.unusedSimpArgs false
namespace Go.Proofs.Ytgkmgdkmafbohaa
open Go Go.RowKit

theorem info_u8z : (Try.prog.info? 5).map (fun i => i.zero) = some (some (.int .u8 0)) := by kernel_rfl
def putTxs (l : List Bytes) : Bytes := (l.map fun t => byteZ t.length :: t).flatten
def putBatchL (b : Bat) : Bytes := byteZ b.a :: (wideL b.n ++ (byteZ b.txs.length :: putTxs b.txs))
theorem putTxs_succ {l : List Bytes} {k : Nat} (h : k < l.length) : putTxs (l.take (k + 1)) = putTxs (l.take k) ++ (byteZ l[k].length :: l[k]) := by
  unfold putTxs
  rw [List.take_succ_eq_append_getElem h, List.map_append, List.flatten_append]; simp
theorem putTxs_len : ∀ {l : List Bytes}, (∀ t ∈ l, txLen t = true) → (putTxs l).length ≤ 21 * l.length
  | [], _ => by simp [putTxs]
  | t :: l, h => by
    have ih := putTxs_len (l := l) (fun x hx => h x (by simp [hx]))
    have ht := h t (by simp)
    unfold txLen at ht
    simp only [decide_eq_true_eq] at ht
    have e : putTxs (t :: l) = (byteZ t.length :: t) ++ putTxs l := rfl
    rw [e, List.length_append, List.length_cons, List.length_cons]; omega
set_option maxRecDepth 100000 in
set_option maxHeartbeats 4000000 in
theorem putBatch_any {G : Nat → Prop} (base : Nat) (v : Value) (l : Bytes) (a n : Int) (vt : Value) (txs : List Bytes) (w : World) (h : w.ownsRow base 5 1 v l.length (byteVs l)) (hb : base ≤ w.heap.size) (hl : l.length ≤ 1000)
    (hT : RdT G w vt txs) (h1 : ∀ t ∈ txs, txLen t = true) (n1 : txs.length ≤ 4) (hG : ∀ b, G b → v.ownBlock ≠ some b) (a0 : 0 ≤ a) (a1 : a < 4) (r0 : 0 ≤ n) (r1 : n ≤ 1048576) :
    Calls Try.prog 35 #[v, .agg #[.int .i64 a, .int .i64 n, vt]] w fun e w' => ∃ v', e = .returned v' ∧ AppB base 5 w v w' v' (l ++ putBatchL ⟨a, n, txs⟩) := by
  obtain ⟨adt, capt, rfl, -, -⟩ := hT.form
  have hblt : ∀ k, v.ownBlock = some k → base ≤ k ∧ k < w.heap.size := h.lt
  obtain ⟨w1, hw1⟩ : ∃ w1, w1 = w.alloc (.cells #[.int .i64 a, .int .i64 n, .slice adt txs.length capt] 34) := ⟨_, rfl⟩
  have hbw : Below w.heap.size w w1 := by rw [hw1]; exact (Below.refl _ _).alloc (Nat.le_refl _) _
  have bx : BoxAt w1 w.heap.size [.int .i64 a, .int .i64 n, .slice adt txs.length capt] 34 := by rw [hw1]; exact BoxAt.new w [_, _, _] _
  have HO := Lib.hid (ownsRow_below h hbw)
  have HBW := Lib.hid hbw
  have HBX := Lib.hid bx
  have HT := Lib.hid ((hT.low (by decide)).below hbw (fun _ h => h))
  have HG' := Lib.hid (show ∀ b, (G b ∧ b < w.heap.size) → v.ownBlock ≠ some b from fun b hb => hG b hb.1)
  have hXv : v.ownBlock ≠ some w.heap.size := fun e => by have := (hblt _ e).2; omega
  have hne : ∀ b, w1.heap.size ≤ b → v.ownBlock ≠ some b := fun b hb e => by have := (hblt _ e).2; have := hbw.size; omega
  have HNE := Lib.hid hne
  have hb' : base ≤ w1.heap.size := by have := hbw.size; omega
  have H1 := Lib.hid h1
  have x0 := bx.cell 0 rfl
  have x1 := bx.cell 1 rfl
  have x2 := bx.cell 2 rfl
  have hw3 : (wideL n).length = 3 := rfl
  have L1 := Lib.hid (show (l ++ [byteZ a]).length ≤ 1000000 by rw [List.length_append]; show l.length + 1 ≤ 1000000; omega)
  have hL2 : (l ++ [byteZ a] ++ wideL n).length ≤ 1004 := by rw [List.length_append, List.length_append, hw3]; show l.length + 1 + 3 ≤ 1004; omega
  clear hw3
  go_enter Try.func35, Try.ntmps35
  go_upto_region 1 with fail
  rw [← hw1]
  clear hw1 bx hbw h hT hG h1 hne
  generalize hL2e : l ++ [byteZ a] ++ wideL n = M2 at *
  have HL2E := Lib.hid hL2e
  clear hL2e
  go_cut [0] (fun u wx => AppB base 5 w1 v wx u (l ++ byteZ a :: (wideL n ++ [byteZ txs.length])))
  case first =>
    go_region_held3 (fun w' => w'.cell? ⟨w.heap.size, 0, none⟩ = some (.int .i64 a) ∧ w'.cell? ⟨w.heap.size, 1, none⟩ = some (.int .i64 n) ∧ w'.cell? ⟨w.heap.size, 2, none⟩ = some (.slice adt txs.length capt)) (go_keep)
      (first
        | (refine step_append_at1 (by rfl) _ _ _ (by rfl) elemB base v3 M2.length (byteVs M2) (by rfl) (by first | exact HA3.out.own | exact ownsRow_below HA3.out.own ((Below.refl _ _).alloc (Nat.le_refl _) _)) _ 1 [.int .u8 (IntKind.u8.wrap (txs.length : Int))] (by rfl) (by first | exact HL3.out.slCellsN rfl | exact (BoxAt.new _ [_] _).slCellsN rfl) (by simp [Value.oneCell']) (by decide) (by unfold maxLen; omega) (by omega) (by first | omega | (simp; omega)) ?_;
            intro g4 cap4 w4 hown hgr hat hlt;
            have hA4 : AppB base 5 w3 v3 w4 (.slice (some ⟨g4, 0, none⟩) (M2.length + 1) cap4) (M2 ++ [byteZ txs.length]) := (AppB.of rfl rfl hown (by simp [byteVs, byteZ_toNat, u8_wrap]) hgr hat rfl (by first | exact Below.refl _ _ | exact (Below.refl _ _).alloc (Nat.le_refl _) _));
            have hA := HA3.out.trans hA4; have HA4 := Lib.hid hA; have bx4 := hA.box HBX.out hXv; have q0 := bx4.cell 0 rfl; have q1 := bx4.cell 1 rfl; have q2 := bx4.cell 2 rfl; clear hA hA4 hown hgr hat bx4)
        | (refine step_append_at1 (by rfl) _ _ _ (by rfl) elemB base v l.length (byteVs l) (by rfl) (by exact ownsRow_below HO.out (by repeat (first | with_reducible exact Below.refl _ _ | with_reducible refine Below.drew ?_ | with_reducible refine Below.alloc ?_ (by first | omega | (simp <;> omega)) _))) _ 1 [.int .u8 (IntKind.u8.wrap a)] (by rfl) (by first | exact (BoxAt.new _ [_] _).slCellsN rfl | exact ((BoxAt.new _ [_] _).drew).slCellsN rfl | exact (((BoxAt.new _ [_] _).alloc _).drew).slCellsN rfl | exact ((BoxAt.new _ [_] _).alloc _).slCellsN rfl | exact ((BoxAt.newAt (n := w1.heap.size + 1) (w1.alloc _) [_] _ (by simp)).drew).slCellsN rfl) (by simp [Value.oneCell']) (by decide) (by unfold maxLen; omega) (by omega) (by first | omega | (simp; omega)) ?_;
            intro g cap w2 hown hgr hat hlt;
            have hA : AppB base 5 w1 v w2 (.slice (some ⟨g, 0, none⟩) (l.length + 1) cap) (l ++ [byteZ a]) := (AppB.of rfl rfl hown (by simp [byteVs, byteZ_toNat, u8_wrap]) hgr hat rfl (by repeat (first | with_reducible exact Below.refl _ _ | with_reducible refine Below.drew ?_ | with_reducible refine Below.alloc ?_ (by first | omega | (simp <;> omega)) _)));
            (try (have HL2 := Lib.hid (show BoxAt w2 w1.heap.size [.int .u8 (IntKind.u8.wrap (txs.length : Int))] 5 from BoxAt.grown (((BoxAt.new w1 [_] _).alloc _).drew) hgr (HNE.out _ (Nat.le_refl _))); have hg2 : g ≠ w1.heap.size := (by rcases hat with e | e; exact fun h => HNE.out w1.heap.size (Nat.le_refl _) (by rw [e, h]); simp at e; omega)));
            (try (have HL2 := Lib.hid (show BoxAt w2 (w1.heap.size + 1) [.int .u8 (IntKind.u8.wrap (txs.length : Int))] 5 from BoxAt.grown ((BoxAt.newAt (w1.alloc _) [_] _ (by simp)).drew) hgr (HNE.out _ (by omega))); have hg2 : g ≠ w1.heap.size + 1 := (by rcases hat with e | e; exact fun h => HNE.out (w1.heap.size + 1) (by omega) (by rw [e, h]); simp at e; omega)));
            have HA := Lib.hid hA; have bx2 := hA.box HBX.out hXv; have y0 := bx2.cell 0 rfl; have y1 := bx2.cell 1 rfl; have y2 := bx2.cell 2 rfl; have s2 := hA.size; clear hA hown hgr hat bx2)
        | (go_at_call 37; refine (wide_any base _ (l ++ [byteZ a]) n _ (by first | exact HA.out.own | exact ownsRow_below HA.out.own ((Below.refl _ _).alloc (Nat.le_refl _) _)) (by first | omega | (simp; omega)) L1.out r0 (by omega)).mono ?_; rintro e w3 ⟨v3, rfl, hA3⟩;
            (first | (have hA := HA.out.trans hA3) | (have hA := (HA.out.below ((Below.refl _ _).alloc (Nat.le_refl _) _)).trans hA3));
            (try (have HL3 := Lib.hid (hA3.box HL2.out (by simp [Value.ownBlock]; exact hg2))));
            (try (have HL3 := Lib.hid (hA3.box (BoxAt.new w2 [.int .u8 (IntKind.u8.wrap (txs.length : Int))] 5) (by simp [Value.ownBlock]; omega))));
            rw [HL2E.out] at hA; have HA3 := Lib.hid hA; have bx3 := hA.box HBX.out hXv; have z0 := bx3.cell 0 rfl; have z1 := bx3.cell 1 rfl; have z2 := bx3.cell 2 rfl; have s3 := hA.size; clear hA hA3 bx3))
    all_goals
      go_wp2_with fail
      go_meet
      exact HA4.out.list (by rw [← HL2E.out]; simp)
  case rest =>
    have hA0 := hcut
    clear hcut
    have HA0 := Lib.hid hA0
    have bxc := hA0.box HBX.out hXv
    have c2 := bxc.cell 2 rfl
    have hL0 : (l ++ byteZ a :: (wideL n ++ [byteZ txs.length])).length ≤ 1005 := by
      have : (l ++ byteZ a :: (wideL n ++ [byteZ txs.length])).length = (l ++ [byteZ a] ++ wideL n).length + 1 := by simp; omega
      rw [this, HL2E.out]; omega
    have HL0 := Lib.hid hL0
    clear hA0 bxc hL0 x0 x1 x2
    go_wp2_with fail
    go_loopw [0, 25] (fun vw i wr => ∃ k : Nat, k ≤ txs.length ∧ i = .int .i64 k ∧ AppB base 5 w1 v wr vw (l ++ byteZ a :: (wideL n ++ [byteZ txs.length]) ++ putTxs (txs.take k))) (fun _ i _ => txs.length - (intOf i).toNat)
    case atStart => exact ⟨0, Nat.zero_le _, rfl, HA0.out.list (by simp [putTxs])⟩
    case round =>
      obtain ⟨k, hk, rfl, hR⟩ := hrel
      have HR := Lib.hid hR
      by_cases hlt : k < txs.length
      · have hrd := HT.out.keep (G' := fun _ => True) (hR.keepG HG'.out) (fun _ _ => trivial)
        obtain ⟨b, o, rfl, -, hc⟩ := hrd.cell k hlt
        have htk := H1.out txs[k] (List.getElem_mem hlt)
        have hpl : (putTxs (txs.take k)).length ≤ 84 := by
          have := putTxs_len (l := txs.take k) (fun t ht => H1.out t (List.mem_of_mem_take ht))
          rw [List.length_take] at this; omega
        have hll : (l ++ byteZ a :: (wideL n ++ [byteZ txs.length]) ++ putTxs (txs.take k)).length ≤ 2000 := by
          rw [List.length_append]; have := HL0.out; omega
        have hs := hR.size
        have HPS := Lib.hid (putTxs_succ hlt)
        clear hR hrd hpl
        generalize hD : txs[k] = D at *
        generalize hLk : l ++ byteZ a :: (wideL n ++ [byteZ txs.length]) ++ putTxs (txs.take k) = Lk at *
        have HLk := Lib.hid hLk
        have d0 : 1 ≤ D.length ∧ D.length ≤ 20 := by unfold txLen at htk; simpa using htk
        obtain ⟨d0, d1⟩ := d0
        clear hD hLk htk
        go_wp2_with (first
          | (at_builtin; refine wpList_append_strat rfl _ _ 26 9 rfl elemB info_u8z Try.underlying9 base g2 cap2 (Lk.length + 1) rfl (byteVs Lk ++ [.int .u8 (D.length : Int)]) HO2.out D rfl (by omega) (by omega) (by omega) ?_; intro g3 cap3 w3 hown3 hgr3 hat3; have HO3 := Lib.hid hown3; have HG3 := Lib.hid hgr3; have HT3 := Lib.hid hat3; clear hown3 hgr3 hat3)
          | (at_builtin; refine wpList_append_at1 rfl _ _ 26 rfl elemB base _ rfl Lk.length (byteVs Lk) (by exact ownsRow_below HR.out.own ((Below.refl _ _).alloc (Nat.le_refl _) _)) _ rfl 1 [.int .u8 (D.length : Int)] (by exact (BoxAt.new wr [_] _).slCellsN rfl) (by simp [Value.oneCell']) (by decide) (by unfold maxLen; omega) (by omega) (by simp; omega) _ rfl ?_; intro g2 cap2 w2 hown hgr hat hlt2; have HO2 := Lib.hid hown; have HG2 := Lib.hid hgr; have HT2 := Lib.hid hat; have s2 := hgr.size; simp at s2; clear hown hgr hat))
        have hA1 := HR.out.trans (AppB.of (w := wr) rfl rfl HO2.out (show [Value.int .u8 (D.length : Int)] = byteVs [byteZ D.length] by simp [byteVs, byteZ_toNat]; omega) HG2.out HT2.out rfl ((Below.refl _ _).alloc (Nat.le_refl _) _))
        have hA2 := hA1.trans (AppB.ofStr (s := D) (l := Lk ++ [byteZ D.length]) (n := Lk.length + 1) (by simp) (by have := HO3.out; rw [show [Value.int .u8 (D.length : Int)] = byteVs [byteZ D.length] by simp [byteVs, byteZ_toNat]; omega] at this; simpa [byteVs] using this) HG3.out HT3.out)
        have HA2 := Lib.hid hA2
        clear hA1 hA2
        go_wp2_with fail
        go_roundw
        case rel => exact ⟨k + 1, by omega, by go_num, HA2.out.list (by rw [HPS.out, ← HLk.out]; simp)⟩
        case measure => simp [intOf]; omega
      · have hke : k = txs.length := by omega
        subst hke
        rw [List.take_length] at HR
        go_wp2
        go_ret
        exact ⟨_, rfl, (AppB.before HBW.out HR.out).list (by simp [putBatchL])⟩
end Go.Proofs.Ytgkmgdkmafbohaa
/- Messages as data, and what is said of them. No program is named. -/
set_option linter.unusedVariables false
set_option linter.unusedSimpArgs false
namespace Go.Proofs.Ytgkmgdkmafbohaa
open Go Go.RowKit

structure Msg where
  f : Int
  t : Int
  k : Int
  b : Bat
  h : Hdr
  s : Slt
  c : Crt
  r : Int
def bat0 : Bat := ⟨0, 0, []⟩
def hdr0 : Hdr := ⟨0, 0, [], []⟩
def slt0 : Slt := ⟨0, 0, []⟩
def crt0 : Crt := ⟨hdr0, []⟩
def nhB (a r : Int) (n1 n2 : Nat) : Bool := a == 0 && (r == 0 && (n1 + n2 == 0))
def noHdr (h : Hdr) : Bool := nhB h.a h.r h.bs.length h.ps.length
/-- It carries nothing. -/
def noneM (m : Msg) : Bool :=
  m.b.a == 0 && (m.b.n == 0 && (m.b.txs.length == 0 && (noHdr m.h && (m.s.a == 0 && (m.s.r == 0 && (m.s.d.length == 0 && (noHdr m.c.h && (m.c.vs.length == 0 && m.r == 0))))))))
/-- Without what its kind carries. -/
def Msg.less (m : Msg) : Msg :=
  if m.k = 1 then { m with b := bat0 } else if m.k = 2 then { m with h := hdr0 } else if m.k = 3 then { m with s := slt0 } else if m.k = 4 then { m with c := crt0 } else { m with r := 0 }
def msgPart (m : Msg) : Int :=
  if m.k = 1 then batCode m.b else if m.k = 2 then hdrCode m.h else if m.k = 3 then sltCode m.s.a m.s.r m.s.d.length else if m.k = 4 then crtCode m.c else if countOk m.r = true then 0 else 2
def msgCode (m : Msg) : Int :=
  if nodeOk m.f = false ∨ nodeOk m.t = false then 2 else if m.k < 1 ∨ 5 < m.k then 3 else if msgPart m ≠ 0 then msgPart m else if noneM m.less = true then 0 else 4

/-- The slices of a message. -/
structure MV where
  tx : Value
  bs : Value
  ps : Value
  d : Value
  cbs : Value
  cps : Value
  vs : Value
def msgCells (m : Msg) (v : MV) : List Value :=
  [.int .i64 m.f, .int .i64 m.t, .int .i64 m.k, .int .i64 m.b.a, .int .i64 m.b.n, v.tx, .int .i64 m.h.a, .int .i64 m.h.r, v.bs, v.ps, .int .i64 m.s.a, .int .i64 m.s.r, v.d, .int .i64 m.c.h.a, .int .i64 m.c.h.r, v.cbs, v.cps, v.vs, .int .i64 m.r]
structure RdM (G : Nat → Prop) (w : World) (v : MV) (m : Msg) : Prop where
  tx : RdT G w v.tx m.b.txs
  bs : RdBB G w v.bs m.h.bs
  ps : RdBB G w v.ps m.h.ps
  d : RdB G w v.d m.s.d
  cbs : RdBB G w v.cbs m.c.h.bs
  cps : RdBB G w v.cps m.c.h.ps
  vs : RdI G w v.vs m.c.vs
theorem RdM.keep {G G' : Nat → Prop} {w w' : World} {v : MV} {m : Msg} (h : RdM G w v m) (hk : Keep G w w') (hg : ∀ b, G b → G' b) : RdM G' w' v m :=
  ⟨h.tx.keep hk hg, h.bs.keep hk hg, h.ps.keep hk hg, h.d.keep hk hg, h.cbs.keep hk hg, h.cps.keep hk hg, h.vs.keep hk hg⟩
theorem RdM.below {G G' : Nat → Prop} {w w' : World} {v : MV} {m : Msg} (h : RdM G w v m) (hb : Below w.heap.size w w') (hg : ∀ b, G b → G' b) : RdM G' w' v m := h.keep (Keep.below hb) hg
theorem RdM.mono {G G' : Nat → Prop} {w : World} {v : MV} {m : Msg} (h : RdM G w v m) (hg : ∀ b, G b → G' b) : RdM G' w v m := h.keep (Keep.refl _ _) hg
theorem RdM.low {G : Nat → Prop} {w : World} {v : MV} {m : Msg} (h : RdM G w v m) : RdM (fun b => G b ∧ b < w.heap.size) w v m :=
  ⟨h.tx.low (by decide), h.bs.low (by decide), h.ps.low (by decide), h.d.low (by decide), h.cbs.low (by decide), h.cps.low (by decide), h.vs.low (by decide)⟩
/-- Its numbers and lists are of a size that may be. -/
structure MsgOk (m : Msg) : Prop where
  tx : ∀ t ∈ m.b.txs, t.length ≤ 9223372036854775807
  h : m.h.bs.length + m.h.ps.length ≤ 9223372036854775807
  c : m.c.h.bs.length + m.c.h.ps.length ≤ 9223372036854775807
end Go.Proofs.Ytgkmgdkmafbohaa
/- wire.digests, CheckBatch, CheckHeader, CheckCert. -/
set_option linter.unusedVariables false
set_option linter.unusedSimpArgs false
namespace Go.Proofs.Ytgkmgdkmafbohaa
open Go Go.RowKit

theorem digGo_drop {l : List Bytes} {k : Nat} (h : k < l.length) : l.drop k = l[k] :: l.drop (k + 1) := List.drop_eq_getElem_cons h
theorem dig_at_form {l : List Bytes} {k : Nat} (h : k < l.length) (hi : digCode l = digGo (l.take k) (l.drop k)) (h1 : l[k].length ≠ 32) : digCode l = 4 := by
  rw [hi, digGo_drop h, digGo_form h1]
theorem dig_at_twice {l : List Bytes} {k : Nat} (h : k < l.length) (hi : digCode l = digGo (l.take k) (l.drop k)) (h1 : l[k].length = 32) (h2 : l[k] ∈ l.take k) : digCode l = 7 := by
  rw [hi, digGo_drop h, digGo_twice h1 h2]
theorem dig_at_next {l : List Bytes} {k : Nat} (h : k < l.length) (hi : digCode l = digGo (l.take k) (l.drop k)) (h1 : l[k].length = 32) (h2 : ¬ l[k] ∈ l.take k) : digCode l = digGo (l.take (k + 1)) (l.drop (k + 1)) := by
  rw [hi, digGo_drop h, digGo_next h1 h2, List.take_succ_eq_append_getElem h]
theorem dig_at_end {l : List Bytes} {k : Nat} (h : l.length ≤ k) (hi : digCode l = digGo (l.take k) (l.drop k)) : digCode l = 0 := by
  rw [hi, List.drop_eq_nil_of_le h]; rfl

theorem wdigests_any {G : Nat → Prop} {l : List Bytes} (v : Value) (w : World) (h : RdBB G w v l) :
    Calls Try.prog 47 #[v] w fun e w' => e = .returned (.int .i64 (digCode l)) ∧ Below w.heap.size w w' := by
  obtain ⟨ad, cap, rfl, h1, h2⟩ := h.form
  unfold maxLen at h2
  have hmf : ∀ (fn : Fn) (first cap : Array Value) (w : World), (Instr.makeFunc fn first cap).run Try.prog w = .ok (.func fn first cap) w := fun _ _ _ _ => rfl
  go_enter Try.func47, Try.ntmps47
  go_wp2
  go_loopw [7] (fun i wr => ∃ k : Nat, k ≤ l.length ∧ i = .int .i64 k ∧ digCode l = digGo (l.take k) (l.drop k) ∧ Below w.heap.size w wr) (fun i _ => l.length - (intOf i).toNat)
  case atStart => exact ⟨0, Nat.zero_le _, rfl, rfl, Below.refl _ _⟩
  case round =>
    obtain ⟨k, hk, rfl, hi, hB⟩ := hrel
    have HI := Lib.hid hi
    clear hi
    by_cases hlt : k < l.length
    · have hr := h.below hB (fun _ h => h)
      obtain ⟨b, o, vd, rfl, -, hc, hd⟩ := hr.cellS k hlt
      obtain ⟨ad2, cap2, rfl, -, -⟩ := hd.form
      have HT := Lib.hid ((hr.take k hk).keep (Keep.alloc G wr (.cells #[.slice ad2 l[k].length cap2] 26)) (fun _ h => h))
      have HD := Lib.hid (hd.keep (Keep.alloc G wr (.cells #[.slice ad2 l[k].length cap2] 26)) (fun _ h => h))
      have hB1 := hB.alloc hB.size (.cells #[.slice ad2 l[k].length cap2] 26)
      clear hr hd
      by_cases e1 : l[k].length = 32
      · have hb : ((l[k].length : Int) != 32) = false := by simp [e1]
        by_cases e2 : l[k] ∈ l.take k
        · have HR := Lib.hid (dig_at_twice hlt HI.out e1 e2)
          have hdec := Lib.hid (show decide (l[k] ∈ l.take k) = true by simpa using e2)
          clear e1 e2
          go_wp2_with fail
          refine (digContains_any _ _ _ _ HT.out HD.out ((BoxAt.new wr [.slice ad2 l[k].length cap2] 26).cell 0 rfl)).mono ?_
          rintro e w' ⟨rfl, rfl⟩
          rw [hdec.out]
          go_wp2
          go_ret
          exact ⟨ret_intH HR.out, hB1⟩
        · have HR := Lib.hid (dig_at_next hlt HI.out e1 e2)
          have hdec := Lib.hid (show decide (l[k] ∈ l.take k) = false by simpa using e2)
          clear e1 e2
          go_wp2_with fail
          refine (digContains_any _ _ _ _ HT.out HD.out ((BoxAt.new wr [.slice ad2 l[k].length cap2] 26).cell 0 rfl)).mono ?_
          rintro e w' ⟨rfl, rfl⟩
          rw [hdec.out]
          go_wp2
          go_roundw
          case rel => exact ⟨k + 1, by omega, by go_num, HR.out, hB1⟩
          case measure => simp [intOf]; omega
      · have hb : ((l[k].length : Int) != 32) = true := by rw [bne_iff_ne]; omega
        have HR := Lib.hid (dig_at_form hlt HI.out e1)
        clear e1
        go_wp2
        go_ret
        exact ⟨ret_intH HR.out, hB1⟩
    · have HR := Lib.hid (dig_at_end (by omega) HI.out)
      go_wp2
      go_ret
      exact ⟨ret_intH HR.out, hB⟩


set_option maxRecDepth 100000 in
set_option maxHeartbeats 1000000 in
theorem cheader_any {G : Nat → Prop} {bs ps : List Bytes} (a r : Int) (vb vp : Value) (w : World) (hb : RdBB G w vb bs) (hp : RdBB G w vp ps) :
    Calls Try.prog 32 #[.agg #[.int .i64 a, .int .i64 r, vb, vp]] w fun e w' => e = .returned (.int .i64 (hdrCode ⟨a, r, bs, ps⟩)) ∧ Below w.heap.size w w' := by
  obtain ⟨adb, capb, rfl, h1, h2⟩ := hb.form
  obtain ⟨adp, capp, rfl, h1', h2'⟩ := hp.form
  unfold maxLen at h2 h2'
  have hR := (Below.refl w.heap.size w).alloc (Nat.le_refl _) (.cells #[.int .i64 a, .int .i64 r, .slice adb bs.length capb, .slice adp ps.length capp] 37)
  have b0 := BoxAt.new w [.int .i64 a, .int .i64 r, .slice adb bs.length capb, .slice adp ps.length capp] 37
  have HB := Lib.hid (hb.keep (Keep.alloc G w (.cells #[.int .i64 a, .int .i64 r, .slice adb bs.length capb, .slice adp ps.length capp] 37)) (fun _ h => h))
  have HP := Lib.hid (hp.keep (Keep.alloc G w (.cells #[.int .i64 a, .int .i64 r, .slice adb bs.length capb, .slice adp ps.length capp] 37)) (fun _ h => h))
  have HQ := Lib.hid b0
  clear b0
  go_enter Try.func32, Try.ntmps32
  cases e1 : nodeOk a
  · go_wp2_with (first
      | (go_at_call 29; refine (node_any _ _).mono ?_; rintro e w' ⟨rfl, rfl⟩))
    go_ret
    exact ⟨ret_intH (by unfold hdrCode; rw [if_pos (.inl e1)]), hR⟩
  · cases e2 : countOk r
    · go_wp2_with (first
        | (go_at_call 29; refine (node_any _ _).mono ?_; rintro e w' ⟨rfl, rfl⟩)
        | (go_at_call 30; refine (count_any _ _).mono ?_; rintro e w' ⟨rfl, rfl⟩))
      go_ret
      exact ⟨ret_intH (by unfold hdrCode; rw [if_pos (.inr e2)]), hR⟩
    · have hn0 : ¬ (nodeOk a = false ∨ countOk r = false) := by simp [e1, e2]
      by_cases e3 : 3 < bs.length ∨ 4 < ps.length
      · have HR := Lib.hid (show hdrCode ⟨a, r, bs, ps⟩ = 1 by unfold hdrCode; rw [if_neg hn0, if_pos e3])
        clear hn0
        rcases e3 with e3 | e3
        · have t3 : (3 : Int) < (bs.length : Int) := by omega
          go_wp2_with (first
            | (go_at_call 29; refine (node_any _ _).mono ?_; rintro e w' ⟨rfl, rfl⟩)
            | (go_at_call 30; refine (count_any _ _).mono ?_; rintro e w' ⟨rfl, rfl⟩))
          go_ret
          exact ⟨ret_intH HR.out, hR⟩
        · have t4 : (4 : Int) < (ps.length : Int) := by omega
          by_cases e4 : (3 : Int) < (bs.length : Int)
          all_goals
            go_wp2_with (first
              | (go_at_call 29; refine (node_any _ _).mono ?_; rintro e w' ⟨rfl, rfl⟩)
              | (go_at_call 30; refine (count_any _ _).mono ?_; rintro e w' ⟨rfl, rfl⟩))
            go_ret
            exact ⟨ret_intH HR.out, hR⟩
      · have e4 : ¬ 3 < bs.length := by omega
        have e5 : ¬ 4 < ps.length := by omega
        by_cases d1 : digCode bs = 0
        · by_cases d2 : digCode ps = 0
          · have c1 : (digCode bs != 0) = false := by simp [d1]
            have c2 : (digCode ps != 0) = false := by simp [d2]
            have hh : hdrCode ⟨a, r, bs, ps⟩ = if (r = 1 ∧ 0 < ps.length) ∨ (1 < r ∧ ps.length < 3) then 10 else 0 := by
              unfold hdrCode; rw [if_neg hn0, if_neg e3]; simp [d1, d2]
            have HH := Lib.hid hh
            have hr1 : 1 ≤ r := by unfold countOk at e2; simp only [decide_eq_true_eq] at e2; exact e2.1
            clear hh hn0 e3 d1 d2
            have t3 : ¬ (3 : Int) < (bs.length : Int) := by omega
            have t4 : ¬ (4 : Int) < (ps.length : Int) := by omega
            have HC1 := Lib.hid c1
            have HC2 := Lib.hid c2
            clear c1 c2
            go_wp2_with (first
              | (go_at_call 29; refine (node_any _ _).mono ?_; rintro e w' ⟨rfl, rfl⟩)
              | (go_at_call 30; refine (count_any _ _).mono ?_; rintro e w' ⟨rfl, rfl⟩))
            refine (wdigests_any _ _ HB.out).mono ?_
            rintro e w1 ⟨rfl, hb1⟩
            have HP1 := Lib.hid (HP.out.below hb1 (fun _ h => h))
            have hR1 := hR.trans (hb1.mono hR.size)
            have b1 := HQ.out.belowS hb1
            have HQ1 := Lib.hid b1
            have p0 := b1.cell 0 rfl
            have p1 := b1.cell 1 rfl
            have p2 := b1.cell 2 rfl
            have p3 := b1.cell 3 rfl
            clear hb1 b1
            have c1 := HC1.out
            go_wp2_with fail
            clear p0 p1 p2 p3
            refine (wdigests_any _ _ HP1.out).mono ?_
            rintro e w2 ⟨rfl, hb2⟩
            have hR2 := hR1.trans (hb2.mono hR1.size)
            have b2 := HQ1.out.belowS hb2
            have p0 := b2.cell 0 rfl
            have p1 := b2.cell 1 rfl
            have p2 := b2.cell 2 rfl
            have p3 := b2.cell 3 rfl
            clear hb2 b2
            have c2 := HC2.out
            by_cases f1 : r = 1
            · have g1 : (r == 1) = true := by simp [f1]
              have g1' : ¬ 1 < r := by omega
              by_cases f2 : 0 < ps.length
              · have HR := Lib.hid (show hdrCode ⟨a, r, bs, ps⟩ = 10 by rw [HH.out, if_pos (.inl ⟨f1, f2⟩)])
                clear f1
                go_wp2
                go_ret
                exact ⟨ret_intH HR.out, hR2⟩
              · have HR := Lib.hid (show hdrCode ⟨a, r, bs, ps⟩ = 0 by rw [HH.out, if_neg (by omega)])
                clear f1
                go_wp2
                go_ret
                exact ⟨ret_intH HR.out, hR2⟩
            · have g1 : (r == 1) = false := by simp [f1]
              have g1' : 1 < r := by omega
              by_cases f2 : ps.length < 3
              · have HR := Lib.hid (show hdrCode ⟨a, r, bs, ps⟩ = 10 by rw [HH.out, if_pos (.inr ⟨g1', f2⟩)])
                clear f1
                go_wp2
                go_ret
                exact ⟨ret_intH HR.out, hR2⟩
              · have HR := Lib.hid (show hdrCode ⟨a, r, bs, ps⟩ = 0 by rw [HH.out, if_neg (by omega)])
                clear f1
                go_wp2
                go_ret
                exact ⟨ret_intH HR.out, hR2⟩
          · have c1 : (digCode bs != 0) = false := by simp [d1]
            have c2 : (digCode ps != 0) = true := by rw [bne_iff_ne]; exact d2
            have HR := Lib.hid (show hdrCode ⟨a, r, bs, ps⟩ = digCode ps by unfold hdrCode; rw [if_neg hn0, if_neg e3]; simp [d1, d2])
            clear hn0 e3 d1 d2
            have t3 : ¬ (3 : Int) < (bs.length : Int) := by omega
            have t4 : ¬ (4 : Int) < (ps.length : Int) := by omega
            go_wp2_with (first
              | (go_at_call 29; refine (node_any _ _).mono ?_; rintro e w' ⟨rfl, rfl⟩)
              | (go_at_call 30; refine (count_any _ _).mono ?_; rintro e w' ⟨rfl, rfl⟩))
            refine (wdigests_any _ _ HB.out).mono ?_
            rintro e w1 ⟨rfl, hb1⟩
            have HP1 := Lib.hid (HP.out.below hb1 (fun _ h => h))
            have hR1 := hR.trans (hb1.mono hR.size)
            have b1 := HQ.out.belowS hb1
            have p3 := b1.cell 3 rfl
            clear hb1 b1
            go_wp2_with fail
            refine (wdigests_any _ _ HP1.out).mono ?_
            rintro e w2 ⟨rfl, hb2⟩
            have hR2 := hR1.trans (hb2.mono hR1.size)
            clear hb2
            go_wp2
            go_ret
            exact ⟨ret_intH HR.out, hR2⟩
        · have c1 : (digCode bs != 0) = true := by rw [bne_iff_ne]; exact d1
          have HR := Lib.hid (show hdrCode ⟨a, r, bs, ps⟩ = digCode bs by unfold hdrCode; rw [if_neg hn0, if_neg e3]; simp [d1])
          have HC1 := Lib.hid c1
          clear hn0 e3 d1 c1
          have t3 : ¬ (3 : Int) < (bs.length : Int) := by omega
          have t4 : ¬ (4 : Int) < (ps.length : Int) := by omega
          go_wp2_with (first
            | (go_at_call 29; refine (node_any _ _).mono ?_; rintro e w' ⟨rfl, rfl⟩)
            | (go_at_call 30; refine (count_any _ _).mono ?_; rintro e w' ⟨rfl, rfl⟩))
          refine (wdigests_any _ _ HB.out).mono ?_
          rintro e w1 ⟨rfl, hb1⟩
          have hR1 := hR.trans (hb1.mono hR.size)
          clear hb1
          have c1 := HC1.out
          go_wp2
          go_ret
          exact ⟨ret_intH HR.out, hR1⟩

theorem bat_ok_at {a n : Int} {l : List Bytes} (h1 : nodeOk a = true) (h2 : countOk n = true) (h3 : 1 ≤ l.length) (h4 : l.length ≤ 4) (h : ∀ (j : Nat) (t : Bytes), l[j]? = some t → txLen t = true) : batCode ⟨a, n, l⟩ = 0 := by
  unfold batCode
  rw [if_neg (by simp [h1, h2]), if_neg (by show ¬ (l.length < 1 ∨ 4 < l.length); omega), if_pos]
  simp only [List.all_eq_true]
  intro t ht
  obtain ⟨j, hj, e⟩ := List.mem_iff_getElem.1 ht
  exact h j t (by simp [hj, e])
theorem bat_tx_at {a n : Int} {l : List Bytes} {k : Nat} (h1 : nodeOk a = true) (h2 : countOk n = true) (hk : k < l.length) (h : txLen l[k] = false) : batCode ⟨a, n, l⟩ = 1 := by
  unfold batCode
  rw [if_neg (by simp [h1, h2])]
  by_cases h3 : l.length < 1 ∨ 4 < l.length
  · rw [if_pos h3]
  · rw [if_neg h3, if_neg]
    simp only [List.all_eq_true, Classical.not_forall]
    exact ⟨l[k], List.getElem_mem hk, by simp [h]⟩
set_option maxRecDepth 100000 in
set_option maxHeartbeats 1000000 in
theorem cbatch_any {G : Nat → Prop} {l : List Bytes} (a n : Int) (v : Value) (w : World) (h : RdT G w v l) (hl : ∀ t ∈ l, t.length ≤ 9223372036854775807) :
    Calls Try.prog 31 #[.agg #[.int .i64 a, .int .i64 n, v]] w fun e w' => e = .returned (.int .i64 (batCode ⟨a, n, l⟩)) ∧ Below w.heap.size w w' := by
  obtain ⟨ad, cap, rfl, h1, h2⟩ := h.form
  unfold maxLen at h2
  have hR := (Below.refl w.heap.size w).alloc (Nat.le_refl _) (.cells #[.int .i64 a, .int .i64 n, .slice ad l.length cap] 34)
  have HV := Lib.hid (h.keep (Keep.alloc G w (.cells #[.int .i64 a, .int .i64 n, .slice ad l.length cap] 34)) (fun _ h => h))
  go_enter Try.func31, Try.ntmps31
  cases e1 : nodeOk a
  · go_wp2_with (first
      | (go_at_call 29; refine (node_any _ _).mono ?_; rintro e w' ⟨rfl, rfl⟩))
    go_ret
    exact ⟨ret_intH (by unfold batCode; rw [if_pos (.inl e1)]), hR⟩
  · cases e2 : countOk n
    · go_wp2_with (first
        | (go_at_call 29; refine (node_any _ _).mono ?_; rintro e w' ⟨rfl, rfl⟩)
        | (go_at_call 30; refine (count_any _ _).mono ?_; rintro e w' ⟨rfl, rfl⟩))
      go_ret
      exact ⟨ret_intH (by unfold batCode; rw [if_pos (.inr e2)]), hR⟩
    · by_cases e3 : l.length < 1 ∨ 4 < l.length
      · have HR := Lib.hid (show batCode ⟨a, n, l⟩ = 1 by unfold batCode; rw [if_neg (by simp [e1, e2]), if_pos e3])
        by_cases e4 : (l.length : Int) < 1
        · clear e3
          go_wp2_with (first
            | (go_at_call 29; refine (node_any _ _).mono ?_; rintro e w' ⟨rfl, rfl⟩)
            | (go_at_call 30; refine (count_any _ _).mono ?_; rintro e w' ⟨rfl, rfl⟩))
          go_ret
          exact ⟨ret_intH HR.out, hR⟩
        · have t4 : (4 : Int) < (l.length : Int) := by omega
          clear e3
          go_wp2_with (first
            | (go_at_call 29; refine (node_any _ _).mono ?_; rintro e w' ⟨rfl, rfl⟩)
            | (go_at_call 30; refine (count_any _ _).mono ?_; rintro e w' ⟨rfl, rfl⟩))
          go_ret
          exact ⟨ret_intH HR.out, hR⟩
      · have t3 : ¬ (l.length : Int) < 1 := by omega
        have t4 : ¬ (4 : Int) < (l.length : Int) := by omega
        have e4 : 1 ≤ l.length := by omega
        have e5 : l.length ≤ 4 := by omega
        clear e3
        go_wp2_with (first
          | (go_at_call 29; refine (node_any _ _).mono ?_; rintro e w' ⟨rfl, rfl⟩)
          | (go_at_call 30; refine (count_any _ _).mono ?_; rintro e w' ⟨rfl, rfl⟩))
        go_loop [28] (fun i => ∃ k : Nat, k ≤ l.length ∧ i = .int .i64 k ∧ ∀ j t, j < k → l[j]? = some t → txLen t = true) (fun i => l.length - (intOf i).toNat)
        case atStart => exact ⟨0, Nat.zero_le _, rfl, fun j t hj => by omega⟩
        case round =>
          obtain ⟨k, hk, rfl, hno⟩ := hrel
          have HN := Lib.hid hno; clear hno
          by_cases hlt : k < l.length
          · obtain ⟨b, o, rfl, -, hc⟩ := HV.out.cell k hlt
            have hlk := hl _ (List.getElem_mem hlt)
            by_cases q1 : ((l[k].length : Nat) : Int) < 1
            · have HR := Lib.hid (bat_tx_at (a := a) (n := n) e1 e2 hlt (by unfold txLen; simp; omega))
              go_wp2
              go_ret
              exact ⟨ret_intH HR.out, hR⟩
            · by_cases q2 : (20 : Int) < ((l[k].length : Nat) : Int)
              · have HR := Lib.hid (bat_tx_at (a := a) (n := n) e1 e2 hlt (by unfold txLen; simp; omega))
                go_wp2
                go_ret
                exact ⟨ret_intH HR.out, hR⟩
              · have HT := Lib.hid (show txLen l[k] = true by unfold txLen; simp; omega)
                go_wp2
                go_round
                case rel => exact ⟨k + 1, by omega, by go_num, fun j t hj ht => by
                  rcases Nat.lt_or_eq_of_le (Nat.le_of_lt_succ hj) with h' | h'
                  · exact HN.out j t h' ht
                  · subst h'; rw [List.getElem?_eq_getElem hlt] at ht; rw [← Option.some.inj ht]; exact HT.out⟩
                case measure => simp [intOf]; omega
          · have HR := Lib.hid (bat_ok_at (a := a) (n := n) e1 e2 e4 e5 (fun j t ht => HN.out j t (by
              rcases Nat.lt_or_ge j l.length with h | h
              · omega
              · simp [List.getElem?_eq_none h] at ht) ht))
            go_wp2
            go_ret
            exact ⟨ret_intH HR.out, hR⟩
end Go.Proofs.Ytgkmgdkmafbohaa
/- wire.CheckCert. -/
set_option linter.unusedVariables false
set_option linter.unusedSimpArgs false
namespace Go.Proofs.Ytgkmgdkmafbohaa
open Go Go.RowKit

def lastOf (l : List Int) (k : Nat) : Option Int := if k = 0 then none else l[k - 1]?
theorem votGo_drop {l : List Int} {k : Nat} (h : k < l.length) : l.drop k = l[k] :: l.drop (k + 1) := List.drop_eq_getElem_cons h
theorem vot_node {l : List Int} {k : Nat} (h : k < l.length) (hi : votGo none l = votGo (lastOf l k) (l.drop k)) (h1 : nodeOk l[k] = false) : votGo none l = 2 := by
  rw [hi, votGo_drop h]; unfold votGo; rw [if_pos h1]
theorem vot_zero {l : List Int} (h : 0 < l.length) (h1 : nodeOk l[0] = true) : votGo none l = votGo (lastOf l 1) (l.drop 1) := by
  cases l with
  | nil => simp at h
  | cons a t =>
    show votGo none (a :: t) = votGo (some a) t
    simp only [List.getElem_cons_zero] at h1
    rw [votGo]; simp [h1]
theorem vot_bad {l : List Int} {k : Nat} (h : k < l.length) (hk : 0 < k) (hi : votGo none l = votGo (lastOf l k) (l.drop k)) (h1 : nodeOk l[k] = true) (h2 : l[k] ≤ l[k - 1]) : votGo none l = 9 := by
  rw [hi, votGo_drop h]
  unfold lastOf
  rw [if_neg (by omega), List.getElem?_eq_getElem (by omega)]
  unfold votGo
  rw [if_neg (by simp [h1]), if_pos (by simp; omega)]
theorem vot_next {l : List Int} {k : Nat} (h : k < l.length) (hk : 0 < k) (hi : votGo none l = votGo (lastOf l k) (l.drop k)) (h1 : nodeOk l[k] = true) (h2 : ¬ l[k] ≤ l[k - 1]) : votGo none l = votGo (lastOf l (k + 1)) (l.drop (k + 1)) := by
  rw [hi, votGo_drop h]
  have e : lastOf l (k + 1) = some l[k] := by unfold lastOf; rw [if_neg (by omega)]; simp
  rw [e]
  unfold lastOf
  rw [if_neg (by omega), List.getElem?_eq_getElem (by omega)]
  rw [votGo]
  rw [if_neg (by simp [h1]), if_neg (by simp; omega)]
theorem vot_end {l : List Int} {k : Nat} (h : l.length ≤ k) (hi : votGo none l = votGo (lastOf l k) (l.drop k)) : votGo none l = 0 := by
  rw [hi, List.drop_eq_nil_of_le h]; rfl

set_option maxRecDepth 100000 in
set_option maxHeartbeats 1000000 in
set_option maxRecDepth 100000 in
set_option maxHeartbeats 2000000 in
theorem ccert_any {G : Nat → Prop} {bs ps : List Bytes} {vs : List Int} (a r : Int) (vb vp v : Value) (w : World) (hb : RdBB G w vb bs) (hp : RdBB G w vp ps) (hv : RdI G w v vs) :
    Calls Try.prog 33 #[.agg #[.int .i64 a, .int .i64 r, vb, vp, v]] w fun e w' => e = .returned (.int .i64 (crtCode ⟨⟨a, r, bs, ps⟩, vs⟩)) ∧ Below w.heap.size w w' := by
  obtain ⟨adb, capb, rfl, -, -⟩ := hb.form
  obtain ⟨adp, capp, rfl, -, -⟩ := hp.form
  obtain ⟨adv, capv, rfl, h1, h2⟩ := hv.form
  unfold maxLen at h2
  have hR := (Below.refl w.heap.size w).alloc (Nat.le_refl _) (.cells #[.int .i64 a, .int .i64 r, .slice adb bs.length capb, .slice adp ps.length capp, .slice adv vs.length capv] 40)
  have HQ := Lib.hid (BoxAt.new w [.int .i64 a, .int .i64 r, .slice adb bs.length capb, .slice adp ps.length capp, .slice adv vs.length capv] 40)
  have HB := Lib.hid (hb.keep (Keep.alloc G w (.cells #[.int .i64 a, .int .i64 r, .slice adb bs.length capb, .slice adp ps.length capp, .slice adv vs.length capv] 40)) (fun _ h => h))
  have HP := Lib.hid (hp.keep (Keep.alloc G w (.cells #[.int .i64 a, .int .i64 r, .slice adb bs.length capb, .slice adp ps.length capp, .slice adv vs.length capv] 40)) (fun _ h => h))
  have HV := Lib.hid (hv.keep (Keep.alloc G w (.cells #[.int .i64 a, .int .i64 r, .slice adb bs.length capb, .slice adp ps.length capp, .slice adv vs.length capv] 40)) (fun _ h => h))
  go_enter Try.func33, Try.ntmps33
  go_wp2_with fail
  refine (cheader_any _ _ _ _ _ HB.out HP.out).mono ?_
  rintro e w1 ⟨rfl, hb1⟩
  have HV1 := Lib.hid (HV.out.below hb1 (fun _ h => h))
  have hR1 := hR.trans (hb1.mono hR.size)
  have b1 := HQ.out.belowS hb1
  have p4 := b1.cell 4 rfl
  clear hb1 b1
  by_cases d1 : hdrCode ⟨a, r, bs, ps⟩ = 0
  · have c1 : (hdrCode ⟨a, r, bs, ps⟩ != 0) = false := by simp [d1]
    by_cases d2 : 4 < vs.length
    · have HR := Lib.hid (show crtCode ⟨⟨a, r, bs, ps⟩, vs⟩ = 1 by unfold crtCode; rw [if_neg (by simp [d1]), if_pos d2])
      clear d1
      go_wp2
      go_ret
      exact ⟨ret_intH HR.out, hR1⟩
    · have hh : crtCode ⟨⟨a, r, bs, ps⟩, vs⟩ = if votGo none vs ≠ 0 then votGo none vs else if vs.length < 3 then 10 else 0 := by
        unfold crtCode; rw [if_neg (by simp [d1]), if_neg d2]
      have HH := Lib.hid hh
      clear d1 hh
      go_wp2
      go_loop [19] (fun i => ∃ k : Nat, k ≤ vs.length ∧ i = .int .i64 k ∧ votGo none vs = votGo (lastOf vs k) (vs.drop k)) (fun i => vs.length - (intOf i).toNat)
      case atStart => exact ⟨0, Nat.zero_le _, rfl, rfl⟩
      case round =>
        obtain ⟨k, hk, rfl, hi⟩ := hrel
        have HI := Lib.hid hi
        clear hi
        by_cases hlt : k < vs.length
        · obtain ⟨b, o, rfl, -, hc⟩ := HV1.out.cell k hlt
          cases e1 : nodeOk vs[k]
          · have HE := Lib.hid (vot_node hlt HI.out e1)
            have HR := Lib.hid (show crtCode ⟨⟨a, r, bs, ps⟩, vs⟩ = 2 by rw [HH.out, HE.out]; rfl)
            go_wp2_with (first
              | (go_at_call 29; refine (node_any _ _).mono ?_; rintro e w' ⟨rfl, rfl⟩))
            go_ret
            exact ⟨ret_intH HR.out, hR1⟩
          · by_cases hk0 : k = 0
            · have HE := Lib.hid (show votGo none vs = votGo (lastOf vs (k + 1)) (vs.drop (k + 1)) by subst hk0; exact vot_zero hlt e1)
              have hz : ¬ (0 : Int) < (k : Int) := by omega
              clear hk0
              go_wp2_with (first
                | (go_at_call 29; refine (node_any _ _).mono ?_; rintro e w' ⟨rfl, rfl⟩))
              go_round
              case rel => exact ⟨k + 1, by omega, by go_num, HE.out⟩
              case measure => simp [intOf]; omega
            · have hz : (0 : Int) < (k : Int) := by omega
              have hk1 : k - 1 < vs.length := by omega
              have hc' := HV1.out.cells (k - 1) hk1
              obtain ⟨j, rfl⟩ : ∃ j, k = j + 1 := ⟨k - 1, by omega⟩
              simp only [Nat.add_sub_cancel] at hc' hk1
              have l1 : IntKind.i64.wrap (((j + 1 : Nat) : Int) - 1) = (j : Int) := by
                rw [show (((j + 1 : Nat) : Int) - 1) = (j : Int) by omega]; exact IntWalk.i64_in _ (by omega)
              by_cases e2 : vs[j + 1] ≤ vs[j]
              · have HE := Lib.hid (vot_bad hlt (by omega) HI.out e1 (by simpa using e2))
                have HR := Lib.hid (show crtCode ⟨⟨a, r, bs, ps⟩, vs⟩ = 9 by rw [HH.out, HE.out]; rfl)
                go_wp2_with (first
                  | (go_at_call 29; refine (node_any _ _).mono ?_; rintro e w' ⟨rfl, rfl⟩))
                go_ret
                exact ⟨ret_intH HR.out, hR1⟩
              · have HE := Lib.hid (vot_next hlt (by omega) HI.out e1 (by simpa using e2))
                go_wp2_with (first
                  | (go_at_call 29; refine (node_any _ _).mono ?_; rintro e w' ⟨rfl, rfl⟩))
                go_round
                case rel => exact ⟨j + 1 + 1, by omega, by go_num, HE.out⟩
                case measure => simp [intOf]; omega
        · have HE := Lib.hid (vot_end (by omega) HI.out)
          by_cases q : (vs.length : Int) < 3
          · have HR := Lib.hid (show crtCode ⟨⟨a, r, bs, ps⟩, vs⟩ = 10 by rw [HH.out, HE.out]; simp; omega)
            go_wp2
            go_ret
            exact ⟨ret_intH HR.out, hR1⟩
          · have HR := Lib.hid (show crtCode ⟨⟨a, r, bs, ps⟩, vs⟩ = 0 by rw [HH.out, HE.out]; simp; omega)
            go_wp2
            go_ret
            exact ⟨ret_intH HR.out, hR1⟩
  · have c1 : (hdrCode ⟨a, r, bs, ps⟩ != 0) = true := by rw [bne_iff_ne]; exact d1
    have HR := Lib.hid (show crtCode ⟨⟨a, r, bs, ps⟩, vs⟩ = hdrCode ⟨a, r, bs, ps⟩ by unfold crtCode; rw [if_pos d1])
    clear d1
    go_wp2
    go_ret
    exact ⟨ret_intH HR.out, hR1⟩
end Go.Proofs.Ytgkmgdkmafbohaa
/- wire.noHeader, none, Check: what they compute. -/
set_option linter.unusedVariables false
set_option linter.unusedSimpArgs false
namespace Go.Proofs.Ytgkmgdkmafbohaa
open Go Go.RowKit

set_option maxRecDepth 100000 in
set_option maxHeartbeats 1000000 in
theorem noHeader_any (a r : Int) (ad1 : Option Addr) (n1 c1 : Nat) (ad2 : Option Addr) (n2 c2 : Nat) (w : World) (h : n1 + n2 ≤ 9223372036854775807) :
    Calls Try.prog 48 #[.agg #[.int .i64 a, .int .i64 r, .slice ad1 n1 c1, .slice ad2 n2 c2]] w fun e w' => e = .returned (.bool (nhB a r n1 n2)) ∧ Below w.heap.size w w' := by
  have hR := (Below.refl w.heap.size w).alloc (Nat.le_refl _) (.cells #[.int .i64 a, .int .i64 r, .slice ad1 n1 c1, .slice ad2 n2 c2] 37)
  have l1 : IntKind.i64.wrap ((n1 : Int) + (n2 : Int)) = (n1 : Int) + (n2 : Int) := IntWalk.i64_in _ (by omega)
  have e3 : (((n1 : Int) + (n2 : Int)) == 0) = (n1 + n2 == 0) := by
    rw [Bool.eq_iff_iff]; simp only [beq_iff_eq]; omega
  unfold nhB
  cases h1 : (a == 0)
  · go_enter Try.func48, Try.ntmps48
    go_wp2
    go_ret
    exact ⟨ret_boolH (by simp), hR⟩
  · cases h2 : (r == 0)
    · go_enter Try.func48, Try.ntmps48
      go_wp2
      go_ret
      exact ⟨ret_boolH (by simp), hR⟩
    · go_enter Try.func48, Try.ntmps48
      go_wp2
      go_ret
      exact ⟨ret_boolH (by simp), hR⟩

abbrev msgAgg (f t k ba bn : Int) (vtx : Value) (ha hr : Int) (vbs vps : Value) (sa sr : Int) (vd : Value) (ca cr : Int) (vcb vcp vvs : Value) (r : Int) : Value :=
  .agg #[.int .i64 f, .int .i64 t, .int .i64 k, .int .i64 ba, .int .i64 bn, vtx, .int .i64 ha, .int .i64 hr, vbs, vps, .int .i64 sa, .int .i64 sr, vd, .int .i64 ca, .int .i64 cr, vcb, vcp, vvs, .int .i64 r]
def noneB (ba bn : Int) (ntx : Nat) (ha hr : Int) (nbs nps : Nat) (sa sr : Int) (nd : Nat) (ca cr : Int) (ncb ncp nvs : Nat) (r : Int) : Bool :=
  ba == 0 && (bn == 0 && (ntx == 0 && (nhB ha hr nbs nps && (sa == 0 && (sr == 0 && (nd == 0 && (nhB ca cr ncb ncp && (nvs == 0 && r == 0))))))))
theorem len0 (n : Nat) : (((n : Nat) : Int) == 0) = (n == 0) := by rw [Bool.eq_iff_iff]; simp only [beq_iff_eq]; omega

set_option maxRecDepth 100000 in
set_option maxHeartbeats 4000000 in
theorem none_any (f t k ba bn : Int) (a1 : Option Addr) (ntx c1 : Nat) (ha hr : Int) (a2 : Option Addr) (nbs c2 : Nat) (a3 : Option Addr) (nps c3 : Nat) (sa sr : Int) (a4 : Option Addr) (nd c4 : Nat) (ca cr : Int) (a5 : Option Addr) (ncb c5 : Nat) (a6 : Option Addr) (ncp c6 : Nat) (a7 : Option Addr) (nvs c7 : Nat) (r : Int) (w : World)
    (h1 : nbs + nps ≤ 9223372036854775807) (h2 : ncb + ncp ≤ 9223372036854775807) :
    Calls Try.prog 34 #[msgAgg f t k ba bn (.slice a1 ntx c1) ha hr (.slice a2 nbs c2) (.slice a3 nps c3) sa sr (.slice a4 nd c4) ca cr (.slice a5 ncb c5) (.slice a6 ncp c6) (.slice a7 nvs c7) r] w fun e w' => e = .returned (.bool (noneB ba bn ntx ha hr nbs nps sa sr nd ca cr ncb ncp nvs r)) ∧ Below w.heap.size w w' := by
  have hb0 : Below w.heap.size w (w.alloc (.cells #[.int .i64 f, .int .i64 t, .int .i64 k, .int .i64 ba, .int .i64 bn, .slice a1 ntx c1, .int .i64 ha, .int .i64 hr, .slice a2 nbs c2, .slice a3 nps c3, .int .i64 sa, .int .i64 sr, .slice a4 nd c4, .int .i64 ca, .int .i64 cr, .slice a5 ncb c5, .slice a6 ncp c6, .slice a7 nvs c7, .int .i64 r] 42)) := (Below.refl _ _).alloc (Nat.le_refl _) _
  have bx := BoxAt.new w [.int .i64 f, .int .i64 t, .int .i64 k, .int .i64 ba, .int .i64 bn, .slice a1 ntx c1, .int .i64 ha, .int .i64 hr, .slice a2 nbs c2, .slice a3 nps c3, .int .i64 sa, .int .i64 sr, .slice a4 nd c4, .int .i64 ca, .int .i64 cr, .slice a5 ncb c5, .slice a6 ncp c6, .slice a7 nvs c7, .int .i64 r] 42
  go_enter Try.func34, Try.ntmps34
  unfold msgAgg
  cases g1 : (ba == 0)
  · go_wp2
    go_ret
    exact ⟨ret_boolH (by unfold noneB; simp [g1]), hb0⟩
  cases g2 : (bn == 0)
  · go_wp2
    go_ret
    exact ⟨ret_boolH (by unfold noneB; simp [g1, g2]), hb0⟩
  cases g3 : (((ntx : Nat) : Int) == 0)
  · go_wp2
    go_ret
    exact ⟨ret_boolH (by rw [len0] at g3; unfold noneB; simp [g1, g2, g3]), hb0⟩
  cases g4 : (nhB ha hr nbs nps)
  · go_wp2_with (first
      | (go_at_call 48; with_reducible refine (noHeader_any ha hr a2 nbs c2 a3 nps c3 _ h1).mono ?_; rintro e w1 ⟨rfl, hb1⟩; have hB1 := hb0.trans (hb1.mono (by simp)); have bx1 := bx.belowS hb1; have p10 := bx1.cell 10 rfl; have p11 := bx1.cell 11 rfl; have p12 := bx1.cell 12 rfl; have p13 := bx1.cell 13 rfl; have p14 := bx1.cell 14 rfl; have p15 := bx1.cell 15 rfl; have p16 := bx1.cell 16 rfl; have p17 := bx1.cell 17 rfl; have p18 := bx1.cell 18 rfl; have HBX1 := Lib.hid bx1; have HB1 := Lib.hid hB1; have z1 := bx1.lt; clear bx1 hB1 hb1)
      | (go_at_call 48; with_reducible refine (noHeader_any ca cr a5 ncb c5 a6 ncp c6 _ h2).mono ?_; rintro e w2 ⟨rfl, hb2⟩; have hB2 := HB1.out.trans (hb2.mono HB1.out.size); have bx2 := HBX1.out.belowS hb2; have q17 := bx2.cell 17 rfl; have q18 := bx2.cell 18 rfl; clear bx2 hb2))
    go_ret
    exact ⟨ret_boolH (by rw [len0] at g3; unfold noneB; simp [g1, g2, g3, g4]), HB1.out⟩
  cases g5 : (sa == 0)
  · go_wp2_with (first
      | (go_at_call 48; with_reducible refine (noHeader_any ha hr a2 nbs c2 a3 nps c3 _ h1).mono ?_; rintro e w1 ⟨rfl, hb1⟩; have hB1 := hb0.trans (hb1.mono (by simp)); have bx1 := bx.belowS hb1; have p10 := bx1.cell 10 rfl; have p11 := bx1.cell 11 rfl; have p12 := bx1.cell 12 rfl; have p13 := bx1.cell 13 rfl; have p14 := bx1.cell 14 rfl; have p15 := bx1.cell 15 rfl; have p16 := bx1.cell 16 rfl; have p17 := bx1.cell 17 rfl; have p18 := bx1.cell 18 rfl; have HBX1 := Lib.hid bx1; have HB1 := Lib.hid hB1; have z1 := bx1.lt; clear bx1 hB1 hb1)
      | (go_at_call 48; with_reducible refine (noHeader_any ca cr a5 ncb c5 a6 ncp c6 _ h2).mono ?_; rintro e w2 ⟨rfl, hb2⟩; have hB2 := HB1.out.trans (hb2.mono HB1.out.size); have bx2 := HBX1.out.belowS hb2; have q17 := bx2.cell 17 rfl; have q18 := bx2.cell 18 rfl; clear bx2 hb2))
    go_ret
    exact ⟨ret_boolH (by rw [len0] at g3; unfold noneB; simp [g1, g2, g3, g4, g5]), HB1.out⟩
  cases g6 : (sr == 0)
  · go_wp2_with (first
      | (go_at_call 48; with_reducible refine (noHeader_any ha hr a2 nbs c2 a3 nps c3 _ h1).mono ?_; rintro e w1 ⟨rfl, hb1⟩; have hB1 := hb0.trans (hb1.mono (by simp)); have bx1 := bx.belowS hb1; have p10 := bx1.cell 10 rfl; have p11 := bx1.cell 11 rfl; have p12 := bx1.cell 12 rfl; have p13 := bx1.cell 13 rfl; have p14 := bx1.cell 14 rfl; have p15 := bx1.cell 15 rfl; have p16 := bx1.cell 16 rfl; have p17 := bx1.cell 17 rfl; have p18 := bx1.cell 18 rfl; have HBX1 := Lib.hid bx1; have HB1 := Lib.hid hB1; have z1 := bx1.lt; clear bx1 hB1 hb1)
      | (go_at_call 48; with_reducible refine (noHeader_any ca cr a5 ncb c5 a6 ncp c6 _ h2).mono ?_; rintro e w2 ⟨rfl, hb2⟩; have hB2 := HB1.out.trans (hb2.mono HB1.out.size); have bx2 := HBX1.out.belowS hb2; have q17 := bx2.cell 17 rfl; have q18 := bx2.cell 18 rfl; clear bx2 hb2))
    go_ret
    exact ⟨ret_boolH (by rw [len0] at g3; unfold noneB; simp [g1, g2, g3, g4, g5, g6]), HB1.out⟩
  cases g7 : (((nd : Nat) : Int) == 0)
  · go_wp2_with (first
      | (go_at_call 48; with_reducible refine (noHeader_any ha hr a2 nbs c2 a3 nps c3 _ h1).mono ?_; rintro e w1 ⟨rfl, hb1⟩; have hB1 := hb0.trans (hb1.mono (by simp)); have bx1 := bx.belowS hb1; have p10 := bx1.cell 10 rfl; have p11 := bx1.cell 11 rfl; have p12 := bx1.cell 12 rfl; have p13 := bx1.cell 13 rfl; have p14 := bx1.cell 14 rfl; have p15 := bx1.cell 15 rfl; have p16 := bx1.cell 16 rfl; have p17 := bx1.cell 17 rfl; have p18 := bx1.cell 18 rfl; have HBX1 := Lib.hid bx1; have HB1 := Lib.hid hB1; have z1 := bx1.lt; clear bx1 hB1 hb1)
      | (go_at_call 48; with_reducible refine (noHeader_any ca cr a5 ncb c5 a6 ncp c6 _ h2).mono ?_; rintro e w2 ⟨rfl, hb2⟩; have hB2 := HB1.out.trans (hb2.mono HB1.out.size); have bx2 := HBX1.out.belowS hb2; have q17 := bx2.cell 17 rfl; have q18 := bx2.cell 18 rfl; clear bx2 hb2))
    go_ret
    exact ⟨ret_boolH (by rw [len0] at g3; rw [len0] at g7; unfold noneB; simp [g1, g2, g3, g4, g5, g6, g7]), HB1.out⟩
  cases g8 : (nhB ca cr ncb ncp)
  · go_wp2_with (first
      | (go_at_call 48; with_reducible refine (noHeader_any ha hr a2 nbs c2 a3 nps c3 _ h1).mono ?_; rintro e w1 ⟨rfl, hb1⟩; have hB1 := hb0.trans (hb1.mono (by simp)); have bx1 := bx.belowS hb1; have p10 := bx1.cell 10 rfl; have p11 := bx1.cell 11 rfl; have p12 := bx1.cell 12 rfl; have p13 := bx1.cell 13 rfl; have p14 := bx1.cell 14 rfl; have p15 := bx1.cell 15 rfl; have p16 := bx1.cell 16 rfl; have p17 := bx1.cell 17 rfl; have p18 := bx1.cell 18 rfl; have HBX1 := Lib.hid bx1; have HB1 := Lib.hid hB1; have z1 := bx1.lt; clear bx1 hB1 hb1)
      | (go_at_call 48; with_reducible refine (noHeader_any ca cr a5 ncb c5 a6 ncp c6 _ h2).mono ?_; rintro e w2 ⟨rfl, hb2⟩; have hB2 := HB1.out.trans (hb2.mono HB1.out.size); have bx2 := HBX1.out.belowS hb2; have q17 := bx2.cell 17 rfl; have q18 := bx2.cell 18 rfl; clear bx2 hb2))
    go_ret
    exact ⟨ret_boolH (by rw [len0] at g3; rw [len0] at g7; unfold noneB; simp [g1, g2, g3, g4, g5, g6, g7, g8]), hB2⟩
  cases g9 : (((nvs : Nat) : Int) == 0)
  · go_wp2_with (first
      | (go_at_call 48; with_reducible refine (noHeader_any ha hr a2 nbs c2 a3 nps c3 _ h1).mono ?_; rintro e w1 ⟨rfl, hb1⟩; have hB1 := hb0.trans (hb1.mono (by simp)); have bx1 := bx.belowS hb1; have p10 := bx1.cell 10 rfl; have p11 := bx1.cell 11 rfl; have p12 := bx1.cell 12 rfl; have p13 := bx1.cell 13 rfl; have p14 := bx1.cell 14 rfl; have p15 := bx1.cell 15 rfl; have p16 := bx1.cell 16 rfl; have p17 := bx1.cell 17 rfl; have p18 := bx1.cell 18 rfl; have HBX1 := Lib.hid bx1; have HB1 := Lib.hid hB1; have z1 := bx1.lt; clear bx1 hB1 hb1)
      | (go_at_call 48; with_reducible refine (noHeader_any ca cr a5 ncb c5 a6 ncp c6 _ h2).mono ?_; rintro e w2 ⟨rfl, hb2⟩; have hB2 := HB1.out.trans (hb2.mono HB1.out.size); have bx2 := HBX1.out.belowS hb2; have q17 := bx2.cell 17 rfl; have q18 := bx2.cell 18 rfl; clear bx2 hb2))
    go_ret
    exact ⟨ret_boolH (by rw [len0] at g3; rw [len0] at g7; rw [len0] at g9; unfold noneB; simp [g1, g2, g3, g4, g5, g6, g7, g8, g9]), hB2⟩
  go_wp2_with (first
    | (go_at_call 48; with_reducible refine (noHeader_any ha hr a2 nbs c2 a3 nps c3 _ h1).mono ?_; rintro e w1 ⟨rfl, hb1⟩; have hB1 := hb0.trans (hb1.mono (by simp)); have bx1 := bx.belowS hb1; have p10 := bx1.cell 10 rfl; have p11 := bx1.cell 11 rfl; have p12 := bx1.cell 12 rfl; have p13 := bx1.cell 13 rfl; have p14 := bx1.cell 14 rfl; have p15 := bx1.cell 15 rfl; have p16 := bx1.cell 16 rfl; have p17 := bx1.cell 17 rfl; have p18 := bx1.cell 18 rfl; have HBX1 := Lib.hid bx1; have HB1 := Lib.hid hB1; have z1 := bx1.lt; clear bx1 hB1 hb1)
    | (go_at_call 48; with_reducible refine (noHeader_any ca cr a5 ncb c5 a6 ncp c6 _ h2).mono ?_; rintro e w2 ⟨rfl, hb2⟩; have hB2 := HB1.out.trans (hb2.mono HB1.out.size); have bx2 := HBX1.out.belowS hb2; have q17 := bx2.cell 17 rfl; have q18 := bx2.cell 18 rfl; clear bx2 hb2))
  go_ret
  exact ⟨ret_boolH (by rw [len0] at g3; rw [len0] at g7; rw [len0] at g9; unfold noneB; simp [g1, g2, g3, g4, g5, g6, g7, g8, g9]), hB2⟩
end Go.Proofs.Ytgkmgdkmafbohaa
/- Variables of many cells: read and written whole, the world a letter. No program is named. -/
set_option linter.unusedVariables false
set_option linter.unusedSimpArgs false
namespace Go.Proofs.Ytgkmgdkmafbohaa
open Go Go.RowKit

theorem wpList_load_box {P : Program} {w : World} {ops : Array Oper} {rest : List Oper} {o : Oper} {a : Act} {Q : Exit → Act → World → Prop} (hgd : o.guard = none) (ty : TypeId) (x : Operand) (ho : o.op = .load ty x)
    (b : Nat) (hx : a.eval x = .pointer (some ⟨b, 0, none⟩)) (cs : List Value) (T : TypeId) (hb : BoxAt w b cs T) {d : TypeDesc}
    (hu : P.underlying ty = some d) (hd : (match d with | .struct _ | .array _ _ => true | _ => false) = true) (hi : (P.info? ty).map (·.size) = some cs.toArray.size)
    (h : wpList P ops Q rest (a.put o.dst (.agg cs.toArray)) w) : wpList P ops Q (o :: rest) a w :=
  wpList_load_row hgd ty x ho b hx T cs.toArray (0, 0) d hb hu hd hi h
theorem wpList_store_box {P : Program} {w : World} {ops : Array Oper} {rest : List Oper} {o : Oper} {a : Act} {Q : Exit → Act → World → Prop} (hgd : o.guard = none) (ty : TypeId) (x y : Operand) (ho : o.op = .store ty x y)
    (b : Nat) (cs : List Value) (hx : a.eval x = .pointer (some ⟨b, 0, none⟩)) (hy : a.eval y = .agg cs.toArray) (T : TypeId) (old : List Value) (hb : BoxAt w b old T)
    (hi : (P.info? ty).map (·.size) = some cs.toArray.size) (hl : old.length = cs.length) (h1 : cs.all (·.oneCell') = true)
    (h : ∀ w', BoxAt w' b cs T → Below b w w' → (∀ b' cs' T', b' ≠ b → BoxAt w b' cs' T' → BoxAt w' b' cs' T') → w'.heap.size = w.heap.size → wpList P ops Q rest (a.put o.dst undef) w') : wpList P ops Q (o :: rest) a w :=
  wpList_store_row hgd ty x y ho b cs.toArray hx hy T old.toArray hb hi (by simpa using hl) (by simpa using h1)
    (h _ (setRow_heap w b old.toArray cs.toArray T _ hb) (below_setRow (Below.refl _ _) (Nat.le_refl _) _) (fun b' cs' T' hne h' => (setRow_other w b b' _ hne).trans h') (by simp))
/-- A new variable, and what is stored into it at once. -/
theorem wpList_store_new {P : Program} {w : World} {ops : Array Oper} {rest : List Oper} {o : Oper} {a : Act} {Q : Exit → Act → World → Prop} (hgd : o.guard = none) (ty : TypeId) (x y : Operand) (ho : o.op = .store ty x y)
    (cs : List Value) (T : TypeId) (old : List Value) (hx : a.eval x = .pointer (some ⟨w.heap.size, 0, none⟩)) (hy : a.eval y = .agg cs.toArray)
    (hi : (P.info? ty).map (·.size) = some cs.toArray.size) (hl : old.length = cs.length) (h1 : cs.all (·.oneCell') = true)
    (h : ∀ w', BoxAt w' w.heap.size cs T → Below w.heap.size w w' → w'.heap.size = w.heap.size + 1 → wpList P ops Q rest (a.put o.dst undef) w') : wpList P ops Q (o :: rest) a (w.alloc (.cells old.toArray T)) :=
  wpList_store_box hgd ty x y ho w.heap.size cs hx hy T old (BoxAt.new w old T) hi hl h1
    (fun w' hb hw _ hs => h w' hb (((Below.refl _ w).alloc (Nat.le_refl _) _).trans hw) (by rw [hs]; simp))
/-- The store into a new variable as an equation: the world behind it a letter. -/
theorem store_new_eq {P : Program} (w : World) (ty : TypeId) (cs old : List Value) (T : TypeId) (hi : (P.info? ty).map (·.size) = some cs.toArray.size) (hl : old.length = cs.length) (h1 : cs.all (·.oneCell') = true) :
    ∃ w', (Instr.storeAt ty (.pointer (some ⟨w.heap.size, 0, none⟩)) (.agg cs.toArray)).run P ((w.alloc (.cells old.toArray T)).drew) = .ok () w' ∧ BoxAt w' w.heap.size cs T ∧ Below w.heap.size w w' ∧ w'.heap.size = w.heap.size + 1 := by
  have hb : BoxAt ((w.alloc (.cells old.toArray T)).drew) w.heap.size old T := (BoxAt.new w old T).drew
  refine ⟨((w.alloc (.cells old.toArray T)).drew).setRow w.heap.size cs.toArray, ?_, setRow_heap _ _ _ _ _ _ hb, below_setRow (((Below.refl _ w).alloc (Nat.le_refl _) _).drew) (Nat.le_refl _) _, by simp⟩
  simp only [Instr.storeAt, Instr.sureAddr, Sem.run_bind, Sem.run_pure, Result.andThen_ok]
  exact run_storeVar_row _ _ T ty old.toArray cs.toArray hb hi (by simpa using hl) (by simpa using h1)
/-- The same as the walk's simp leaves it. -/
theorem storeCells_new_eq {P : Program} (w : World) (ty : TypeId) (cs old : List Value) (T : TypeId) (hi : (P.info? ty).map (·.size) = some cs.toArray.size) (hl : old.length = cs.length) (h1 : cs.all (·.oneCell') = true) :
    ∃ w', (storeCells ⟨w.heap.size, 0, none⟩ cs 0).run P ((w.alloc (.cells old.toArray T)).drew) = .ok () w' ∧ BoxAt w' w.heap.size cs T ∧ Below w.heap.size w w' ∧ w'.heap.size = w.heap.size + 1 := by
  have hb : BoxAt ((w.alloc (.cells old.toArray T)).drew) w.heap.size old T := (BoxAt.new w old T).drew
  refine ⟨((w.alloc (.cells old.toArray T)).drew).setRow w.heap.size cs.toArray, ?_, setRow_heap _ _ _ _ _ _ hb, below_setRow (((Below.refl _ w).alloc (Nat.le_refl _) _).drew) (Nat.le_refl _) _, by simp⟩
  have := run_storeVar_row (P := P) ((w.alloc (.cells old.toArray T)).drew) w.heap.size T ty old.toArray cs.toArray hb hi (by simpa using hl) (by simpa using h1)
  cases hq : P.info? ty with
  | none => simp [hq] at hi
  | some i =>
    have hs : cs.length = i.size := by simp [hq] at hi; omega
    simpa [storeVar, sizeOf, typeInfo, hq, Value.cells, hs] using this
end Go.Proofs.Ytgkmgdkmafbohaa
/- wire.Check: what it computes. -/
set_option linter.unusedVariables false
set_option linter.unusedSimpArgs false
namespace Go.Proofs.Ytgkmgdkmafbohaa
open Go Go.RowKit

abbrev zeroMsg : List Value := [.int .i64 0, .int .i64 0, .int .i64 0, .int .i64 0, .int .i64 0, .slice none 0 0, .int .i64 0, .int .i64 0, .slice none 0 0, .slice none 0 0, .int .i64 0, .int .i64 0, .slice none 0 0, .int .i64 0, .int .i64 0, .slice none 0 0, .slice none 0 0, .slice none 0 0, .int .i64 0]
set_option maxRecDepth 100000 in
set_option maxHeartbeats 4000000 in
theorem wcheck_bad (f t k ba bn : Int) (a1 : Option Addr) (ntx c1 : Nat) (ha hr : Int) (a2 : Option Addr) (nbs c2 : Nat) (a3 : Option Addr) (nps c3 : Nat) (sa sr : Int) (a4 : Option Addr) (nd c4 : Nat) (ca cr : Int) (a5 : Option Addr) (ncb c5 : Nat) (a6 : Option Addr) (ncp c6 : Nat) (a7 : Option Addr) (nvs c7 : Nat) (r : Int) (w : World) (c : Int)
    (h : ((nodeOk f = false ∨ nodeOk t = false) ∧ c = 2) ∨ (nodeOk f = true ∧ nodeOk t = true ∧ (k < 1 ∨ 5 < k) ∧ c = 3)) :
    Calls Try.prog 18 #[msgAgg f t k ba bn (.slice a1 ntx c1) ha hr (.slice a2 nbs c2) (.slice a3 nps c3) sa sr (.slice a4 nd c4) ca cr (.slice a5 ncb c5) (.slice a6 ncp c6) (.slice a7 nvs c7) r] w fun e w' => e = .returned (.int .i64 c) ∧ Below w.heap.size w w' := by
  go_enter Try.func18, Try.ntmps18
  unfold msgAgg
  go_upto_region 1 with fail
  obtain ⟨w1, hw1⟩ : ∃ w1, w1 = w.alloc (.cells #[.int .i64 f, .int .i64 t, .int .i64 k, .int .i64 ba, .int .i64 bn, .slice a1 ntx c1, .int .i64 ha, .int .i64 hr, .slice a2 nbs c2, .slice a3 nps c3, .int .i64 sa, .int .i64 sr, .slice a4 nd c4, .int .i64 ca, .int .i64 cr, .slice a5 ncb c5, .slice a6 ncp c6, .slice a7 nvs c7, .int .i64 r] 42) := ⟨_, rfl⟩
  have bx : BoxAt w1 w.heap.size [.int .i64 f, .int .i64 t, .int .i64 k, .int .i64 ba, .int .i64 bn, .slice a1 ntx c1, .int .i64 ha, .int .i64 hr, .slice a2 nbs c2, .slice a3 nps c3, .int .i64 sa, .int .i64 sr, .slice a4 nd c4, .int .i64 ca, .int .i64 cr, .slice a5 ncb c5, .slice a6 ncp c6, .slice a7 nvs c7, .int .i64 r] 42 := by rw [hw1]; exact BoxAt.new w [.int .i64 f, .int .i64 t, .int .i64 k, .int .i64 ba, .int .i64 bn, .slice a1 ntx c1, .int .i64 ha, .int .i64 hr, .slice a2 nbs c2, .slice a3 nps c3, .int .i64 sa, .int .i64 sr, .slice a4 nd c4, .int .i64 ca, .int .i64 cr, .slice a5 ncb c5, .slice a6 ncp c6, .slice a7 nvs c7, .int .i64 r] _
  have hb1 : Below w.heap.size w w1 := by rw [hw1]; exact (Below.refl _ _).alloc (Nat.le_refl _) _
  have z1 : w1.heap.size = w.heap.size + 1 := by rw [hw1]; simp
  rw [← hw1]
  have HBX := Lib.hid bx
  have HB1 := Lib.hid hb1
  have HZ1 := Lib.hid z1
  have p0 := bx.cell 0 rfl
  have p1 := bx.cell 1 rfl
  have p2 := bx.cell 2 rfl
  clear hw1 bx hb1 z1
  cases e1 : nodeOk f
  · obtain rfl : c = 2 := by rcases h with h | h; exact h.2; simp [e1] at h
    clear h
    go_wp2_with (go_at_call 29; refine (node_any _ _).mono ?_; rintro e w' ⟨rfl, rfl⟩)
    go_ret
    exact ⟨rfl, HB1.out⟩
  cases e2 : nodeOk t
  · obtain rfl : c = 2 := by rcases h with h | h; exact h.2; simp [e2] at h
    clear h
    go_wp2_with (go_at_call 29; refine (node_any _ _).mono ?_; rintro e w' ⟨rfl, rfl⟩)
    go_ret
    exact ⟨rfl, HB1.out⟩
  obtain ⟨hk, rfl⟩ : (k < 1 ∨ 5 < k) ∧ c = 3 := by rcases h with h | h; simp [e1, e2] at h; exact h.2.2
  have k1 : (k == 1) = false := by rw [beq_eq_false_iff_ne]; omega
  have k2 : (k == 2) = false := by rw [beq_eq_false_iff_ne]; omega
  have k3 : (k == 3) = false := by rw [beq_eq_false_iff_ne]; omega
  have k4 : (k == 4) = false := by rw [beq_eq_false_iff_ne]; omega
  have k5 : (k == 5) = false := by rw [beq_eq_false_iff_ne]; omega
  clear h hk
  go_upto_region 3 with (go_at_call 29; refine (node_any _ _).mono ?_; rintro e w' ⟨rfl, rfl⟩)
  go_wp2_with (first
    | (refine wpList_load_box rfl 42 _ rfl w.heap.size rfl [.int .i64 f, .int .i64 t, .int .i64 k, .int .i64 ba, .int .i64 bn, .slice a1 ntx c1, .int .i64 ha, .int .i64 hr, .slice a2 nbs c2, .slice a3 nps c3, .int .i64 sa, .int .i64 sr, .slice a4 nd c4, .int .i64 ca, .int .i64 cr, .slice a5 ncb c5, .slice a6 ncp c6, .slice a7 nvs c7, .int .i64 r] 42 HBX.out Try.underlying42 rfl (by kernel_rfl) ?_)
    | (refine wpList_store_new rfl 42 _ _ rfl [.int .i64 f, .int .i64 t, .int .i64 k, .int .i64 ba, .int .i64 bn, .slice a1 ntx c1, .int .i64 ha, .int .i64 hr, .slice a2 nbs c2, .slice a3 nps c3, .int .i64 sa, .int .i64 sr, .slice a4 nd c4, .int .i64 ca, .int .i64 cr, .slice a5 ncb c5, .slice a6 ncp c6, .slice a7 nvs c7, .int .i64 r] 42 zeroMsg rfl rfl (by kernel_rfl) rfl rfl ?_; intro w2 hb2 hB2 hs2; have q0 := ((bcellAt hB2 _ HBX.out.lt).1 2).trans p2; have HB2 := Lib.hid hB2; clear hb2 hB2 hs2))
  go_ret
  exact ⟨rfl, HB1.out.trans (HB2.out.mono HB1.out.size)⟩
end Go.Proofs.Ytgkmgdkmafbohaa
/- wire.Check, kind by kind: what it computes. -/
set_option linter.unusedVariables false
set_option linter.unusedSimpArgs false
namespace Go.Proofs.Ytgkmgdkmafbohaa
open Go Go.RowKit

set_option maxRecDepth 100000 in
set_option maxHeartbeats 8000000 in
theorem wcheck_1 {G : Nat → Prop} {txs : List Bytes} (f t ba bn : Int) (a1 : Option Addr) (c1 : Nat) (ha hr : Int) (a2 : Option Addr) (nbs : Nat) (c2 : Nat) (a3 : Option Addr) (nps : Nat) (c3 : Nat) (sa sr : Int) (a4 : Option Addr) (nd c4 : Nat) (ca cr : Int) (a5 : Option Addr) (ncb : Nat) (c5 : Nat) (a6 : Option Addr) (ncp : Nat) (c6 : Nat) (a7 : Option Addr) (nvs : Nat) (c7 : Nat) (r : Int) (w : World)
    (e1 : nodeOk f = true) (e2 : nodeOk t = true) (g1 : RdT G w (.slice a1 txs.length c1) txs) (hl : ∀ t ∈ txs, t.length ≤ 9223372036854775807) (h1 : nbs + nps ≤ 9223372036854775807) (h2 : ncb + ncp ≤ 9223372036854775807) :
    Calls Try.prog 18 #[.agg #[.int .i64 f, .int .i64 t, .int .i64 1, .int .i64 ba, .int .i64 bn, .slice a1 txs.length c1, .int .i64 ha, .int .i64 hr, .slice a2 nbs c2, .slice a3 nps c3, .int .i64 sa, .int .i64 sr, .slice a4 nd c4, .int .i64 ca, .int .i64 cr, .slice a5 ncb c5, .slice a6 ncp c6, .slice a7 nvs c7, .int .i64 r]] w fun e w' => e = .returned (.int .i64 (if batCode ⟨ba, bn, txs⟩ ≠ 0 then batCode ⟨ba, bn, txs⟩ else if noneB 0 0 0 ha hr nbs nps sa sr nd ca cr ncb ncp nvs r = true then 0 else 4)) ∧ Below w.heap.size w w' := by
  have G1 := Lib.hid (g1.low (by decide))
  have HL := Lib.hid hl
  clear g1 hl
  go_enter Try.func18, Try.ntmps18
  go_upto_region 1 with fail
  obtain ⟨w1, hw1⟩ : ∃ w1, w1 = w.alloc (.cells #[.int .i64 f, .int .i64 t, .int .i64 1, .int .i64 ba, .int .i64 bn, .slice a1 txs.length c1, .int .i64 ha, .int .i64 hr, .slice a2 nbs c2, .slice a3 nps c3, .int .i64 sa, .int .i64 sr, .slice a4 nd c4, .int .i64 ca, .int .i64 cr, .slice a5 ncb c5, .slice a6 ncp c6, .slice a7 nvs c7, .int .i64 r] 42) := ⟨_, rfl⟩
  have bx : BoxAt w1 w.heap.size [.int .i64 f, .int .i64 t, .int .i64 1, .int .i64 ba, .int .i64 bn, .slice a1 txs.length c1, .int .i64 ha, .int .i64 hr, .slice a2 nbs c2, .slice a3 nps c3, .int .i64 sa, .int .i64 sr, .slice a4 nd c4, .int .i64 ca, .int .i64 cr, .slice a5 ncb c5, .slice a6 ncp c6, .slice a7 nvs c7, .int .i64 r] 42 := by rw [hw1]; exact BoxAt.new w [.int .i64 f, .int .i64 t, .int .i64 1, .int .i64 ba, .int .i64 bn, .slice a1 txs.length c1, .int .i64 ha, .int .i64 hr, .slice a2 nbs c2, .slice a3 nps c3, .int .i64 sa, .int .i64 sr, .slice a4 nd c4, .int .i64 ca, .int .i64 cr, .slice a5 ncb c5, .slice a6 ncp c6, .slice a7 nvs c7, .int .i64 r] _
  have hb1 : Below w.heap.size w w1 := by rw [hw1]; exact (Below.refl _ _).alloc (Nat.le_refl _) _
  have z1 : w1.heap.size = w.heap.size + 1 := by rw [hw1]; simp
  rw [← hw1]
  have HBX := Lib.hid bx
  have HB1 := Lib.hid hb1
  have HZ1 := Lib.hid z1
  have p0 := bx.cell 0 rfl
  have p1 := bx.cell 1 rfl
  clear hw1 bx hb1 z1
  go_upto_region 3 with (go_at_call 29; refine (node_any _ _).mono ?_; rintro e w' ⟨rfl, rfl⟩)
  go_upto_region 9 with (first
    | (refine wpList_load_box rfl 42 _ rfl w.heap.size rfl [.int .i64 f, .int .i64 t, .int .i64 1, .int .i64 ba, .int .i64 bn, .slice a1 txs.length c1, .int .i64 ha, .int .i64 hr, .slice a2 nbs c2, .slice a3 nps c3, .int .i64 sa, .int .i64 sr, .slice a4 nd c4, .int .i64 ca, .int .i64 cr, .slice a5 ncb c5, .slice a6 ncp c6, .slice a7 nvs c7, .int .i64 r] 42 HBX.out Try.underlying42 rfl (by kernel_rfl) ?_)
    | (refine wpList_store_new rfl 42 _ _ rfl [.int .i64 f, .int .i64 t, .int .i64 1, .int .i64 ba, .int .i64 bn, .slice a1 txs.length c1, .int .i64 ha, .int .i64 hr, .slice a2 nbs c2, .slice a3 nps c3, .int .i64 sa, .int .i64 sr, .slice a4 nd c4, .int .i64 ca, .int .i64 cr, .slice a5 ncb c5, .slice a6 ncp c6, .slice a7 nvs c7, .int .i64 r] 42 zeroMsg rfl rfl (by kernel_rfl) rfl rfl ?_; intro w2 hb2 hB2 hs2; have q2 := ((bcellAt hB2 _ HBX.out.lt).1 2).trans (HBX.out.cell 2 rfl); have q3 := ((bcellAt hB2 _ HBX.out.lt).1 3).trans (HBX.out.cell 3 rfl); have q4 := ((bcellAt hB2 _ HBX.out.lt).1 4).trans (HBX.out.cell 4 rfl); have q5 := ((bcellAt hB2 _ HBX.out.lt).1 5).trans (HBX.out.cell 5 rfl); have r3 := hb2.cell 3 rfl; have rf3 := hb2.free 3; have r4 := hb2.cell 4 rfl; have rf4 := hb2.free 4; have r5 := hb2.cell 5 rfl; have rf5 := hb2.free 5; have n12 : w1.heap.size ≠ w.heap.size := (by have := HZ1.out; omega); have n21 : w.heap.size ≠ w1.heap.size := (by have := HZ1.out; omega); have HB2 := Lib.hid hB2; have HBR := Lib.hid hb2; have HZ2 := Lib.hid hs2; clear hb2 hB2 hs2))
  obtain ⟨w3, hw3⟩ : ∃ w3, w3 = (((w2.setCell ⟨w1.heap.size, 3, none⟩ (.int .i64 0)).setCell ⟨w1.heap.size, 4, none⟩ (.int .i64 0)).setCell ⟨w1.heap.size, 5, none⟩ (.slice none 0 0)) := ⟨_, rfl⟩
  have hB3 : Below w1.heap.size w1 w3 := by rw [hw3]; exact (((HB2.out.setCell (p := ⟨w1.heap.size, 3, none⟩) (Nat.le_refl _) (.int .i64 0)).setCell (p := ⟨w1.heap.size, 4, none⟩) (Nat.le_refl _) (.int .i64 0)).setCell (p := ⟨w1.heap.size, 5, none⟩) (Nat.le_refl _) (.slice none 0 0))
  have hbz : BoxAt w3 w1.heap.size [.int .i64 f, .int .i64 t, .int .i64 1, .int .i64 0, .int .i64 0, .slice none 0 0, .int .i64 ha, .int .i64 hr, .slice a2 nbs c2, .slice a3 nps c3, .int .i64 sa, .int .i64 sr, .slice a4 nd c4, .int .i64 ca, .int .i64 cr, .slice a5 ncb c5, .slice a6 ncp c6, .slice a7 nvs c7, .int .i64 r] 42 := by rw [hw3]; exact (((HBR.out.set 3 (.int .i64 0)).set 4 (.int .i64 0)).set 5 (.slice none 0 0))
  have s3 : w3.heap.size = w1.heap.size + 1 := by rw [hw3]; simp [HZ2.out]
  rw [← hw3]
  have m3 := ((bcellAt hB3 _ HBX.out.lt).1 3).trans (HBX.out.cell 3 rfl)
  have m4 := ((bcellAt hB3 _ HBX.out.lt).1 4).trans (HBX.out.cell 4 rfl)
  have m5 := ((bcellAt hB3 _ HBX.out.lt).1 5).trans (HBX.out.cell 5 rfl)
  have HB3 := Lib.hid hB3
  have HBZ3 := Lib.hid hbz
  have HS3 := Lib.hid s3
  clear hw3 hB3 hbz s3 q2 q3 q4 q5 r3 rf3 r4 rf4 r5 rf5
  go_wp2_with fail
  refine (cbatch_any _ _ _ _ (G1.out.keep (G' := fun _ => True) ((Keep.below HB1.out).trans (Keep.below HB3.out)) (fun _ _ => trivial)) HL.out).mono ?_
  rintro e w4 ⟨rfl, hb4⟩
  have HBZ := Lib.hid (HBZ3.out.belowS hb4)
  have HB4 := Lib.hid (show Below w.heap.size w w4 from (HB1.out.trans (HB3.out.mono HB1.out.size)).trans (hb4.mono (by have := HB1.out.size; have := HB3.out.size; omega)))
  clear hb4
  by_cases d : batCode ⟨ba, bn, txs⟩ = 0
  · have d1c : (batCode ⟨ba, bn, txs⟩ != 0) = false := by simp [d]
    go_wp2_with (first | (refine wpList_load_box rfl 42 _ rfl w1.heap.size rfl [.int .i64 f, .int .i64 t, .int .i64 1, .int .i64 0, .int .i64 0, .slice none 0 0, .int .i64 ha, .int .i64 hr, .slice a2 nbs c2, .slice a3 nps c3, .int .i64 sa, .int .i64 sr, .slice a4 nd c4, .int .i64 ca, .int .i64 cr, .slice a5 ncb c5, .slice a6 ncp c6, .slice a7 nvs c7, .int .i64 r] 42 HBZ.out Try.underlying42 rfl (by kernel_rfl) ?_))
    refine (none_any f t 1 0 0 none 0 0 ha hr a2 nbs c2 a3 nps c3 sa sr a4 nd c4 ca cr a5 ncb c5 a6 ncp c6 a7 nvs c7 r _ h1 h2).mono ?_
    rintro e w5 ⟨rfl, hb5⟩
    have hB5 := HB4.out.trans (hb5.mono HB4.out.size)
    cases hn : noneB 0 0 0 ha hr nbs nps sa sr nd ca cr ncb ncp nvs r
    · go_wp2
      all_goals
        go_ret
        exact ⟨ret_intH (by first | rfl | (rw [if_neg (show ¬ (batCode ⟨ba, bn, txs⟩ ≠ 0) by simp [d])]; rfl)), hB5⟩
    · go_wp2
      all_goals
        go_ret
        exact ⟨ret_intH (by first | rfl | (rw [if_neg (show ¬ (batCode ⟨ba, bn, txs⟩ ≠ 0) by simp [d])]; rfl)), hB5⟩
  · have d1c : (batCode ⟨ba, bn, txs⟩ != 0) = true := by rw [bne_iff_ne]; exact d
    have HD := Lib.hid d
    clear d
    go_wp2
    go_ret
    exact ⟨ret_intH (by first | rfl | exact if_pos HD.out), HB4.out⟩
end Go.Proofs.Ytgkmgdkmafbohaa
/- wire.Check, kind by kind: what it computes. -/
set_option linter.unusedVariables false
set_option linter.unusedSimpArgs false
namespace Go.Proofs.Ytgkmgdkmafbohaa
open Go Go.RowKit

set_option maxRecDepth 100000 in
set_option maxHeartbeats 8000000 in
theorem wcheck_2 {G : Nat → Prop} {bs ps : List Bytes} (f t ba bn : Int) (a1 : Option Addr) (ntx : Nat) (c1 : Nat) (ha hr : Int) (a2 : Option Addr) (c2 : Nat) (a3 : Option Addr) (c3 : Nat) (sa sr : Int) (a4 : Option Addr) (nd c4 : Nat) (ca cr : Int) (a5 : Option Addr) (ncb : Nat) (c5 : Nat) (a6 : Option Addr) (ncp : Nat) (c6 : Nat) (a7 : Option Addr) (nvs : Nat) (c7 : Nat) (r : Int) (w : World)
    (e1 : nodeOk f = true) (e2 : nodeOk t = true) (g2 : RdBB G w (.slice a2 bs.length c2) bs) (g3 : RdBB G w (.slice a3 ps.length c3) ps) (h1 : 0 + 0 ≤ 9223372036854775807) (h2 : ncb + ncp ≤ 9223372036854775807) :
    Calls Try.prog 18 #[.agg #[.int .i64 f, .int .i64 t, .int .i64 2, .int .i64 ba, .int .i64 bn, .slice a1 ntx c1, .int .i64 ha, .int .i64 hr, .slice a2 bs.length c2, .slice a3 ps.length c3, .int .i64 sa, .int .i64 sr, .slice a4 nd c4, .int .i64 ca, .int .i64 cr, .slice a5 ncb c5, .slice a6 ncp c6, .slice a7 nvs c7, .int .i64 r]] w fun e w' => e = .returned (.int .i64 (if hdrCode ⟨ha, hr, bs, ps⟩ ≠ 0 then hdrCode ⟨ha, hr, bs, ps⟩ else if noneB ba bn ntx 0 0 0 0 sa sr nd ca cr ncb ncp nvs r = true then 0 else 4)) ∧ Below w.heap.size w w' := by
  have G2 := Lib.hid (g2.low (by decide))
  have G3 := Lib.hid (g3.low (by decide))
  clear g2 g3
  go_enter Try.func18, Try.ntmps18
  go_upto_region 1 with fail
  obtain ⟨w1, hw1⟩ : ∃ w1, w1 = w.alloc (.cells #[.int .i64 f, .int .i64 t, .int .i64 2, .int .i64 ba, .int .i64 bn, .slice a1 ntx c1, .int .i64 ha, .int .i64 hr, .slice a2 bs.length c2, .slice a3 ps.length c3, .int .i64 sa, .int .i64 sr, .slice a4 nd c4, .int .i64 ca, .int .i64 cr, .slice a5 ncb c5, .slice a6 ncp c6, .slice a7 nvs c7, .int .i64 r] 42) := ⟨_, rfl⟩
  have bx : BoxAt w1 w.heap.size [.int .i64 f, .int .i64 t, .int .i64 2, .int .i64 ba, .int .i64 bn, .slice a1 ntx c1, .int .i64 ha, .int .i64 hr, .slice a2 bs.length c2, .slice a3 ps.length c3, .int .i64 sa, .int .i64 sr, .slice a4 nd c4, .int .i64 ca, .int .i64 cr, .slice a5 ncb c5, .slice a6 ncp c6, .slice a7 nvs c7, .int .i64 r] 42 := by rw [hw1]; exact BoxAt.new w [.int .i64 f, .int .i64 t, .int .i64 2, .int .i64 ba, .int .i64 bn, .slice a1 ntx c1, .int .i64 ha, .int .i64 hr, .slice a2 bs.length c2, .slice a3 ps.length c3, .int .i64 sa, .int .i64 sr, .slice a4 nd c4, .int .i64 ca, .int .i64 cr, .slice a5 ncb c5, .slice a6 ncp c6, .slice a7 nvs c7, .int .i64 r] _
  have hb1 : Below w.heap.size w w1 := by rw [hw1]; exact (Below.refl _ _).alloc (Nat.le_refl _) _
  have z1 : w1.heap.size = w.heap.size + 1 := by rw [hw1]; simp
  rw [← hw1]
  have HBX := Lib.hid bx
  have HB1 := Lib.hid hb1
  have HZ1 := Lib.hid z1
  have p0 := bx.cell 0 rfl
  have p1 := bx.cell 1 rfl
  clear hw1 bx hb1 z1
  go_upto_region 3 with (go_at_call 29; refine (node_any _ _).mono ?_; rintro e w' ⟨rfl, rfl⟩)
  go_upto_region 12 with (first
    | (refine wpList_load_box rfl 42 _ rfl w.heap.size rfl [.int .i64 f, .int .i64 t, .int .i64 2, .int .i64 ba, .int .i64 bn, .slice a1 ntx c1, .int .i64 ha, .int .i64 hr, .slice a2 bs.length c2, .slice a3 ps.length c3, .int .i64 sa, .int .i64 sr, .slice a4 nd c4, .int .i64 ca, .int .i64 cr, .slice a5 ncb c5, .slice a6 ncp c6, .slice a7 nvs c7, .int .i64 r] 42 HBX.out Try.underlying42 rfl (by kernel_rfl) ?_)
    | (refine wpList_store_new rfl 42 _ _ rfl [.int .i64 f, .int .i64 t, .int .i64 2, .int .i64 ba, .int .i64 bn, .slice a1 ntx c1, .int .i64 ha, .int .i64 hr, .slice a2 bs.length c2, .slice a3 ps.length c3, .int .i64 sa, .int .i64 sr, .slice a4 nd c4, .int .i64 ca, .int .i64 cr, .slice a5 ncb c5, .slice a6 ncp c6, .slice a7 nvs c7, .int .i64 r] 42 zeroMsg rfl rfl (by kernel_rfl) rfl rfl ?_; intro w2 hb2 hB2 hs2; have q2 := ((bcellAt hB2 _ HBX.out.lt).1 2).trans (HBX.out.cell 2 rfl); have q6 := ((bcellAt hB2 _ HBX.out.lt).1 6).trans (HBX.out.cell 6 rfl); have q7 := ((bcellAt hB2 _ HBX.out.lt).1 7).trans (HBX.out.cell 7 rfl); have q8 := ((bcellAt hB2 _ HBX.out.lt).1 8).trans (HBX.out.cell 8 rfl); have q9 := ((bcellAt hB2 _ HBX.out.lt).1 9).trans (HBX.out.cell 9 rfl); have r6 := hb2.cell 6 rfl; have rf6 := hb2.free 6; have r7 := hb2.cell 7 rfl; have rf7 := hb2.free 7; have r8 := hb2.cell 8 rfl; have rf8 := hb2.free 8; have r9 := hb2.cell 9 rfl; have rf9 := hb2.free 9; have n12 : w1.heap.size ≠ w.heap.size := (by have := HZ1.out; omega); have n21 : w.heap.size ≠ w1.heap.size := (by have := HZ1.out; omega); have HB2 := Lib.hid hB2; have HBR := Lib.hid hb2; have HZ2 := Lib.hid hs2; clear hb2 hB2 hs2))
  obtain ⟨w3, hw3⟩ : ∃ w3, w3 = ((((w2.setCell ⟨w1.heap.size, 6, none⟩ (.int .i64 0)).setCell ⟨w1.heap.size, 7, none⟩ (.int .i64 0)).setCell ⟨w1.heap.size, 8, none⟩ (.slice none 0 0)).setCell ⟨w1.heap.size, 9, none⟩ (.slice none 0 0)) := ⟨_, rfl⟩
  have hB3 : Below w1.heap.size w1 w3 := by rw [hw3]; exact ((((HB2.out.setCell (p := ⟨w1.heap.size, 6, none⟩) (Nat.le_refl _) (.int .i64 0)).setCell (p := ⟨w1.heap.size, 7, none⟩) (Nat.le_refl _) (.int .i64 0)).setCell (p := ⟨w1.heap.size, 8, none⟩) (Nat.le_refl _) (.slice none 0 0)).setCell (p := ⟨w1.heap.size, 9, none⟩) (Nat.le_refl _) (.slice none 0 0))
  have hbz : BoxAt w3 w1.heap.size [.int .i64 f, .int .i64 t, .int .i64 2, .int .i64 ba, .int .i64 bn, .slice a1 ntx c1, .int .i64 0, .int .i64 0, .slice none 0 0, .slice none 0 0, .int .i64 sa, .int .i64 sr, .slice a4 nd c4, .int .i64 ca, .int .i64 cr, .slice a5 ncb c5, .slice a6 ncp c6, .slice a7 nvs c7, .int .i64 r] 42 := by rw [hw3]; exact ((((HBR.out.set 6 (.int .i64 0)).set 7 (.int .i64 0)).set 8 (.slice none 0 0)).set 9 (.slice none 0 0))
  have s3 : w3.heap.size = w1.heap.size + 1 := by rw [hw3]; simp [HZ2.out]
  rw [← hw3]
  have m6 := ((bcellAt hB3 _ HBX.out.lt).1 6).trans (HBX.out.cell 6 rfl)
  have m7 := ((bcellAt hB3 _ HBX.out.lt).1 7).trans (HBX.out.cell 7 rfl)
  have m8 := ((bcellAt hB3 _ HBX.out.lt).1 8).trans (HBX.out.cell 8 rfl)
  have m9 := ((bcellAt hB3 _ HBX.out.lt).1 9).trans (HBX.out.cell 9 rfl)
  have HB3 := Lib.hid hB3
  have HBZ3 := Lib.hid hbz
  have HS3 := Lib.hid s3
  clear hw3 hB3 hbz s3 q2 q6 q7 q8 q9 r6 rf6 r7 rf7 r8 rf8 r9 rf9
  go_wp2_with fail
  refine (cheader_any _ _ _ _ _ (G2.out.keep (G' := fun _ => True) ((Keep.below HB1.out).trans (Keep.below HB3.out)) (fun _ _ => trivial)) (G3.out.keep (G' := fun _ => True) ((Keep.below HB1.out).trans (Keep.below HB3.out)) (fun _ _ => trivial))).mono ?_
  rintro e w4 ⟨rfl, hb4⟩
  have HBZ := Lib.hid (HBZ3.out.belowS hb4)
  have HB4 := Lib.hid (show Below w.heap.size w w4 from (HB1.out.trans (HB3.out.mono HB1.out.size)).trans (hb4.mono (by have := HB1.out.size; have := HB3.out.size; omega)))
  clear hb4
  by_cases d : hdrCode ⟨ha, hr, bs, ps⟩ = 0
  · have d1c : (hdrCode ⟨ha, hr, bs, ps⟩ != 0) = false := by simp [d]
    go_wp2_with (first | (refine wpList_load_box rfl 42 _ rfl w1.heap.size rfl [.int .i64 f, .int .i64 t, .int .i64 2, .int .i64 ba, .int .i64 bn, .slice a1 ntx c1, .int .i64 0, .int .i64 0, .slice none 0 0, .slice none 0 0, .int .i64 sa, .int .i64 sr, .slice a4 nd c4, .int .i64 ca, .int .i64 cr, .slice a5 ncb c5, .slice a6 ncp c6, .slice a7 nvs c7, .int .i64 r] 42 HBZ.out Try.underlying42 rfl (by kernel_rfl) ?_))
    refine (none_any f t 2 ba bn a1 ntx c1 0 0 none 0 0 none 0 0 sa sr a4 nd c4 ca cr a5 ncb c5 a6 ncp c6 a7 nvs c7 r _ (by decide) h2).mono ?_
    rintro e w5 ⟨rfl, hb5⟩
    have hB5 := HB4.out.trans (hb5.mono HB4.out.size)
    cases hn : noneB ba bn ntx 0 0 0 0 sa sr nd ca cr ncb ncp nvs r
    · go_wp2
      all_goals
        go_ret
        exact ⟨ret_intH (by first | rfl | (rw [if_neg (show ¬ (hdrCode ⟨ha, hr, bs, ps⟩ ≠ 0) by simp [d])]; rfl)), hB5⟩
    · go_wp2
      all_goals
        go_ret
        exact ⟨ret_intH (by first | rfl | (rw [if_neg (show ¬ (hdrCode ⟨ha, hr, bs, ps⟩ ≠ 0) by simp [d])]; rfl)), hB5⟩
  · have d1c : (hdrCode ⟨ha, hr, bs, ps⟩ != 0) = true := by rw [bne_iff_ne]; exact d
    have HD := Lib.hid d
    clear d
    go_wp2
    go_ret
    exact ⟨ret_intH (by first | rfl | exact if_pos HD.out), HB4.out⟩
end Go.Proofs.Ytgkmgdkmafbohaa
/- wire.Check, kind by kind: what it computes. -/
set_option linter.unusedVariables false
set_option linter.unusedSimpArgs false
namespace Go.Proofs.Ytgkmgdkmafbohaa
open Go Go.RowKit

set_option maxRecDepth 100000 in
set_option maxHeartbeats 8000000 in
theorem wcheck_3 {G : Nat → Prop} (f t ba bn : Int) (a1 : Option Addr) (ntx : Nat) (c1 : Nat) (ha hr : Int) (a2 : Option Addr) (nbs : Nat) (c2 : Nat) (a3 : Option Addr) (nps : Nat) (c3 : Nat) (sa sr : Int) (a4 : Option Addr) (nd c4 : Nat) (ca cr : Int) (a5 : Option Addr) (ncb : Nat) (c5 : Nat) (a6 : Option Addr) (ncp : Nat) (c6 : Nat) (a7 : Option Addr) (nvs : Nat) (c7 : Nat) (r : Int) (w : World)
    (e1 : nodeOk f = true) (e2 : nodeOk t = true)  (h1 : nbs + nps ≤ 9223372036854775807) (h2 : ncb + ncp ≤ 9223372036854775807) :
    Calls Try.prog 18 #[.agg #[.int .i64 f, .int .i64 t, .int .i64 3, .int .i64 ba, .int .i64 bn, .slice a1 ntx c1, .int .i64 ha, .int .i64 hr, .slice a2 nbs c2, .slice a3 nps c3, .int .i64 sa, .int .i64 sr, .slice a4 nd c4, .int .i64 ca, .int .i64 cr, .slice a5 ncb c5, .slice a6 ncp c6, .slice a7 nvs c7, .int .i64 r]] w fun e w' => e = .returned (.int .i64 (if sltCode sa sr nd ≠ 0 then sltCode sa sr nd else if noneB ba bn ntx ha hr nbs nps 0 0 0 ca cr ncb ncp nvs r = true then 0 else 4)) ∧ Below w.heap.size w w' := by
  go_enter Try.func18, Try.ntmps18
  go_upto_region 1 with fail
  obtain ⟨w1, hw1⟩ : ∃ w1, w1 = w.alloc (.cells #[.int .i64 f, .int .i64 t, .int .i64 3, .int .i64 ba, .int .i64 bn, .slice a1 ntx c1, .int .i64 ha, .int .i64 hr, .slice a2 nbs c2, .slice a3 nps c3, .int .i64 sa, .int .i64 sr, .slice a4 nd c4, .int .i64 ca, .int .i64 cr, .slice a5 ncb c5, .slice a6 ncp c6, .slice a7 nvs c7, .int .i64 r] 42) := ⟨_, rfl⟩
  have bx : BoxAt w1 w.heap.size [.int .i64 f, .int .i64 t, .int .i64 3, .int .i64 ba, .int .i64 bn, .slice a1 ntx c1, .int .i64 ha, .int .i64 hr, .slice a2 nbs c2, .slice a3 nps c3, .int .i64 sa, .int .i64 sr, .slice a4 nd c4, .int .i64 ca, .int .i64 cr, .slice a5 ncb c5, .slice a6 ncp c6, .slice a7 nvs c7, .int .i64 r] 42 := by rw [hw1]; exact BoxAt.new w [.int .i64 f, .int .i64 t, .int .i64 3, .int .i64 ba, .int .i64 bn, .slice a1 ntx c1, .int .i64 ha, .int .i64 hr, .slice a2 nbs c2, .slice a3 nps c3, .int .i64 sa, .int .i64 sr, .slice a4 nd c4, .int .i64 ca, .int .i64 cr, .slice a5 ncb c5, .slice a6 ncp c6, .slice a7 nvs c7, .int .i64 r] _
  have hb1 : Below w.heap.size w w1 := by rw [hw1]; exact (Below.refl _ _).alloc (Nat.le_refl _) _
  have z1 : w1.heap.size = w.heap.size + 1 := by rw [hw1]; simp
  rw [← hw1]
  have HBX := Lib.hid bx
  have HB1 := Lib.hid hb1
  have HZ1 := Lib.hid z1
  have p0 := bx.cell 0 rfl
  have p1 := bx.cell 1 rfl
  clear hw1 bx hb1 z1
  go_upto_region 3 with (go_at_call 29; refine (node_any _ _).mono ?_; rintro e w' ⟨rfl, rfl⟩)
  go_upto_region 15 with (first
    | (refine wpList_load_box rfl 42 _ rfl w.heap.size rfl [.int .i64 f, .int .i64 t, .int .i64 3, .int .i64 ba, .int .i64 bn, .slice a1 ntx c1, .int .i64 ha, .int .i64 hr, .slice a2 nbs c2, .slice a3 nps c3, .int .i64 sa, .int .i64 sr, .slice a4 nd c4, .int .i64 ca, .int .i64 cr, .slice a5 ncb c5, .slice a6 ncp c6, .slice a7 nvs c7, .int .i64 r] 42 HBX.out Try.underlying42 rfl (by kernel_rfl) ?_)
    | (refine wpList_store_new rfl 42 _ _ rfl [.int .i64 f, .int .i64 t, .int .i64 3, .int .i64 ba, .int .i64 bn, .slice a1 ntx c1, .int .i64 ha, .int .i64 hr, .slice a2 nbs c2, .slice a3 nps c3, .int .i64 sa, .int .i64 sr, .slice a4 nd c4, .int .i64 ca, .int .i64 cr, .slice a5 ncb c5, .slice a6 ncp c6, .slice a7 nvs c7, .int .i64 r] 42 zeroMsg rfl rfl (by kernel_rfl) rfl rfl ?_; intro w2 hb2 hB2 hs2; have q2 := ((bcellAt hB2 _ HBX.out.lt).1 2).trans (HBX.out.cell 2 rfl); have q10 := ((bcellAt hB2 _ HBX.out.lt).1 10).trans (HBX.out.cell 10 rfl); have q11 := ((bcellAt hB2 _ HBX.out.lt).1 11).trans (HBX.out.cell 11 rfl); have q12 := ((bcellAt hB2 _ HBX.out.lt).1 12).trans (HBX.out.cell 12 rfl); have r10 := hb2.cell 10 rfl; have rf10 := hb2.free 10; have r11 := hb2.cell 11 rfl; have rf11 := hb2.free 11; have r12 := hb2.cell 12 rfl; have rf12 := hb2.free 12; have n12 : w1.heap.size ≠ w.heap.size := (by have := HZ1.out; omega); have n21 : w.heap.size ≠ w1.heap.size := (by have := HZ1.out; omega); have HB2 := Lib.hid hB2; have HBR := Lib.hid hb2; have HZ2 := Lib.hid hs2; clear hb2 hB2 hs2))
  obtain ⟨w3, hw3⟩ : ∃ w3, w3 = (((w2.setCell ⟨w1.heap.size, 10, none⟩ (.int .i64 0)).setCell ⟨w1.heap.size, 11, none⟩ (.int .i64 0)).setCell ⟨w1.heap.size, 12, none⟩ (.slice none 0 0)) := ⟨_, rfl⟩
  have hB3 : Below w1.heap.size w1 w3 := by rw [hw3]; exact (((HB2.out.setCell (p := ⟨w1.heap.size, 10, none⟩) (Nat.le_refl _) (.int .i64 0)).setCell (p := ⟨w1.heap.size, 11, none⟩) (Nat.le_refl _) (.int .i64 0)).setCell (p := ⟨w1.heap.size, 12, none⟩) (Nat.le_refl _) (.slice none 0 0))
  have hbz : BoxAt w3 w1.heap.size [.int .i64 f, .int .i64 t, .int .i64 3, .int .i64 ba, .int .i64 bn, .slice a1 ntx c1, .int .i64 ha, .int .i64 hr, .slice a2 nbs c2, .slice a3 nps c3, .int .i64 0, .int .i64 0, .slice none 0 0, .int .i64 ca, .int .i64 cr, .slice a5 ncb c5, .slice a6 ncp c6, .slice a7 nvs c7, .int .i64 r] 42 := by rw [hw3]; exact (((HBR.out.set 10 (.int .i64 0)).set 11 (.int .i64 0)).set 12 (.slice none 0 0))
  have s3 : w3.heap.size = w1.heap.size + 1 := by rw [hw3]; simp [HZ2.out]
  rw [← hw3]
  have m10 := ((bcellAt hB3 _ HBX.out.lt).1 10).trans (HBX.out.cell 10 rfl)
  have m11 := ((bcellAt hB3 _ HBX.out.lt).1 11).trans (HBX.out.cell 11 rfl)
  have m12 := ((bcellAt hB3 _ HBX.out.lt).1 12).trans (HBX.out.cell 12 rfl)
  have HB3 := Lib.hid hB3
  have HBZ3 := Lib.hid hbz
  have HS3 := Lib.hid s3
  clear hw3 hB3 hbz s3 q2 q10 q11 q12 r10 rf10 r11 rf11 r12 rf12
  go_wp2_with fail
  refine (cslot_any _ _ _ _ _ _).mono ?_
  rintro e w4 ⟨rfl, hb4⟩
  have HBZ := Lib.hid (HBZ3.out.belowS hb4)
  have HB4 := Lib.hid (show Below w.heap.size w w4 from (HB1.out.trans (HB3.out.mono HB1.out.size)).trans (hb4.mono (by have := HB1.out.size; have := HB3.out.size; omega)))
  clear hb4
  by_cases d : sltCode sa sr nd = 0
  · have d1c : (sltCode sa sr nd != 0) = false := by simp [d]
    go_wp2_with (first | (refine wpList_load_box rfl 42 _ rfl w1.heap.size rfl [.int .i64 f, .int .i64 t, .int .i64 3, .int .i64 ba, .int .i64 bn, .slice a1 ntx c1, .int .i64 ha, .int .i64 hr, .slice a2 nbs c2, .slice a3 nps c3, .int .i64 0, .int .i64 0, .slice none 0 0, .int .i64 ca, .int .i64 cr, .slice a5 ncb c5, .slice a6 ncp c6, .slice a7 nvs c7, .int .i64 r] 42 HBZ.out Try.underlying42 rfl (by kernel_rfl) ?_))
    refine (none_any f t 3 ba bn a1 ntx c1 ha hr a2 nbs c2 a3 nps c3 0 0 none 0 0 ca cr a5 ncb c5 a6 ncp c6 a7 nvs c7 r _ h1 h2).mono ?_
    rintro e w5 ⟨rfl, hb5⟩
    have hB5 := HB4.out.trans (hb5.mono HB4.out.size)
    cases hn : noneB ba bn ntx ha hr nbs nps 0 0 0 ca cr ncb ncp nvs r
    · go_wp2
      all_goals
        go_ret
        exact ⟨ret_intH (by first | rfl | (rw [if_neg (show ¬ (sltCode sa sr nd ≠ 0) by simp [d])]; rfl)), hB5⟩
    · go_wp2
      all_goals
        go_ret
        exact ⟨ret_intH (by first | rfl | (rw [if_neg (show ¬ (sltCode sa sr nd ≠ 0) by simp [d])]; rfl)), hB5⟩
  · have d1c : (sltCode sa sr nd != 0) = true := by rw [bne_iff_ne]; exact d
    have HD := Lib.hid d
    clear d
    go_wp2
    go_ret
    exact ⟨ret_intH (by first | rfl | exact if_pos HD.out), HB4.out⟩
end Go.Proofs.Ytgkmgdkmafbohaa
/- wire.Check, kind by kind: what it computes. -/
set_option linter.unusedVariables false
set_option linter.unusedSimpArgs false
namespace Go.Proofs.Ytgkmgdkmafbohaa
open Go Go.RowKit

set_option maxRecDepth 100000 in
set_option maxHeartbeats 8000000 in
theorem wcheck_4 {G : Nat → Prop} {cb cp : List Bytes} {vs : List Int} (f t ba bn : Int) (a1 : Option Addr) (ntx : Nat) (c1 : Nat) (ha hr : Int) (a2 : Option Addr) (nbs : Nat) (c2 : Nat) (a3 : Option Addr) (nps : Nat) (c3 : Nat) (sa sr : Int) (a4 : Option Addr) (nd c4 : Nat) (ca cr : Int) (a5 : Option Addr) (c5 : Nat) (a6 : Option Addr) (c6 : Nat) (a7 : Option Addr) (c7 : Nat) (r : Int) (w : World)
    (e1 : nodeOk f = true) (e2 : nodeOk t = true) (g5 : RdBB G w (.slice a5 cb.length c5) cb) (g6 : RdBB G w (.slice a6 cp.length c6) cp) (g7 : RdI G w (.slice a7 vs.length c7) vs) (h1 : nbs + nps ≤ 9223372036854775807) (h2 : 0 + 0 ≤ 9223372036854775807) :
    Calls Try.prog 18 #[.agg #[.int .i64 f, .int .i64 t, .int .i64 4, .int .i64 ba, .int .i64 bn, .slice a1 ntx c1, .int .i64 ha, .int .i64 hr, .slice a2 nbs c2, .slice a3 nps c3, .int .i64 sa, .int .i64 sr, .slice a4 nd c4, .int .i64 ca, .int .i64 cr, .slice a5 cb.length c5, .slice a6 cp.length c6, .slice a7 vs.length c7, .int .i64 r]] w fun e w' => e = .returned (.int .i64 (if crtCode ⟨⟨ca, cr, cb, cp⟩, vs⟩ ≠ 0 then crtCode ⟨⟨ca, cr, cb, cp⟩, vs⟩ else if noneB ba bn ntx ha hr nbs nps sa sr nd 0 0 0 0 0 r = true then 0 else 4)) ∧ Below w.heap.size w w' := by
  have G5 := Lib.hid (g5.low (by decide))
  have G6 := Lib.hid (g6.low (by decide))
  have G7 := Lib.hid (g7.low (by decide))
  clear g5 g6 g7
  go_enter Try.func18, Try.ntmps18
  go_upto_region 1 with fail
  obtain ⟨w1, hw1⟩ : ∃ w1, w1 = w.alloc (.cells #[.int .i64 f, .int .i64 t, .int .i64 4, .int .i64 ba, .int .i64 bn, .slice a1 ntx c1, .int .i64 ha, .int .i64 hr, .slice a2 nbs c2, .slice a3 nps c3, .int .i64 sa, .int .i64 sr, .slice a4 nd c4, .int .i64 ca, .int .i64 cr, .slice a5 cb.length c5, .slice a6 cp.length c6, .slice a7 vs.length c7, .int .i64 r] 42) := ⟨_, rfl⟩
  have bx : BoxAt w1 w.heap.size [.int .i64 f, .int .i64 t, .int .i64 4, .int .i64 ba, .int .i64 bn, .slice a1 ntx c1, .int .i64 ha, .int .i64 hr, .slice a2 nbs c2, .slice a3 nps c3, .int .i64 sa, .int .i64 sr, .slice a4 nd c4, .int .i64 ca, .int .i64 cr, .slice a5 cb.length c5, .slice a6 cp.length c6, .slice a7 vs.length c7, .int .i64 r] 42 := by rw [hw1]; exact BoxAt.new w [.int .i64 f, .int .i64 t, .int .i64 4, .int .i64 ba, .int .i64 bn, .slice a1 ntx c1, .int .i64 ha, .int .i64 hr, .slice a2 nbs c2, .slice a3 nps c3, .int .i64 sa, .int .i64 sr, .slice a4 nd c4, .int .i64 ca, .int .i64 cr, .slice a5 cb.length c5, .slice a6 cp.length c6, .slice a7 vs.length c7, .int .i64 r] _
  have hb1 : Below w.heap.size w w1 := by rw [hw1]; exact (Below.refl _ _).alloc (Nat.le_refl _) _
  have z1 : w1.heap.size = w.heap.size + 1 := by rw [hw1]; simp
  rw [← hw1]
  have HBX := Lib.hid bx
  have HB1 := Lib.hid hb1
  have HZ1 := Lib.hid z1
  have p0 := bx.cell 0 rfl
  have p1 := bx.cell 1 rfl
  clear hw1 bx hb1 z1
  go_upto_region 3 with (go_at_call 29; refine (node_any _ _).mono ?_; rintro e w' ⟨rfl, rfl⟩)
  go_upto_region 18 with (first
    | (refine wpList_load_box rfl 42 _ rfl w.heap.size rfl [.int .i64 f, .int .i64 t, .int .i64 4, .int .i64 ba, .int .i64 bn, .slice a1 ntx c1, .int .i64 ha, .int .i64 hr, .slice a2 nbs c2, .slice a3 nps c3, .int .i64 sa, .int .i64 sr, .slice a4 nd c4, .int .i64 ca, .int .i64 cr, .slice a5 cb.length c5, .slice a6 cp.length c6, .slice a7 vs.length c7, .int .i64 r] 42 HBX.out Try.underlying42 rfl (by kernel_rfl) ?_)
    | (refine wpList_store_new rfl 42 _ _ rfl [.int .i64 f, .int .i64 t, .int .i64 4, .int .i64 ba, .int .i64 bn, .slice a1 ntx c1, .int .i64 ha, .int .i64 hr, .slice a2 nbs c2, .slice a3 nps c3, .int .i64 sa, .int .i64 sr, .slice a4 nd c4, .int .i64 ca, .int .i64 cr, .slice a5 cb.length c5, .slice a6 cp.length c6, .slice a7 vs.length c7, .int .i64 r] 42 zeroMsg rfl rfl (by kernel_rfl) rfl rfl ?_; intro w2 hb2 hB2 hs2; have q2 := ((bcellAt hB2 _ HBX.out.lt).1 2).trans (HBX.out.cell 2 rfl); have q13 := ((bcellAt hB2 _ HBX.out.lt).1 13).trans (HBX.out.cell 13 rfl); have q14 := ((bcellAt hB2 _ HBX.out.lt).1 14).trans (HBX.out.cell 14 rfl); have q15 := ((bcellAt hB2 _ HBX.out.lt).1 15).trans (HBX.out.cell 15 rfl); have q16 := ((bcellAt hB2 _ HBX.out.lt).1 16).trans (HBX.out.cell 16 rfl); have q17 := ((bcellAt hB2 _ HBX.out.lt).1 17).trans (HBX.out.cell 17 rfl); have r13 := hb2.cell 13 rfl; have rf13 := hb2.free 13; have r14 := hb2.cell 14 rfl; have rf14 := hb2.free 14; have r15 := hb2.cell 15 rfl; have rf15 := hb2.free 15; have r16 := hb2.cell 16 rfl; have rf16 := hb2.free 16; have r17 := hb2.cell 17 rfl; have rf17 := hb2.free 17; have n12 : w1.heap.size ≠ w.heap.size := (by have := HZ1.out; omega); have n21 : w.heap.size ≠ w1.heap.size := (by have := HZ1.out; omega); have HB2 := Lib.hid hB2; have HBR := Lib.hid hb2; have HZ2 := Lib.hid hs2; clear hb2 hB2 hs2))
  obtain ⟨w3, hw3⟩ : ∃ w3, w3 = (((((w2.setCell ⟨w1.heap.size, 13, none⟩ (.int .i64 0)).setCell ⟨w1.heap.size, 14, none⟩ (.int .i64 0)).setCell ⟨w1.heap.size, 15, none⟩ (.slice none 0 0)).setCell ⟨w1.heap.size, 16, none⟩ (.slice none 0 0)).setCell ⟨w1.heap.size, 17, none⟩ (.slice none 0 0)) := ⟨_, rfl⟩
  have hB3 : Below w1.heap.size w1 w3 := by rw [hw3]; exact (((((HB2.out.setCell (p := ⟨w1.heap.size, 13, none⟩) (Nat.le_refl _) (.int .i64 0)).setCell (p := ⟨w1.heap.size, 14, none⟩) (Nat.le_refl _) (.int .i64 0)).setCell (p := ⟨w1.heap.size, 15, none⟩) (Nat.le_refl _) (.slice none 0 0)).setCell (p := ⟨w1.heap.size, 16, none⟩) (Nat.le_refl _) (.slice none 0 0)).setCell (p := ⟨w1.heap.size, 17, none⟩) (Nat.le_refl _) (.slice none 0 0))
  have hbz : BoxAt w3 w1.heap.size [.int .i64 f, .int .i64 t, .int .i64 4, .int .i64 ba, .int .i64 bn, .slice a1 ntx c1, .int .i64 ha, .int .i64 hr, .slice a2 nbs c2, .slice a3 nps c3, .int .i64 sa, .int .i64 sr, .slice a4 nd c4, .int .i64 0, .int .i64 0, .slice none 0 0, .slice none 0 0, .slice none 0 0, .int .i64 r] 42 := by rw [hw3]; exact (((((HBR.out.set 13 (.int .i64 0)).set 14 (.int .i64 0)).set 15 (.slice none 0 0)).set 16 (.slice none 0 0)).set 17 (.slice none 0 0))
  have s3 : w3.heap.size = w1.heap.size + 1 := by rw [hw3]; simp [HZ2.out]
  rw [← hw3]
  have m13 := ((bcellAt hB3 _ HBX.out.lt).1 13).trans (HBX.out.cell 13 rfl)
  have m14 := ((bcellAt hB3 _ HBX.out.lt).1 14).trans (HBX.out.cell 14 rfl)
  have m15 := ((bcellAt hB3 _ HBX.out.lt).1 15).trans (HBX.out.cell 15 rfl)
  have m16 := ((bcellAt hB3 _ HBX.out.lt).1 16).trans (HBX.out.cell 16 rfl)
  have m17 := ((bcellAt hB3 _ HBX.out.lt).1 17).trans (HBX.out.cell 17 rfl)
  have HB3 := Lib.hid hB3
  have HBZ3 := Lib.hid hbz
  have HS3 := Lib.hid s3
  clear hw3 hB3 hbz s3 q2 q13 q14 q15 q16 q17 r13 rf13 r14 rf14 r15 rf15 r16 rf16 r17 rf17
  go_wp2_with fail
  refine (ccert_any _ _ _ _ _ _ (G5.out.keep (G' := fun _ => True) ((Keep.below HB1.out).trans (Keep.below HB3.out)) (fun _ _ => trivial)) (G6.out.keep (G' := fun _ => True) ((Keep.below HB1.out).trans (Keep.below HB3.out)) (fun _ _ => trivial)) (G7.out.keep (G' := fun _ => True) ((Keep.below HB1.out).trans (Keep.below HB3.out)) (fun _ _ => trivial))).mono ?_
  rintro e w4 ⟨rfl, hb4⟩
  have HBZ := Lib.hid (HBZ3.out.belowS hb4)
  have HB4 := Lib.hid (show Below w.heap.size w w4 from (HB1.out.trans (HB3.out.mono HB1.out.size)).trans (hb4.mono (by have := HB1.out.size; have := HB3.out.size; omega)))
  clear hb4
  by_cases d : crtCode ⟨⟨ca, cr, cb, cp⟩, vs⟩ = 0
  · have d1c : (crtCode ⟨⟨ca, cr, cb, cp⟩, vs⟩ != 0) = false := by simp [d]
    go_wp2_with (first | (refine wpList_load_box rfl 42 _ rfl w1.heap.size rfl [.int .i64 f, .int .i64 t, .int .i64 4, .int .i64 ba, .int .i64 bn, .slice a1 ntx c1, .int .i64 ha, .int .i64 hr, .slice a2 nbs c2, .slice a3 nps c3, .int .i64 sa, .int .i64 sr, .slice a4 nd c4, .int .i64 0, .int .i64 0, .slice none 0 0, .slice none 0 0, .slice none 0 0, .int .i64 r] 42 HBZ.out Try.underlying42 rfl (by kernel_rfl) ?_))
    refine (none_any f t 4 ba bn a1 ntx c1 ha hr a2 nbs c2 a3 nps c3 sa sr a4 nd c4 0 0 none 0 0 none 0 0 none 0 0 r _ h1 (by decide)).mono ?_
    rintro e w5 ⟨rfl, hb5⟩
    have hB5 := HB4.out.trans (hb5.mono HB4.out.size)
    cases hn : noneB ba bn ntx ha hr nbs nps sa sr nd 0 0 0 0 0 r
    · go_wp2
      all_goals
        go_ret
        exact ⟨ret_intH (by first | rfl | (rw [if_neg (show ¬ (crtCode ⟨⟨ca, cr, cb, cp⟩, vs⟩ ≠ 0) by simp [d])]; rfl)), hB5⟩
    · go_wp2
      all_goals
        go_ret
        exact ⟨ret_intH (by first | rfl | (rw [if_neg (show ¬ (crtCode ⟨⟨ca, cr, cb, cp⟩, vs⟩ ≠ 0) by simp [d])]; rfl)), hB5⟩
  · have d1c : (crtCode ⟨⟨ca, cr, cb, cp⟩, vs⟩ != 0) = true := by rw [bne_iff_ne]; exact d
    have HD := Lib.hid d
    clear d
    go_wp2
    go_ret
    exact ⟨ret_intH (by first | rfl | exact if_pos HD.out), HB4.out⟩
end Go.Proofs.Ytgkmgdkmafbohaa
/- wire.Check, kind by kind: what it computes. -/
set_option linter.unusedVariables false
set_option linter.unusedSimpArgs false
namespace Go.Proofs.Ytgkmgdkmafbohaa
open Go Go.RowKit

set_option maxRecDepth 100000 in
set_option maxHeartbeats 8000000 in
theorem wcheck_5 {G : Nat → Prop} (f t ba bn : Int) (a1 : Option Addr) (ntx : Nat) (c1 : Nat) (ha hr : Int) (a2 : Option Addr) (nbs : Nat) (c2 : Nat) (a3 : Option Addr) (nps : Nat) (c3 : Nat) (sa sr : Int) (a4 : Option Addr) (nd c4 : Nat) (ca cr : Int) (a5 : Option Addr) (ncb : Nat) (c5 : Nat) (a6 : Option Addr) (ncp : Nat) (c6 : Nat) (a7 : Option Addr) (nvs : Nat) (c7 : Nat) (r : Int) (w : World)
    (e1 : nodeOk f = true) (e2 : nodeOk t = true)  (h1 : nbs + nps ≤ 9223372036854775807) (h2 : ncb + ncp ≤ 9223372036854775807) :
    Calls Try.prog 18 #[.agg #[.int .i64 f, .int .i64 t, .int .i64 5, .int .i64 ba, .int .i64 bn, .slice a1 ntx c1, .int .i64 ha, .int .i64 hr, .slice a2 nbs c2, .slice a3 nps c3, .int .i64 sa, .int .i64 sr, .slice a4 nd c4, .int .i64 ca, .int .i64 cr, .slice a5 ncb c5, .slice a6 ncp c6, .slice a7 nvs c7, .int .i64 r]] w fun e w' => e = .returned (.int .i64 (if (if countOk r = true then (0 : Int) else 2) ≠ 0 then (if countOk r = true then (0 : Int) else 2) else if noneB ba bn ntx ha hr nbs nps sa sr nd ca cr ncb ncp nvs 0 = true then 0 else 4)) ∧ Below w.heap.size w w' := by
  go_enter Try.func18, Try.ntmps18
  go_upto_region 1 with fail
  obtain ⟨w1, hw1⟩ : ∃ w1, w1 = w.alloc (.cells #[.int .i64 f, .int .i64 t, .int .i64 5, .int .i64 ba, .int .i64 bn, .slice a1 ntx c1, .int .i64 ha, .int .i64 hr, .slice a2 nbs c2, .slice a3 nps c3, .int .i64 sa, .int .i64 sr, .slice a4 nd c4, .int .i64 ca, .int .i64 cr, .slice a5 ncb c5, .slice a6 ncp c6, .slice a7 nvs c7, .int .i64 r] 42) := ⟨_, rfl⟩
  have bx : BoxAt w1 w.heap.size [.int .i64 f, .int .i64 t, .int .i64 5, .int .i64 ba, .int .i64 bn, .slice a1 ntx c1, .int .i64 ha, .int .i64 hr, .slice a2 nbs c2, .slice a3 nps c3, .int .i64 sa, .int .i64 sr, .slice a4 nd c4, .int .i64 ca, .int .i64 cr, .slice a5 ncb c5, .slice a6 ncp c6, .slice a7 nvs c7, .int .i64 r] 42 := by rw [hw1]; exact BoxAt.new w [.int .i64 f, .int .i64 t, .int .i64 5, .int .i64 ba, .int .i64 bn, .slice a1 ntx c1, .int .i64 ha, .int .i64 hr, .slice a2 nbs c2, .slice a3 nps c3, .int .i64 sa, .int .i64 sr, .slice a4 nd c4, .int .i64 ca, .int .i64 cr, .slice a5 ncb c5, .slice a6 ncp c6, .slice a7 nvs c7, .int .i64 r] _
  have hb1 : Below w.heap.size w w1 := by rw [hw1]; exact (Below.refl _ _).alloc (Nat.le_refl _) _
  have z1 : w1.heap.size = w.heap.size + 1 := by rw [hw1]; simp
  rw [← hw1]
  have HBX := Lib.hid bx
  have HB1 := Lib.hid hb1
  have HZ1 := Lib.hid z1
  have p0 := bx.cell 0 rfl
  have p1 := bx.cell 1 rfl
  clear hw1 bx hb1 z1
  go_upto_region 3 with (go_at_call 29; refine (node_any _ _).mono ?_; rintro e w' ⟨rfl, rfl⟩)
  go_upto_region 21 with (first
    | (refine wpList_load_box rfl 42 _ rfl w.heap.size rfl [.int .i64 f, .int .i64 t, .int .i64 5, .int .i64 ba, .int .i64 bn, .slice a1 ntx c1, .int .i64 ha, .int .i64 hr, .slice a2 nbs c2, .slice a3 nps c3, .int .i64 sa, .int .i64 sr, .slice a4 nd c4, .int .i64 ca, .int .i64 cr, .slice a5 ncb c5, .slice a6 ncp c6, .slice a7 nvs c7, .int .i64 r] 42 HBX.out Try.underlying42 rfl (by kernel_rfl) ?_)
    | (refine wpList_store_new rfl 42 _ _ rfl [.int .i64 f, .int .i64 t, .int .i64 5, .int .i64 ba, .int .i64 bn, .slice a1 ntx c1, .int .i64 ha, .int .i64 hr, .slice a2 nbs c2, .slice a3 nps c3, .int .i64 sa, .int .i64 sr, .slice a4 nd c4, .int .i64 ca, .int .i64 cr, .slice a5 ncb c5, .slice a6 ncp c6, .slice a7 nvs c7, .int .i64 r] 42 zeroMsg rfl rfl (by kernel_rfl) rfl rfl ?_; intro w2 hb2 hB2 hs2; have q2 := ((bcellAt hB2 _ HBX.out.lt).1 2).trans (HBX.out.cell 2 rfl); have q18 := ((bcellAt hB2 _ HBX.out.lt).1 18).trans (HBX.out.cell 18 rfl); have r18 := hb2.cell 18 rfl; have rf18 := hb2.free 18; have n12 : w1.heap.size ≠ w.heap.size := (by have := HZ1.out; omega); have n21 : w.heap.size ≠ w1.heap.size := (by have := HZ1.out; omega); have HB2 := Lib.hid hB2; have HBR := Lib.hid hb2; have HZ2 := Lib.hid hs2; clear hb2 hB2 hs2))
  obtain ⟨w3, hw3⟩ : ∃ w3, w3 = (w2.setCell ⟨w1.heap.size, 18, none⟩ (.int .i64 0)) := ⟨_, rfl⟩
  have hB3 : Below w1.heap.size w1 w3 := by rw [hw3]; exact (HB2.out.setCell (p := ⟨w1.heap.size, 18, none⟩) (Nat.le_refl _) (.int .i64 0))
  have hbz : BoxAt w3 w1.heap.size [.int .i64 f, .int .i64 t, .int .i64 5, .int .i64 ba, .int .i64 bn, .slice a1 ntx c1, .int .i64 ha, .int .i64 hr, .slice a2 nbs c2, .slice a3 nps c3, .int .i64 sa, .int .i64 sr, .slice a4 nd c4, .int .i64 ca, .int .i64 cr, .slice a5 ncb c5, .slice a6 ncp c6, .slice a7 nvs c7, .int .i64 0] 42 := by rw [hw3]; exact (HBR.out.set 18 (.int .i64 0))
  have s3 : w3.heap.size = w1.heap.size + 1 := by rw [hw3]; simp [HZ2.out]
  rw [← hw3]
  have m18 := ((bcellAt hB3 _ HBX.out.lt).1 18).trans (HBX.out.cell 18 rfl)
  have HB3 := Lib.hid hB3
  have HBZ3 := Lib.hid hbz
  have HS3 := Lib.hid s3
  clear hw3 hB3 hbz s3 q2 q18 r18 rf18
  have HBZ := HBZ3
  have HB4 := Lib.hid (show Below w.heap.size w w3 from HB1.out.trans (HB3.out.mono HB1.out.size))
  cases d : countOk r
  rotate_left
  · skip
    go_wp2_with (first | (refine wpList_load_box rfl 42 _ rfl w1.heap.size rfl [.int .i64 f, .int .i64 t, .int .i64 5, .int .i64 ba, .int .i64 bn, .slice a1 ntx c1, .int .i64 ha, .int .i64 hr, .slice a2 nbs c2, .slice a3 nps c3, .int .i64 sa, .int .i64 sr, .slice a4 nd c4, .int .i64 ca, .int .i64 cr, .slice a5 ncb c5, .slice a6 ncp c6, .slice a7 nvs c7, .int .i64 0] 42 HBZ.out Try.underlying42 rfl (by kernel_rfl) ?_) | (go_at_call 30; refine (count_any _ _).mono ?_; rintro e w' ⟨rfl, rfl⟩; rw [d]))
    refine (none_any f t 5 ba bn a1 ntx c1 ha hr a2 nbs c2 a3 nps c3 sa sr a4 nd c4 ca cr a5 ncb c5 a6 ncp c6 a7 nvs c7 0 _ h1 h2).mono ?_
    rintro e w5 ⟨rfl, hb5⟩
    have hB5 := HB4.out.trans (hb5.mono HB4.out.size)
    cases hn : noneB ba bn ntx ha hr nbs nps sa sr nd ca cr ncb ncp nvs 0
    · go_wp2
      all_goals
        go_ret
        exact ⟨ret_intH (by first | rfl | (rw [if_neg (show ¬ ((if countOk r = true then (0 : Int) else 2) ≠ 0) by simp [d])]; rfl)), hB5⟩
    · go_wp2
      all_goals
        go_ret
        exact ⟨ret_intH (by first | rfl | (rw [if_neg (show ¬ ((if countOk r = true then (0 : Int) else 2) ≠ 0) by simp [d])]; rfl)), hB5⟩
  · go_wp2_with (go_at_call 30; refine (count_any _ _).mono ?_; rintro e w' ⟨rfl, rfl⟩; rw [d])
    all_goals
      go_ret
      exact ⟨ret_intH (by first | rfl | simp [d]), HB4.out⟩
end Go.Proofs.Ytgkmgdkmafbohaa
/- wire.Check: what it computes, of every message. -/
set_option linter.unusedVariables false
set_option linter.unusedSimpArgs false
namespace Go.Proofs.Ytgkmgdkmafbohaa
open Go Go.RowKit

theorem wcheck_any {G : Nat → Prop} (m : Msg) (v : MV) (w : World) (h : RdM G w v m) (ok : MsgOk m) :
    Calls Try.prog 18 #[.agg (msgCells m v).toArray] w fun e w' => e = .returned (.int .i64 (msgCode m)) ∧ Below w.heap.size w w' := by
  obtain ⟨f, t, k, ⟨ba, bn, txs⟩, ⟨ha, hr, bs, ps⟩, ⟨sa, sr, sd⟩, ⟨⟨ca, cr, cb, cp⟩, vs⟩, r⟩ := m
  obtain ⟨x1, x2, x3, x4, x5, x6, x7⟩ := v
  obtain ⟨h1, h2, h3, h4, h5, h6, h7⟩ := h
  obtain ⟨o1, o2, o3⟩ := ok
  obtain ⟨a1, c1, rfl, -, -⟩ := h1.form
  obtain ⟨a2, c2, rfl, -, -⟩ := h2.form
  obtain ⟨a3, c3, rfl, -, -⟩ := h3.form
  obtain ⟨a4, c4, rfl, -, -⟩ := h4.form
  obtain ⟨a5, c5, rfl, -, -⟩ := h5.form
  obtain ⟨a6, c6, rfl, -, -⟩ := h6.form
  obtain ⟨a7, c7, rfl, -, -⟩ := h7.form
  simp only at h1 h2 h3 h4 h5 h6 h7 o1 o2 o3
  unfold msgCode msgCells
  simp only
  by_cases e : nodeOk f = false ∨ nodeOk t = false
  · rw [if_pos e]
    exact wcheck_bad f t k ba bn a1 _ c1 ha hr a2 _ c2 a3 _ c3 sa sr a4 _ c4 ca cr a5 _ c5 a6 _ c6 a7 _ c7 r w 2 (.inl ⟨e, rfl⟩)
  rw [if_neg e]
  have e1 : nodeOk f = true := by cases q : nodeOk f; exact absurd (.inl q) e; rfl
  have e2 : nodeOk t = true := by cases q : nodeOk t; exact absurd (.inr q) e; rfl
  by_cases hk : k < 1 ∨ 5 < k
  · rw [if_pos hk]
    exact wcheck_bad f t k ba bn a1 _ c1 ha hr a2 _ c2 a3 _ c3 sa sr a4 _ c4 ca cr a5 _ c5 a6 _ c6 a7 _ c7 r w 3 (.inr ⟨e1, e2, hk, rfl⟩)
  rw [if_neg hk]
  obtain rfl | rfl | rfl | rfl | rfl : k = 1 ∨ k = 2 ∨ k = 3 ∨ k = 4 ∨ k = 5 := by omega
  · exact wcheck_1 f t ba bn a1 c1 ha hr a2 _ c2 a3 _ c3 sa sr a4 _ c4 ca cr a5 _ c5 a6 _ c6 a7 _ c7 r w e1 e2 h1 o1 o2 o3
  · exact wcheck_2 f t ba bn a1 _ c1 ha hr a2 c2 a3 c3 sa sr a4 _ c4 ca cr a5 _ c5 a6 _ c6 a7 _ c7 r w e1 e2 h2 h3 (by decide) o3
  · exact wcheck_3 (G := G) f t ba bn a1 _ c1 ha hr a2 _ c2 a3 _ c3 sa sr a4 _ c4 ca cr a5 _ c5 a6 _ c6 a7 _ c7 r w e1 e2 o2 o3
  · exact wcheck_4 f t ba bn a1 _ c1 ha hr a2 _ c2 a3 _ c3 sa sr a4 _ c4 ca cr a5 c5 a6 c6 a7 c7 r w e1 e2 h5 h6 h7 o2 (by decide)
  · exact wcheck_5 (G := G) f t ba bn a1 _ c1 ha hr a2 _ c2 a3 _ c3 sa sr a4 _ c4 ca cr a5 _ c5 a6 _ c6 a7 _ c7 r w e1 e2 o2 o3
end Go.Proofs.Ytgkmgdkmafbohaa
/- wire.Encode, kind 1: what it computes. -/
set_option linter.unusedVariables false
set_option linter.unusedSimpArgs false
namespace Go.Proofs.Ytgkmgdkmafbohaa
open Go Go.RowKit

set_option maxRecDepth 100000 in
set_option maxHeartbeats 8000000 in
theorem wencode_1 {G : Nat → Prop} {txs : List Bytes} (f t ba bn : Int) (a1 : Option Addr) (c1 : Nat) (ha hr : Int) (a2 : Option Addr) (nbs : Nat) (c2 : Nat) (a3 : Option Addr) (nps : Nat) (c3 : Nat) (sa sr : Int) (a4 : Option Addr) (nd : Nat) (c4 : Nat) (ca cr : Int) (a5 : Option Addr) (ncb : Nat) (c5 : Nat) (a6 : Option Addr) (ncp : Nat) (c6 : Nat) (a7 : Option Addr) (nvs : Nat) (c7 : Nat) (r : Int) (w : World)
    (hC : ∀ w', Below w.heap.size w w' → Calls Try.prog 18 #[.agg #[.int .i64 f, .int .i64 t, .int .i64 1, .int .i64 ba, .int .i64 bn, .slice a1 txs.length c1, .int .i64 ha, .int .i64 hr, .slice a2 nbs c2, .slice a3 nps c3, .int .i64 sa, .int .i64 sr, .slice a4 nd c4, .int .i64 ca, .int .i64 cr, .slice a5 ncb c5, .slice a6 ncp c6, .slice a7 nvs c7, .int .i64 r]] w' fun e w'' => e = .returned (.int .i64 0) ∧ Below w'.heap.size w' w'')
    (f0 : 0 ≤ f) (f1 : f < 4) (t0 : 0 ≤ t) (t1 : t < 4) (g1 : RdT G w (.slice a1 txs.length c1) txs) (k1 : ∀ x ∈ txs, txLen x = true) (k2 : txs.length ≤ 4) (z0 : 0 ≤ ba) (z1 : ba < 4) (z2 : 0 ≤ bn) (z3 : bn ≤ 1048576) :
    Calls Try.prog 20 #[.agg #[.int .i64 f, .int .i64 t, .int .i64 1, .int .i64 ba, .int .i64 bn, .slice a1 txs.length c1, .int .i64 ha, .int .i64 hr, .slice a2 nbs c2, .slice a3 nps c3, .int .i64 sa, .int .i64 sr, .slice a4 nd c4, .int .i64 ca, .int .i64 cr, .slice a5 ncb c5, .slice a6 ncp c6, .slice a7 nvs c7, .int .i64 r]] w fun e w' => ∃ v', e = .returned (.tuple #[v', .int .i64 0]) ∧
      w'.ownsRow w.heap.size 5 1 v' (byteZ 1 :: byteZ f :: byteZ t :: (putBatchL ⟨ba, bn, txs⟩)).length (byteVs (byteZ 1 :: byteZ f :: byteZ t :: (putBatchL ⟨ba, bn, txs⟩))) ∧ Below w.heap.size w w' := by
  have G1 := Lib.hid (g1.low (by decide))
  have HC := Lib.hid hC
  have K1 := Lib.hid k1
  clear g1 hC k1
  go_enter Try.func20, Try.ntmps20
  go_upto_region 1 with fail
  obtain ⟨w1, hw1⟩ : ∃ w1, w1 = w.alloc (.cells #[.int .i64 f, .int .i64 t, .int .i64 1, .int .i64 ba, .int .i64 bn, .slice a1 txs.length c1, .int .i64 ha, .int .i64 hr, .slice a2 nbs c2, .slice a3 nps c3, .int .i64 sa, .int .i64 sr, .slice a4 nd c4, .int .i64 ca, .int .i64 cr, .slice a5 ncb c5, .slice a6 ncp c6, .slice a7 nvs c7, .int .i64 r] 42) := ⟨_, rfl⟩
  have bx : BoxAt w1 w.heap.size [.int .i64 f, .int .i64 t, .int .i64 1, .int .i64 ba, .int .i64 bn, .slice a1 txs.length c1, .int .i64 ha, .int .i64 hr, .slice a2 nbs c2, .slice a3 nps c3, .int .i64 sa, .int .i64 sr, .slice a4 nd c4, .int .i64 ca, .int .i64 cr, .slice a5 ncb c5, .slice a6 ncp c6, .slice a7 nvs c7, .int .i64 r] 42 := by rw [hw1]; exact BoxAt.new w [.int .i64 f, .int .i64 t, .int .i64 1, .int .i64 ba, .int .i64 bn, .slice a1 txs.length c1, .int .i64 ha, .int .i64 hr, .slice a2 nbs c2, .slice a3 nps c3, .int .i64 sa, .int .i64 sr, .slice a4 nd c4, .int .i64 ca, .int .i64 cr, .slice a5 ncb c5, .slice a6 ncp c6, .slice a7 nvs c7, .int .i64 r] _
  have hb1 : Below w.heap.size w w1 := by rw [hw1]; exact (Below.refl _ _).alloc (Nat.le_refl _) _
  have zz1 : w1.heap.size = w.heap.size + 1 := by rw [hw1]; simp
  rw [← hw1]
  have HBX1 := Lib.hid bx
  have HB1 := Lib.hid hb1
  have HZ1 := Lib.hid zz1
  clear hw1 bx hb1 zz1
  go_wp2_with (refine wpList_load_box rfl 42 _ rfl w.heap.size rfl [.int .i64 f, .int .i64 t, .int .i64 1, .int .i64 ba, .int .i64 bn, .slice a1 txs.length c1, .int .i64 ha, .int .i64 hr, .slice a2 nbs c2, .slice a3 nps c3, .int .i64 sa, .int .i64 sr, .slice a4 nd c4, .int .i64 ca, .int .i64 cr, .slice a5 ncb c5, .slice a6 ncp c6, .slice a7 nvs c7, .int .i64 r] 42 HBX1.out Try.underlying42 rfl (by kernel_rfl) ?_)
  refine (HC.out w1 HB1.out).mono ?_
  rintro e w2 ⟨rfl, hb2⟩
  have bx2 := HBX1.out.belowS hb2
  have hbw2 : Below w.heap.size w w2 := HB1.out.trans (hb2.mono HB1.out.size)
  have hX2 : w.heap.size < w2.heap.size := bx2.lt
  have R1 := Lib.hid (G1.out.below hbw2 (fun _ h => h))
  have x0 := bx2.cell 0 rfl
  have x1 := bx2.cell 1 rfl
  have x2 := bx2.cell 2 rfl
  have x3 := bx2.cell 3 rfl
  have x4 := bx2.cell 4 rfl
  have x5 := bx2.cell 5 rfl
  have HBX := Lib.hid bx2
  have HBW := Lib.hid hbw2
  clear bx2 hbw2 hb2
  have hlit : ∀ (q : World), q.heap.size = w2.heap.size → byteVs [byteZ 1, byteZ f, byteZ t] = [Value.int .u8 1, .int .u8 f, .int .u8 t] := fun _ _ => by
    simp only [byteVs, List.map_cons, List.map_nil, byteZ_toNat, show (f % 256) = f by omega, show (t % 256) = t by omega, show ((1 : Int) % 256) = 1 by decide]
  have HLIT := Lib.hid (hlit w2 rfl)
  clear hlit
  have HOWN := Lib.hid (show (w2.alloc (.cells #[.int .u8 1, .int .u8 f, .int .u8 t] 5)).ownsRow w2.heap.size 5 1 (.slice (some ⟨w2.heap.size, 0, none⟩) 3 3) [byteZ 1, byteZ f, byteZ t].length (byteVs [byteZ 1, byteZ f, byteZ t]) by rw [HLIT.out]; exact lit_ownsN w2 [.int .u8 1, .int .u8 f, .int .u8 t] _)
  go_wp2_with fail
  refine (putBatch_any w2.heap.size _ [byteZ 1, byteZ f, byteZ t] ba bn _ txs _ HOWN.out (by simp) (by simp) (R1.out.keep (Keep.alloc _ _ _) (fun _ h => h)) K1.out k2 (fun b hb => by have := hb.2; simp [Value.ownBlock]; omega) z0 z1 z2 z3).mono ?_
  rintro e w3 ⟨v3, rfl, hA⟩
  have hown := ownsRow_mono hA.own (Nat.le_of_lt hX2)
  have hfin : Below w.heap.size w w3 := hA.bel (HBW.out.alloc (Nat.le_of_lt hX2) _) (by simp; omega) (fun k hk => by simp [Value.ownBlock] at hk; omega)
  have HOW := Lib.hid hown
  clear hA hown
  go_wp2
  refine bodyPost_ret (v := .tuple #[v3, .int .i64 0]) (by simp [results, Try.results20, go_sem]) rfl ⟨_, rfl, by simpa using HOW.out, hfin⟩
end Go.Proofs.Ytgkmgdkmafbohaa
/- wire.Encode, kind 2: what it computes. -/
set_option linter.unusedVariables false
set_option linter.unusedSimpArgs false
namespace Go.Proofs.Ytgkmgdkmafbohaa
open Go Go.RowKit

set_option maxRecDepth 100000 in
set_option maxHeartbeats 8000000 in
theorem wencode_2 {G : Nat → Prop} {bs ps : List Bytes} (f t ba bn : Int) (a1 : Option Addr) (ntx : Nat) (c1 : Nat) (ha hr : Int) (a2 : Option Addr) (c2 : Nat) (a3 : Option Addr) (c3 : Nat) (sa sr : Int) (a4 : Option Addr) (nd : Nat) (c4 : Nat) (ca cr : Int) (a5 : Option Addr) (ncb : Nat) (c5 : Nat) (a6 : Option Addr) (ncp : Nat) (c6 : Nat) (a7 : Option Addr) (nvs : Nat) (c7 : Nat) (r : Int) (w : World)
    (hC : ∀ w', Below w.heap.size w w' → Calls Try.prog 18 #[.agg #[.int .i64 f, .int .i64 t, .int .i64 2, .int .i64 ba, .int .i64 bn, .slice a1 ntx c1, .int .i64 ha, .int .i64 hr, .slice a2 bs.length c2, .slice a3 ps.length c3, .int .i64 sa, .int .i64 sr, .slice a4 nd c4, .int .i64 ca, .int .i64 cr, .slice a5 ncb c5, .slice a6 ncp c6, .slice a7 nvs c7, .int .i64 r]] w' fun e w'' => e = .returned (.int .i64 0) ∧ Below w'.heap.size w' w'')
    (f0 : 0 ≤ f) (f1 : f < 4) (t0 : 0 ≤ t) (t1 : t < 4) (g2 : RdBB G w (.slice a2 bs.length c2) bs) (g3 : RdBB G w (.slice a3 ps.length c3) ps) (k1 : ∀ x ∈ bs, x.length = 32) (k2 : ∀ x ∈ ps, x.length = 32) (k3 : bs.length ≤ 10) (k4 : ps.length ≤ 10) (z0 : 0 ≤ ha) (z1 : ha < 4) (z2 : 0 ≤ hr) (z3 : hr ≤ 1048576) :
    Calls Try.prog 20 #[.agg #[.int .i64 f, .int .i64 t, .int .i64 2, .int .i64 ba, .int .i64 bn, .slice a1 ntx c1, .int .i64 ha, .int .i64 hr, .slice a2 bs.length c2, .slice a3 ps.length c3, .int .i64 sa, .int .i64 sr, .slice a4 nd c4, .int .i64 ca, .int .i64 cr, .slice a5 ncb c5, .slice a6 ncp c6, .slice a7 nvs c7, .int .i64 r]] w fun e w' => ∃ v', e = .returned (.tuple #[v', .int .i64 0]) ∧
      w'.ownsRow w.heap.size 5 1 v' (byteZ 2 :: byteZ f :: byteZ t :: (putHeaderL ⟨ha, hr, bs, ps⟩)).length (byteVs (byteZ 2 :: byteZ f :: byteZ t :: (putHeaderL ⟨ha, hr, bs, ps⟩))) ∧ Below w.heap.size w w' := by
  have G2 := Lib.hid (g2.low (by decide))
  have G3 := Lib.hid (g3.low (by decide))
  have HC := Lib.hid hC
  have K1 := Lib.hid k1
  have K2 := Lib.hid k2
  clear g2 g3 hC k1 k2
  go_enter Try.func20, Try.ntmps20
  go_upto_region 1 with fail
  obtain ⟨w1, hw1⟩ : ∃ w1, w1 = w.alloc (.cells #[.int .i64 f, .int .i64 t, .int .i64 2, .int .i64 ba, .int .i64 bn, .slice a1 ntx c1, .int .i64 ha, .int .i64 hr, .slice a2 bs.length c2, .slice a3 ps.length c3, .int .i64 sa, .int .i64 sr, .slice a4 nd c4, .int .i64 ca, .int .i64 cr, .slice a5 ncb c5, .slice a6 ncp c6, .slice a7 nvs c7, .int .i64 r] 42) := ⟨_, rfl⟩
  have bx : BoxAt w1 w.heap.size [.int .i64 f, .int .i64 t, .int .i64 2, .int .i64 ba, .int .i64 bn, .slice a1 ntx c1, .int .i64 ha, .int .i64 hr, .slice a2 bs.length c2, .slice a3 ps.length c3, .int .i64 sa, .int .i64 sr, .slice a4 nd c4, .int .i64 ca, .int .i64 cr, .slice a5 ncb c5, .slice a6 ncp c6, .slice a7 nvs c7, .int .i64 r] 42 := by rw [hw1]; exact BoxAt.new w [.int .i64 f, .int .i64 t, .int .i64 2, .int .i64 ba, .int .i64 bn, .slice a1 ntx c1, .int .i64 ha, .int .i64 hr, .slice a2 bs.length c2, .slice a3 ps.length c3, .int .i64 sa, .int .i64 sr, .slice a4 nd c4, .int .i64 ca, .int .i64 cr, .slice a5 ncb c5, .slice a6 ncp c6, .slice a7 nvs c7, .int .i64 r] _
  have hb1 : Below w.heap.size w w1 := by rw [hw1]; exact (Below.refl _ _).alloc (Nat.le_refl _) _
  have zz1 : w1.heap.size = w.heap.size + 1 := by rw [hw1]; simp
  rw [← hw1]
  have HBX1 := Lib.hid bx
  have HB1 := Lib.hid hb1
  have HZ1 := Lib.hid zz1
  clear hw1 bx hb1 zz1
  go_wp2_with (refine wpList_load_box rfl 42 _ rfl w.heap.size rfl [.int .i64 f, .int .i64 t, .int .i64 2, .int .i64 ba, .int .i64 bn, .slice a1 ntx c1, .int .i64 ha, .int .i64 hr, .slice a2 bs.length c2, .slice a3 ps.length c3, .int .i64 sa, .int .i64 sr, .slice a4 nd c4, .int .i64 ca, .int .i64 cr, .slice a5 ncb c5, .slice a6 ncp c6, .slice a7 nvs c7, .int .i64 r] 42 HBX1.out Try.underlying42 rfl (by kernel_rfl) ?_)
  refine (HC.out w1 HB1.out).mono ?_
  rintro e w2 ⟨rfl, hb2⟩
  have bx2 := HBX1.out.belowS hb2
  have hbw2 : Below w.heap.size w w2 := HB1.out.trans (hb2.mono HB1.out.size)
  have hX2 : w.heap.size < w2.heap.size := bx2.lt
  have R2 := Lib.hid (G2.out.below hbw2 (fun _ h => h))
  have R3 := Lib.hid (G3.out.below hbw2 (fun _ h => h))
  have x0 := bx2.cell 0 rfl
  have x1 := bx2.cell 1 rfl
  have x2 := bx2.cell 2 rfl
  have x6 := bx2.cell 6 rfl
  have x7 := bx2.cell 7 rfl
  have x8 := bx2.cell 8 rfl
  have x9 := bx2.cell 9 rfl
  have HBX := Lib.hid bx2
  have HBW := Lib.hid hbw2
  clear bx2 hbw2 hb2
  have hlit : ∀ (q : World), q.heap.size = w2.heap.size → byteVs [byteZ 2, byteZ f, byteZ t] = [Value.int .u8 2, .int .u8 f, .int .u8 t] := fun _ _ => by
    simp only [byteVs, List.map_cons, List.map_nil, byteZ_toNat, show (f % 256) = f by omega, show (t % 256) = t by omega, show ((2 : Int) % 256) = 2 by decide]
  have HLIT := Lib.hid (hlit w2 rfl)
  clear hlit
  have HOWN := Lib.hid (show (w2.alloc (.cells #[.int .u8 2, .int .u8 f, .int .u8 t] 5)).ownsRow w2.heap.size 5 1 (.slice (some ⟨w2.heap.size, 0, none⟩) 3 3) [byteZ 2, byteZ f, byteZ t].length (byteVs [byteZ 2, byteZ f, byteZ t]) by rw [HLIT.out]; exact lit_ownsN w2 [.int .u8 2, .int .u8 f, .int .u8 t] _)
  go_wp2_with fail
  refine (putHeader_any w2.heap.size _ [byteZ 2, byteZ f, byteZ t] ha hr _ _ bs ps _ HOWN.out (by simp) (by simp) (R2.out.keep (Keep.alloc _ _ _) (fun _ h => h)) (R3.out.keep (Keep.alloc _ _ _) (fun _ h => h)) K1.out K2.out k3 k4 (fun b hb => by have := hb.2; simp [Value.ownBlock]; omega) z0 z1 z2 z3).mono ?_
  rintro e w3 ⟨v3, rfl, hA⟩
  have hown := ownsRow_mono hA.own (Nat.le_of_lt hX2)
  have hfin : Below w.heap.size w w3 := hA.bel (HBW.out.alloc (Nat.le_of_lt hX2) _) (by simp; omega) (fun k hk => by simp [Value.ownBlock] at hk; omega)
  have HOW := Lib.hid hown
  clear hA hown
  go_wp2
  refine bodyPost_ret (v := .tuple #[v3, .int .i64 0]) (by simp [results, Try.results20, go_sem]) rfl ⟨_, rfl, by simpa using HOW.out, hfin⟩
end Go.Proofs.Ytgkmgdkmafbohaa
