/- What a slice reads as, and that it goes on reading so. Plain lemmas on worlds; no program is named. -/
import Derived.WalkKit
import Derived.WalkSpells
import Derived.Lib.Hide
import Derived.Laws.AppendOwnNone
set_option linter.unusedVariables false
set_option linter.unusedSimpArgs false
namespace Go.Proofs.YtodcebhfkmlmgaaDoor
open Go Go.RowKit

theorem ret_intH {k : IntKind} {a b : Int} (h : b = a) : Ending.returned (.int k a) = .returned (.int k b) := by rw [h]
theorem ret_boolH {a b : Bool} (h : b = a) : Ending.returned (.bool a) = .returned (.bool b) := by rw [h]

/-- Every cell of an allowed block holds what it held. -/
def Keep (G : Nat → Prop) (w w' : World) : Prop := ∀ b o v, G b → w.cell? ⟨b, o, none⟩ = some v → w'.cell? ⟨b, o, none⟩ = some v

theorem Keep.refl (G : Nat → Prop) (w : World) : Keep G w w := fun _ _ _ _ h => h
theorem Keep.trans {G : Nat → Prop} {a b c : World} (h : Keep G a b) (h' : Keep G b c) : Keep G a c := fun x o v hg hc => h' x o v hg (h x o v hg hc)
theorem Keep.mono {G G' : Nat → Prop} {a b : World} (h : Keep G a b) (hg : ∀ x, G' x → G x) : Keep G' a b := fun x o v hx hc => h x o v (hg x hx) hc
theorem Keep.below {G : Nat → Prop} {w w' : World} (h : Below w.heap.size w w') : Keep G w w' := fun b o v _ hc => by
  rw [h.cell (p := ⟨b, o, none⟩) (World.block_lt_of_cell? w _ hc)]; exact hc
theorem Keep.belowB {B : Nat} {G : Nat → Prop} {w w' : World} (h : Below B w w') (hG : ∀ b, G b → b < B) : Keep G w w' := fun b o v hb hc => by
  rw [h.cell (p := ⟨b, o, none⟩) (hG b hb)]; exact hc
theorem Keep.alloc (G : Nat → Prop) (w : World) (o : Obj) : Keep G w (w.alloc o) := Keep.below ((Below.refl _ _).alloc (Nat.le_refl _) _)
theorem Keep.drew (G : Nat → Prop) (w : World) : Keep G w w.drew := Keep.below (Below.refl _ _).drew
theorem Keep.setCell {G : Nat → Prop} {w : World} {p : Addr} (hp : ¬ G p.block) (u : Value) : Keep G w (w.setCell p u) := fun b o v hb hc => by
  rw [World.cell?_of_block (w := w) (a := ⟨b, o, none⟩) (Below.heap_setCell w p u b (fun e => hp (e ▸ hb)))]; exact hc
theorem Keep.grown {G : Nat → Prop} {w w' : World} {row : Option Nat} (hg : w.grownBy w' row) (hr : ∀ k, row = some k → ¬ G k) : Keep G w w' := fun b o v hb hc =>
  hg.cell (a := ⟨b, o, none⟩) hc (fun e => hr b e.symm hb)

/-- How a run of cells reads as a datum; it goes on reading so where its blocks are kept. -/
structure Rel (α : Type) where
  size : Nat
  rd : (Nat → Prop) → World → List Value → α → Prop
  len : ∀ {G w cs x}, rd G w cs x → cs.length = size
  keep : ∀ {G w cs x G' w'}, rd G w cs x → Keep G w w' → (∀ b, G b → G' b) → rd G' w' cs x
  /-- what reads avoids blocks that do not exist yet -/
  low : ∀ {G w cs x}, rd G w cs x → rd (fun b => G b ∧ b < w.heap.size) w cs x

/-- A slice value that reads as a list. -/
def RdS {α : Type} (R : Rel α) (G : Nat → Prop) (w : World) (v : Value) (l : List α) : Prop :=
  ∃ ad cap, v = .slice ad l.length cap ∧ l.length ≤ cap ∧ cap ≤ maxLen ∧ (ad = none → cap = 0) ∧
    ∀ j x, l[j]? = some x → ∃ b o cs, ad = some ⟨b, o, none⟩ ∧ G b ∧ (∀ t c, cs[t]? = some c → w.cell? ⟨b, o + (j * R.size + t), none⟩ = some c) ∧ R.rd G w cs x

section
variable {α : Type} {R : Rel α} {G G' : Nat → Prop} {w w' : World} {v : Value} {l : List α}

theorem RdS.keep (h : RdS R G w v l) (hk : Keep G w w') (hg : ∀ b, G b → G' b) : RdS R G' w' v l := by
  obtain ⟨ad, cap, rfl, h1, h2, h0, h3⟩ := h
  refine ⟨ad, cap, rfl, h1, h2, h0, fun j x hx => ?_⟩
  obtain ⟨b, o, cs, ha, hb, hc, hr⟩ := h3 j x hx
  exact ⟨b, o, cs, ha, hg b hb, fun t c ht => hk _ _ _ hb (hc t c ht), R.keep hr hk hg⟩
theorem RdS.low (hs : 0 < R.size) (h : RdS R G w v l) : RdS R (fun b => G b ∧ b < w.heap.size) w v l := by
  obtain ⟨ad, cap, rfl, h1, h2, h0, h3⟩ := h
  refine ⟨ad, cap, rfl, h1, h2, h0, fun j x hx => ?_⟩
  obtain ⟨b, o, cs, ha, hb, hc, hr⟩ := h3 j x hx
  have hl := R.len hr
  refine ⟨b, o, cs, ha, ⟨hb, ?_⟩, hc, R.low hr⟩
  have : cs[0]? = some (cs[0]'(by omega)) := by simp
  exact World.block_lt_of_cell? w _ (hc 0 _ this)
theorem RdS.below (h : RdS R G w v l) (hk : Below w.heap.size w w') (hg : ∀ b, G b → G' b) : RdS R G' w' v l := h.keep (Keep.below hk) hg
theorem RdS.mono (h : RdS R G w v l) (hg : ∀ b, G b → G' b) : RdS R G' w v l := h.keep (Keep.refl _ _) hg
theorem RdS.nil (R : Rel α) (G : Nat → Prop) (w : World) : RdS R G w (.slice none 0 0) [] := ⟨none, 0, rfl, by simp, by unfold maxLen; omega, fun _ => rfl, fun j x hx => by simp at hx⟩
/-- The value's own form. -/
theorem RdS.form (h : RdS R G w v l) : ∃ ad cap, v = .slice ad l.length cap ∧ l.length ≤ cap ∧ cap ≤ maxLen :=
  let ⟨ad, cap, h0, h1, h2, _, _⟩ := h; ⟨ad, cap, h0, h1, h2⟩
theorem RdS.form0 (h : RdS R G w v l) : ∃ ad cap, v = .slice ad l.length cap ∧ l.length ≤ cap ∧ cap ≤ maxLen ∧ (ad = none → cap = 0) :=
  let ⟨ad, cap, h0, h1, h2, h3, _⟩ := h; ⟨ad, cap, h0, h1, h2, h3⟩
theorem RdS.at {ad : Option Addr} {n cap : Nat} (h : RdS R G w (.slice ad n cap) l) (j : Nat) (hj : j < l.length) :
    ∃ b o cs, ad = some ⟨b, o, none⟩ ∧ G b ∧ (∀ t c, cs[t]? = some c → w.cell? ⟨b, o + (j * R.size + t), none⟩ = some c) ∧ R.rd G w cs l[j] := by
  obtain ⟨ad', cap', he, h1, h2, hn0, h3⟩ := h
  simp only [Value.slice.injEq] at he
  obtain ⟨rfl, rfl, rfl⟩ := he
  exact h3 j _ (by simp [hj])
theorem RdS.len {ad : Option Addr} {n cap : Nat} (h : RdS R G w (.slice ad n cap) l) : n = l.length ∧ n ≤ cap ∧ cap ≤ maxLen ∧ (ad = none → cap = 0) := by
  obtain ⟨ad', cap', he, h1, h2, hn0, h3⟩ := h
  simp only [Value.slice.injEq] at he
  obtain ⟨rfl, rfl, rfl⟩ := he
  exact ⟨rfl, h1, h2, hn0⟩
theorem RdS.take {ad : Option Addr} {n cap : Nat} (h : RdS R G w (.slice ad n cap) l) (k : Nat) (hk : k ≤ l.length) : RdS R G w (.slice ad k cap) (l.take k) := by
  obtain ⟨h0, h1, h2, hn0⟩ := h.len
  have hl : (l.take k).length = k := by simp; omega
  refine ⟨ad, cap, by rw [hl], by omega, h2, hn0, fun j x hx => ?_⟩
  have hj : j < (l.take k).length := by
    rcases Nat.lt_or_ge j (l.take k).length with h | h
    · exact h
    · simp [List.getElem?_eq_none h] at hx
  obtain ⟨b, o, cs, ha, hb, hc, hr⟩ := h.at j (by omega)
  have : x = l[j]'(by omega) := by
    rw [List.getElem?_take_of_lt (by omega)] at hx
    rw [List.getElem?_eq_getElem (by omega)] at hx
    exact (Option.some.inj hx).symm
  subst this
  exact ⟨b, o, cs, ha, hb, hc, hr⟩
theorem RdS.drop {b o : Nat} {n cap : Nat} (h : RdS R G w (.slice (some ⟨b, o, none⟩) n cap) l) (k : Nat) (hk : k ≤ l.length) : RdS R G w (.slice (some ⟨b, o + k * R.size, none⟩) (n - k) (cap - k)) (l.drop k) := by
  obtain ⟨h0, h1, h2, hn0⟩ := h.len
  refine ⟨_, _, by rw [List.length_drop, h0], by simp; omega, by omega, fun h => by simp at h, fun j x hx => ?_⟩
  rw [List.getElem?_drop] at hx
  have hj : k + j < l.length := by
    rcases Nat.lt_or_ge (k + j) l.length with h | h
    · exact h
    · simp [List.getElem?_eq_none h] at hx
  obtain ⟨b', o', cs, ha, hb, hc, hr⟩ := h.at (k + j) hj
  simp only [Option.some.injEq, Addr.mk.injEq, and_true] at ha
  obtain ⟨rfl, rfl⟩ := ha
  have : x = l[k + j]'hj := by rw [List.getElem?_eq_getElem hj] at hx; exact (Option.some.inj hx).symm
  subst this
  exact ⟨b, _, cs, rfl, hb, fun t c ht => by have := hc t c ht; rw [show o + k * R.size + (j * R.size + t) = o + ((k + j) * R.size + t) by rw [Nat.add_mul]; omega]; exact this, hr⟩
end

/-! ### Elements of one cell that hold their own value -/
def flat {α : Type} (f : α → Value) : Rel α where
  size := 1
  rd := fun _ _ cs x => cs = [f x]
  len := fun h => by simp [h]
  keep := fun h _ _ => h
  low := fun h => h
abbrev RInt : Rel Int := flat (Value.int .i64)
abbrev RByte : Rel UInt8 := flat (fun c => Value.int .u8 c.toNat)
/-- A text, as a value. -/
abbrev strV (s : List UInt8) : Value := .string ⟨s.toArray⟩
abbrev RStr : Rel (List UInt8) := flat (fun s => Value.string ⟨s.toArray⟩)
abbrev RdI := RdS RInt
abbrev RdB := RdS RByte
abbrev RdT := RdS RStr

/-- The cell of an element of one cell. -/
theorem RdS.cell {α : Type} {f : α → Value} {G : Nat → Prop} {w : World} {l : List α} {ad : Option Addr} {n cap : Nat} (h : RdS (flat f) G w (.slice ad n cap) l) (j : Nat) (hj : j < l.length) :
    ∃ b o, ad = some ⟨b, o, none⟩ ∧ G b ∧ w.cell? ⟨b, o + j, none⟩ = some (f l[j]) := by
  obtain ⟨b, o, cs, ha, hb, hc, hr⟩ := h.at j hj
  have hr' : cs = [f l[j]] := hr
  subst hr'
  exact ⟨b, o, ha, hb, by have := hc 0 _ rfl; simpa [flat] using this⟩
/-- All cells at once. -/
theorem RdS.cells {α : Type} {f : α → Value} {G : Nat → Prop} {w : World} {l : List α} {b o : Nat} {n cap : Nat} (h : RdS (flat f) G w (.slice (some ⟨b, o, none⟩) n cap) l) (j : Nat) (hj : j < l.length) :
    w.cell? ⟨b, o + j, none⟩ = some (f l[j]) := by
  obtain ⟨b', o', ha, _, hc⟩ := h.cell j hj
  simp only [Option.some.injEq, Addr.mk.injEq, and_true] at ha
  obtain ⟨rfl, rfl⟩ := ha
  exact hc

/-- An elements' relation for slices of such. -/
def sliceOf {α : Type} (R : Rel α) (hs : 0 < R.size) : Rel (List α) where
  size := 1
  rd := fun G w cs x => ∃ v, cs = [v] ∧ RdS R G w v x
  len := fun ⟨_, h, _⟩ => by simp [h]
  keep := fun ⟨v, h, hr⟩ hk hg => ⟨v, h, hr.keep hk hg⟩
  low := fun ⟨v, h, hr⟩ => ⟨v, h, hr.low hs⟩
abbrev RBytes : Rel (List UInt8) := sliceOf RByte (by decide)
abbrev RdBB := RdS RBytes

/-- What the call owns reads as a list. -/
theorem RdS.of_owns {α : Type} {f : α → Value} {G : Nat → Prop} {w : World} {base e n : Nat} {v : Value} {l : List α} (h : w.ownsRow base e 1 v n (l.map f)) (hG : ∀ b, base ≤ b → G b) : RdS (flat f) G w v l := by
  obtain ⟨hl, h⟩ := h
  have hn : n = l.length := by simpa using hl.symm
  subst hn
  rcases h with ⟨rfl, h0⟩ | ⟨g, cap, cur, rfl, hb, hg, h1, h2, h3, h4⟩
  · have : l = [] := List.eq_nil_of_length_eq_zero h0
    subst this; exact RdS.nil _ _ _
  · refine ⟨_, cap, rfl, h1, h2, fun h => by simp at h, fun j x hx => ⟨g, 0, [f x], rfl, hG g hb, fun t c ht => ?_, rfl⟩⟩
    match t, ht with
    | 0, ht =>
      simp at ht; subst ht
      have hx' : (l.map f)[j]? = some (f x) := by simp [hx]
      rw [← h4, Nat.mul_one] at hx'
      have hj : j < l.length := by
        rcases Nat.lt_or_ge j l.length with h | h
        · exact h
        · simp [List.getElem?_eq_none h] at hx
      rw [List.getElem?_take_of_lt hj] at hx'
      simp [World.cell?, hg, flat]
      simpa using hx'

/-! ### append -/
/-- What is known of a slice type's elements. -/
def ElemOk (P : Program) (t e : TypeId) (size bytes : Nat) : Prop :=
  P.underlying t = some (.slice e) ∧ ∃ i z, P.info? e = some i ∧ i.zero = some z ∧ i.size = size ∧ i.bytes = bytes ∧ z.cells.size = size ∧ 0 < size
theorem elemOk_of {P : Program} {t e : TypeId} {size bytes : Nat} {z : Value} (h1 : P.underlying t = some (.slice e)) (h2 : (P.info? e).map (fun i => (i.zero, i.size, i.bytes)) = some (some z, size, bytes)) (h3 : z.cells.size = size) (h4 : 0 < size) : ElemOk P t e size bytes := by
  obtain ⟨i, hi, a, b, c⟩ := info_parts h2
  exact ⟨h1, i, z, hi, a, b, c, h3, h4⟩

/-- The cells of a slice value, one behind the other. -/
def SlCells (w : World) (vx : Value) (m size : Nat) (news : List Value) : Prop :=
  ∃ ad c, vx = .slice ad m c ∧ (ad = none → c = 0 ∧ m = 0) ∧ news.length = m * size ∧ ∀ j u, news[j]? = some u → ∃ b o, ad = some ⟨b, o, none⟩ ∧ w.cell? ⟨b, o + j, none⟩ = some u
theorem RdS.slCells {α : Type} {f : α → Value} {G : Nat → Prop} {w : World} {v : Value} {l : List α} (h : RdS (flat f) G w v l) : SlCells w v l.length 1 (l.map f) := by
  obtain ⟨ad, cap, rfl, h1, h2, h0, h3⟩ := h
  refine ⟨ad, cap, rfl, fun h => ?_, by simp, fun j u hj => ?_⟩
  · have := h0 h; omega
  · simp only [List.getElem?_map, Option.map_eq_some_iff] at hj
    obtain ⟨x, hx, rfl⟩ := hj
    obtain ⟨b, o, cs, ha, hb, hc, hr⟩ := h3 j x hx
    have hr' : cs = [f x] := hr
    subst hr'
    exact ⟨b, o, ha, by have := hc 0 _ rfl; simpa [flat] using this⟩
theorem SlCells.below {w w' : World} {vx : Value} {m size : Nat} {news : List Value} (h : SlCells w vx m size news) (hb : Below w.heap.size w w') : SlCells w' vx m size news := by
  obtain ⟨ad, c, h1, h2, h3, h4⟩ := h
  refine ⟨ad, c, h1, h2, h3, fun j u hj => ?_⟩
  obtain ⟨b, o, ha, hc⟩ := h4 j u hj
  exact ⟨b, o, ha, by rw [hb.cell (p := ⟨b, o + j, none⟩) (World.block_lt_of_cell? w _ hc)]; exact hc⟩
theorem SlCells.drew {w : World} {vx : Value} {m size : Nat} {news : List Value} (h : SlCells w vx m size news) : SlCells w.drew vx m size news := h
theorem ownsRow_mono {w : World} {base base' e size n : Nat} {v : Value} {xs : List Value} (h : w.ownsRow base e size v n xs) (hb : base' ≤ base) : w.ownsRow base' e size v n xs := by
  obtain ⟨h1, h2⟩ := h
  refine ⟨h1, ?_⟩
  rcases h2 with h2 | ⟨g, cap, cur, hv, hg, r⟩
  · exact Or.inl h2
  · exact Or.inr ⟨g, cap, cur, hv, Nat.le_trans hb hg, r⟩
theorem ownsRow_form {w : World} {base e size n : Nat} {v : Value} {xs : List Value} (h : w.ownsRow base e size v n xs) : ∃ ad cap, v = .slice ad n cap := by
  rcases h.2 with ⟨rfl, rfl⟩ | ⟨g, cap, cur, hv, _⟩
  · exact ⟨_, _, rfl⟩
  · exact ⟨_, _, hv⟩
/-- A new block of one element. -/
theorem slCells_new (w : World) (cs : List Value) (e : TypeId) (size : Nat) (hs : cs.length = size) : SlCells (w.alloc (.cells cs.toArray e)) (.slice (some ⟨w.heap.size, 0, none⟩) 1 1) 1 size cs :=
  ⟨_, _, rfl, fun h => by simp at h, by omega, fun j u hj => ⟨_, _, rfl, by unfold World.cell?; rw [heap_alloc_new]; simpa using hj⟩⟩

theorem run_append_sl {P : Program} {t e : TypeId} {size bytes : Nat} (hE : ElemOk P t e size bytes) (w : World) (base : Nat) (ty : TypeId) (v : Value) (n : Nat) (xs : List Value) (hown : w.ownsRow base e size v n xs)
    (vx : Value) (m : Nat) (news : List Value) (hx : SlCells w vx m size news) (h1 : ∀ u ∈ news, u.oneCell' = true) (h63 : n + m ≤ maxLen) (hbytes : (n + m) * bytes ≤ 140737488355328) (hbase : base ≤ w.heap.size) :
    ∃ v' w', (Builtin.append_ #[t, t] ty #[v, vx]).run P w = .ok v' w' ∧ w'.ownsRow base e size v' (n + m) (xs ++ news) ∧ w.grownBy w' v.ownBlock := by
  obtain ⟨ht, i, z, hi, hz, hsize, hby, hzs, hsz⟩ := hE
  obtain ⟨ad, c, rfl, h0, hl, hc⟩ := hx
  rcases ad with _ | a
  · obtain ⟨rfl, rfl⟩ := h0 rfl
    have hn : news = [] := List.eq_nil_of_length_eq_zero (by simpa using hl)
    subst hn
    have hr := run_append_owned_none (P := P) (w := w) base t ty e i size ht hi v n xs hown
    exact ⟨v, w, hr, by simpa using hown, ⟨rfl, rfl, rfl, Nat.le_refl _, fun _ _ _ => rfl⟩⟩
  · have hnews : ∀ j u, news[j]? = some u → w.cell? (a.add j) = some u := fun j u hj => by
      obtain ⟨b, o, ha, hcell⟩ := hc j u hj
      simp only [Option.some.injEq] at ha
      subst ha
      unfold Addr.add
      split
      · rename_i h; subst h; simpa using hcell
      · exact hcell
    obtain ⟨v', w', hr, h2, h3, _⟩ := run_append_own (P := P) w base t ty e i z size bytes ht hi hz hsize hby hzs hsz v n xs hown a m c news hl hnews h1 h63 hbytes hbase
    exact ⟨v', w', hr, h2, h3⟩

theorem wp_append_sl {P : Program} {w : World} {o : Oper} {a : Act} {K : Act → World → Prop} {Q : Exit → Act → World → Prop} (s x : Operand) (t : TypeId)
    (ho : o.op = .call { callee := .builtin .append, args := #[s, x], argTypes := #[t, t] })
    {e : TypeId} {size bytes : Nat} (hE : ElemOk P t e size bytes) (base : Nat) (vs : Value) (hs : a.eval s = vs) (n : Nat) (xs : List Value) (hown : w.ownsRow base e size vs n xs)
    (vx : Value) (hvx : a.eval x = vx) (m : Nat) (news : List Value) (hx : SlCells w vx m size news) (h1 : ∀ u ∈ news, u.oneCell' = true) (h63 : n + m ≤ maxLen) (hbytes : (n + m) * bytes ≤ 140737488355328) (hbase : base ≤ w.heap.size)
    (h : ∀ v' w', w'.ownsRow base e size v' (n + m) (xs ++ news) → w.grownBy w' vs.ownBlock → K (a.put o.dst v') w') : o.wp P a w K Q := by
  subst hs hvx
  obtain ⟨v', w', hr, h2, h3⟩ := run_append_sl hE w base o.type (a.eval s) n xs hown (a.eval x) m news hx h1 h63 hbytes hbase
  unfold Oper.wp execOp
  simp only [ho, resolve, invoke, builtin, Sem.run_bind, Sem.run_pure, Result.andThen_ok, List.map_toArray, List.map_cons, List.map_nil, hr]
  exact h v' w' h2 h3

/-- The same as a step of a region that draws its order. -/
theorem step_append_sl {P : Program} {ops : Array Oper} {w : World} {o : Oper} {a : Act} {K : Act → World → Prop} {Q : Exit → Act → World → Prop} {E : Prop} (hgd : o.guard = none) (s x : Operand) (t : TypeId)
    (ho : o.op = .call { callee := .builtin .append, args := #[s, x], argTypes := #[t, t] })
    {e : TypeId} {size bytes : Nat} (hE : ElemOk P t e size bytes) (base : Nat) (vs : Value) (hs : a.eval s = vs) (n : Nat) (xs : List Value) (hown : w.ownsRow base e size vs n xs)
    (vx : Value) (hvx : a.eval x = vx) (m : Nat) (news : List Value) (hx : SlCells w vx m size news) (h1 : ∀ u ∈ news, u.oneCell' = true) (h63 : n + m ≤ maxLen) (hbytes : (n + m) * bytes ≤ 140737488355328) (hbase : base ≤ w.heap.size)
    (h : ∀ v' w', w'.ownsRow base e size v' (n + m) (xs ++ news) → w.grownBy w' vs.ownBlock → K (a.put o.dst v') w') :
    if Region.wanted o (yielded ops a.tmps) = true then Oper.wp P o a w K Q else E := by
  have hw : Region.wanted o (yielded ops a.tmps) = true := by simp [Region.wanted, hgd]
  rw [if_pos hw]
  exact wp_append_sl s x t ho hE base vs hs n xs hown vx hvx m news hx h1 h63 hbytes hbase h

/-- 'append' onto what the call owns, whatever is appended. -/
theorem wpList_append_sl {P : Program} {w : World} {ops : Array Oper} {rest : List Oper} {o : Oper} {a : Act} {Q : Exit → Act → World → Prop} (hgd : o.guard = none) (s x : Operand) (t : TypeId)
    (ho : o.op = .call { callee := .builtin .append, args := #[s, x], argTypes := #[t, t] })
    {e : TypeId} {size bytes : Nat} (hE : ElemOk P t e size bytes) (base : Nat) (vs : Value) (hs : a.eval s = vs) (n : Nat) (xs : List Value) (hown : w.ownsRow base e size vs n xs)
    (vx : Value) (hvx : a.eval x = vx) (m : Nat) (news : List Value) (hx : SlCells w vx m size news) (h1 : ∀ u ∈ news, u.oneCell' = true) (h63 : n + m ≤ maxLen) (hbytes : (n + m) * bytes ≤ 140737488355328) (hbase : base ≤ w.heap.size)
    (h : ∀ v' w', w'.ownsRow base e size v' (n + m) (xs ++ news) → w.grownBy w' vs.ownBlock → wpList P ops Q rest (a.put o.dst v') w') : wpList P ops Q (o :: rest) a w := by
  subst hs hvx
  refine wpList_plain hgd fun K hK => ?_
  obtain ⟨v', w', hr, h2, h3⟩ := run_append_sl hE w base o.type (a.eval s) n xs hown (a.eval x) m news hx h1 h63 hbytes hbase
  unfold Oper.wp execOp
  simp only [ho, resolve, invoke, builtin, Sem.run_bind, Sem.run_pure, Result.andThen_ok, List.map_toArray, List.map_cons, List.map_nil, hr]
  exact hK _ _ (h v' w' h2 h3)
/-- Behind a call that makes memory: the old cells and marks read as before. -/
theorem bcell {W w1 : World} (hb : Below W.heap.size W w1) : (∀ b o, b < W.heap.size → w1.cell? ⟨b, o, none⟩ = W.cell? ⟨b, o, none⟩) ∧ (∀ b o, b < W.heap.size → w1.frozen? ⟨b, o, none⟩ = W.frozen? ⟨b, o, none⟩) :=
  ⟨fun b o h => hb.cell (p := ⟨b, o, none⟩) h, fun b o h => hb.frozen (p := ⟨b, o, none⟩) h⟩

/-- The row that was written is one of the call's own. -/
theorem ownBlock_ge {w : World} {base e size n : Nat} {v : Value} {xs : List Value} (h : w.ownsRow base e size v n xs) : ∀ k, v.ownBlock = some k → base ≤ k := fun k hk => (h.lt k hk).1
theorem oneCell_map {α : Type} (f : α → Value) (l : List α) (hf : ∀ x, (f x).oneCell' = true) : ∀ u ∈ l.map f, u.oneCell' = true := by
  intro u hu
  obtain ⟨x, _, rfl⟩ := List.mem_map.1 hu
  exact hf x

/-! ### A block of the call's own: a variable in memory -/
def BoxAt (w : World) (b : Nat) (cs : List Value) (T : TypeId) : Prop := w.heap[b]? = some (.cells cs.toArray T (0, 0))
section
variable {w w' : World} {b : Nat} {cs : List Value} {T : TypeId}
theorem BoxAt.cell (h : BoxAt w b cs T) (j : Nat) {v : Value} (hv : cs[j]? = some v) : w.cell? ⟨b, j, none⟩ = some v := by
  unfold BoxAt at h; simp [World.cell?, h, hv]
theorem BoxAt.free (h : BoxAt w b cs T) (j : Nat) : w.frozen? ⟨b, j, none⟩ = false := by
  unfold BoxAt at h; simp [World.frozen?, h]
theorem BoxAt.lt (h : BoxAt w b cs T) : b < w.heap.size := lt_of_block h
theorem BoxAt.below {B : Nat} (h : BoxAt w b cs T) (hb : Below B w w') (hl : b < B) : BoxAt w' b cs T := (hb.block b hl).trans h
theorem BoxAt.belowS (h : BoxAt w b cs T) (hb : Below w.heap.size w w') : BoxAt w' b cs T := h.below hb h.lt
theorem BoxAt.drew (h : BoxAt w b cs T) : BoxAt w.drew b cs T := h
theorem BoxAt.alloc (h : BoxAt w b cs T) (o : Obj) : BoxAt (w.alloc o) b cs T := (Below.heap_alloc w o b h.lt).trans h
theorem BoxAt.new (w : World) (cs : List Value) (T : TypeId) : BoxAt (w.alloc (.cells cs.toArray T)) w.heap.size cs T := heap_alloc_new w _
theorem BoxAt.set (h : BoxAt w b cs T) (j : Nat) (u : Value) : BoxAt (w.setCell ⟨b, j, none⟩ u) b (cs.set j u) T := by
  have := heap_setCell_same w b j cs.toArray T u h
  unfold BoxAt; rw [this]; simp
theorem BoxAt.setOther (h : BoxAt w b cs T) {p : Addr} (hp : b ≠ p.block) (u : Value) : BoxAt (w.setCell p u) b cs T := (Below.heap_setCell w p u b hp).trans h
theorem BoxAt.grown {row : Option Nat} (h : BoxAt w b cs T) (hg : w.grownBy w' row) (hr : row ≠ some b) : BoxAt w' b cs T := (hg.block b h.lt (fun e => hr e.symm)).trans h
end
end Go.Proofs.YtodcebhfkmlmgaaDoor
