/- How the arguments of a law are opened: what reads as data is a list of the call's own kind. No program is named. -/
import Derived.Test.YtodcebhfkmlmgaaDoorLib2
import Derived.ProofKit
import Derived.OpenShut
import Derived.Deep.Slices
import Derived.SizedLaws
set_option linter.unusedVariables false
set_option linter.unusedSimpArgs false
namespace Go.Proofs.YtodcebhfkmlmgaaDoor
open Go Go.RowKit

/-- Whatever reads as data of the type T is an R. -/
def Opens {α : Type} (P : Program) (T : TypeId) (R : Rel α) : Prop :=
  ∀ (H : Type) (enc : TypeId × Value → H) (w : World) (held : Bool) (fuel : Nat) (cs : List Value) (x : DataW H × List MemPlace), DataW.trod enc P w 0 (fun _ => true) held fuel T cs = some x → ∃ a, R.rd (fun _ => True) w cs a

theorem spot_of_cell {w : World} {a : Addr} {v : Value} (h : w.cell? a = some v) : a.spot = none := by
  unfold World.cell? at h
  split at h
  · split at h
    · simp at h
    · rename_i hs; simpa using hs
  · simp at h

theorem cells_at {w : World} {base n : Nat} {a : Addr} {cs : List Value} (h : w.cells? base a n = some cs) (j : Nat) (v : Value) (hj : cs[j]? = some v) : w.cell? (a.add j) = some v := by
  obtain ⟨_, hl, hc⟩ := World.cells?_some h
  have hjl : j < cs.length := by
    rcases Nat.lt_or_ge j cs.length with h | h
    · exact h
    · simp [List.getElem?_eq_none h] at hj
  have := hc j (by omega)
  rw [this, hj]

theorem Opens.slice {α : Type} {P : Program} {t e : TypeId} {R : Rel α} (ht : P.underlying t = some (.slice e)) (hc : P.cellsOf e = R.size) (hs : 0 < R.size) (h : Opens P e R) :
    ∀ (H : Type) (enc : TypeId × Value → H) (w : World) (held : Bool) (fuel : Nat) (cs : List Value) (x : DataW H × List MemPlace), DataW.trod enc P w 0 (fun _ => true) held fuel t cs = some x →
      ∃ v l, cs = [v] ∧ RdS R (fun _ => True) w v l := by
  intro H enc w held fuel cs x hx
  rcases Go.Deep.open_slice ht hx with ⟨rfl, _⟩ | ⟨a, len, cap, m, n, D, Pl, rfl, _, hl, hm, hmm, _, hi⟩
  · exact ⟨_, [], rfl, RdS.nil _ _ _⟩
  · have hi' : ∀ i, i < len → ∃ a, ∃ cs', w.cells? 0 (Addr.add ‹Addr› (i * P.cellsOf e)) (P.cellsOf e) = some cs' ∧ R.rd (fun _ => True) w cs' a := fun i hil => by
      obtain ⟨cs', h1, h2⟩ := hi i (by simp at hmm; omega)
      obtain ⟨y, hy⟩ := h H enc w held n cs' _ h2
      exact ⟨y, cs', h1, hy⟩
    obtain ⟨f, hf⟩ : ∃ f : Fin len → α, ∀ i : Fin len, ∃ cs', w.cells? 0 (a.add (i.val * P.cellsOf e)) (P.cellsOf e) = some cs' ∧ R.rd (fun _ => True) w cs' (f i) :=
      ⟨fun i => (hi' i.val i.isLt).choose, fun i => (hi' i.val i.isLt).choose_spec⟩
    refine ⟨_, List.ofFn f, rfl, some a, cap, by simp, by simpa using hl, hm, fun h => by simp at h, fun j y hy => ?_⟩
    have hj : j < len := by
      rcases Nat.lt_or_ge j len with h | h
      · exact h
      · rw [List.getElem?_eq_none (by simpa using h)] at hy; simp at hy
    obtain ⟨cs', h1, h2⟩ := hf ⟨j, hj⟩
    have hy' : f ⟨j, hj⟩ = y := by simpa [List.getElem?_ofFn, hj] using hy
    rw [hy'] at h2
    have hlen := R.len h2
    have hcell := cells_at h1
    have hspot : a.spot = none ∨ 0 < j * P.cellsOf e := by
      rcases Nat.eq_zero_or_pos (j * P.cellsOf e) with h0 | h0
      · left
        have := hcell 0 _ (List.getElem?_eq_getElem (by omega))
        have := spot_of_cell this
        simpa [Addr.add, h0] using this
      · exact Or.inr h0
    have hspot0 : a.spot = none := by
      have hz : 0 < len := by omega
      obtain ⟨c0, k1, k2⟩ := hf ⟨0, hz⟩
      have := cells_at k1 0 _ (List.getElem?_eq_getElem (by have := R.len k2; omega))
      have := spot_of_cell this
      simpa [Addr.add] using this
    obtain ⟨b, o, sp⟩ := a
    simp only at hspot0
    subst hspot0
    refine ⟨b, o, cs', rfl, trivial, fun t c hct => ?_, h2⟩
    have := hcell t c hct
    rw [Go.Deep.add_add] at this
    rw [← hc]
    unfold Addr.add at this
    split at this
    · rename_i hz; rw [hz]; simpa using this
    · exact this

/-- A text, no longer than a text may be. -/
def RTextB : Rel (List UInt8) where
  size := 1
  rd := fun _ _ cs x => cs = [strV x] ∧ x.length ≤ 9223372036854775807
  len := fun h => by simp [h.1]
  keep := fun h _ _ => h
  low := fun h => h
theorem opens_text {P : Program} {T : TypeId} (h : P.underlying T = some .string) : Opens P T RTextB := by
  intro H enc w held fuel cs x hx
  obtain ⟨s, rfl, _, hs⟩ := DataW.trod_string h hx
  refine ⟨s.data.toList, rfl, ?_⟩
  have : s.size ≤ maxLen := hs
  unfold maxLen at this
  have e : s.size = s.data.toList.length := rfl
  omega
/-- An int, within its bounds. -/
def RIntB : Rel Int where
  size := 1
  rd := fun _ _ cs x => cs = [.int .i64 x] ∧ -9223372036854775808 ≤ x ∧ x ≤ 9223372036854775807
  len := fun h => by simp [h.1]
  keep := fun h _ _ => h
  low := fun h => h
theorem wf_i64 {x : Int} (h : (Lit.int .i64 x).wf = true) : -9223372036854775808 ≤ x ∧ x ≤ 9223372036854775807 := by
  exact bounds_i64 h
theorem opens_int {P : Program} {T : TypeId} (h : P.underlying T = some (.int .i64)) : Opens P T RIntB := by
  intro H enc w held fuel cs x hx
  obtain ⟨a, e0, rfl, wa⟩ := DataW.trod_int h hx
  exact ⟨a, e0, wf_i64 wa⟩
def RByteB : Rel UInt8 := RByte
theorem opens_byte {P : Program} {T : TypeId} (h : P.underlying T = some (.int .u8)) : Opens P T RByte := by
  intro H enc w held fuel cs x hx
  obtain ⟨a, e0, rfl, wa⟩ := DataW.trod_int h hx
  have := bounds_u8 wa
  subst e0
  refine ⟨UInt8.ofNat a.toNat, ?_⟩
  show [Value.int .u8 a] = [Value.int .u8 ((UInt8.ofNat a.toNat).toNat : Int)]
  have : ((UInt8.ofNat a.toNat).toNat : Int) = a := by
    rw [UInt8.toNat_ofNat']; omega
  rw [this]

/-- From one relation of elements to a weaker one, and a fact on each element. -/
theorem RdS.weaken {α : Type} {R R' : Rel α} {p : α → Prop} {G : Nat → Prop} {w : World} {v : Value} {l : List α} (hs : R.size = R'.size) (hi : ∀ {G w cs x}, R.rd G w cs x → R'.rd G w cs x ∧ p x) (h : RdS R G w v l) : RdS R' G w v l ∧ ∀ x ∈ l, p x := by
  obtain ⟨ad, cap, rfl, h1, h2, h0, h3⟩ := h
  refine ⟨⟨ad, cap, rfl, h1, h2, h0, fun j x hx => ?_⟩, fun x hx => ?_⟩
  · obtain ⟨b, o, cs, ha, hb, hc, hr⟩ := h3 j x hx
    exact ⟨b, o, cs, ha, hb, by rw [← hs]; exact hc, (hi hr).1⟩
  · obtain ⟨j, hj, e⟩ := List.mem_iff_getElem.1 hx
    obtain ⟨b, o, cs, ha, hb, hc, hr⟩ := h3 j x (by simp [hj, e])
    exact (hi hr).2

/-- The arguments read behind the call as before it. -/
theorem argBack {H : Type} {enc : TypeId × Value → H} {P : Program} {t : TypeId} {W W' : World} {v : Value} {d : DataW H} {ps : List MemPlace} (hl : laidOutB P = true) (hr : P.readableRec t = true) (hrow : t < P.types.size)
    (h : DataW.Trod enc P W 0 (fun _ => true) true t v d ps) (hb : Below W.heap.size W W') : DataW.Trod enc P W' 0 (fun b => decide (b < W.heap.size)) true t v d ps :=
  Below.trod hl hr hrow h hb (by obtain ⟨m, hm⟩ := h; exact DataW.trod_lt m _ _ _ hm)
/-- A list of texts. -/
theorem open_textsL {H : Type} {enc : TypeId × Value → H} {P : Program} {t e : TypeId} {W : World} {v : Value} {d : DataW H} {ps : List MemPlace} (ht : P.underlying t = some (.slice e)) (he : P.underlying e = some .string) (hc : P.cellsOf e = 1)
    {a : Option Addr} {n c : Nat} (hv : v = .slice a n c) (h : DataW.Trod enc P W 0 (fun _ => true) true t v d ps) : ∃ l : List (List UInt8), RdT (fun _ => True) W v l ∧ ∀ s ∈ l, s.length ≤ 9223372036854775807 := by
  subst hv
  obtain ⟨fuel, hf⟩ := h
  obtain ⟨v', l, e1, h1⟩ := (opens_text he).slice ht hc (by decide) H enc W true fuel _ _ hf
  simp only [Value.cells, List.cons.injEq, and_true] at e1
  subst e1
  exact ⟨l, RdS.weaken (R := RTextB) (R' := RStr) (p := fun s => s.length ≤ 9223372036854775807) rfl (fun hx => ⟨hx.1, hx.2⟩) h1⟩
/-- A list of ints. -/
theorem open_intsL {H : Type} {enc : TypeId × Value → H} {P : Program} {t e : TypeId} {W : World} {v : Value} {d : DataW H} {ps : List MemPlace} (ht : P.underlying t = some (.slice e)) (he : P.underlying e = some (.int .i64)) (hc : P.cellsOf e = 1)
    {a : Option Addr} {n c : Nat} (hv : v = .slice a n c) (h : DataW.Trod enc P W 0 (fun _ => true) true t v d ps) : ∃ l : List Int, RdI (fun _ => True) W v l ∧ ∀ s ∈ l, -9223372036854775808 ≤ s ∧ s ≤ 9223372036854775807 := by
  subst hv
  obtain ⟨fuel, hf⟩ := h
  obtain ⟨v', l, e1, h1⟩ := (opens_int he).slice ht hc (by decide) H enc W true fuel _ _ hf
  simp only [Value.cells, List.cons.injEq, and_true] at e1
  subst e1
  exact ⟨l, RdS.weaken (R := RIntB) (R' := RInt) (p := fun s => -9223372036854775808 ≤ s ∧ s ≤ 9223372036854775807) rfl (fun hx => ⟨hx.1, hx.2⟩) h1⟩
/-- Bytes. -/
theorem open_bytesL {H : Type} {enc : TypeId × Value → H} {P : Program} {t e : TypeId} {W : World} {v : Value} {d : DataW H} {ps : List MemPlace} (ht : P.underlying t = some (.slice e)) (he : P.underlying e = some (.int .u8)) (hc : P.cellsOf e = 1)
    {a : Option Addr} {n c : Nat} (hv : v = .slice a n c) (h : DataW.Trod enc P W 0 (fun _ => true) true t v d ps) : ∃ l : List UInt8, RdB (fun _ => True) W v l := by
  subst hv
  obtain ⟨fuel, hf⟩ := h
  obtain ⟨v', l, e1, h1⟩ := (opens_byte he).slice ht hc (by decide) H enc W true fuel _ _ hf
  simp only [Value.cells, List.cons.injEq, and_true] at e1
  subst e1
  exact ⟨l, h1⟩
end Go.Proofs.YtodcebhfkmlmgaaDoor
