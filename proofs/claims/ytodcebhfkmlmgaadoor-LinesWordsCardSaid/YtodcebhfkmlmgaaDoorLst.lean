/- Lists that the call builds by append, their elements read. No program is named. -/
import Derived.Test.YtodcebhfkmlmgaaDoorLib2
import Derived.Test.YtodcebhfkmlmgaaDoorLib4
import Derived.RegionTactic
set_option linter.unusedVariables false
set_option linter.unusedSimpArgs false
namespace Go.Proofs.YtodcebhfkmlmgaaDoor
open Go Go.RowKit

def LstO {α : Type} (R : Rel α) (G : Nat → Prop) (base e : Nat) (w : World) (v : Value) (l : List α) : Prop :=
  ∃ vals, w.ownsRow base e R.size v l.length vals ∧ ∀ j x, l[j]? = some x → R.rd (fun b => G b ∧ b < w.heap.size ∧ v.ownBlock ≠ some b) w ((vals.drop (j * R.size)).take R.size) x

section
variable {α : Type} {R : Rel α} {G G' : Nat → Prop} {base e : Nat} {w w' : World} {v : Value} {l : List α}

theorem LstO.nil (R : Rel α) (G : Nat → Prop) (base e : Nat) (w : World) : LstO R G base e w (.slice none 0 0) [] :=
  ⟨[], World.ownsRow_nil _ _ _ _, fun j x hx => by simp at hx⟩
theorem LstO.mono (h : LstO R G base e w v l) (hG : ∀ b, G b → G' b) : LstO R G' base e w v l := by
  obtain ⟨vals, h1, h2⟩ := h
  exact ⟨vals, h1, fun j x hx => R.keep (h2 j x hx) (Keep.refl _ _) (fun b hb => ⟨hG b hb.1, hb.2⟩)⟩
theorem LstO.below (h : LstO R G base e w v l) (hb : Below w.heap.size w w') : LstO R G base e w' v l := by
  obtain ⟨vals, h1, h2⟩ := h
  exact ⟨vals, ownsRow_below h1 hb, fun j x hx => R.keep (h2 j x hx) (Keep.below hb) (fun b hb' => ⟨hb'.1, Nat.lt_of_lt_of_le hb'.2.1 hb.size, hb'.2.2⟩)⟩
theorem LstO.alloc (h : LstO R G base e w v l) (o : Obj) : LstO R G base e (w.alloc o) v l := h.below ((Below.refl _ _).alloc (Nat.le_refl _) _)
theorem LstO.drew (h : LstO R G base e w v l) : LstO R G base e w.drew v l := h.below (Below.refl _ _).drew
theorem LstO.setCell (h : LstO R G base e w v l) {p : Addr} (hp : p.block < base) (hG : ¬ G p.block) (u : Value) : LstO R G base e (w.setCell p u) v l := by
  obtain ⟨vals, h1, h2⟩ := h
  refine ⟨vals, ownsRow_setCell h1 hp u, fun j x hx => R.keep (h2 j x hx) (Keep.setCell (fun h => hG h.1) u) (fun b hb => ⟨hb.1, ?_, hb.2.2⟩)⟩
  have : (w.setCell p u).heap.size = w.heap.size := by simp [World.setCell]
  omega
theorem LstO.own (h : LstO R G base e w v l) : ∃ vals, w.ownsRow base e R.size v l.length vals := let ⟨vals, h1, _⟩ := h; ⟨vals, h1⟩
theorem LstO.form (h : LstO R G base e w v l) : ∃ ad cap, v = .slice ad l.length cap := let ⟨vals, h1, _⟩ := h; ownsRow_form h1
/-- One more. -/
theorem LstO.push {vals : List Value} {g cap : Nat} {x : α} {cs : List Value} (h1 : w.ownsRow base e R.size v l.length vals)
    (h2 : ∀ j x, l[j]? = some x → R.rd (fun b => G b ∧ b < w.heap.size ∧ v.ownBlock ≠ some b) w ((vals.drop (j * R.size)).take R.size) x)
    (hx : R.rd (fun b => G b ∧ b < w.heap.size ∧ v.ownBlock ≠ some b) w cs x)
    (hown : w'.ownsRow base e R.size (.slice (some ⟨g, 0, none⟩) (l.length + 1) cap) (l.length + 1) (vals ++ cs)) (hgr : w.grownBy w' v.ownBlock) (hat : v.ownBlock = some g ∨ g = w.heap.size) :
    LstO R G base e w' (.slice (some ⟨g, 0, none⟩) (l.length + 1) cap) (l ++ [x]) := by
  have hlv : vals.length = l.length * R.size := h1.1
  have hk : Keep (fun b => G b ∧ b < w.heap.size ∧ v.ownBlock ≠ some b) w w' := Keep.grown hgr (fun k hk h => h.2.2 hk)
  have hm : ∀ b, (G b ∧ b < w.heap.size ∧ v.ownBlock ≠ some b) → (G b ∧ b < w'.heap.size ∧ (Value.slice (some ⟨g, 0, none⟩) (l.length + 1) cap).ownBlock ≠ some b) := fun b hb => ⟨hb.1, Nat.lt_of_lt_of_le hb.2.1 hgr.size, by
    simp only [Value.ownBlock, ne_eq, Option.some.injEq]
    rintro rfl
    rcases hat with hat | hat
    · exact hb.2.2 hat
    · omega⟩
  refine ⟨vals ++ cs, by simpa using hown, fun j y hy => ?_⟩
  rcases Nat.lt_trichotomy j l.length with hj | hj | hj
  · rw [List.getElem?_append_left hj] at hy
    have hr := h2 j y hy
    have hle : (j + 1) * R.size ≤ l.length * R.size := Nat.mul_le_mul_right _ hj
    rw [Nat.add_mul, Nat.one_mul] at hle
    rw [List.drop_append_of_le_length (by omega), List.take_append_of_le_length (by simp; omega)]
    exact R.keep hr hk hm
  · subst hj
    simp only [List.getElem?_append_right (Nat.le_refl _), Nat.sub_self, List.getElem?_cons_zero, Option.some.injEq] at hy
    subst hy
    rw [← hlv, List.drop_left' rfl, List.take_of_length_le (by rw [R.len hx]; omega)]
    exact R.keep hx hk hm
  · rw [List.getElem?_eq_none (by simp; omega)] at hy; simp at hy
/-- It reads. -/
theorem LstO.rd (h : LstO R G base e w v l) (hs : 0 < R.size) (hb : ∀ b, base ≤ b → b < w.heap.size → G' b) (hG : ∀ b, G b → b < w.heap.size → G' b) : RdS R G' w v l := by
  obtain ⟨vals, ⟨hl, h1⟩, h2⟩ := h
  rcases h1 with ⟨rfl, h0⟩ | ⟨g, cap, cur, rfl, hbg, hg, k1, k2, k3, k4⟩
  · have : l = [] := List.eq_nil_of_length_eq_zero h0
    subst this; exact RdS.nil _ _ _
  · refine ⟨_, cap, rfl, k1, k2, fun h => by simp at h, fun j x hx => ?_⟩
    have hj : j < l.length := by
      rcases Nat.lt_or_ge j l.length with h | h
      · exact h
      · simp [List.getElem?_eq_none h] at hx
    have hr := h2 j x hx
    refine ⟨g, 0, _, rfl, hb g hbg (lt_of_block hg), fun t c ht => ?_, R.keep hr (Keep.refl _ _) (fun b hb' => hG b hb'.1 hb'.2.1)⟩
    have hlen := R.len hr
    have ht' : t < R.size := by
      rcases Nat.lt_or_ge t R.size with h | h
      · exact h
      · rw [List.getElem?_eq_none (by omega)] at ht; simp at ht
    rw [List.getElem?_take_of_lt ht', List.getElem?_drop] at ht
    have hle : (j + 1) * R.size ≤ l.length * R.size := Nat.mul_le_mul_right _ hj
    rw [Nat.add_mul, Nat.one_mul] at hle
    rw [← k4, List.getElem?_take_of_lt (by omega)] at ht
    simp [World.cell?, hg]
    simpa using ht
end
/-- The same, its cells a letter. -/
def LstV {α : Type} (R : Rel α) (G : Nat → Prop) (base e : Nat) (w : World) (v : Value) (l : List α) (vals : List Value) : Prop :=
  w.ownsRow base e R.size v l.length vals ∧ ∀ j x, l[j]? = some x → R.rd (fun b => G b ∧ b < w.heap.size ∧ v.ownBlock ≠ some b) w ((vals.drop (j * R.size)).take R.size) x
section
variable {α : Type} {R : Rel α} {G G' : Nat → Prop} {base e : Nat} {w w' : World} {v : Value} {l : List α} {vs : List Value}
theorem LstO.valsOf (h : LstO R G base e w v l) : ∃ vs, LstV R G base e w v l vs := h
theorem LstV.o (h : LstV R G base e w v l vs) : LstO R G base e w v l := ⟨vs, h⟩
theorem LstV.own (h : LstV R G base e w v l vs) : w.ownsRow base e R.size v l.length vs := h.1
theorem LstV.below (h : LstV R G base e w v l vs) (hb : Below w.heap.size w w') : LstV R G base e w' v l vs :=
  ⟨ownsRow_below h.1 hb, fun j x hx => R.keep (h.2 j x hx) (Keep.below hb) (fun b hb' => ⟨hb'.1, Nat.lt_of_lt_of_le hb'.2.1 hb.size, hb'.2.2⟩)⟩
theorem LstV.alloc (h : LstV R G base e w v l vs) (o : Obj) : LstV R G base e (w.alloc o) v l vs := h.below ((Below.refl _ _).alloc (Nat.le_refl _) _)
theorem LstV.drew (h : LstV R G base e w v l vs) : LstV R G base e w.drew v l vs := h.below (Below.refl _ _).drew
theorem LstV.push {g cap : Nat} {x : α} {cs : List Value} (h : LstV R G base e w v l vs)
    (hx : R.rd (fun b => G b ∧ b < w.heap.size ∧ v.ownBlock ≠ some b) w cs x)
    (hown : w'.ownsRow base e R.size (.slice (some ⟨g, 0, none⟩) (l.length + 1) cap) (l.length + 1) (vs ++ cs)) (hgr : w.grownBy w' v.ownBlock) (hat : v.ownBlock = some g ∨ g = w.heap.size) :
    LstO R G base e w' (.slice (some ⟨g, 0, none⟩) (l.length + 1) cap) (l ++ [x]) := LstO.push h.1 h.2 hx hown hgr hat
theorem LstV.lt (h : LstV R G base e w v l vs) : ∀ k, v.ownBlock = some k → base ≤ k ∧ k < w.heap.size := h.1.lt
end
/-- The cells of a block that is known whole, as a slice of one element. -/
theorem BoxAt.slCells {w : World} {b size : Nat} {cs : List Value} {T : TypeId} (h : BoxAt w b cs T) (hs : cs.length = size) : SlCells w (.slice (some ⟨b, 0, none⟩) 1 1) 1 size cs :=
  ⟨_, _, rfl, fun h => by simp at h, by omega, fun j u hj => ⟨_, _, rfl, by have := h.cell j hj; simpa using this⟩⟩
theorem BoxAt.newsAt {w : World} {b : Nat} {cs : List Value} {T : TypeId} (h : BoxAt w b cs T) : ∀ j u, cs[j]? = some u → w.cell? ((⟨b, 0, none⟩ : Addr).add j) = some u := fun j u hu => by
  have hadd : (⟨b, 0, none⟩ : Addr).add j = ⟨b, j, none⟩ := by unfold Addr.add; split <;> simp_all
  rw [hadd]; exact h.cell j hu
/-- append of one element at a step of a region that draws. -/
theorem step_append_one {P : Program} {w : World} {ops : Array Oper} {o : Oper} {a : Act} {K : Act → World → Prop} {Q : Exit → Act → World → Prop} {E : Prop} (hgd : o.guard = none) (s x : Operand) (t : TypeId)
    (ho : o.op = .call { callee := .builtin .append, args := #[s, x], argTypes := #[t, t] })
    {e : TypeId} {size bytes : Nat} (hE : ElemOk P t e size bytes) (base : Nat) (v : Value) (n : Nat) (xs : List Value) (hs : a.eval s = v) (hown : w.ownsRow base e size v n xs)
    (b : Nat) (T : TypeId) (cs : List Value) (hx : a.eval x = .slice (some ⟨b, 0, none⟩) 1 1) (hbox : BoxAt w b cs T) (hl : cs.length = size) (h1 : ∀ u ∈ cs, u.oneCell' = true)
    (h63 : n + 1 ≤ maxLen) (hbytes : (n + 1) * bytes ≤ 140737488355328) (hbase : base ≤ w.heap.size)
    (h : ∀ g cap w', w'.ownsRow base e size (.slice (some ⟨g, 0, none⟩) (n + 1) cap) (n + 1) (xs ++ cs) → w.grownBy w' v.ownBlock → (v.ownBlock = some g ∨ g = w.heap.size) → g < w'.heap.size → K (a.put o.dst (.slice (some ⟨g, 0, none⟩) (n + 1) cap)) w') :
    if Region.wanted o (yielded ops a.tmps) = true then Oper.wp P o a w K Q else E := by
  obtain ⟨ht, i, z, hi, hz, hsize, hby, hzs, hsz⟩ := hE
  exact step_append_lies w hgd s x t ho base e i z size bytes ht hi hz hsize hby hzs hsz v n xs hs hown ⟨b, 0, none⟩ 1 1 cs hx (by omega) hbox.newsAt h1 (by omega) h63 hbytes hbase _ rfl h
/-- The same in a plain region. -/
theorem wpList_append_one {P : Program} {w : World} {ops : Array Oper} {rest : List Oper} {o : Oper} {a : Act} {Q : Exit → Act → World → Prop} (hgd : o.guard = none) (s x : Operand) (t : TypeId)
    (ho : o.op = .call { callee := .builtin .append, args := #[s, x], argTypes := #[t, t] })
    {e : TypeId} {size bytes : Nat} (hE : ElemOk P t e size bytes) (base : Nat) (v : Value) (n : Nat) (xs : List Value) (hs : a.eval s = v) (hown : w.ownsRow base e size v n xs)
    (b : Nat) (T : TypeId) (cs : List Value) (hx : a.eval x = .slice (some ⟨b, 0, none⟩) 1 1) (hbox : BoxAt w b cs T) (hl : cs.length = size) (h1 : ∀ u ∈ cs, u.oneCell' = true)
    (h63 : n + 1 ≤ maxLen) (hbytes : (n + 1) * bytes ≤ 140737488355328) (hbase : base ≤ w.heap.size)
    (h : ∀ g cap w', w'.ownsRow base e size (.slice (some ⟨g, 0, none⟩) (n + 1) cap) (n + 1) (xs ++ cs) → w.grownBy w' v.ownBlock → (v.ownBlock = some g ∨ g = w.heap.size) → g < w'.heap.size → wpList P ops Q rest (a.put o.dst (.slice (some ⟨g, 0, none⟩) (n + 1) cap)) w') : wpList P ops Q (o :: rest) a w :=
  wpList_plain hgd fun K hK => by
    obtain ⟨ht, i, z, hi, hz, hsize, hby, hzs, hsz⟩ := hE
    exact wp_append_lies w s x t ho base e i z size bytes ht hi hz hsize hby hzs hsz v n xs hs hown ⟨b, 0, none⟩ 1 1 cs hx (by omega) hbox.newsAt h1 (by omega) h63 hbytes hbase _ rfl fun g cap w' h2 h3 h4 h5 => hK _ _ (h g cap w' h2 h3 h4 h5)
end Go.Proofs.YtodcebhfkmlmgaaDoor
