/- More plain lemmas on worlds; no program is named. -/
import Derived.Test.YtodcebhfkmlmgaaDoorLib
set_option linter.unusedVariables false
set_option linter.unusedSimpArgs false
namespace Go.Proofs.YtodcebhfkmlmgaaDoor
open Go Go.RowKit
theorem BoxAt.newAt (w : World) (cs : List Value) (T : TypeId) {n : Nat} (hn : n = w.heap.size) : BoxAt (w.alloc (.cells cs.toArray T)) n cs T := hn ▸ BoxAt.new w cs T
theorem Keep.setCell' {G : Nat → Prop} {a w : World} {p : Addr} (h : Keep G a w) (hp : ¬ G p.block) (u : Value) : Keep G a (w.setCell p u) := h.trans (Keep.setCell hp u)
theorem Keep.alloc' {G : Nat → Prop} {a w : World} (h : Keep G a w) (o : Obj) : Keep G a (w.alloc o) := h.trans (Keep.alloc G w o)
theorem Keep.drew' {G : Nat → Prop} {a w : World} (h : Keep G a w) : Keep G a w.drew := h.trans (Keep.drew G w)
/-- Both cells of a variable of two cells are written. -/
theorem BoxAt.set2 {w : World} {b : Nat} {a0 a1 : Value} {T : TypeId} (h : BoxAt w b [a0, a1] T) (u0 u1 : Value) : BoxAt ((w.setCell ⟨b, 0, none⟩ u0).setCell ⟨b, 1, none⟩ u1) b [u0, u1] T := (h.set 0 u0).set 1 u1
theorem BoxAt.set3 {w : World} {b : Nat} {a0 a1 a2 : Value} {T : TypeId} (h : BoxAt w b [a0, a1, a2] T) (u0 u1 u2 : Value) : BoxAt (((w.setCell ⟨b, 0, none⟩ u0).setCell ⟨b, 1, none⟩ u1).setCell ⟨b, 2, none⟩ u2) b [u0, u1, u2] T := ((h.set 0 u0).set 1 u1).set 2 u2
/-- A block that was there reads, and may be written, as before. -/
theorem bcellAt {W w1 : World} (hb : Below W.heap.size W w1) (b : Nat) (h : b < W.heap.size) : (∀ o, w1.cell? ⟨b, o, none⟩ = W.cell? ⟨b, o, none⟩) ∧ (∀ o, w1.frozen? ⟨b, o, none⟩ = W.frozen? ⟨b, o, none⟩) :=
  ⟨fun o => hb.cell (p := ⟨b, o, none⟩) h, fun o => hb.frozen (p := ⟨b, o, none⟩) h⟩
end Go.Proofs.YtodcebhfkmlmgaaDoor
