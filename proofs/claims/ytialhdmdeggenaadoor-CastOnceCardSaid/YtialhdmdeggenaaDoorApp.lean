/- Bytes that are appended to a slice that the call, or its caller, owns. No program is named. -/
import Derived.Test.YtialhdmdeggenaaDoorLst
import Derived.Test.YtialhdmdeggenaaDoorCodes
set_option linter.unusedVariables false
set_option linter.unusedSimpArgs false
namespace Go.Proofs.YtialhdmdeggenaaDoor
open Go Go.RowKit

abbrev byteVs (l : Bytes) : List Value := l.map fun c => Value.int .u8 c.toNat
theorem grownBy_trans {a b c : World} {r r' : Option Nat} (h : a.grownBy b r) (h' : b.grownBy c r') (hr : r' = r ∨ ∀ k, r' = some k → a.heap.size ≤ k) : a.grownBy c r :=
  ⟨h'.os.trans h.os, h'.tape.trans h.tape, h'.output.trans h.output, Nat.le_trans h.size h'.size, fun k hk hne => by
    rw [h'.block k (Nat.lt_of_lt_of_le hk h.size) (fun e => ?_), h.block k hk hne]
    rcases hr with rfl | hr
    · exact hne e
    · have := hr k e.symm; omega⟩
theorem grownBy_of_below {a b : World} (h : Below a.heap.size a b) (r : Option Nat) : a.grownBy b r := ⟨h.os, h.tape, h.output, h.size, fun k hk _ => h.block k hk⟩
/-- v became v', which holds the bytes l; all else is as it was. -/
structure AppB (base e : Nat) (w : World) (v : Value) (w' : World) (v' : Value) (l : Bytes) : Prop where
  own : w'.ownsRow base e 1 v' l.length (byteVs l)
  gr : w.grownBy w' v.ownBlock
  at' : v'.ownBlock = v.ownBlock ∨ ∀ k, v'.ownBlock = some k → w.heap.size ≤ k
section
variable {base e : Nat} {w w' w'' : World} {v v' v'' : Value} {l l' : Bytes}
theorem AppB.refl (h : w.ownsRow base e 1 v l.length (byteVs l)) : AppB base e w v w v l := ⟨h, ⟨rfl, rfl, rfl, Nat.le_refl _, fun _ _ _ => rfl⟩, .inl rfl⟩
theorem AppB.trans (h : AppB base e w v w' v' l) (k : AppB base e w' v' w'' v'' l') : AppB base e w v w'' v'' l' := by
  refine ⟨k.own, grownBy_trans h.gr k.gr ?_, ?_⟩
  · exact h.at'
  · rcases k.at' with e | e
    · rw [e]; exact h.at'
    · exact .inr fun j hj => Nat.le_trans h.gr.size (e j hj)
theorem AppB.below (h : AppB base e w v w' v' l) (hb : Below w'.heap.size w' w'') : AppB base e w v w'' v' l :=
  ⟨ownsRow_below h.own hb, grownBy_trans h.gr (grownBy_of_below hb v.ownBlock) (.inl rfl), h.at'⟩
theorem AppB.before {w0 : World} (hb : Below w0.heap.size w0 w) (h : AppB base e w v w' v' l) : AppB base e w0 v w' v' l :=
  ⟨h.own, grownBy_trans (grownBy_of_below hb v.ownBlock) h.gr (.inl rfl), h.at'.imp id fun k j hj => Nat.le_trans hb.size (k j hj)⟩
theorem AppB.size (h : AppB base e w v w' v' l) : w.heap.size ≤ w'.heap.size := h.gr.size
theorem AppB.form (h : AppB base e w v w' v' l) : ∃ ad cap, v' = .slice ad l.length cap := ownsRow_form h.own
theorem AppB.box {b : Nat} {cs : List Value} {T : TypeId} (h : AppB base e w v w' v' l) (hx : BoxAt w b cs T) (hn : v.ownBlock ≠ some b) : BoxAt w' b cs T := hx.grown h.gr hn
theorem AppB.keep {G : Nat → Prop} (h : AppB base e w v w' v' l) (hG : ∀ k, v.ownBlock = some k → ¬ G k) : Keep G w w' := Keep.grown h.gr hG
theorem AppB.bel {B : Nat} {a : World} (h : AppB base e w v w' v' l) (hb : Below B a w) (hB : B ≤ w.heap.size) (hv : ∀ k, v.ownBlock = some k → B ≤ k) : Below B a w' := hb.grown h.gr hB hv
theorem AppB.rd {G : Nat → Prop} (h : AppB base e w v w' v' l) (hG : ∀ b, base ≤ b → G b) : RdB G w' v' l := RdS.of_owns h.own hG
theorem AppB.apart {G : Nat → Prop} (h : AppB base e w v w' v' l) (hG : ∀ b, G b → v.ownBlock ≠ some b) : ∀ b, (G b ∧ b < w.heap.size) → v'.ownBlock ≠ some b := fun b hb e => by
  rcases h.at' with h | h
  · exact hG b hb.1 (h ▸ e)
  · have := h b e; omega
theorem AppB.keepG {G : Nat → Prop} (h : AppB base e w v w' v' l) (hG : ∀ b, G b → v.ownBlock ≠ some b) : Keep G w w' := h.keep (fun k hk hg => hG k hg hk)
theorem AppB.list {l1 : Bytes} (h : AppB base e w v w' v' l) (e1 : l = l1) : AppB base e w v w' v' l1 := e1 ▸ h
/-- From append's law. -/
theorem AppB.of {g cap n m : Nat} {news : Bytes} {vs : List Value} {w0 : World} {H : Nat} (hn : l.length = n) (hm : news.length = m) (hown : w'.ownsRow base e 1 (.slice (some ⟨g, 0, none⟩) (n + m) cap) (n + m) (byteVs l ++ vs)) (hvs : vs = byteVs news)
    (hgr : w0.grownBy w' v.ownBlock) (hat : v.ownBlock = some g ∨ g = H) (hH : w0.heap.size = H) (hw : Below w.heap.size w w0) : AppB base e w v w' (.slice (some ⟨g, 0, none⟩) (n + m) cap) (l ++ news) := by
  subst hn hm hvs
  refine ⟨?_, grownBy_trans (grownBy_of_below hw v.ownBlock) hgr (.inl rfl), ?_⟩
  · rw [List.length_append, byteVs, List.map_append]; exact hown
  · rcases hat with h | h
    · exact .inl (by rw [h]; rfl)
    · exact .inr fun k hk => by have := hw.size; simp [Value.ownBlock] at hk; omega
end
theorem BoxAt.slCellsN {w : World} {b n c : Nat} {cs : List Value} {T : TypeId} (h : BoxAt w b cs T) (hn : cs.length = n) : SlCells w (.slice (some ⟨b, 0, none⟩) n c) n 1 cs :=
  ⟨_, _, rfl, fun h => by simp at h, by omega, fun j u hj => ⟨_, _, rfl, by have := h.cell j hj; simpa using this⟩⟩
theorem lit_ownsN (w : World) (l : List Value) (e : TypeId) (hn : l.length ≤ 1000 := by simp) (h0 : 0 < l.length := by simp) : (w.alloc (.cells l.toArray e)).ownsRow w.heap.size e 1 (.slice (some ⟨w.heap.size, 0, none⟩) l.length l.length) l.length l :=
  ⟨by simp, .inr ⟨w.heap.size, l.length, l.toArray, rfl, Nat.le_refl _, heap_alloc_new w _, Nat.le_refl _, by unfold maxLen; omega, by simp, by simp⟩⟩
end Go.Proofs.YtialhdmdeggenaaDoor
