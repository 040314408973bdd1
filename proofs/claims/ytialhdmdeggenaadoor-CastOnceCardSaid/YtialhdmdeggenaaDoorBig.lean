/- Variables of many cells: read and written whole, the world a letter. No program is named. -/
import Derived.Test.YtialhdmdeggenaaDoorLib2
import Derived.Laws.Rows
import Derived.Laws.CopyOwn
set_option linter.unusedVariables false
set_option linter.unusedSimpArgs false
namespace Go.Proofs.YtialhdmdeggenaaDoor
open Go Go.RowKit

theorem wpList_load_box {P : Program} {w : World} {ops : Array Oper} {rest : List Oper} {o : Oper} {a : Act} {Q : Exit → Act → World → Prop} (hgd : o.guard = none) (ty : TypeId) (x : Operand) (ho : o.op = .load ty x)
    (b : Nat) (hx : a.eval x = .pointer (some ⟨b, 0, none⟩)) (cs : List Value) (T : TypeId) (hb : BoxAt w b cs T) {d : TypeDesc}
    (hu : P.underlying ty = some d) (hd : (match d with | .struct _ | .array _ _ => true | _ => false) = true) (hi : (P.info? ty).map (·.size) = some cs.toArray.size)
    (h : wpList P ops Q rest (a.put o.dst (.agg cs.toArray)) w) : wpList P ops Q (o :: rest) a w :=
  wpList_load_row hgd ty x ho b hx T cs.toArray (0, 0) d hb hu hd hi h
theorem wpList_store_box {P : Program} {w : World} {ops : Array Oper} {rest : List Oper} {o : Oper} {a : Act} {Q : Exit → Act → World → Prop} (hgd : o.guard = none) (ty : TypeId) (x y : Operand) (ho : o.op = .store ty x y)
    (b : Nat) (cs : List Value) (hx : a.eval x = .pointer (some ⟨b, 0, none⟩)) (hy : a.eval y = .agg cs.toArray) (T : TypeId) (old : List Value) (hb : BoxAt w b old T)
    (hi : (P.info? ty).map (·.size) = some cs.toArray.size) (hl : old.length = cs.length) (h1 : cs.all (·.oneCell') = true)
    (h : ∀ w', BoxAt w' b cs T → Below b w w' → (∀ b' cs' T', b' ≠ b → BoxAt w b' cs' T' → BoxAt w' b' cs' T') → w'.heap.size = w.heap.size → wpList P ops Q rest (a.put o.dst undef) w') : wpList P ops Q (o :: rest) a w :=
  wpList_store_row hgd ty x y ho b cs.toArray hx hy T old.toArray hb hi (by simpa using hl) (by simpa using h1)
    (h _ (setRow_heap w b old.toArray cs.toArray T _ hb) (below_setRow (Below.refl _ _) (Nat.le_refl _) _) (fun b' cs' T' hne h' => (setRow_other w b b' _ hne).trans h') (by simp))
/-- A new variable, and what is stored into it at once. -/
theorem wpList_store_new {P : Program} {w : World} {ops : Array Oper} {rest : List Oper} {o : Oper} {a : Act} {Q : Exit → Act → World → Prop} (hgd : o.guard = none) (ty : TypeId) (x y : Operand) (ho : o.op = .store ty x y)
    (cs : List Value) (T : TypeId) (old : List Value) (hx : a.eval x = .pointer (some ⟨w.heap.size, 0, none⟩)) (hy : a.eval y = .agg cs.toArray)
    (hi : (P.info? ty).map (·.size) = some cs.toArray.size) (hl : old.length = cs.length) (h1 : cs.all (·.oneCell') = true)
    (h : ∀ w', BoxAt w' w.heap.size cs T → Below w.heap.size w w' → w'.heap.size = w.heap.size + 1 → wpList P ops Q rest (a.put o.dst undef) w') : wpList P ops Q (o :: rest) a (w.alloc (.cells old.toArray T)) :=
  wpList_store_box hgd ty x y ho w.heap.size cs hx hy T old (BoxAt.new w old T) hi hl h1
    (fun w' hb hw _ hs => h w' hb (((Below.refl _ w).alloc (Nat.le_refl _) _).trans hw) (by rw [hs]; simp))
/-- The store into a new variable as an equation: the world behind it a letter. -/
theorem store_new_eq {P : Program} (w : World) (ty : TypeId) (cs old : List Value) (T : TypeId) (hi : (P.info? ty).map (·.size) = some cs.toArray.size) (hl : old.length = cs.length) (h1 : cs.all (·.oneCell') = true) :
    ∃ w', (Instr.storeAt ty (.pointer (some ⟨w.heap.size, 0, none⟩)) (.agg cs.toArray)).run P ((w.alloc (.cells old.toArray T)).drew) = .ok () w' ∧ BoxAt w' w.heap.size cs T ∧ Below w.heap.size w w' ∧ w'.heap.size = w.heap.size + 1 := by
  have hb : BoxAt ((w.alloc (.cells old.toArray T)).drew) w.heap.size old T := (BoxAt.new w old T).drew
  refine ⟨((w.alloc (.cells old.toArray T)).drew).setRow w.heap.size cs.toArray, ?_, setRow_heap _ _ _ _ _ _ hb, below_setRow (((Below.refl _ w).alloc (Nat.le_refl _) _).drew) (Nat.le_refl _) _, by simp⟩
  simp only [Instr.storeAt, Instr.sureAddr, Sem.run_bind, Sem.run_pure, Result.andThen_ok]
  exact run_storeVar_row _ _ T ty old.toArray cs.toArray hb hi (by simpa using hl) (by simpa using h1)
/-- The same as the walk's simp leaves it. -/
theorem storeCells_new_eq {P : Program} (w : World) (ty : TypeId) (cs old : List Value) (T : TypeId) (hi : (P.info? ty).map (·.size) = some cs.toArray.size) (hl : old.length = cs.length) (h1 : cs.all (·.oneCell') = true) :
    ∃ w', (storeCells ⟨w.heap.size, 0, none⟩ cs 0).run P ((w.alloc (.cells old.toArray T)).drew) = .ok () w' ∧ BoxAt w' w.heap.size cs T ∧ Below w.heap.size w w' ∧ w'.heap.size = w.heap.size + 1 := by
  have hb : BoxAt ((w.alloc (.cells old.toArray T)).drew) w.heap.size old T := (BoxAt.new w old T).drew
  refine ⟨((w.alloc (.cells old.toArray T)).drew).setRow w.heap.size cs.toArray, ?_, setRow_heap _ _ _ _ _ _ hb, below_setRow (((Below.refl _ w).alloc (Nat.le_refl _) _).drew) (Nat.le_refl _) _, by simp⟩
  have := run_storeVar_row (P := P) ((w.alloc (.cells old.toArray T)).drew) w.heap.size T ty old.toArray cs.toArray hb hi (by simpa using hl) (by simpa using h1)
  cases hq : P.info? ty with
  | none => simp [hq] at hi
  | some i =>
    have hs : cs.length = i.size := by simp [hq] at hi; omega
    simpa [storeVar, sizeOf, typeInfo, hq, Value.cells, hs] using this
end Go.Proofs.YtialhdmdeggenaaDoor
