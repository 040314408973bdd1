/- Laws for the digest's walk: copy into a variable; the tables. -/
import Derived.Test.YtmijiclocadimaaGreatDoorBas
import Derived.Lib.SlBuf
import Derived.Deep.RegionHeld3
set_option linter.unusedVariables false
set_option linter.unusedSimpArgs false
namespace Go.Proofs.YtmijiclocadimaaGreatDoor
open Go Go.RowKit

abbrev U32 (n : Int) : Value := .int .u32 n
abbrev I64 (n : Int) : Value := .int .i64 n
theorem BoxAt.at {w : World} {b : Nat} {l : List Int} {T : TypeId} (h : BoxAt w b (l.map U32) T) (i : Nat) (hi : i < l.length) : w.cell? ⟨b, i, none⟩ = some (U32 (l.getD i 0)) := h.cell i (by simp [hi])
theorem BoxAt.ats {w : World} {b : Nat} {l : List Int} {T : TypeId} (h : BoxAt w b (l.map U32) T) (i : Nat) (x : Int) : BoxAt (w.setCell ⟨b, i, none⟩ (U32 x)) b ((l.set i x).map U32) T := by rw [List.map_set]; exact h.set i (U32 x)
theorem BoxAt.ati {w : World} {b : Nat} {l : List Int} {T : TypeId} (h : BoxAt w b (l.map I64) T) (i : Nat) (hi : i < l.length) : w.cell? ⟨b, i, none⟩ = some (I64 (l.getD i 0)) := h.cell i (by simp [hi])
/-- Cells put over others. -/
def setL : List Value → Nat → List Value → List Value
  | l, _, [] => l
  | l, o, v :: r => setL (l.set o v) (o + 1) r
theorem BoxAt.setCells {w : World} {b : Nat} {T : TypeId} : ∀ (vs : List Value) (l : List Value) (o : Nat) {w : World}, BoxAt w b l T → BoxAt (w.setCells b o vs) b (setL l o vs) T
  | [], _, _, _, h => h
  | v :: r, l, o, _, h => BoxAt.setCells (w := w) r (l.set o v) (o + 1) (h.set o v)
theorem size_setCells' (b : Nat) : ∀ (vs : List Value) (o : Nat) (w : World), (w.setCells b o vs).heap.size = w.heap.size
  | [], _, _ => rfl
  | v :: r, o, w => (size_setCells' b r (o + 1) _).trans (by simp)
theorem wp_copy_box {P : Program} {w : World} {o : Oper} {a : Act} {K : Act → World → Prop} {Q : Exit → Act → World → Prop} (d s : Operand) (t t' : TypeId)
    (ho : o.op = .call { callee := .builtin .copy, args := #[d, s], argTypes := #[t, t'] }) {elem : TypeId} (hu : P.underlying t = some (.slice elem)) (hsz : (P.info? elem).map (·.size) = some 1)
    (b off n c g og n2 c2 : Nat) (hd : a.eval d = .slice (some ⟨b, off, none⟩) n c) (hs : a.eval s = .slice (some ⟨g, og, none⟩) n2 c2)
    (cs old src : List Value) (T T' : TypeId) (hb : BoxAt w b old T) (hg : BoxAt w g src T') (hn : cs.length = Nat.min n2 n) (hcs : ∀ j v, cs[j]? = some v → src[og + j]? = some v) (hfit : off + cs.length ≤ old.length) (h1 : cs.all (·.oneCell') = true)
    (h : ∀ w', BoxAt w' b (setL old off cs) T → Below b w w' → w'.heap.size = w.heap.size → K (a.put o.dst (goInt cs.length)) w') : Oper.wp P o a w K Q := by
  have hr := run_copy_cells (P := P) w t t' o.type elem b off n c ⟨g, og, none⟩ n2 c2 cs hu hsz hn (fun j v hj => by rw [show Addr.add ⟨g, og, none⟩ j = ⟨g, og + j, none⟩ by unfold Addr.add; split <;> simp_all]; exact hg.cell (og + j) (hcs j v hj))
    (fun j hj => by
      have hj' : off + j < old.length := by omega
      have := hb.cell (off + j) (List.getElem?_eq_getElem hj')
      rw [this]; rfl) (fun j hj => hb.free _) (by simpa using h1)
  exact Lib.wp_copy_run w d s t t' ho _ _ hd hs hr (h _ (BoxAt.setCells (w := w) cs old off hb) (Lib.below_setCells b (Nat.le_refl _) cs off (Below.refl _ _)) (size_setCells' b cs off w))
def firstZ : List Int := [1779033703, 3144134277, 1013904242, 2773480762, 1359893119, 2600822924, 528734635, 1541459225]
set_option maxRecDepth 100000 in
def orderZ : List Int := [0, 1, 2, 3, 4, 5, 6, 7, 8, 9, 10, 11, 12, 13, 14, 15, 14, 10, 4, 8, 9, 15, 13, 6, 1, 12, 0, 2, 11, 7, 5, 3, 11, 8, 12, 0, 5, 2, 15, 13, 10, 14, 3, 6, 7, 1, 9, 4, 7, 9, 3, 1, 13, 12, 11, 14, 2, 6, 5, 10, 4, 0, 15, 8, 9, 0, 5, 7, 2, 4, 10, 15, 14, 1, 11, 12, 6, 8, 3, 13, 2, 12, 6, 10, 0, 11, 8, 3, 4, 13, 7, 5, 15, 14, 1, 9, 12, 5, 1, 15, 14, 13, 4, 10, 0, 7, 6, 3, 9, 2, 8, 11, 13, 11, 7, 14, 12, 1, 3, 9, 5, 0, 15, 4, 8, 6, 2, 10, 6, 15, 14, 9, 11, 3, 0, 8, 12, 2, 13, 7, 1, 4, 10, 5, 10, 2, 8, 4, 7, 6, 1, 5, 15, 11, 9, 14, 3, 12, 13, 0]
def lanesZ : List Int := [0, 4, 8, 12, 1, 5, 9, 13, 2, 6, 10, 14, 3, 7, 11, 15, 0, 5, 10, 15, 1, 6, 11, 12, 2, 7, 8, 13, 3, 4, 9, 14]
set_option maxRecDepth 100000 in
theorem orderZ_length : orderZ.length = 160 := rfl
set_option maxRecDepth 100000 in
theorem lanesZ_length : lanesZ.length = 32 := rfl
/-- The tables lie as the program's text lays them. -/
structure Tabs (w : World) : Prop where
  first : ∃ T, BoxAt w 0 (firstZ.map U32) T
  order : ∃ T, BoxAt w 1 (orderZ.map I64) T
  lanes : ∃ T, BoxAt w 2 (lanesZ.map I64) T
theorem Tabs.below {B : Nat} {w w' : World} (h : Tabs w) (hb : Below B w w') (h0 : 3 ≤ B) : Tabs w' := by
  obtain ⟨⟨T0, h0'⟩, ⟨T1, h1'⟩, ⟨T2, h2'⟩⟩ := h
  exact ⟨⟨T0, h0'.below hb (by omega)⟩, ⟨T1, h1'.below hb (by omega)⟩, ⟨T2, h2'.below hb (by omega)⟩⟩
theorem Tabs.size {w : World} (h : Tabs w) : 3 ≤ w.heap.size := by
  obtain ⟨-, -, ⟨T2, h2⟩⟩ := h
  have := h2.lt
  omega
theorem Tabs.belowS {w w' : World} (h : Tabs w) (hb : Below w.heap.size w w') : Tabs w' := h.below hb h.size
theorem Tabs.ge {w : World} (h : Tabs w) {S : Nat} {s : List Int} {T : TypeId} : True := trivial
set_option maxRecDepth 100000 in
theorem order_lt : ∀ i, i < 160 → 0 ≤ orderZ.getD i 0 ∧ orderZ.getD i 0 < 16 := by decide
set_option maxRecDepth 100000 in
theorem lanes_lt : ∀ i, i < 32 → 0 ≤ lanesZ.getD i 0 ∧ lanesZ.getD i 0 < 16 := by decide
theorem oneI (l : List Int) : (l.map I64).all (·.oneCell') = true := by simp; intro x _; rfl
/-- An element of an array that is a value, where the element is itself an array. -/
theorem wpList_index_row {P : Program} {w : World} {ops : Array Oper} {rest : List Oper} {o : Oper} {a : Act} {Q : Exit → Act → World → Prop} (hgd : o.guard = none) (t : TypeId) (x ix : Operand) (ho : o.op = .index t x ix)
    (f : Int → Value) (zs : List Int) (i : Nat) (hx : a.eval x = .agg (zs.map f).toArray) (hix : a.eval ix = .int .i64 (i : Int)) {n : Nat} {e : TypeId} (hu : P.underlying t = some (.array n e)) (hi : i < n) {m : Nat} {e' : TypeId} (he : P.underlying e = some (.array m e')) {size : Nat} (hs : (P.info? e).map (·.size) = some size) (row : List Int) (hrow : (zs.drop (i * size)).take size = row)
    (h : wpList P ops Q rest (a.put o.dst (.agg (row.map f).toArray)) w) : wpList P ops Q (o :: rest) a w := by
  subst hrow
  refine wpList_plain hgd fun K hK => ?_
  have hq : ∃ q, P.info? e = some q ∧ q.size = size := by
    cases hq : P.info? e with
    | none => simp [hq] at hs
    | some q => exact ⟨q, rfl, by simpa [hq] using hs⟩
  obtain ⟨q, hq, rfl⟩ := hq
  have hi' : (i : Int) < (n : Int) := by omega
  have hrun : (Instr.index t (.agg (zs.map f).toArray) (.int .i64 (i : Int))).run P w = .ok (.agg (((zs.drop (i * q.size)).take q.size).map f).toArray) w := by
    simp [Instr.index, asIntOf, run_underlying hu, part, isAgg, run_underlying he, sizeOf, typeInfo, hq, hi, List.extract_eq_take_drop, List.map_take, List.map_drop]
  unfold Oper.wp execOp
  simp only [ho, hx, hix, Sem.run_bind, hrun, Result.andThen_ok]
  exact hK _ _ h
end Go.Proofs.YtmijiclocadimaaGreatDoor
