/- A string's bytes appended to a row that is there, and where the new slice lies. No program is named. -/
import Derived.Test.YtialhdmdeggenaaDoorApp
import Derived.Lib.AppendStr
set_option linter.unusedVariables false
set_option linter.unusedSimpArgs false
namespace Go.Proofs.YtialhdmdeggenaaDoor
open Go Go.RowKit

theorem strCells_bytes (s : Bytes) : Lib.strCells ⟨s.toArray⟩ = byteVs s := by unfold Lib.strCells byteVs; simp
theorem strSize (s : Bytes) : (⟨s.toArray⟩ : ByteArray).size = s.length := rfl
theorem run_append_str_at {P : Program} (w : World) (base : Nat) (t u ty e : TypeId) (i : TypeInfo) (ht : P.underlying t = some (.slice e)) (hu : P.underlying u = some .string) (hi : P.info? e = some i) (hz : i.zero = some (.int .u8 0))
    (hsize : i.size = 1) (hby : i.bytes = 1) (g0 cap0 n : Nat) (xs : List Value) (hown : w.ownsRow base e 1 (.slice (some ⟨g0, 0, none⟩) n cap0) n xs) (s : Bytes)
    (h63 : n + s.length ≤ 9223372036854775807) (hbytes : n + s.length ≤ 140737488355328) (hbase : base ≤ w.heap.size) :
    ∃ g cap w', (Builtin.append_ #[t, u] ty #[.slice (some ⟨g0, 0, none⟩) n cap0, .string ⟨s.toArray⟩]).run P w = .ok (.slice (some ⟨g, 0, none⟩) (n + s.length) cap) w' ∧
      w'.ownsRow base e 1 (.slice (some ⟨g, 0, none⟩) (n + s.length) cap) (n + s.length) (xs ++ byteVs s) ∧ w.grownBy w' (some g0) ∧ (g = g0 ∨ g = w.heap.size) := by
  obtain ⟨v', w', hr, h2, h3, -⟩ := Lib.run_append_own_string (P := P) w base t u ty e i ht hu hi hz hsize hby _ n xs hown ⟨s.toArray⟩ (by unfold maxLen; rw [strSize]; omega) (by rw [strSize]; exact hbytes) hbase
  rw [strSize, strCells_bytes] at h2
  by_cases hroom : n + s.length ≤ cap0
  · obtain ⟨g, cap, cur, hv, -, hg, -, -, hcs, -⟩ : ∃ g cap cur, (Value.slice (some ⟨g0, 0, none⟩) n cap0 : Value) = .slice (some ⟨g, 0, none⟩) n cap ∧ base ≤ g ∧ w.heap[g]? = some (.cells cur e (0, 0)) ∧ n ≤ cap ∧ cap ≤ maxLen ∧ cur.size = cap * 1 ∧ cur.toList.take (n * 1) = xs := by
      rcases hown.2 with ⟨h, -⟩ | h
      · simp at h
      · exact h
    simp only [Value.slice.injEq, Option.some.injEq, Addr.mk.injEq, and_true] at hv
    obtain ⟨rfl, -, rfl⟩ := hv
    have hr' := Lib.run_append_room_string (P := P) w t u ty e i ht hu hi hsize g0 n cap0 cur hg ⟨s.toArray⟩ (by rw [strSize]; exact hroom) (by rw [strSize]; omega)
    rw [strSize] at hr'
    have he := hr.symm.trans hr'
    simp only [Result.ok.injEq] at he
    obtain ⟨e1, e2⟩ := he
    subst e1
    exact ⟨g0, cap0, w', hr, h2, h3, .inl rfl⟩
  · have hr' := Lib.run_append_grow_string (P := P) w t u ty e i (.int .u8 0) ht hu hi hz ⟨g0, 0, none⟩ n cap0 xs (by rw [hsize]; simpa using hown.1) (hown.cells rfl) ⟨s.toArray⟩ (by rw [strSize]; omega) (by rw [strSize]; omega) (by rw [hby, strSize]; exact growslice_fits (by omega) (by omega))
    rw [strSize] at hr'
    have he := hr.symm.trans hr'
    simp only [Result.ok.injEq] at he
    obtain ⟨e1, e2⟩ := he
    subst e1
    exact ⟨_, _, w', hr, h2, h3, .inr rfl⟩
/-- The operation, for the walk. -/
theorem wpList_append_strat {P : Program} {w : World} {ops : Array Oper} {rest : List Oper} {o : Oper} {a : Act} {Q : Exit → Act → World → Prop} (hgd : o.guard = none) (sl x : Operand) (t u : TypeId)
    (ho : o.op = .call { callee := .builtin .append, args := #[sl, x], argTypes := #[t, u] })
    {e : TypeId} (hE : ElemOk P t e 1 1) (hz : (P.info? e).map (fun i => i.zero) = some (some (.int .u8 0))) (hu : P.underlying u = some .string) (base : Nat)
    (g0 cap0 n : Nat) (hs : a.eval sl = .slice (some ⟨g0, 0, none⟩) n cap0) (xs : List Value) (hown : w.ownsRow base e 1 (.slice (some ⟨g0, 0, none⟩) n cap0) n xs) (s : Bytes) (hx : a.eval x = .string ⟨s.toArray⟩)
    (h63 : n + s.length ≤ 9223372036854775807) (hbytes : n + s.length ≤ 140737488355328) (hbase : base ≤ w.heap.size)
    (h : ∀ g cap w', w'.ownsRow base e 1 (.slice (some ⟨g, 0, none⟩) (n + s.length) cap) (n + s.length) (xs ++ byteVs s) → w.grownBy w' (some g0) → (g = g0 ∨ g = w.heap.size) → wpList P ops Q rest (a.put o.dst (.slice (some ⟨g, 0, none⟩) (n + s.length) cap)) w') : wpList P ops Q (o :: rest) a w := by
  obtain ⟨ht, i, z, hi, hzz, hsize, hby, -, -⟩ := hE
  have hz' : i.zero = some (.int .u8 0) := by rw [hi] at hz; simpa using hz
  refine wpList_plain hgd fun K hK => ?_
  obtain ⟨g, cap, w', hr, h2, h3, h4⟩ := run_append_str_at (P := P) w base t u o.type e i ht hu hi hz' hsize hby g0 cap0 n xs hown s h63 hbytes hbase
  unfold Oper.wp execOp
  simp only [ho, resolve, invoke, builtin, Sem.run_bind, Sem.run_pure, Result.andThen_ok, List.map_toArray, List.map_cons, List.map_nil, hs, hx, hr]
  exact hK _ _ (h g cap w' h2 h3 h4)
/-- The same at a step of a region that draws. -/
theorem step_append_strat {P : Program} {w : World} {ops : Array Oper} {o : Oper} {a : Act} {K : Act → World → Prop} {Q : Exit → Act → World → Prop} {E : Prop} (hgd : Region.wanted o (yielded ops a.tmps) = true) (sl x : Operand) (t u : TypeId)
    (ho : o.op = .call { callee := .builtin .append, args := #[sl, x], argTypes := #[t, u] })
    {e : TypeId} (hE : ElemOk P t e 1 1) (hz : (P.info? e).map (fun i => i.zero) = some (some (.int .u8 0))) (hu : P.underlying u = some .string) (base : Nat)
    (g0 cap0 n : Nat) (hs : a.eval sl = .slice (some ⟨g0, 0, none⟩) n cap0) (xs : List Value) (hown : w.ownsRow base e 1 (.slice (some ⟨g0, 0, none⟩) n cap0) n xs) (s : Bytes) (hx : a.eval x = .string ⟨s.toArray⟩)
    (h63 : n + s.length ≤ 9223372036854775807) (hbytes : n + s.length ≤ 140737488355328) (hbase : base ≤ w.heap.size)
    (h : ∀ g cap w', w'.ownsRow base e 1 (.slice (some ⟨g, 0, none⟩) (n + s.length) cap) (n + s.length) (xs ++ byteVs s) → w.grownBy w' (some g0) → (g = g0 ∨ g = w.heap.size) → K (a.put o.dst (.slice (some ⟨g, 0, none⟩) (n + s.length) cap)) w') :
    if Region.wanted o (yielded ops a.tmps) = true then Oper.wp P o a w K Q else E := by
  rw [if_pos hgd]
  obtain ⟨ht, i, z, hi, hzz, hsize, hby, -, -⟩ := hE
  have hz' : i.zero = some (.int .u8 0) := by rw [hi] at hz; simpa using hz
  obtain ⟨g, cap, w', hr, h2, h3, h4⟩ := run_append_str_at (P := P) w base t u o.type e i ht hu hi hz' hsize hby g0 cap0 n xs hown s h63 hbytes hbase
  unfold Oper.wp execOp
  simp only [ho, resolve, invoke, builtin, Sem.run_bind, Sem.run_pure, Result.andThen_ok, List.map_toArray, List.map_cons, List.map_nil, hs, hx, hr]
  exact h g cap w' h2 h3 h4
theorem AppB.ofStr {base e : Nat} {w w' : World} {l s : Bytes} {g g0 cap cap0 n : Nat} (hn : l.length = n) (hown : w'.ownsRow base e 1 (.slice (some ⟨g, 0, none⟩) (n + s.length) cap) (n + s.length) (byteVs l ++ byteVs s))
    (hgr : w.grownBy w' (some g0)) (hat : g = g0 ∨ g = w.heap.size) : AppB base e w (.slice (some ⟨g0, 0, none⟩) n cap0) w' (.slice (some ⟨g, 0, none⟩) (n + s.length) cap) (l ++ s) :=
  AppB.of (w := w) (H := w.heap.size) hn rfl hown rfl hgr (hat.imp (fun h => by rw [h]; rfl) id) rfl (Below.refl _ _)
end Go.Proofs.YtialhdmdeggenaaDoor
