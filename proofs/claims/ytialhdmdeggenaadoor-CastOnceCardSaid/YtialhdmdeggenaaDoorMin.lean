/- min of two numbers, as one step of a walk; lists of byte slices that lie in one variable. No program is named. -/
import Derived.Test.YtialhdmdeggenaaDoorLib2
import Derived.Test.YtialhdmdeggenaaDoorLib4
set_option linter.unusedVariables false
set_option linter.unusedSimpArgs false
namespace Go.Proofs.YtialhdmdeggenaaDoor
open Go Go.RowKit

theorem wpList_min {P : Program} {w : World} {ops : Array Oper} {rest : List Oper} {o : Oper} {a : Act} {Q : Exit → Act → World → Prop} (hgd : o.guard = none) (x y : Operand) (t t' : TypeId)
    (ho : o.op = .call { callee := .builtin .min, args := #[x, y], argTypes := #[t, t'] }) (p q n : Int) (hx : a.eval x = .int .i64 p) (hy : a.eval y = .int .i64 q) (hn : (p ≤ q ∧ n = p) ∨ (¬ p ≤ q ∧ n = q))
    (h : wpList P ops Q rest (a.put o.dst (.int .i64 n)) w) : wpList P ops Q (o :: rest) a w := by
  refine wpList_plain hgd fun K hK => ?_
  have hr : (Builtin.min_ #[t, t'] o.type #[.int .i64 p, .int .i64 q]).run P w = .ok (.int .i64 n) w := by
    have e : (if q < p then q else p) = n := by
      rcases hn with ⟨h1, h2⟩ | ⟨h1, h2⟩
      · rw [if_neg (by omega)]; exact h2.symm
      · rw [if_pos (by omega)]; exact h2.symm
    simp [Builtin.min_, Builtin.min2, e]
  unfold Oper.wp execOp
  simp only [ho, resolve, invoke, builtin, Sem.run_bind, Sem.run_pure, Result.andThen_ok, List.map_toArray, List.map_cons, List.map_nil, hx, hy, hr]
  exact hK _ _ h
theorem rdBB_box {G : Nat → Prop} {w : World} {B : Nat} {vs : List Value} {ls : List (List UInt8)} {T : TypeId} {n : Nat} (hb : BoxAt w B vs T) (hG : G B) (hn : vs.length = ls.length) (hl : ls.length = n) (hm : n ≤ maxLen)
    (h : ∀ (j : Nat) (v : Value) (x : List UInt8), vs[j]? = some v → ls[j]? = some x → RdB G w v x) : RdBB G w (.slice (some ⟨B, 0, none⟩) n n) ls := by
  subst hl
  refine ⟨_, _, rfl, Nat.le_refl _, hm, fun h => by simp at h, fun j x hx => ?_⟩
  have hj : j < vs.length := by
    rcases Nat.lt_or_ge j ls.length with q | q
    · omega
    · rw [List.getElem?_eq_none q] at hx; simp at hx
  have hv : vs[j]? = some vs[j] := List.getElem?_eq_getElem hj
  refine ⟨B, 0, [vs[j]], rfl, hG, fun t c ht => ?_, vs[j], rfl, h j _ x hv hx⟩
  match t, ht with
  | 0, ht =>
    simp at ht; subst ht
    have := hb.cell j hv
    simpa [sliceOf] using this
theorem rdBB_one {G : Nat → Prop} {w : World} {B : Nat} {v : Value} {l : List UInt8} {T : TypeId} (hb : BoxAt w B [v] T) (hG : G B) (h : RdB G w v l) : RdBB G w (.slice (some ⟨B, 0, none⟩) 1 1) [l] :=
  rdBB_box hb hG rfl rfl (by unfold maxLen; omega) (fun j u x h1 h2 => by
    match j, h1, h2 with
    | 0, h1, h2 => simp at h1 h2; subst h1 h2; exact h)
theorem rdBB_two {G : Nat → Prop} {w : World} {B : Nat} {v v' : Value} {l l' : List UInt8} {T : TypeId} (hb : BoxAt w B [v, v'] T) (hG : G B) (h : RdB G w v l) (h' : RdB G w v' l') : RdBB G w (.slice (some ⟨B, 0, none⟩) 2 2) [l, l'] :=
  rdBB_box hb hG rfl rfl (by unfold maxLen; omega) (fun j u x h1 h2 => by
    match j, h1, h2 with
    | 0, h1, h2 => simp at h1 h2; subst h1 h2; exact h
    | 1, h1, h2 => simp at h1 h2; subst h1 h2; exact h')
end Go.Proofs.YtialhdmdeggenaaDoor
