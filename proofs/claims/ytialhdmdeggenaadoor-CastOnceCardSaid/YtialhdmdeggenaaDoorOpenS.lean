/- How raw numbers that come in are opened. -/
import Derived.Test.YtialhdmdeggenaaDoorOpen
import Derived.Test.YtialhdmdeggenaaDoorRows
set_option linter.unusedVariables false
set_option linter.unusedSimpArgs false
namespace Go.Proofs.YtialhdmdeggenaaDoor
open Go Go.RowKit Go.ChangeShapes Go.WideShapes Go.Deep

structure RawD where
  k : Int
  a : Int
  b : Int
  c : Int
  txs : List (List UInt8)
def i64In (x : Int) : Prop := -9223372036854775808 ≤ x ∧ x ≤ 9223372036854775807
/-- A raw's texts read, its numbers are within their bounds. -/
def RawOk (G : Nat → Prop) (w : World) (vt : Value) (x : RawD) : Prop :=
  i64In x.k ∧ i64In x.a ∧ i64In x.b ∧ i64In x.c ∧ RdT G w vt x.txs ∧ ∀ t ∈ x.txs, t.length ≤ 9223372036854775807
def RRaw : Rel RawD where
  size := 5
  rd := fun G w cs x => ∃ v, cs = [.int .i64 x.k, .int .i64 x.a, .int .i64 x.b, .int .i64 x.c, v] ∧ RawOk G w v x
  len := fun ⟨_, h, _⟩ => by simp [h]
  keep := fun ⟨v, h, a, b, c, d, e, f⟩ hk hg => ⟨v, h, a, b, c, d, e.keep hk hg, f⟩
  low := fun ⟨v, h, a, b, c, d, e, f⟩ => ⟨v, h, a, b, c, d, e.low (by decide), f⟩
theorem RawOk.keep {G G' : Nat → Prop} {w w' : World} {vt : Value} {x : RawD} (h : RawOk G w vt x) (hk : Keep G w w') (hg : ∀ b, G b → G' b) : RawOk G' w' vt x :=
  ⟨h.1, h.2.1, h.2.2.1, h.2.2.2.1, h.2.2.2.2.1.keep hk hg, h.2.2.2.2.2⟩
theorem RawOk.one {G : Nat → Prop} {w : World} {vt : Value} {x : RawD} (h : RawOk G w vt x) : vt.oneCell' = true := by
  obtain ⟨ad, cap, rfl, _⟩ := h.2.2.2.2.1.form
  rfl
set_option maxRecDepth 100000 in
theorem opens_raw : Opens Tryd.prog 24 RRaw := by
  intro H enc w held fuel cs x hx
  obtain ⟨xs, n, _, hx', hlen, hyl, hg⟩ := DataW.trod_struct Tryd.underlying24 hx
  have hl : cs.length = 5 := hlen.trans (by kernel_rfl)
  have hc3 : Tryd.prog.cellsOf 3 = 1 := by kernel_rfl
  have hcT : Tryd.prog.cellsOf 22 = 1 := by kernel_rfl
  match cs, hl with
  | [c0, c1, c2, c3, c4], _ =>
    match xs, hyl with
    | [y0, y1, y2, y3, y4], _ =>
      have g0 := hg 0 _ rfl
      have g1 := hg 1 _ rfl
      have g2 := hg 2 _ rfl
      have g3 := hg 3 _ rfl
      have g4 := hg 4 _ rfl
      simp only [List.getElem_toArray, List.getElem_cons_zero, List.getElem_cons_succ, hc3, hcT, List.drop_zero, List.drop_succ_cons, List.take_succ_cons, List.take_zero, List.getElem?_cons_zero, List.getElem?_cons_succ] at g0 g1 g2 g3 g4
      obtain ⟨a0, e0, _, b0⟩ := DataW.trod_int Tryd.underlying3 g0
      obtain ⟨a1, e1, _, b1⟩ := DataW.trod_int Tryd.underlying3 g1
      obtain ⟨a2, e2, _, b2⟩ := DataW.trod_int Tryd.underlying3 g2
      obtain ⟨a3, e3, _, b3⟩ := DataW.trod_int Tryd.underlying3 g3
      obtain ⟨v, l, e4, hl4⟩ := (opens_text (P := Tryd.prog) (T := 9) Tryd.underlying9).slice Tryd.underlying22 (by kernel_rfl) (by decide) H enc w held n _ _ g4
      simp only [List.cons.injEq, and_true] at e0 e1 e2 e3 e4
      subst e0 e1 e2 e3 e4
      obtain ⟨r1, r2⟩ := RdS.weaken (R := RTextB) (R' := RStr) (p := fun s => s.length ≤ 9223372036854775807) rfl (fun hx => ⟨hx.1, hx.2⟩) hl4
      exact ⟨⟨a0, a1, a2, a3, l⟩, c4, rfl, wf_i64 b0, wf_i64 b1, wf_i64 b2, wf_i64 b3, r1, r2⟩
set_option maxRecDepth 100000 in
theorem open_raw {H : Type} {enc : TypeId × Value → H} {W : World} {r : Reach} {b0 : Nat} {v : Value} {d : DataW H} {ps : List MemPlace} (hv : Value.okWide Tryd.prog W r b0 24 v)
    (h : DataW.Trod enc Tryd.prog W 0 (fun _ => true) true 24 v d ps) : ∃ (vt : Value) (x : RawD), v = .agg #[.int .i64 x.k, .int .i64 x.a, .int .i64 x.b, .int .i64 x.c, vt] ∧ RawOk (fun _ => True) W vt x := by
  obtain ⟨cs, rfl, hsz⟩ := okWide_struct Tryd.underlying24 hv
  obtain ⟨fuel, hf⟩ := h
  obtain ⟨x, v, e, hx⟩ := opens_raw H enc W true fuel _ _ hf
  have e' : cs.toList = [.int .i64 x.k, .int .i64 x.a, .int .i64 x.b, .int .i64 x.c, v] := e
  refine ⟨v, x, ?_, hx⟩
  rw [← Array.toArray_toList (xs := cs), e']
end Go.Proofs.YtialhdmdeggenaaDoor
