/- How an act in raw numbers, and a list of such, that comes in is opened. -/
import Derived.Test.YtodcebhfkmlmgaaDoorFeat
set_option linter.unusedVariables false
set_option linter.unusedSimpArgs false
namespace Go.Proofs.YtodcebhfkmlmgaaDoor
open Go Go.RowKit Go.ChangeShapes Go.WideShapes Go.Deep
set_option maxRecDepth 100000 in
theorem opens_feat : Opens Tryd.prog 23 RFeat := by
  intro H enc w held fuel cs x hx
  obtain ⟨xs, n, _, hx', hlen, hyl, hg⟩ := DataW.trod_struct Tryd.underlying23 hx
  have hl : cs.length = 4 := hlen.trans (by kernel_rfl)
  have hc3 : Tryd.prog.cellsOf 3 = 1 := by kernel_rfl
  have hcS : Tryd.prog.cellsOf 9 = 1 := by kernel_rfl
  match cs, hl with
  | [c0, c1, c2, c3], _ =>
    match xs, hyl with
    | [y0, y1, y2, y3], _ =>
      have g0 := hg 0 _ rfl
      have g1 := hg 1 _ rfl
      have g2 := hg 2 _ rfl
      have g3 := hg 3 _ rfl
      simp only [List.getElem_toArray, List.getElem_cons_zero, List.getElem_cons_succ, hc3, hcS, List.drop_zero, List.drop_succ_cons, List.take_succ_cons, List.take_zero, List.getElem?_cons_zero, List.getElem?_cons_succ] at g0 g1 g2 g3
      obtain ⟨a0, e0, _, b0⟩ := DataW.trod_int Tryd.underlying3 g0
      obtain ⟨a1, e1, _, b1⟩ := DataW.trod_int Tryd.underlying3 g1
      obtain ⟨a2, e2, _, b2⟩ := DataW.trod_int Tryd.underlying3 g2
      obtain ⟨s, e3, hs⟩ := (opens_text (P := Tryd.prog) (T := 9) Tryd.underlying9) H enc w held n _ _ g3
      simp only [List.cons.injEq, and_true] at e0 e1 e2 e3
      subst e0 e1 e2
      have e3' : c3 = strV s := by simpa using e3
      subst e3'
      exact ⟨⟨a0, a1, a2, s⟩, rfl, wf_i64 b0, wf_i64 b1, wf_i64 b2, hs⟩
theorem open_feats {H : Type} {enc : TypeId × Value → H} {W : World} {v : Value} {d : DataW H} {ps : List MemPlace}
    {a : Option Addr} {n c : Nat} (hv : v = .slice a n c) (h : DataW.Trod enc Tryd.prog W 0 (fun _ => true) true 34 v d ps) : ∃ l : List FeatD, RdS RFeat (fun _ => True) W v l := by
  subst hv
  obtain ⟨fuel, hf⟩ := h
  obtain ⟨v', l, e1, h1⟩ := opens_feat.slice Tryd.underlying34 (by kernel_rfl) (by decide) H enc W true fuel _ _ hf
  simp only [Value.cells, List.cons.injEq, and_true] at e1
  subst e1
  exact ⟨l, h1⟩
set_option maxRecDepth 100000 in
theorem open_feat {H : Type} {enc : TypeId × Value → H} {W : World} {r : Reach} {b0 : Nat} {v : Value} {d : DataW H} {ps : List MemPlace} (hv : Value.okWide Tryd.prog W r b0 23 v)
    (h : DataW.Trod enc Tryd.prog W 0 (fun _ => true) true 23 v d ps) : ∃ x : FeatD, v = .agg #[.int .i64 x.k, .int .i64 x.a, .int .i64 x.b, strV x.t] ∧ FeatOk x := by
  obtain ⟨cs, rfl, hsz⟩ := okWide_struct Tryd.underlying23 hv
  obtain ⟨fuel, hf⟩ := h
  obtain ⟨x, e, hx⟩ := opens_feat H enc W true fuel _ _ hf
  have e' : cs.toList = [.int .i64 x.k, .int .i64 x.a, .int .i64 x.b, strV x.t] := e
  refine ⟨x, ?_, hx⟩
  rw [← Array.toArray_toList (xs := cs), e']
end Go.Proofs.YtodcebhfkmlmgaaDoor
