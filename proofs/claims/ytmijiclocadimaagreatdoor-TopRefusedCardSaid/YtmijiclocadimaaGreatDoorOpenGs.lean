/- Gears: acts of raw numbers; how such come in. -/
import Derived.Test.YtmijiclocadimaaGreatDoorBas
set_option linter.unusedVariables false
set_option linter.unusedSimpArgs false
namespace Go.Proofs.YtmijiclocadimaaGreatDoor
open Go Go.RowKit Go.ChangeShapes Go.WideShapes Go.Deep

structure GearD where
  k : Int
  a : Int
  b : Int
  t : List UInt8
def GearOk (x : GearD) : Prop := i64In x.k ∧ i64In x.a ∧ i64In x.b ∧ x.t.length ≤ 9223372036854775807
def RGear : Rel GearD where
  size := 4
  rd := fun G w cs x => cs = [.int .i64 x.k, .int .i64 x.a, .int .i64 x.b, strV x.t] ∧ GearOk x
  len := fun ⟨h, _⟩ => by simp [h]
  keep := fun h _ _ => h
  low := fun h => h
theorem RGear_one {G : Nat → Prop} {w : World} {cs : List Value} {x : GearD} (h : RGear.rd G w cs x) : ∀ u ∈ cs, u.oneCell' = true := by
  obtain ⟨rfl, -⟩ := h
  simp [Value.oneCell']
theorem RdS.gear {G : Nat → Prop} {w : World} {l : List GearD} {ad : Option Addr} {n cap : Nat} (h : RdS RGear G w (.slice ad n cap) l) (j : Nat) (hj : j < l.length) :
    ∃ b o, ad = some ⟨b, o, none⟩ ∧ w.cell? ⟨b, o + j * 4, none⟩ = some (.int .i64 l[j].k) ∧ w.cell? ⟨b, o + j * 4 + 1, none⟩ = some (.int .i64 l[j].a) ∧ w.cell? ⟨b, o + j * 4 + 2, none⟩ = some (.int .i64 l[j].b) ∧ w.cell? ⟨b, o + j * 4 + 3, none⟩ = some (strV l[j].t) ∧ GearOk l[j] := by
  obtain ⟨b, o, cs, ha, hb, hc, rfl, h1⟩ := h.at j hj
  exact ⟨b, o, ha, hc 0 _ rfl, hc 1 _ rfl, hc 2 _ rfl, hc 3 _ rfl, h1⟩
set_option maxRecDepth 100000 in
theorem opens_gear : Opens Tryz.prog 24 RGear := by
  intro H enc w held fuel cs x hx
  obtain ⟨xs, n, _, hx', hlen, hyl, hg⟩ := DataW.trod_struct Tryz.underlying24 hx
  have hl : cs.length = 4 := hlen.trans (by kernel_rfl)
  have hc3 : Tryz.prog.cellsOf 3 = 1 := by kernel_rfl
  have hcS : Tryz.prog.cellsOf 9 = 1 := by kernel_rfl
  match cs, hl with
  | [c0, c1, c2, c3], _ =>
    match xs, hyl with
    | [y0, y1, y2, y3], _ =>
      have g0 := hg 0 _ rfl
      have g1 := hg 1 _ rfl
      have g2 := hg 2 _ rfl
      have g3 := hg 3 _ rfl
      simp only [List.getElem_toArray, List.getElem_cons_zero, List.getElem_cons_succ, hc3, hcS, List.drop_zero, List.drop_succ_cons, List.take_succ_cons, List.take_zero, List.getElem?_cons_zero, List.getElem?_cons_succ] at g0 g1 g2 g3
      obtain ⟨a0, e0, _, b0⟩ := DataW.trod_int Tryz.underlying3 g0
      obtain ⟨a1, e1, _, b1⟩ := DataW.trod_int Tryz.underlying3 g1
      obtain ⟨a2, e2, _, b2⟩ := DataW.trod_int Tryz.underlying3 g2
      obtain ⟨s, e3, hs⟩ := (opens_text (P := Tryz.prog) (T := 9) Tryz.underlying9) H enc w held n _ _ g3
      simp only [List.cons.injEq, and_true] at e0 e1 e2 e3
      subst e0 e1 e2
      have e3' : c3 = strV s := by simpa using e3
      subst e3'
      exact ⟨⟨a0, a1, a2, s⟩, rfl, wf_i64 b0, wf_i64 b1, wf_i64 b2, hs⟩
theorem open_gears {H : Type} {enc : TypeId × Value → H} {W : World} {v : Value} {d : DataW H} {ps : List MemPlace}
    {a : Option Addr} {n c : Nat} (hv : v = .slice a n c) (h : DataW.Trod enc Tryz.prog W 0 (fun _ => true) true 22 v d ps) : ∃ l : List GearD, RdS RGear (fun _ => True) W v l := by
  subst hv
  obtain ⟨fuel, hf⟩ := h
  obtain ⟨v', l, e1, h1⟩ := opens_gear.slice Tryz.underlying22 (by kernel_rfl) (by decide) H enc W true fuel _ _ hf
  simp only [Value.cells, List.cons.injEq, and_true] at e1
  subst e1
  exact ⟨l, h1⟩
set_option maxRecDepth 100000 in
theorem open_gear {H : Type} {enc : TypeId × Value → H} {W : World} {r : Reach} {b0 : Nat} {v : Value} {d : DataW H} {ps : List MemPlace} (hv : Value.okWide Tryz.prog W r b0 24 v)
    (h : DataW.Trod enc Tryz.prog W 0 (fun _ => true) true 24 v d ps) : ∃ x : GearD, v = .agg #[.int .i64 x.k, .int .i64 x.a, .int .i64 x.b, strV x.t] ∧ GearOk x := by
  obtain ⟨cs, rfl, hsz⟩ := okWide_struct Tryz.underlying24 hv
  obtain ⟨fuel, hf⟩ := h
  obtain ⟨x, e, hx⟩ := opens_gear H enc W true fuel _ _ hf
  have e' : cs.toList = [.int .i64 x.k, .int .i64 x.a, .int .i64 x.b, strV x.t] := e
  refine ⟨x, ?_, hx⟩
  rw [← Array.toArray_toList (xs := cs), e']
end Go.Proofs.YtmijiclocadimaaGreatDoor
