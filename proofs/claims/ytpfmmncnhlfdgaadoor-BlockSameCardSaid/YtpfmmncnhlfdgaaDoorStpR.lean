/- Steps in raw numbers: how they read, and how a list of them that comes in is opened. -/
import Derived.Test.YtpfmmncnhlfdgaaDoorStp
import Derived.Test.YtpfmmncnhlfdgaaDoorBas
set_option linter.unusedVariables false
set_option linter.unusedSimpArgs false
namespace Go.Proofs.YtpfmmncnhlfdgaaDoor
open Go Go.RowKit Go.ChangeShapes Go.WideShapes Go.Deep

def RStp : Rel Stp where
  size := 3
  rd := fun G w cs x => cs = [.int .i64 x.a, .int .i64 x.p, .int .i64 x.b] ∧ i64In x.a ∧ i64In x.p ∧ i64In x.b
  len := fun ⟨h, _⟩ => by simp [h]
  keep := fun h _ _ => h
  low := fun h => h
theorem RStp_one {G : Nat → Prop} {w : World} {cs : List Value} {x : Stp} (h : RStp.rd G w cs x) : ∀ u ∈ cs, u.oneCell' = true := by
  obtain ⟨rfl, -⟩ := h
  simp [Value.oneCell']
theorem RdS.stp {G : Nat → Prop} {w : World} {l : List Stp} {ad : Option Addr} {n cap : Nat} (h : RdS RStp G w (.slice ad n cap) l) (j : Nat) (hj : j < l.length) :
    ∃ b o, ad = some ⟨b, o, none⟩ ∧ w.cell? ⟨b, o + j * 3, none⟩ = some (.int .i64 l[j].a) ∧ w.cell? ⟨b, o + j * 3 + 1, none⟩ = some (.int .i64 l[j].p) ∧ w.cell? ⟨b, o + j * 3 + 2, none⟩ = some (.int .i64 l[j].b) ∧ i64In l[j].a ∧ i64In l[j].p ∧ i64In l[j].b := by
  obtain ⟨b, o, cs, ha, hb, hc, rfl, h1, h2, h3⟩ := h.at j hj
  exact ⟨b, o, ha, hc 0 _ rfl, hc 1 _ rfl, hc 2 _ rfl, h1, h2, h3⟩
/-- The cells of one step. -/
def StpAt (w : World) (b o : Nat) (s : Stp) : Prop := w.cell? ⟨b, o, none⟩ = some (.int .i64 s.a) ∧ w.cell? ⟨b, o + 1, none⟩ = some (.int .i64 s.p) ∧ w.cell? ⟨b, o + 2, none⟩ = some (.int .i64 s.b)
theorem StpAt.below {w w' : World} {b o : Nat} {s : Stp} (h : StpAt w b o s) (hb : Below w.heap.size w w') : StpAt w' b o s :=
  ⟨by rw [hb.cell (p := ⟨b, o, none⟩) (World.block_lt_of_cell? w _ h.1)]; exact h.1, by rw [hb.cell (p := ⟨b, o + 1, none⟩) (World.block_lt_of_cell? w _ h.2.1)]; exact h.2.1, by rw [hb.cell (p := ⟨b, o + 2, none⟩) (World.block_lt_of_cell? w _ h.2.2)]; exact h.2.2⟩
set_option maxRecDepth 100000 in
theorem opens_stp : Opens Tryd.prog 66 RStp := by
  intro H enc w held fuel cs x hx
  obtain ⟨xs, n, _, hx', hlen, hyl, hg⟩ := DataW.trod_struct Tryd.underlying66 hx
  have hl : cs.length = 3 := hlen.trans (by kernel_rfl)
  have hc3 : Tryd.prog.cellsOf 3 = 1 := by kernel_rfl
  match cs, hl with
  | [c0, c1, c2], _ =>
    match xs, hyl with
    | [y0, y1, y2], _ =>
      have g0 := hg 0 _ rfl
      have g1 := hg 1 _ rfl
      have g2 := hg 2 _ rfl
      simp only [List.getElem_toArray, List.getElem_cons_zero, List.getElem_cons_succ, hc3, List.drop_zero, List.drop_succ_cons, List.take_succ_cons, List.take_zero, List.getElem?_cons_zero, List.getElem?_cons_succ] at g0 g1 g2
      obtain ⟨a0, e0, _, b0⟩ := DataW.trod_int Tryd.underlying3 g0
      obtain ⟨a1, e1, _, b1⟩ := DataW.trod_int Tryd.underlying3 g1
      obtain ⟨a2, e2, _, b2⟩ := DataW.trod_int Tryd.underlying3 g2
      simp only [List.cons.injEq, and_true] at e0 e1 e2
      subst e0 e1 e2
      exact ⟨⟨a0, a1, a2⟩, rfl, wf_i64 b0, wf_i64 b1, wf_i64 b2⟩
theorem open_steps {H : Type} {enc : TypeId × Value → H} {W : World} {v : Value} {d : DataW H} {ps : List MemPlace}
    {a : Option Addr} {n c : Nat} (hv : v = .slice a n c) (h : DataW.Trod enc Tryd.prog W 0 (fun _ => true) true 22 v d ps) : ∃ l : List Stp, RdS RStp (fun _ => True) W v l := by
  subst hv
  obtain ⟨fuel, hf⟩ := h
  obtain ⟨v', l, e1, h1⟩ := opens_stp.slice Tryd.underlying22 (by kernel_rfl) (by decide) H enc W true fuel _ _ hf
  simp only [Value.cells, List.cons.injEq, and_true] at e1
  subst e1
  exact ⟨l, h1⟩
end Go.Proofs.YtpfmmncnhlfdgaaDoor
