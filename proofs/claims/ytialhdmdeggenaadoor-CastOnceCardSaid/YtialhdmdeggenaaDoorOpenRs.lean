/- How a list of raw numbers that comes in is opened. -/
import Derived.Test.YtialhdmdeggenaaDoorOpenS
set_option linter.unusedVariables false
set_option linter.unusedSimpArgs false
namespace Go.Proofs.YtialhdmdeggenaaDoor
open Go Go.RowKit Go.ChangeShapes Go.WideShapes Go.Deep
theorem open_raws {H : Type} {enc : TypeId × Value → H} {W : World} {v : Value} {d : DataW H} {ps : List MemPlace}
    {a : Option Addr} {n c : Nat} (hv : v = .slice a n c) (h : DataW.Trod enc Tryd.prog W 0 (fun _ => true) true 41 v d ps) : ∃ l : List RawD, RdS RRaw (fun _ => True) W v l := by
  subst hv
  obtain ⟨fuel, hf⟩ := h
  obtain ⟨v', l, e1, h1⟩ := opens_raw.slice Tryd.underlying41 (by kernel_rfl) (by decide) H enc W true fuel _ _ hf
  simp only [Value.cells, List.cons.injEq, and_true] at e1
  subst e1
  exact ⟨l, h1⟩
end Go.Proofs.YtialhdmdeggenaaDoor
