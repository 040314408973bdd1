/- An element of a list of raw numbers. -/
import Derived.Test.YtialhdmdeggenaaDoorOpenS
set_option linter.unusedVariables false
set_option linter.unusedSimpArgs false
namespace Go.Proofs.YtialhdmdeggenaaDoor
open Go Go.RowKit
theorem RdS.raw {G : Nat → Prop} {w : World} {l : List RawD} {ad : Option Addr} {n cap : Nat} (h : RdS RRaw G w (.slice ad n cap) l) (j : Nat) (hj : j < l.length) :
    ∃ b o v, ad = some ⟨b, o, none⟩ ∧ G b ∧ w.cell? ⟨b, o + j * 5, none⟩ = some (.int .i64 l[j].k) ∧ w.cell? ⟨b, o + j * 5 + 1, none⟩ = some (.int .i64 l[j].a) ∧ w.cell? ⟨b, o + j * 5 + 2, none⟩ = some (.int .i64 l[j].b) ∧ w.cell? ⟨b, o + j * 5 + 3, none⟩ = some (.int .i64 l[j].c) ∧ w.cell? ⟨b, o + j * 5 + 4, none⟩ = some v ∧ RawOk G w v l[j] := by
  obtain ⟨b, o, cs, ha, hb, hc, v, rfl, hr⟩ := h.at j hj
  exact ⟨b, o, v, ha, hb, hc 0 _ rfl, hc 1 _ rfl, hc 2 _ rfl, hc 3 _ rfl, hc 4 _ rfl, hr⟩
end Go.Proofs.YtialhdmdeggenaaDoor
