/- How raw numbers that come in are opened. -/
import Derived.Test.YtodcebhfkmlmgaaDoorOpen
import Derived.Test.YtodcebhfkmlmgaaDoorRows
set_option linter.unusedVariables false
set_option linter.unusedSimpArgs false
namespace Go.Proofs.YtodcebhfkmlmgaaDoor
open Go Go.RowKit Go.ChangeShapes Go.WideShapes Go.Deep

structure RawD where
  k : Int
  a : Int
  b : Int
  c : Int
  txs : List (List UInt8)
def i64In (x : Int) : Prop := -9223372036854775808 ≤ x ∧ x ≤ 9223372036854775807
/-- A raw's texts read, its numbers are within their bounds. -/
def RawOk (G : Nat → Prop) (w : World) (vt : Value) (x : RawD) : Prop :=
  i64In x.k ∧ i64In x.a ∧ i64In x.b ∧ i64In x.c ∧ RdT G w vt x.txs ∧ ∀ t ∈ x.txs, t.length ≤ 9223372036854775807
def RRaw : Rel RawD where
  size := 5
  rd := fun G w cs x => ∃ v, cs = [.int .i64 x.k, .int .i64 x.a, .int .i64 x.b, .int .i64 x.c, v] ∧ RawOk G w v x
  len := fun ⟨_, h, _⟩ => by simp [h]
  keep := fun ⟨v, h, a, b, c, d, e, f⟩ hk hg => ⟨v, h, a, b, c, d, e.keep hk hg, f⟩
  low := fun ⟨v, h, a, b, c, d, e, f⟩ => ⟨v, h, a, b, c, d, e.low (by decide), f⟩
theorem RawOk.keep {G G' : Nat → Prop} {w w' : World} {vt : Value} {x : RawD} (h : RawOk G w vt x) (hk : Keep G w w') (hg : ∀ b, G b → G' b) : RawOk G' w' vt x :=
  ⟨h.1, h.2.1, h.2.2.1, h.2.2.2.1, h.2.2.2.2.1.keep hk hg, h.2.2.2.2.2⟩
theorem RawOk.one {G : Nat → Prop} {w : World} {vt : Value} {x : RawD} (h : RawOk G w vt x) : vt.oneCell' = true := by
  obtain ⟨ad, cap, rfl, _⟩ := h.2.2.2.2.1.form
  rfl
end Go.Proofs.YtodcebhfkmlmgaaDoor
