/- A list of raw numbers with one more. -/
import Derived.Test.YtegdpjoncjmdeaaRawM
import Derived.Test.YtegdpjoncjmdeaaCopyL
set_option linter.unusedVariables false
set_option linter.unusedSimpArgs false
namespace Go.Proofs.Ytegdpjoncjmdeaa
open Go Go.RowKit

theorem elemRaw : ElemOk Try.prog 54 44 5 56 := elemOk_of (z := .agg #[.int .i64 0, .int .i64 0, .int .i64 0, .int .i64 0, .slice none 0 0]) (by kernel_rfl) (by kernel_rfl) rfl (by decide)
theorem RRaw_one {G : Nat → Prop} {w : World} {cs : List Value} {x : RawD} (h : RRaw.rd G w cs x) : ∀ u ∈ cs, u.oneCell' = true := by
  obtain ⟨v, rfl, hr⟩ := h
  obtain ⟨ad, cap, rfl, -, -⟩ := hr.2.2.2.2.1.form
  simp [Value.oneCell']
def raw0 : RawD := ⟨0, 0, 0, 0, []⟩
theorem raw0_rd (G : Nat → Prop) (w : World) : RRaw.rd G w [.int .i64 0, .int .i64 0, .int .i64 0, .int .i64 0, .slice none 0 0] raw0 :=
  ⟨_, rfl, by unfold i64In raw0; simp, by unfold i64In raw0; simp, by unfold i64In raw0; simp, by unfold i64In raw0; simp, RdS.nil _ _ _, fun t ht => by simp [raw0] at ht⟩
end Go.Proofs.Ytegdpjoncjmdeaa
