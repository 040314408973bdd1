/- Lemmas for a certificate that is made of raw numbers. No program is named. -/
import Derived.Test.YtmijiclocadimaaGreatDoorBas
set_option linter.unusedVariables false
set_option linter.unusedSimpArgs false
namespace Go.Proofs.YtmijiclocadimaaGreatDoor
open Go Go.RowKit

theorem RdS.free_of_own {w : World} {base e n : Nat} {v : Value} {xs : List Value} (h : w.ownsRow base e 1 v n xs) (h0 : 0 < n) : ∃ g cap, v = .slice (some ⟨g, 0, none⟩) n cap ∧ base ≤ g ∧ g < w.heap.size ∧ ∀ j, w.frozen? ⟨g, j, none⟩ = false := by
  rcases h.2 with ⟨_, h1⟩ | ⟨g, cap, cur, hv, hb, hg, _⟩
  · omega
  · exact ⟨g, cap, hv, hb, lt_of_block hg, fun j => by simp [World.frozen?, hg]⟩

theorem BoxAt.set5 {w : World} {b : Nat} {a0 a1 a2 a3 a4 : Value} {T : TypeId} (h : BoxAt w b [a0, a1, a2, a3, a4] T) (u0 u1 u2 u3 u4 : Value) :
    BoxAt (((((w.setCell ⟨b, 0, none⟩ u0).setCell ⟨b, 1, none⟩ u1).setCell ⟨b, 2, none⟩ u2).setCell ⟨b, 3, none⟩ u3).setCell ⟨b, 4, none⟩ u4) b [u0, u1, u2, u3, u4] T := ((((h.set 0 u0).set 1 u1).set 2 u2).set 3 u3).set 4 u4
theorem RdS.atBlock {α : Type} {f : α → Value} {G : Nat → Prop} {w : World} {l : List α} {g o n cap : Nat} (h : RdS (flat f) G w (.slice (some ⟨g, o, none⟩) n cap) l) : RdS (flat f) (fun b => b = g) w (.slice (some ⟨g, o, none⟩) n cap) l := by
  obtain ⟨h0, h1, h2, h3⟩ := h.len
  subst h0
  refine ⟨_, cap, rfl, h1, h2, fun h => by simp at h, fun j x hx => ?_⟩
  have hj : j < l.length := by
    rcases Nat.lt_or_ge j l.length with h | h
    · exact h
    · simp [List.getElem?_eq_none h] at hx
  obtain ⟨b, o', cs, ha, hg, hc, hr⟩ := h.at j hj
  simp only [Option.some.injEq, Addr.mk.injEq, and_true] at ha
  obtain ⟨rfl, rfl⟩ := ha
  have hx' : l[j] = x := by rw [List.getElem?_eq_getElem hj] at hx; exact Option.some.inj hx
  exact ⟨_, _, cs, rfl, rfl, hc, hx' ▸ hr⟩
end Go.Proofs.YtmijiclocadimaaGreatDoor
