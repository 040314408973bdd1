/- What the walks over a certificate need. -/
import Derived.Test.YtialhdmdeggenaaDoorSome
import Derived.Test.YtialhdmdeggenaaDoorHdrLaw
import Derived.Test.YtialhdmdeggenaaDoorSignBy
import Derived.Test.YtialhdmdeggenaaDoorPrv
set_option linter.unusedVariables false
set_option linter.unusedSimpArgs false
namespace Go.Proofs.YtialhdmdeggenaaDoor
open Go Go.RowKit

theorem RdS.free_of_own {w : World} {base e n : Nat} {v : Value} {xs : List Value} (h : w.ownsRow base e 1 v n xs) (h0 : 0 < n) : ∃ g cap, v = .slice (some ⟨g, 0, none⟩) n cap ∧ base ≤ g ∧ g < w.heap.size ∧ ∀ j, w.frozen? ⟨g, j, none⟩ = false := by
  rcases h.2 with ⟨_, h1⟩ | ⟨g, cap, cur, hv, hb, hg, _⟩
  · omega
  · exact ⟨g, cap, hv, hb, lt_of_block hg, fun j => by simp [World.frozen?, hg]⟩

theorem BoxAt.set5 {w : World} {b : Nat} {a0 a1 a2 a3 a4 : Value} {T : TypeId} (h : BoxAt w b [a0, a1, a2, a3, a4] T) (u0 u1 u2 u3 u4 : Value) :
    BoxAt (((((w.setCell ⟨b, 0, none⟩ u0).setCell ⟨b, 1, none⟩ u1).setCell ⟨b, 2, none⟩ u2).setCell ⟨b, 3, none⟩ u3).setCell ⟨b, 4, none⟩ u4) b [u0, u1, u2, u3, u4] T := ((((h.set 0 u0).set 1 u1).set 2 u2).set 3 u3).set 4 u4
theorem RdS.atBlock {α : Type} {f : α → Value} {G : Nat → Prop} {w : World} {l : List α} {g o n cap : Nat} (h : RdS (flat f) G w (.slice (some ⟨g, o, none⟩) n cap) l) : RdS (flat f) (fun b => b = g) w (.slice (some ⟨g, o, none⟩) n cap) l := by
  obtain ⟨h0, h1, h2, h3⟩ := h.len
  subst h0
  refine ⟨_, cap, rfl, h1, h2, fun h => by simp at h, fun j x hx => ?_⟩
  have hj : j < l.length := by
    rcases Nat.lt_or_ge j l.length with h | h
    · exact h
    · simp [List.getElem?_eq_none h] at hx
  obtain ⟨b, o', cs, ha, hg, hc, hr⟩ := h.at j hj
  simp only [Option.some.injEq, Addr.mk.injEq, and_true] at ha
  obtain ⟨rfl, rfl⟩ := ha
  have hx' : l[j] = x := by rw [List.getElem?_eq_getElem hj] at hx; exact Option.some.inj hx
  exact ⟨_, _, cs, rfl, rfl, hc, hx' ▸ hr⟩

theorem rdB_some {G : Nat → Prop} {w : World} {b : Nat} {n m : Int} {T : TypeId} (h : BoxAt w b ((someL n m).map fun c => Value.int .u8 c.toNat) T) (hG : G b) : RdB G w (.slice (some ⟨b, 0, none⟩) 32 32) (someL n m) :=
  RdS.of_box (cap := 32) h hG (by rw [someL_length]; omega) (by unfold maxLen; omega)
theorem rdBB_three {G : Nat → Prop} {w : World} {B : Nat} {v v' v'' : Value} {l l' l'' : List UInt8} {T : TypeId} (hb : BoxAt w B [v, v', v''] T) (hG : G B) (h : RdB G w v l) (h' : RdB G w v' l') (h'' : RdB G w v'' l'') : RdBB G w (.slice (some ⟨B, 0, none⟩) 3 3) [l, l', l''] :=
  rdBB_box hb hG rfl rfl (by unfold maxLen; omega) (fun j u x h1 h2 => by
    match j, h1, h2 with
    | 0, h1, h2 => simp at h1 h2; subst h1 h2; exact h
    | 1, h1, h2 => simp at h1 h2; subst h1 h2; exact h'
    | 2, h1, h2 => simp at h1 h2; subst h1 h2; exact h'')
/-- The first k of a list, without one number. -/
def lessN (ns : List Int) (x : Int) (k : Nat) : List Int := (ns.take k).filter fun m => !decide (m = x)
theorem lessN_len (ns : List Int) (x : Int) (k : Nat) : (lessN ns x k).length ≤ k := Nat.le_trans (List.length_filter_le _ _) (by rw [List.length_take]; exact Nat.min_le_left _ _)
theorem lessN_skip {ns : List Int} {x : Int} {k : Nat} (hk : k < ns.length) (e : ns[k] = x) : lessN ns x (k + 1) = lessN ns x k := by
  unfold lessN; rw [List.take_succ_eq_append_getElem hk, List.filter_append]; simp [e]
theorem lessN_put {ns : List Int} {x : Int} {k : Nat} (hk : k < ns.length) (e : ns[k] ≠ x) : lessN ns x (k + 1) = lessN ns x k ++ [ns[k]] := by
  unfold lessN; rw [List.take_succ_eq_append_getElem hk, List.filter_append]; simp [e]
theorem lessN_all (ns : List Int) (x : Int) : lessN ns x ns.length = ns.filter fun m => !decide (m = x) := by
  unfold lessN; rw [List.take_length]
end Go.Proofs.YtialhdmdeggenaaDoor
