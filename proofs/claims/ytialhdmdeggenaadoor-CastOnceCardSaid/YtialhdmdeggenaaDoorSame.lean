/- sheaveskeep: sameTexts. -/
import Derived.Test.YtialhdmdeggenaaDoorLib2
import Derived.Test.YtialhdmdeggenaaDoorRows
import Derived.Outline
import Derived.BigGuardPart
import Derived.BigQuiet
import Derived.Deep.QuietTactic
set_option linter.unusedVariables false
set_option linter.unusedSimpArgs false
namespace Go.Proofs.YtialhdmdeggenaaDoor
open Go Go.RowKit

/-- The world after some draws. -/
def Drawn (w w' : World) : Prop := ∃ n, w' = w.drewN n
theorem Drawn.refl (w : World) : Drawn w w := ⟨0, rfl⟩
theorem Drawn.step {w w' : World} (h : Drawn w w') (n : Nat) : Drawn w (w'.drewN n) := by
  obtain ⟨m, rfl⟩ := h
  exact ⟨m + n, World.drewN_drewN w m n⟩

theorem sameT_miss {l m : List (List UInt8)} {k : Nat} (h1 : k < l.length) (h2 : k < m.length) (h : l[k] ≠ m[k]) : decide (l = m) = false := by
  simp only [decide_eq_false_iff_not]
  rintro rfl
  exact h rfl
theorem sameT_all {l m : List (List UInt8)} (hl : l.length = m.length) (h : ∀ j, j < l.length → l[j]? = m[j]?) : decide (l = m) = true := by
  simp only [decide_eq_true_eq]
  apply List.ext_getElem? 
  intro j
  rcases Nat.lt_or_ge j l.length with hj | hj
  · exact h j hj
  · rw [List.getElem?_eq_none hj, List.getElem?_eq_none (by omega)]

set_option maxHeartbeats 400000 in
theorem sameTexts_any {G G' : Nat → Prop} {l m : List (List UInt8)} (u v : Value) (w : World) (hu : RdT G w u l) (hv : RdT G' w v m) :
    Calls Tryd.prog 85 #[u, v] w fun e w' => e = .returned (.bool (decide (l = m))) ∧ Drawn w w' := by
  obtain ⟨ad, cap, rfl, h1, h2⟩ := hu.form
  obtain ⟨ad', cap', rfl, h1', h2'⟩ := hv.form
  unfold maxLen at h2 h2'
  by_cases hl : l.length = m.length
  · have hln : ((l.length : Int) != (m.length : Int)) = false := by simp [hl]
    have HL := Lib.hid hl
    clear hl
    go_enter Tryd.func85, Tryd.ntmps85
    go_wp2
    go_loopw [5] (fun i wr => ∃ k n : Nat, k ≤ l.length ∧ i = .int .i64 k ∧ (∀ j, j < k → l[j]? = m[j]?) ∧ wr = w.drewN n) (fun i _ => l.length - (intOf i).toNat)
    case atStart => exact ⟨0, 0, Nat.zero_le _, rfl, fun j hj => by omega, rfl⟩
    case round =>
      obtain ⟨k, n, hk, rfl, hno, rfl⟩ := hrel
      have HN := Lib.hid hno; clear hno
      by_cases hlt : k < l.length
      · have hlt' : k < m.length := by have := HL.out; omega
        obtain ⟨b, o, rfl, -, hc⟩ := hu.cell k hlt
        obtain ⟨b', o', rfl, -, hc'⟩ := hv.cell k hlt'
        have i0 : (0 : Int) ≤ (k : Int) := by omega
        have i1 : (k : Int) < (l.length : Int) := by omega
        have i2 : (k : Int) < (m.length : Int) := by omega
        by_cases he : l[k] = m[k]
        · have hb : (l[k] == m[k]) = true := by simp [he]
          have HE := Lib.hid he
          clear he
          go_wp2_with fail
          go_quiet (fail)
          go_wp2
          go_roundw
          case rel => exact ⟨k + 1, _, by omega, by go_num, fun j hj => by
            rcases Nat.lt_or_eq_of_le (Nat.le_of_lt_succ hj) with h' | h'
            · exact HN.out j h'
            · subst h'; rw [List.getElem?_eq_getElem hlt, List.getElem?_eq_getElem hlt', HE.out], rfl⟩
          case measure => simp [intOf]; omega
        · have hb : (l[k] == m[k]) = false := by simp [he]
          have HE := Lib.hid (sameT_miss hlt hlt' he)
          clear he
          go_wp2_with fail
          go_quiet (fail)
          go_wp2
          go_ret
          exact ⟨ret_boolH HE.out, Drawn.step ⟨n, rfl⟩ nq⟩
      · have HE := Lib.hid (sameT_all HL.out (fun j hj => HN.out j (by omega)))
        go_wp2
        go_ret
        exact ⟨ret_boolH HE.out, _, rfl⟩
  · have hln : ((l.length : Int) != (m.length : Int)) = true := by simp; omega
    have HR := Lib.hid (show decide (l = m) = false by simp only [decide_eq_false_iff_not]; rintro rfl; exact hl rfl)
    clear hl
    go_enter Tryd.func85, Tryd.ntmps85
    go_wp2
    go_ret
    exact ⟨ret_boolH HR.out, Drawn.refl _⟩
end Go.Proofs.YtialhdmdeggenaaDoor
