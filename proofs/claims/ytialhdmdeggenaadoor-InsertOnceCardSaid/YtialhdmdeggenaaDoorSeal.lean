/- seal: sign, has, own, Check: what they compute. -/
import Derived.Test.YtialhdmdeggenaaDoorChk
import Derived.Test.YtialhdmdeggenaaDoorBas
import Derived.Deep.RegionLaw
set_option linter.unusedVariables false
set_option linter.unusedSimpArgs false
attribute [local go_sem ↓] Go.wp_at_zero Go.wp_at_succ
namespace Go.Proofs.YtialhdmdeggenaaDoor
open Go Go.RowKit

/-- A sign: its node; its slot's author, round, digest. -/
abbrev Sgn := Int × Int × Int × Bytes
def RSign : Rel Sgn where
  size := 4
  rd := fun G w cs x => ∃ v, cs = [.int .i64 x.1, .int .i64 x.2.1, .int .i64 x.2.2.1, v] ∧ RdB G w v x.2.2.2
  len := fun ⟨_, h, _⟩ => by simp [h]
  keep := fun ⟨v, h, hr⟩ hk hg => ⟨v, h, hr.keep hk hg⟩
  low := fun ⟨v, h, hr⟩ => ⟨v, h, hr.low (by decide)⟩
def sgnCode (n a r : Int) (k : Nat) : Int := if n < 0 ∨ 4 ≤ n then 2 else sltCode a r k
def sgnOk (x : Sgn) : Bool := decide (sgnCode x.1 x.2.1 x.2.2.1 x.2.2.2.length = 0)

theorem RdS.sign {G : Nat → Prop} {w : World} {l : List Sgn} {ad : Option Addr} {n cap : Nat} (h : RdS RSign G w (.slice ad n cap) l) (j : Nat) (hj : j < l.length) :
    ∃ b o v, ad = some ⟨b, o, none⟩ ∧ G b ∧ w.cell? ⟨b, o + j * 4, none⟩ = some (.int .i64 l[j].1) ∧ w.cell? ⟨b, o + j * 4 + 1, none⟩ = some (.int .i64 l[j].2.1) ∧ w.cell? ⟨b, o + j * 4 + 2, none⟩ = some (.int .i64 l[j].2.2.1) ∧ w.cell? ⟨b, o + j * 4 + 3, none⟩ = some v ∧ RdB G w v l[j].2.2.2 := by
  obtain ⟨b, o, cs, ha, hb, hc, v, rfl, hr⟩ := h.at j hj
  exact ⟨b, o, v, ha, hb, hc 0 _ rfl, hc 1 _ rfl, hc 2 _ rfl, hc 3 _ rfl, hr⟩

theorem sign_any (n a r : Int) (ad : Option Addr) (k cap : Nat) (w : World) :
    Calls Tryd.prog 57 #[.agg #[.int .i64 n, .int .i64 a, .int .i64 r, .slice ad k cap]] w fun e w' => e = .returned (.int .i64 (sgnCode n a r k)) ∧ Below w.heap.size w w' := by
  have hR := (Below.refl w.heap.size w).alloc (Nat.le_refl _) (.cells #[.int .i64 n, .int .i64 a, .int .i64 r, .slice ad k cap] 77)
  go_enter Tryd.func57, Tryd.ntmps57
  by_cases h1 : n < 0
  · have HR := Lib.hid (show sgnCode n a r k = 2 by unfold sgnCode; rw [if_pos (.inl h1)])
    go_wp2
    go_ret
    exact ⟨ret_intH HR.out, hR⟩
  · by_cases h2 : 4 ≤ n
    · have HR := Lib.hid (show sgnCode n a r k = 2 by unfold sgnCode; rw [if_pos (.inr h2)])
      go_wp2
      go_ret
      exact ⟨ret_intH HR.out, hR⟩
    · have HR := Lib.hid (show sgnCode n a r k = sltCode a r k by unfold sgnCode; rw [if_neg (by omega)])
      go_wp2_with (go_at_call 43; refine (cslot_any _ _ _ _ _ _).mono ?_; rintro e w' ⟨rfl, hb⟩)
      go_ret
      exact ⟨ret_intH HR.out, hR.trans (hb.mono (by simp))⟩

theorem sgn_eq (x y : Sgn) (h1 : x.1 = y.1) (h2 : x.2.1 = y.2.1) (h3 : x.2.2.1 = y.2.2.1) : decide (x = y) = decide (x.2.2.2 = y.2.2.2) := by
  obtain ⟨a, b, c, d⟩ := x
  obtain ⟨a', b', c', d'⟩ := y
  simp only at h1 h2 h3
  subst h1 h2 h3
  simp
theorem hasClo_any {G G' : Nat → Prop} (x y : Sgn) (vx vy : Value) (b : Nat) (w : World) (hx : RdB G w vx x.2.2.2) (hy : RdB G' w vy y.2.2.2)
    (c0 : w.cell? ⟨b, 0, none⟩ = some (.int .i64 y.1)) (c1 : w.cell? ⟨b, 1, none⟩ = some (.int .i64 y.2.1)) (c2 : w.cell? ⟨b, 2, none⟩ = some (.int .i64 y.2.2.1)) (c3 : w.cell? ⟨b, 3, none⟩ = some vy) :
    Calls Tryd.prog 61 #[.agg #[.int .i64 x.1, .int .i64 x.2.1, .int .i64 x.2.2.1, vx], .pointer (some ⟨b, 0, none⟩)] w fun e w' => e = .returned (.bool (decide (x = y))) ∧ Below w.heap.size w w' := by
  obtain ⟨ad, cap, rfl, -, -⟩ := hx.form
  obtain ⟨ad', cap', rfl, -, -⟩ := hy.form
  have hR := (Below.refl w.heap.size w).alloc (Nat.le_refl _) (.cells #[.int .i64 x.1, .int .i64 x.2.1, .int .i64 x.2.2.1, .slice ad x.2.2.2.length cap] 77)
  have HX := Lib.hid (hx.keep (Keep.alloc G w (.cells #[.int .i64 x.1, .int .i64 x.2.1, .int .i64 x.2.2.1, .slice ad x.2.2.2.length cap] 77)) (fun _ h => h))
  have HY := Lib.hid (hy.keep (Keep.alloc G' w (.cells #[.int .i64 x.1, .int .i64 x.2.1, .int .i64 x.2.2.1, .slice ad x.2.2.2.length cap] 77)) (fun _ h => h))
  have hb := World.block_lt_of_cell? w _ c0
  simp only at hb
  have hb2 : b ≠ w.heap.size := by omega
  go_enter Tryd.func61, Tryd.ntmps61
  by_cases h1 : x.1 = y.1
  · by_cases h2 : x.2.1 = y.2.1
    · by_cases h3 : x.2.2.1 = y.2.2.1
      · have HR := Lib.hid (sgn_eq x y h1 h2 h3)
        have e1 : (x.1 == y.1) = true := by simp [h1]
        have e2 : (x.2.1 == y.2.1) = true := by simp [h2]
        have e3 : (x.2.2.1 == y.2.2.1) = true := by simp [h3]
        clear h1 h2 h3
        go_wp2_with (go_at_call 42; refine (bytesEqual_any _ _ _ HX.out HY.out).mono ?_; rintro e w' ⟨rfl, rfl⟩)
        go_ret
        exact ⟨ret_boolH HR.out, hR⟩
      · have HR := Lib.hid (show decide (x = y) = false by simp only [decide_eq_false_iff_not]; rintro rfl; exact h3 rfl)
        have e1 : (x.1 == y.1) = true := by simp [h1]
        have e2 : (x.2.1 == y.2.1) = true := by simp [h2]
        have e3 : (x.2.2.1 == y.2.2.1) = false := by simp [h3]
        clear h1 h2 h3
        go_wp2
        go_ret
        exact ⟨ret_boolH HR.out, hR⟩
    · have HR := Lib.hid (show decide (x = y) = false by simp only [decide_eq_false_iff_not]; rintro rfl; exact h2 rfl)
      have e1 : (x.1 == y.1) = true := by simp [h1]
      have e2 : (x.2.1 == y.2.1) = false := by simp [h2]
      clear h1 h2
      go_wp2
      go_ret
      exact ⟨ret_boolH HR.out, hR⟩
  · have HR := Lib.hid (show decide (x = y) = false by simp only [decide_eq_false_iff_not]; rintro rfl; exact h1 rfl)
    have e1 : (x.1 == y.1) = false := by simp [h1]
    clear h1
    go_wp2
    go_ret
    exact ⟨ret_boolH HR.out, hR⟩
end Go.Proofs.YtialhdmdeggenaaDoor
