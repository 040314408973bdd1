/- wire's checks: node, count, digests, CheckBatch, CheckHeader, CheckCert, CheckSlot. -/
import Derived.Test.YtmijiclocadimaaGreatDoorBas
import Derived.Deep.DeepCutAuto
import Derived.Deep.RegionHeld3
import Derived.Deep.DrawnRows
set_option linter.unusedVariables false
set_option linter.unusedSimpArgs false
namespace Go.Proofs.YtmijiclocadimaaGreatDoor
open Go Go.RowKit

theorem RdS.cellS {α : Type} {R : Rel α} {hs : 0 < R.size} {G : Nat → Prop} {w : World} {l : List (List α)} {ad : Option Addr} {n cap : Nat} (h : RdS (sliceOf R hs) G w (.slice ad n cap) l) (j : Nat) (hj : j < l.length) :
    ∃ b o v, ad = some ⟨b, o, none⟩ ∧ G b ∧ w.cell? ⟨b, o + j, none⟩ = some v ∧ RdS R G w v l[j] := by
  obtain ⟨b, o, cs, ha, hb, hc, v, rfl, hr⟩ := h.at j hj
  exact ⟨b, o, v, ha, hb, by have := hc 0 _ rfl; simpa [sliceOf] using this, hr⟩

theorem node_any (n : Int) (w : World) : Calls Tryz.prog 98 #[.int .i64 n] w fun e w' => e = .returned (.bool (nodeOk n)) ∧ w = w' := by
  go_enter Tryz.func98, Tryz.ntmps98
  go_wp2
  all_goals
    go_ret
    exact ⟨ret_boolH (by unfold nodeOk; rw [Bool.eq_iff_iff]; simp; omega), rfl⟩
theorem count_any (n : Int) (w : World) : Calls Tryz.prog 99 #[.int .i64 n] w fun e w' => e = .returned (.bool (countOk n)) ∧ w = w' := by
  go_enter Tryz.func99, Tryz.ntmps99
  go_wp2
  all_goals
    go_ret
    exact ⟨ret_boolH (by unfold countOk; rw [Bool.eq_iff_iff]; simp; omega), rfl⟩

theorem cslot_any (a r : Int) (ad : Option Addr) (n cap : Nat) (w : World) :
    Calls Tryz.prog 108 #[.agg #[.int .i64 a, .int .i64 r, .slice ad n cap]] w fun e w' => e = .returned (.int .i64 (sltCode a r n)) ∧ Below w.heap.size w w' := by
  have hR := (Below.refl w.heap.size w).alloc (Nat.le_refl _) (.cells #[.int .i64 a, .int .i64 r, .slice ad n cap] 69)
  go_enter Tryz.func108, Tryz.ntmps108
  cases h1 : nodeOk a
  · go_wp2_with (first
      | (go_at_call 98; refine (node_any _ _).mono ?_; rintro e w' ⟨rfl, rfl⟩)
      | (go_at_call 99; refine (count_any _ _).mono ?_; rintro e w' ⟨rfl, rfl⟩))
    go_ret
    exact ⟨ret_intH (by unfold sltCode; rw [if_pos (.inl h1)]), hR⟩
  · cases h2 : countOk r
    · go_wp2_with (first
        | (go_at_call 98; refine (node_any _ _).mono ?_; rintro e w' ⟨rfl, rfl⟩)
        | (go_at_call 99; refine (count_any _ _).mono ?_; rintro e w' ⟨rfl, rfl⟩))
      go_ret
      exact ⟨ret_intH (by unfold sltCode; rw [if_pos (.inr h2)]), hR⟩
    · by_cases h3 : n = 32
      · have hb : ((n : Int) != 32) = false := by simp [h3]
        have hv : sltCode a r n = 0 := by unfold sltCode; simp [h1, h2, h3]
        have HV := Lib.hid hv
        clear hv h3
        go_wp2_with (first
          | (go_at_call 98; refine (node_any _ _).mono ?_; rintro e w' ⟨rfl, rfl⟩)
          | (go_at_call 99; refine (count_any _ _).mono ?_; rintro e w' ⟨rfl, rfl⟩))
        go_ret
        exact ⟨ret_intH HV.out, hR⟩
      · have hb : ((n : Int) != 32) = true := by rw [bne_iff_ne]; omega
        have hv : sltCode a r n = 4 := by unfold sltCode; simp [h1, h2, h3]
        have HV := Lib.hid hv
        clear hv h3
        go_wp2_with (first
          | (go_at_call 98; refine (node_any _ _).mono ?_; rintro e w' ⟨rfl, rfl⟩)
          | (go_at_call 99; refine (count_any _ _).mono ?_; rintro e w' ⟨rfl, rfl⟩))
        go_ret
        exact ⟨ret_intH HV.out, hR⟩

/-! ### digests: a closure that compares with one digest -/
theorem digClo_any {G G' : Nat → Prop} {x d : Bytes} (vx vd : Value) (b : Nat) (w : World) (hx : RdB G w vx x) (hd : RdB G' w vd d) (hc : w.cell? ⟨b, 0, none⟩ = some vd) :
    Calls Tryz.prog 146 #[vx, .pointer (some ⟨b, 0, none⟩)] w fun e w' => e = .returned (.bool (decide (x = d))) ∧ w = w' := by
  obtain ⟨ad, cap, rfl, -, -⟩ := hd.form
  go_enter Tryz.func146, Tryz.ntmps146
  go_wp2_with (go_at_call 120; refine (bytesEqual_any _ _ _ hx hd).mono ?_; rintro e w' ⟨rfl, rfl⟩)
  go_ret
  exact ⟨rfl, rfl⟩

/-- The place of some bytes; -1: they are not there. -/
def idxB (l : List Bytes) (t : Bytes) : Int := if t ∈ l then (l.idxOf t : Int) else -1
theorem idxB_hit {l : List Bytes} {t : Bytes} {k : Nat} (hk : k < l.length) (hno : ∀ j, j < k → l[j]? ≠ some t) (h : l[k] = t) : idxB l t = k := by
  have hm : t ∈ l := h ▸ List.getElem_mem hk
  unfold idxB
  rw [if_pos hm]
  have h1 : l.idxOf t < l.length := List.idxOf_lt_length_of_mem hm
  have h2 : l[l.idxOf t]? = some t := by rw [List.getElem?_eq_getElem h1]; simp
  have h3 : ¬ l.idxOf t < k := fun hl => hno _ hl h2
  have h4 : ¬ k < l.idxOf t := fun hl => by
    have := List.not_of_lt_findIdx (p := fun x => x == t) (xs := l) (i := k) (by exact hl)
    simp [h] at this
  congr 1; omega
theorem idxB_miss {l : List Bytes} {t : Bytes} (hno : ∀ j, j < l.length → l[j]? ≠ some t) : idxB l t = -1 := by
  unfold idxB
  rw [if_neg]
  intro hm
  obtain ⟨j, hj, e⟩ := List.mem_iff_getElem.1 hm
  exact hno j hj (by simp [hj, e])
theorem idxB_ge {l : List Bytes} {t : Bytes} : (0 ≤ idxB l t) = (t ∈ l) := by
  unfold idxB
  by_cases h : t ∈ l <;> simp [h]

theorem digIndex_any {G G' : Nat → Prop} {l : List Bytes} {d : Bytes} (v vd : Value) (b : Nat) (w : World) (h : RdBB G w v l) (hd : RdB G' w vd d) (hcd : w.cell? ⟨b, 0, none⟩ = some vd) :
    Calls Tryz.prog 148 #[v, .func (.func 146) #[] #[.pointer (some ⟨b, 0, none⟩)]] w fun e w' => e = .returned (.int .i64 (idxB l d)) ∧ w = w' := by
  obtain ⟨ad, cap, rfl, h1, h2⟩ := h.form
  unfold maxLen at h2
  have HC := Lib.hid hcd
  clear hcd
  go_enter Tryz.func148, Tryz.ntmps148
  go_wp2
  go_loop [8] (fun i => ∃ k : Nat, k ≤ l.length ∧ i = .int .i64 k ∧ ∀ j, j < k → l[j]? ≠ some d) (fun i => l.length - (intOf i).toNat)
  case atStart => exact ⟨0, Nat.zero_le _, rfl, fun j hj => by omega⟩
  case round =>
    obtain ⟨k, hk, rfl, hno⟩ := hrel
    have HN := Lib.hid hno; clear hno
    by_cases hlt : k < l.length
    · obtain ⟨bb, o, vx, rfl, -, hc, hx⟩ := h.cellS k hlt
      obtain ⟨ad2, cap2, rfl, -, -⟩ := hx.form
      by_cases he : l[k] = d
      · have hr := Lib.hid (idxB_hit hlt HN.out he)
        have hb : decide (l[k] = d) = true := by simp [he]
        have HE := Lib.hid hb
        clear he hb
        go_wp2_with fail
        refine (digClo_any _ _ _ _ hx hd HC.out).mono ?_
        rintro e w' ⟨rfl, rfl⟩
        rw [HE.out]
        go_wp2
        go_ret
        exact ⟨ret_intH hr.out, rfl⟩
      · have hb : decide (l[k] = d) = false := by simp [he]
        have HE := Lib.hid hb
        have he' := Lib.hid he
        clear he hb
        go_wp2_with fail
        refine (digClo_any _ _ _ _ hx hd HC.out).mono ?_
        rintro e w' ⟨rfl, rfl⟩
        rw [HE.out]
        go_wp2
        go_round
        case rel => exact ⟨k + 1, by omega, by go_num, fun j hj => by
          rcases Nat.lt_or_eq_of_le (Nat.le_of_lt_succ hj) with h' | h'
          · exact HN.out j h'
          · subst h'; simp only [List.getElem?_eq_getElem hlt]; exact fun e => he'.out (Option.some.inj e)⟩
        case measure => simp [intOf]; omega
    · have hr := Lib.hid (idxB_miss (l := l) (t := d) (fun j hj => HN.out j (by omega)))
      go_wp2
      go_ret
      exact ⟨ret_intH hr.out, rfl⟩

theorem digContains_any {G G' : Nat → Prop} {l : List Bytes} {d : Bytes} (v vd : Value) (b : Nat) (w : World) (h : RdBB G w v l) (hd : RdB G' w vd d) (hcd : w.cell? ⟨b, 0, none⟩ = some vd) :
    Calls Tryz.prog 145 #[v, .func (.func 146) #[] #[.pointer (some ⟨b, 0, none⟩)]] w fun e w' => e = .returned (.bool (decide (d ∈ l))) ∧ w = w' := by
  have hge := Lib.hid (idxB_ge (l := l) (t := d))
  have HC := Lib.hid hcd
  clear hcd
  go_enter Tryz.func145, Tryz.ntmps145
  go_wp2_with (go_at_call 148; refine (digIndex_any _ _ _ _ h hd HC.out).mono ?_; rintro e w' ⟨rfl, rfl⟩)
  go_ret
  refine ⟨ret_boolH ?_, rfl⟩
  simp only [hge.out]
end Go.Proofs.YtmijiclocadimaaGreatDoor
