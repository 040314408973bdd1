/- sheavestop.acts: what they compute. -/
import Derived.Test.YtmijiclocadimaaGreatDoorTAct
import Derived.Test.YtmijiclocadimaaGreatDoorTRun
import Derived.Test.YtmijiclocadimaaGreatDoorBas
set_option linter.unusedVariables false
set_option linter.unusedSimpArgs false
attribute [local go_sem ↓] Go.wp_at_zero Go.wp_at_succ
namespace Go.Proofs.YtmijiclocadimaaGreatDoor
open Go Go.RowKit

theorem elemAct : ElemOk Tryz.prog 27 30 4 40 := elemOk_of (z := .agg #[.int .i64 0, .int .i64 0, .int .i64 0, .string ⟨#[]⟩]) (by kernel_rfl) (by kernel_rfl) rfl (by decide)
/-- The acts of gears, at most so many. -/
def actsL (l : List GearD) (m : Nat) : List LAct := (l.take m).map gearA
theorem actsL_len (l : List GearD) (m : Nat) : (actsL l m).length = min m l.length := by simp [actsL]
theorem actsL_succ {l : List GearD} {i : Nat} (h : i < l.length) : actsL l (i + 1) = actsL l i ++ [gearA l[i]] := by
  unfold actsL; rw [List.take_succ_eq_append_getElem h, List.map_append]; rfl
theorem actsL_min (l : List GearD) (m : Nat) : actsL l (min m l.length) = actsL l m := by
  unfold actsL
  rcases Nat.le_total m l.length with q | q
  · rw [Nat.min_eq_left q]
  · rw [Nat.min_eq_right q, List.take_length, List.take_of_length_le q]
set_option maxRecDepth 100000 in
set_option maxHeartbeats 8000000 in
theorem acts_any {l : List GearD} (v : Value) (m : Int) (w : World) (hv : RdS RGear (fun _ => True) w v l) (m0 : 0 ≤ m) (m1 : m ≤ 10000) :
    Calls Tryz.prog 17 #[v, .int .i64 m] w fun e w' => ∃ v', e = .returned v' ∧ LstO RAct (fun b => w.heap.size ≤ b) w.heap.size 30 w' v' (actsL l m.toNat) ∧ Below w.heap.size w w' := by
  obtain ⟨ad, cap, rfl, hcp, hm⟩ := hv.form
  unfold maxLen at hm
  have HV := Lib.hid hv
  clear hv
  obtain ⟨mn, rfl⟩ : ∃ mn : Nat, m = (mn : Int) := ⟨m.toNat, by omega⟩
  rw [Int.toNat_natCast]
  have HMN := Lib.hid (actsL_min l mn)
  go_enter Tryz.func17, Tryz.ntmps17
  go_wp2_with fail
  go_loopw [5, 6] (fun o u wr => ∃ (i : Nat) (a2 : Option Addr) (c2 : Nat), i ≤ min mn l.length ∧ u = .int .i64 i ∧ o = .slice a2 (actsL l i).length c2 ∧ LstO RAct (fun b => w.heap.size ≤ b) w.heap.size 30 wr (.slice a2 (actsL l i).length c2) (actsL l i) ∧ Below w.heap.size w wr) (fun _ u _ => mn - (intOf u).toNat)
  case atStart => exact ⟨0, none, 0, Nat.zero_le _, rfl, rfl, LstO.nil _ _ _ _ _, Below.refl _ _⟩
  case round =>
    obtain ⟨i, a2, c2, hi, rfl, rfl, hL, hBr⟩ := hrel
    have HL := Lib.hid hL
    have HBr := Lib.hid hBr
    have hzr := hBr.size
    have hll : (actsL l i).length ≤ i := by rw [actsL_len]; omega
    by_cases hlt : i < l.length
    · have i1 : (i : Int) < (l.length : Int) := by omega
      by_cases hlm : i < mn
      · have i2 : (i : Int) < (mn : Int) := by omega
        have i0 : (0 : Int) ≤ (i : Int) := by omega
        have wi : IntKind.i64.wrap ((i : Int) + 1) = (i : Int) + 1 := IntWalk.i64_in _ (by omega)
        obtain ⟨b, o, rfl, e0, e1, e2, e3, hok⟩ := (HV.out.below hBr (fun _ h => h)).gear i hlt
        have HGK := Lib.hid hok
        have HSU := Lib.hid (actsL_succ hlt)
        have HLN := Lib.hid (show (actsL l (i + 1)).length = (actsL l i).length + 1 by rw [HSU.out]; simp)
        generalize l[i] = x at *
        clear hL hBr hok
        generalize actsL l i = LJ at *
        go_wp2_with fail
        refine (act_any x HGK.out _).mono ?_
        rintro e w2 ⟨rfl, hb2⟩
        replace HL := Lib.hid (HL.out.below hb2)
        replace HBr := Lib.hid (HBr.out.trans (hb2.mono HBr.out.size))
        clear hb2 e0 e1 e2 e3
        generalize gearA x = y at *
        go_upto_region 6 with fail
        obtain ⟨w3, hw3⟩ : ∃ w3, w3 = w2.alloc (.cells #[.int .i64 y.k, .int .i64 y.n, .int .i64 y.p, strV y.t] 30) := ⟨_, rfl⟩
        have hb3 : Below w2.heap.size w2 w3 := by rw [hw3]; exact (Below.refl _ _).alloc (Nat.le_refl _) _
        have HY := Lib.hid (show BoxAt w3 w2.heap.size [.int .i64 y.k, .int .i64 y.n, .int .i64 y.p, strV y.t] 30 by rw [hw3]; exact BoxAt.new w2 [_, _, _, _] _)
        rw [← hw3]
        replace HL := Lib.hid (HL.out.below hb3)
        replace HBr := Lib.hid (HBr.out.trans (hb3.mono HBr.out.size))
        have hz3 := HBr.out.size
        clear hw3 hb3
        have y0 := HY.out.cell 0 rfl
        have y1 := HY.out.cell 1 rfl
        have y2 := HY.out.cell 2 rfl
        have y3 := HY.out.cell 3 rfl
        obtain ⟨vals, hv⟩ := HL.out.valsOf
        have hvlt := hv.lt
        have HLV := Lib.hid hv
        clear hv
        go_wp2_with (at_builtin; refine wpList_append_one rfl _ _ 27 rfl elemAct w.heap.size _ LJ.length vals rfl (HLV.out.alloc (.cells #[.int .i64 y.k, .int .i64 y.n, .int .i64 y.p, strV y.t] 30)).own w3.heap.size 30 [.int .i64 y.k, .int .i64 y.n, .int .i64 y.p, strV y.t] rfl (BoxAt.new w3 [_, _, _, _] _) rfl (by simp [Value.oneCell']) (by unfold maxLen; omega) (by omega) (by simp; omega) ?_; intro g cap6 w6 hown6 hgr6 hat6 hlt6)
        have hx : RAct.rd (fun b => w.heap.size ≤ b ∧ b < (w3.alloc (.cells #[.int .i64 y.k, .int .i64 y.n, .int .i64 y.p, strV y.t] 30)).heap.size ∧ (Value.slice a2 LJ.length c2).ownBlock ≠ some b) (w3.alloc (.cells #[.int .i64 y.k, .int .i64 y.n, .int .i64 y.p, strV y.t] 30)) [.int .i64 y.k, .int .i64 y.n, .int .i64 y.p, strV y.t] y := rfl
        have hP := (HLV.out.alloc (.cells #[.int .i64 y.k, .int .i64 y.n, .int .i64 y.p, strV y.t] 30)).push hx hown6 hgr6 hat6
        rw [← HSU.out] at hP
        have HP6 := Lib.hid hP
        have HB6 := Lib.hid ((HBr.out.alloc HBr.out.size (.cells #[.int .i64 y.k, .int .i64 y.n, .int .i64 y.p, strV y.t] 30)).grown hgr6 (by have := HBr.out.size; simp; omega) (fun k hk => (hvlt _ hk).1))
        clear hP hx hown6 hgr6 hat6 y0 y1 y2 y3
        go_wp2
        go_roundw
        case rel => exact ⟨i + 1, some ⟨g, 0, none⟩, cap6, by omega, by go_num, by rw [HLN.out], by rw [HLN.out]; exact HP6.out, HB6.out⟩
        case measure => simp [intOf]; omega
      · obtain rfl : i = mn := by omega
        have t1 : ¬ (i : Int) < (i : Int) := by omega
        have HRR := Lib.hid hL
        clear hL hBr
        go_wp2
        go_ret
        exact ⟨_, rfl, HRR.out, HBr.out⟩
    · have t1 : ¬ (i : Int) < (l.length : Int) := by omega
      have e : actsL l i = actsL l mn := by rw [← HMN.out]; congr 1; omega
      rw [e] at hL ⊢
      have HRR := Lib.hid hL
      clear hL hBr e HL
      go_wp2
      go_ret
      exact ⟨_, rfl, HRR.out, HBr.out⟩
end Go.Proofs.YtmijiclocadimaaGreatDoor
