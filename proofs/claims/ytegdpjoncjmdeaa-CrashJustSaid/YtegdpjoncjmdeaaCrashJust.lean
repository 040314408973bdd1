/- CrashJust: the walk. -/
import Derived.Test.YtegdpjoncjmdeaaRawM
import Derived.Test.YtegdpjoncjmdeaaTapeP
set_option linter.unusedVariables false
set_option linter.unusedSimpArgs false
attribute [local go_sem ↓] Go.wp_at_zero Go.wp_at_succ
namespace Go.Proofs.Ytegdpjoncjmdeaa
open Go Go.RowKit

set_option maxRecDepth 100000 in
set_option maxHeartbeats 8000000 in
theorem crashJust_walk (v : Value) (l : List RawD) (a n : Int) (w : World) (hv : RdS RRaw (fun _ => True) w v l) (a1 : -9223372036854775808 ≤ a) (a2 : a ≤ 9223372036854775807) (n1 : -9223372036854775808 ≤ n) (n2 : n ≤ 9223372036854775807) :
    Calls Try.prog 7 #[v, .int .i64 a, .int .i64 n] w fun e w' => e = .returned (.bool true) ∧ Below w.heap.size w w' := by
  have HB := Lib.hid (Below.refl w.heap.size w)
  have HV := Lib.hid (hv)
  obtain ⟨adv, capv, rfl, -, -⟩ := hv.form
  obtain ⟨hok, hm24, hT72⟩ := recs_parts l
  have HOK := Lib.hid hok
  have hms : (recsL l).length ≤ 1000 := by omega
  clear hv hok
  go_enter Try.func7, Try.ntmps7
  go_wp2_with fail
  refine (records_any _ _ (HV.out.below (by repeat (first | with_reducible exact Below.refl _ _ | with_reducible refine Below.drew ?_ | with_reducible refine Below.setCell ?_ (by first | omega | (simp <;> omega)) _ | with_reducible refine Below.alloc ?_ (by first | omega | (simp <;> omega)) _)) (fun _ h => h))).mono ?_
  rintro e w1 ⟨v1, rfl, h1, hb1⟩
  have hB1 : Below w.heap.size w w1 := Below.trans (by repeat (first | with_reducible exact Below.refl _ _ | with_reducible refine Below.drew ?_ | with_reducible refine Below.setCell ?_ (by first | omega | (simp <;> omega)) _ | with_reducible refine Below.alloc ?_ (by first | omega | (simp <;> omega)) _)) (hb1.mono (by first | exact Nat.le_refl _ | (simp; done) | (simp; omega)))
  have z1 := hB1.size
  replace HB := Lib.hid (HB.out.trans (hB1.mono HB.out.size))
  replace HV := Lib.hid (HV.out.below hB1 (fun _ h => h))
  obtain ⟨ad_h1, cap_h1, rfl, -, -⟩ := h1.form
  have HM := Lib.hid (h1.mono (G' := fun _ => True) (fun _ _ => trivial))
  clear hb1 hB1 h1
  clear HV
  go_wp2_with fail
  refine (taped_any _ _ (HM.out.below (by repeat (first | with_reducible exact Below.refl _ _ | with_reducible refine Below.drew ?_ | with_reducible refine Below.setCell ?_ (by first | omega | (simp <;> omega)) _ | with_reducible refine Below.alloc ?_ (by first | omega | (simp <;> omega)) _)) (fun _ h => h)) HOK.out hms).mono ?_
  rintro e w2 ⟨vT, rfl, hT, hb2⟩
  have hB2 : Below w1.heap.size w1 w2 := Below.trans (by repeat (first | with_reducible exact Below.refl _ _ | with_reducible refine Below.drew ?_ | with_reducible refine Below.setCell ?_ (by first | omega | (simp <;> omega)) _ | with_reducible refine Below.alloc ?_ (by first | omega | (simp <;> omega)) _)) (hb2.mono (by first | exact Nat.le_refl _ | (simp; done) | (simp; omega)))
  have z2 := hB2.size
  replace HB := Lib.hid (HB.out.trans (hB2.mono HB.out.size))
  replace HM := Lib.hid (HM.out.below hB2 (fun _ h => h))
  obtain ⟨ad_hT, cap_hT, rfl, -, -⟩ := hT.form
  have HT := Lib.hid (hT.mono (G' := fun _ => True) (fun _ _ => trivial))
  clear hb2 hB2 hT
  replace HM := Lib.hid ((HM.out.low (by decide)).mono (G' := fun b => b ≠ w2.heap.size) (fun b hb => by have := hb.2; omega))
  replace HT := Lib.hid ((HT.out.low (by decide)).mono (G' := fun b => b ≠ w2.heap.size) (fun b hb => by have := hb.2; omega))
  generalize recsL l = ms at *
  obtain ⟨T, hTe⟩ : ∃ T, T = tapeB ms := ⟨_, rfl⟩
  rw [← hTe] at HT hT72 ⊢
  clear hTe
  obtain ⟨p1, p2⟩ := pickedZ_range n 900 (by omega)
  obtain ⟨q, hq⟩ : ∃ q : Int, pickedZ n 900 = q := ⟨_, rfl⟩
  rw [hq] at p1 p2
  have HQ := Lib.hid hq
  obtain ⟨s1, s2⟩ := pickedZ_range a ((T.length : Int) + 1) (by omega)
  obtain ⟨s, hs⟩ : ∃ s : Int, pickedZ a ((T.length : Int) + 1) = s := ⟨_, rfl⟩
  rw [hs] at s1 s2
  have HSS := Lib.hid hs
  clear hq hs
  obtain ⟨N, hN⟩ : ∃ N : Nat, (N : Int) = s + min q ((T.length : Int) - s) := ⟨(s + min q ((T.length : Int) - s)).toNat, by omega⟩
  have HN := Lib.hid hN
  have hNT : N ≤ T.length := by omega
  have hcapT := HT.out.len.2.1
  have iN : (N : Int) ≤ (cap_hT : Int) := by omega
  have iN0 : (0 : Int) ≤ (N : Int) := by omega
  have hNl : (T.take N).length = N := by rw [List.length_take]; omega
  have HNL := Lib.hid hNl
  clear hN hNl
  go_upto_region 3 with (go_at_call 19; refine (picked_any n 900 _ n1 n2 (by omega) (by omega)).mono ?_; rintro e w' ⟨rfl, rfl⟩; rw [HQ.out])
  obtain ⟨wb, hwb⟩ : ∃ wb, wb = (w2.alloc (.cells #[.slice ad_hT T.length cap_hT, .int .i64 0] 50)) := ⟨_, rfl⟩
  have hBw : Below w2.heap.size w2 wb := by rw [hwb]; exact (by repeat (first | with_reducible exact Below.refl _ _ | with_reducible refine Below.drew ?_ | with_reducible refine Below.setCell ?_ (by first | omega | (simp <;> omega)) _ | with_reducible refine Below.alloc ?_ (by first | omega | (simp <;> omega)) _))
  have BT := Lib.hid (show BoxAt wb (w2.heap.size) [.slice ad_hT T.length cap_hT, .int .i64 0] 50 by rw [hwb]; exact (by repeat (first | with_reducible exact BoxAt.newAt _ _ _ (by first | rfl | simp) | with_reducible refine BoxAt.drew ?_ | with_reducible refine BoxAt.alloc ?_ _ | with_reducible refine BoxAt.setOther ?_ (by first | omega | (simp <;> omega)) _)))
  rw [← hwb]
  have zwb := hBw.size
  clear hwb
  replace HB := Lib.hid (HB.out.trans (hBw.mono HB.out.size))
  replace HM := Lib.hid (HM.out.below hBw (fun _ h => h))
  replace HT := Lib.hid (HT.out.below hBw (fun _ h => h))
  clear hBw
  have zlBT := BT.out.lt
  have t0 := BT.out.cell 0 rfl
  have t1 := BT.out.cell 1 rfl
  have zBT := BT.out.lt
  have fBT0 := BT.out.free 0
  have fBT1 := BT.out.free 1
  go_upto_region 4 with (go_at_call 19; refine (picked_any a ((T.length : Int) + 1) _ a1 a2 (by omega) (by omega)).mono ?_; rintro e w' ⟨rfl, rfl⟩; rw [HSS.out])
  obtain ⟨w3, hw3⟩ : ∃ w3, w3 = (wb.setCell ⟨w2.heap.size, 1, none⟩ (.int .i64 s)) := ⟨_, rfl⟩
  have hK3 : Keep (fun b => b ≠ w2.heap.size) wb w3 := by rw [hw3]; exact (Keep.setCell (p := ⟨w2.heap.size, 1, none⟩) (by simp) _)
  have zza3 : w3.heap.size ≤ wb.heap.size := by rw [hw3]; simp [World.setCell]
  have zzb3 : wb.heap.size ≤ w3.heap.size := by rw [hw3]; simp [World.setCell]
  have hbx3 := (BT.out.set 1 (.int .i64 s))
  rw [← hw3] at hbx3
  replace BT := Lib.hid hbx3
  have hq := (HB.out.setCell (p := ⟨w2.heap.size, 1, none⟩) (by first | omega | (simp <;> omega)) (.int .i64 s))
  rw [← hw3] at hq
  replace HB := Lib.hid hq
  clear hq
  replace HM := Lib.hid (HM.out.keep hK3 (fun _ h => h))
  replace HT := Lib.hid (HT.out.keep hK3 (fun _ h => h))
  rw [← hw3]
  clear t0 t1 zBT fBT0 fBT1
  clear hw3 hK3 hbx3
  have t0 := BT.out.cell 0 rfl
  have t1 := BT.out.cell 1 rfl
  have zBT := BT.out.lt
  go_wp2_with fail
  refine (tcrash_rd _ T s q N _ (HT.out.below (by repeat (first | with_reducible exact Below.refl _ _ | with_reducible refine Below.drew ?_ | with_reducible refine Below.setCell ?_ (by first | omega | (simp <;> omega)) _ | with_reducible refine Below.alloc ?_ (by first | omega | (simp <;> omega)) _)) (fun _ h => h)) (tapeOk_at (by omega) (by omega) (by omega)) p1 (by omega) HN.out).mono ?_
  rintro e w4 ⟨vc, rfl, hc, hb4⟩
  have hB4 : Below w3.heap.size w3 w4 := Below.trans (by repeat (first | with_reducible exact Below.refl _ _ | with_reducible refine Below.drew ?_ | with_reducible refine Below.setCell ?_ (by first | omega | (simp <;> omega)) _ | with_reducible refine Below.alloc ?_ (by first | omega | (simp <;> omega)) _)) (hb4.mono (by first | exact Nat.le_refl _ | (simp; done) | (simp; omega)))
  have z4 := hB4.size
  replace HB := Lib.hid (HB.out.trans (hB4.mono HB.out.size))
  replace HM := Lib.hid (HM.out.below hB4 (fun _ h => h))
  replace HT := Lib.hid (HT.out.below hB4 (fun _ h => h))
  replace BT := Lib.hid (BT.out.belowS hB4)
  clear t0 t1 zBT
  have hcf := hc.form
  rw [HNL.out] at hcf
  obtain ⟨ad_hc, cap_hc, rfl, -, -⟩ := hcf
  have HC := Lib.hid (hc.mono (G' := fun b => b ≠ w2.heap.size) (fun b hb => by first | omega | (simp at hb; omega)))
  clear hb4 hB4 hc
  have t0 := BT.out.cell 0 rfl
  have t1 := BT.out.cell 1 rfl
  have zBT := BT.out.lt
  go_upto_region 5 with fail
  obtain ⟨wu, hwb⟩ : ∃ wu, wu = (w4.alloc (.cells #[.slice ad_hc N cap_hc, .int .i64 (N : Int)] 50)) := ⟨_, rfl⟩
  have hBw : Below w4.heap.size w4 wu := by rw [hwb]; exact (by repeat (first | with_reducible exact Below.refl _ _ | with_reducible refine Below.drew ?_ | with_reducible refine Below.setCell ?_ (by first | omega | (simp <;> omega)) _ | with_reducible refine Below.alloc ?_ (by first | omega | (simp <;> omega)) _))
  have BU := Lib.hid (show BoxAt wu (w4.heap.size) [.slice ad_hc N cap_hc, .int .i64 (N : Int)] 50 by rw [hwb]; exact (by repeat (first | with_reducible exact BoxAt.newAt _ _ _ (by first | rfl | simp) | with_reducible refine BoxAt.drew ?_ | with_reducible refine BoxAt.alloc ?_ _ | with_reducible refine BoxAt.setOther ?_ (by first | omega | (simp <;> omega)) _)))
  rw [← hwb]
  have zwu := hBw.size
  clear hwb
  replace HB := Lib.hid (HB.out.trans (hBw.mono HB.out.size))
  replace HM := Lib.hid (HM.out.below hBw (fun _ h => h))
  replace HT := Lib.hid (HT.out.below hBw (fun _ h => h))
  replace BT := Lib.hid (BT.out.belowS hBw)
  replace HC := Lib.hid (HC.out.below hBw (fun _ h => h))
  clear hBw
  have zlBU := BU.out.lt
  clear t0 t1 zBT
  have t0 := BT.out.cell 0 rfl
  have t1 := BT.out.cell 1 rfl
  have zBT := BT.out.lt
  have wsq : IntKind.i64.wrap (s + q) = s + q := IntWalk.i64_in _ (by omega)
  go_cut [12] (fun u wx => u = .int .i64 (N : Int) ∧ wu = wx)
  case first =>
    have hN := HN.out
    go_wp2
    all_goals (go_meet; exact ⟨by congr 1; omega, rfl⟩)
  case rest =>
    obtain ⟨rfl, rfl⟩ := hcut
    clear t0 t1 zBT
    clear wsq
    have t0 := BT.out.cell 0 rfl
    have t1 := BT.out.cell 1 rfl
    have zBT := BT.out.lt
    have wq : IntKind.i64.wrap (-1 - q) = -1 - q := IntWalk.i64_in _ (by omega)
    go_wp2_with fail
    refine (tcrash_neg _ T s (-1 - q) _ (HT.out.below (by repeat (first | with_reducible exact Below.refl _ _ | with_reducible refine Below.drew ?_ | with_reducible refine Below.setCell ?_ (by first | omega | (simp <;> omega)) _ | with_reducible refine Below.alloc ?_ (by first | omega | (simp <;> omega)) _)) (fun _ h => h)) (tapeOk_at (by omega) (by omega) (by omega)) (by omega)).mono ?_
    rintro e w5 ⟨rfl, hb5⟩
    have hB5 : Below wu.heap.size wu w5 := Below.trans (by repeat (first | with_reducible exact Below.refl _ _ | with_reducible refine Below.drew ?_ | with_reducible refine Below.setCell ?_ (by first | omega | (simp <;> omega)) _ | with_reducible refine Below.alloc ?_ (by first | omega | (simp <;> omega)) _)) (hb5.mono (by first | exact Nat.le_refl _ | (simp; done) | (simp; omega)))
    have z5 := hB5.size
    replace HB := Lib.hid (HB.out.trans (hB5.mono HB.out.size))
    replace HM := Lib.hid (HM.out.below hB5 (fun _ h => h))
    replace HT := Lib.hid (HT.out.below hB5 (fun _ h => h))
    replace BT := Lib.hid (BT.out.belowS hB5)
    replace HC := Lib.hid (HC.out.below hB5 (fun _ h => h))
    replace BU := Lib.hid (BU.out.belowS hB5)
    clear t0 t1 zBT
    clear hb5 hB5
    clear wq
    go_upto_region 7 with fail
    obtain ⟨wz, hwb⟩ : ∃ wz, wz = (w5.alloc (.cells #[.slice none 0 0, .int .i64 0] 50)) := ⟨_, rfl⟩
    have hBw : Below w5.heap.size w5 wz := by rw [hwb]; exact (by repeat (first | with_reducible exact Below.refl _ _ | with_reducible refine Below.drew ?_ | with_reducible refine Below.setCell ?_ (by first | omega | (simp <;> omega)) _ | with_reducible refine Below.alloc ?_ (by first | omega | (simp <;> omega)) _))
    have BZ := Lib.hid (show BoxAt wz (w5.heap.size) [.slice none 0 0, .int .i64 0] 50 by rw [hwb]; exact (by repeat (first | with_reducible exact BoxAt.newAt _ _ _ (by first | rfl | simp) | with_reducible refine BoxAt.drew ?_ | with_reducible refine BoxAt.alloc ?_ _ | with_reducible refine BoxAt.setOther ?_ (by first | omega | (simp <;> omega)) _)))
    rw [← hwb]
    have zwz := hBw.size
    clear hwb
    replace HB := Lib.hid (HB.out.trans (hBw.mono HB.out.size))
    replace HM := Lib.hid (HM.out.below hBw (fun _ h => h))
    replace HT := Lib.hid (HT.out.below hBw (fun _ h => h))
    replace BT := Lib.hid (BT.out.belowS hBw)
    replace HC := Lib.hid (HC.out.below hBw (fun _ h => h))
    replace BU := Lib.hid (BU.out.belowS hBw)
    clear hBw
    have zlBZ := BZ.out.lt
    refine wp_region_held_drew (S := fun w' => Below wz.heap.size wz w') (by kernel_rfl) (by exact (Below.refl _ _).drew) (fun hHeld => ?_)
    refine wpAnyH_take (i := 0) (v := .bool true) rfl (by kernel_rfl) (by kernel_rfl) (by kernel_rfl) (fun _ _ _ h => h) (Or.inl ⟨by rfl, fun w hSw => ?_⟩) hHeld ?_
    · clear hSw; go_simp; all_goals (try first | rfl | omega)
    try simp only [Act.put, List.getElem_toArray, List.getElem_cons_succ, List.getElem_cons_zero, List.setIfInBounds_toArray, List.set_cons_zero, List.set_cons_succ]
    refine wpAnyH_take (i := 1) (v := .bool true) rfl (by kernel_rfl) (by kernel_rfl) (by kernel_rfl) (fun _ _ _ h => h) (Or.inl ⟨by rfl, fun w hSw => ?_⟩) hHeld ?_
    · clear hSw; go_simp; all_goals (try first | rfl | omega)
    try simp only [Act.put, List.getElem_toArray, List.getElem_cons_succ, List.getElem_cons_zero, List.setIfInBounds_toArray, List.set_cons_zero, List.set_cons_succ]
    refine wpAnyH_take (i := 2) (v := .int .i64 0) rfl (by kernel_rfl) (by kernel_rfl) (by kernel_rfl) (fun _ _ _ h => h) (Or.inl ⟨by rfl, fun w hSw => ?_⟩) hHeld ?_
    · clear hSw; go_simp; all_goals (try first | rfl | omega)
    try simp only [Act.put, List.getElem_toArray, List.getElem_cons_succ, List.getElem_cons_zero, List.setIfInBounds_toArray, List.set_cons_zero, List.set_cons_succ]
    refine wpAnyH_take (i := 3) (v := .bool true) rfl (by kernel_rfl) (by kernel_rfl) (by kernel_rfl) (fun _ _ _ h => h) (Or.inl ⟨by rfl, fun w hSw => ?_⟩) hHeld ?_
    · clear hSw; go_simp; all_goals (try first | rfl | omega)
    try simp only [Act.put, List.getElem_toArray, List.getElem_cons_succ, List.getElem_cons_zero, List.setIfInBounds_toArray, List.set_cons_zero, List.set_cons_succ]
    refine wpAnyH_take (i := 4) (v := .bool true) rfl (by kernel_rfl) (by kernel_rfl) (by kernel_rfl) (fun _ _ _ h => h) (Or.inl ⟨by rfl, fun w hSw => ?_⟩) hHeld ?_
    · clear hSw; go_simp; all_goals (try first | rfl | omega)
    try simp only [Act.put, List.getElem_toArray, List.getElem_cons_succ, List.getElem_cons_zero, List.setIfInBounds_toArray, List.set_cons_zero, List.set_cons_succ]
    refine wpAnyH_take (i := 5) (v := .bool true) rfl (by kernel_rfl) (by kernel_rfl) (by kernel_rfl) (fun _ _ _ h => h) (Or.inl ⟨by rfl, fun w hSw => ?_⟩) hHeld ?_
    · clear hSw; go_simp; all_goals (try first | rfl | omega)
    try simp only [Act.put, List.getElem_toArray, List.getElem_cons_succ, List.getElem_cons_zero, List.setIfInBounds_toArray, List.set_cons_zero, List.set_cons_succ]
    refine wpAnyH_take (i := 6) (v := .int .i64 2) rfl (by kernel_rfl) (by kernel_rfl) (by kernel_rfl) (fun _ _ _ h => h) (Or.inl ⟨by rfl, fun w hSw => ?_⟩) hHeld ?_
    · clear hSw; go_simp; all_goals (try first | rfl | omega)
    try simp only [Act.put, List.getElem_toArray, List.getElem_cons_succ, List.getElem_cons_zero, List.setIfInBounds_toArray, List.set_cons_zero, List.set_cons_succ]
    refine wpAnyH_take (i := 7) (v := .bool true) rfl (by kernel_rfl) (by kernel_rfl) (by kernel_rfl) (fun _ _ _ h => h) (Or.inl ⟨by rfl, fun w hSw => ?_⟩) hHeld ?_
    · clear hSw; go_simp; all_goals (try first | rfl | omega)
    try simp only [Act.put, List.getElem_toArray, List.getElem_cons_succ, List.getElem_cons_zero, List.setIfInBounds_toArray, List.set_cons_zero, List.set_cons_succ]
    refine wpAnyH_take (i := 8) (v := .bool true) rfl (by kernel_rfl) (by kernel_rfl) (by kernel_rfl) (fun _ _ _ h => h) (Or.inl ⟨by rfl, fun w hSw => ?_⟩) hHeld ?_
    · clear hSw; go_simp; all_goals (try first | rfl | omega)
    try simp only [Act.put, List.getElem_toArray, List.getElem_cons_succ, List.getElem_cons_zero, List.setIfInBounds_toArray, List.set_cons_zero, List.set_cons_succ]
    refine wpAnyH_take (i := 9) (v := .bool true) rfl (by kernel_rfl) (by kernel_rfl) (by kernel_rfl) (fun _ _ _ h => h) (Or.inl ⟨by rfl, fun w hSw => ?_⟩) hHeld ?_
    · clear hSw; go_simp; all_goals (try first | rfl | omega)
    try simp only [Act.put, List.getElem_toArray, List.getElem_cons_succ, List.getElem_cons_zero, List.setIfInBounds_toArray, List.set_cons_zero, List.set_cons_succ]
    refine wpAnyH_take (i := 10) (v := .pointer (some ⟨w4.heap.size, 0, none⟩)) rfl (by kernel_rfl) (by kernel_rfl) (by kernel_rfl) (fun _ _ _ h => h) (Or.inl ⟨by rfl, fun w hSw => ?_⟩) hHeld ?_
    · clear hSw; go_simp; all_goals (try first | rfl | omega)
    try simp only [Act.put, List.getElem_toArray, List.getElem_cons_succ, List.getElem_cons_zero, List.setIfInBounds_toArray, List.set_cons_zero, List.set_cons_succ]
    refine wpAnyH_take (i := 11) (v := .slice ad_hc N cap_hc) rfl (by kernel_rfl) (by kernel_rfl) (by kernel_rfl) (fun _ _ _ h => h) (Or.inl ⟨by rfl, fun w hSw => ?_⟩) hHeld ?_
    · have qb := BU.out.belowS hSw; have q0 := qb.cell 0 rfl; clear hSw qb; go_simp
    try simp only [Act.put, List.getElem_toArray, List.getElem_cons_succ, List.getElem_cons_zero, List.setIfInBounds_toArray, List.set_cons_zero, List.set_cons_succ]
    refine wpAnyH_take (i := 12) (v := .int .i64 (N : Int)) rfl (by kernel_rfl) (by kernel_rfl) (by kernel_rfl) (fun _ _ _ h => h) (Or.inl ⟨by rfl, fun w hSw => ?_⟩) hHeld ?_
    · clear hSw; go_simp; all_goals (try first | rfl | omega)
    try simp only [Act.put, List.getElem_toArray, List.getElem_cons_succ, List.getElem_cons_zero, List.setIfInBounds_toArray, List.set_cons_zero, List.set_cons_succ]
    refine wpAnyH_take (i := 13) (v := .int .i64 (N : Int)) rfl (by kernel_rfl) (by kernel_rfl) (by kernel_rfl) (fun _ _ _ h => h) (Or.inl ⟨by rfl, fun w hSw => ?_⟩) hHeld ?_
    · clear hSw; go_simp; all_goals (try first | rfl | omega)
    try simp only [Act.put, List.getElem_toArray, List.getElem_cons_succ, List.getElem_cons_zero, List.setIfInBounds_toArray, List.set_cons_zero, List.set_cons_succ]
    refine wpAnyH_take (i := 14) (v := .bool true) rfl (by kernel_rfl) (by kernel_rfl) (by kernel_rfl) (fun _ _ _ h => h) (Or.inl ⟨by rfl, fun w hSw => ?_⟩) hHeld ?_
    · clear hSw; go_simp; all_goals (try first | rfl | omega)
    try simp only [Act.put, List.getElem_toArray, List.getElem_cons_succ, List.getElem_cons_zero, List.setIfInBounds_toArray, List.set_cons_zero, List.set_cons_succ]
    refine wpAnyH_take (i := 15) (v := .bool true) rfl (by kernel_rfl) (by kernel_rfl) (by kernel_rfl) (fun _ _ _ h => h) (Or.inl ⟨by rfl, fun w hSw => ?_⟩) hHeld ?_
    · clear hSw; go_simp; all_goals (try first | rfl | omega)
    try simp only [Act.put, List.getElem_toArray, List.getElem_cons_succ, List.getElem_cons_zero, List.setIfInBounds_toArray, List.set_cons_zero, List.set_cons_succ]
    refine wpAnyH_take (i := 16) (v := .bool true) rfl (by kernel_rfl) (by kernel_rfl) (by kernel_rfl) (fun _ _ _ h => h) (Or.inl ⟨by rfl, fun w hSw => ?_⟩) hHeld ?_
    · clear hSw; go_simp; all_goals (try first | rfl | omega)
    try simp only [Act.put, List.getElem_toArray, List.getElem_cons_succ, List.getElem_cons_zero, List.setIfInBounds_toArray, List.set_cons_zero, List.set_cons_succ]
    refine wpAnyH_take (i := 17) (v := .pointer (some ⟨w4.heap.size, 1, none⟩)) rfl (by kernel_rfl) (by kernel_rfl) (by kernel_rfl) (fun _ _ _ h => h) (Or.inl ⟨by rfl, fun w hSw => ?_⟩) hHeld ?_
    · clear hSw; go_simp; all_goals (try first | rfl | omega)
    try simp only [Act.put, List.getElem_toArray, List.getElem_cons_succ, List.getElem_cons_zero, List.setIfInBounds_toArray, List.set_cons_zero, List.set_cons_succ]
    refine wpAnyH_take (i := 18) (v := .int .i64 (N : Int)) rfl (by kernel_rfl) (by kernel_rfl) (by kernel_rfl) (fun _ _ _ h => h) (Or.inl ⟨by rfl, fun w hSw => ?_⟩) hHeld ?_
    · have qb := BU.out.belowS hSw; have q0 := qb.cell 1 rfl; clear hSw qb; go_simp
    try simp only [Act.put, List.getElem_toArray, List.getElem_cons_succ, List.getElem_cons_zero, List.setIfInBounds_toArray, List.set_cons_zero, List.set_cons_succ]
    refine wpAnyH_take (i := 19) (v := .int .i64 (N : Int)) rfl (by kernel_rfl) (by kernel_rfl) (by kernel_rfl) (fun _ _ _ h => h) (Or.inl ⟨by rfl, fun w hSw => ?_⟩) hHeld ?_
    · clear hSw; go_simp; all_goals (try first | rfl | omega)
    try simp only [Act.put, List.getElem_toArray, List.getElem_cons_succ, List.getElem_cons_zero, List.setIfInBounds_toArray, List.set_cons_zero, List.set_cons_succ]
    refine wpAnyH_take (i := 20) (v := .bool true) rfl (by kernel_rfl) (by kernel_rfl) (by kernel_rfl) (fun _ _ _ h => h) (Or.inl ⟨by rfl, fun w hSw => ?_⟩) hHeld ?_
    · clear hSw; go_simp; all_goals (try first | rfl | omega)
    try simp only [Act.put, List.getElem_toArray, List.getElem_cons_succ, List.getElem_cons_zero, List.setIfInBounds_toArray, List.set_cons_zero, List.set_cons_succ]
    refine wpAnyH_take (i := 21) (v := .bool true) rfl (by kernel_rfl) (by kernel_rfl) (by kernel_rfl) (fun _ _ _ h => h) (Or.inl ⟨by rfl, fun w hSw => ?_⟩) hHeld ?_
    · clear hSw; go_simp; all_goals (try first | rfl | omega)
    try simp only [Act.put, List.getElem_toArray, List.getElem_cons_succ, List.getElem_cons_zero, List.setIfInBounds_toArray, List.set_cons_zero, List.set_cons_succ]
    refine wpAnyH_take (i := 22) (v := .bool true) rfl (by kernel_rfl) (by kernel_rfl) (by kernel_rfl) (fun _ _ _ h => h) (Or.inl ⟨by rfl, fun w hSw => ?_⟩) hHeld ?_
    · clear hSw; go_simp; all_goals (try first | rfl | omega)
    try simp only [Act.put, List.getElem_toArray, List.getElem_cons_succ, List.getElem_cons_zero, List.setIfInBounds_toArray, List.set_cons_zero, List.set_cons_succ]
    refine wpAnyH_take (i := 23) (v := .pointer (some ⟨w4.heap.size, 0, none⟩)) rfl (by kernel_rfl) (by kernel_rfl) (by kernel_rfl) (fun _ _ _ h => h) (Or.inl ⟨by rfl, fun w hSw => ?_⟩) hHeld ?_
    · clear hSw; go_simp; all_goals (try first | rfl | omega)
    try simp only [Act.put, List.getElem_toArray, List.getElem_cons_succ, List.getElem_cons_zero, List.setIfInBounds_toArray, List.set_cons_zero, List.set_cons_succ]
    refine wpAnyH_take (i := 24) (v := .slice ad_hc N cap_hc) rfl (by kernel_rfl) (by kernel_rfl) (by kernel_rfl) (fun _ _ _ h => h) (Or.inl ⟨by rfl, fun w hSw => ?_⟩) hHeld ?_
    · have qb := BU.out.belowS hSw; have q0 := qb.cell 0 rfl; clear hSw qb; go_simp
    try simp only [Act.put, List.getElem_toArray, List.getElem_cons_succ, List.getElem_cons_zero, List.setIfInBounds_toArray, List.set_cons_zero, List.set_cons_succ]
    refine wpAnyH_take (i := 25) (v := .pointer (some ⟨w2.heap.size, 0, none⟩)) rfl (by kernel_rfl) (by kernel_rfl) (by kernel_rfl) (fun _ _ _ h => h) (Or.inl ⟨by rfl, fun w hSw => ?_⟩) hHeld ?_
    · clear hSw; go_simp; all_goals (try first | rfl | omega)
    try simp only [Act.put, List.getElem_toArray, List.getElem_cons_succ, List.getElem_cons_zero, List.setIfInBounds_toArray, List.set_cons_zero, List.set_cons_succ]
    refine wpAnyH_take (i := 26) (v := .slice ad_hT T.length cap_hT) rfl (by kernel_rfl) (by kernel_rfl) (by kernel_rfl) (fun _ _ _ h => h) (Or.inl ⟨by rfl, fun w hSw => ?_⟩) hHeld ?_
    · have qb := BT.out.belowS hSw; have q0 := qb.cell 0 rfl; clear hSw qb; go_simp
    try simp only [Act.put, List.getElem_toArray, List.getElem_cons_succ, List.getElem_cons_zero, List.setIfInBounds_toArray, List.set_cons_zero, List.set_cons_succ]
    refine wpAnyH_take (i := 27) (v := .int .i64 (N : Int)) rfl (by kernel_rfl) (by kernel_rfl) (by kernel_rfl) (fun _ _ _ h => h) (Or.inl ⟨by rfl, fun w hSw => ?_⟩) hHeld ?_
    · clear hSw; go_simp; all_goals (try first | rfl | omega)
    try simp only [Act.put, List.getElem_toArray, List.getElem_cons_succ, List.getElem_cons_zero, List.setIfInBounds_toArray, List.set_cons_zero, List.set_cons_succ]
    refine wpAnyH_take (i := 28) (v := .slice ad_hT N cap_hT) rfl (by kernel_rfl) (by kernel_rfl) (by kernel_rfl) (fun _ _ _ h => h) (Or.inl ⟨by rfl, fun w hSw => ?_⟩) hHeld ?_
    · clear hSw; go_simp; all_goals (try first | rfl | omega)
    try simp only [Act.put, List.getElem_toArray, List.getElem_cons_succ, List.getElem_cons_zero, List.setIfInBounds_toArray, List.set_cons_zero, List.set_cons_succ]
    refine wpAnyH_ready (rs := [29]) (by kernel_rfl) (by simp) ?_
    refine AllReadyH.cons rfl (fun K hK => ?_) ?_
    · rw [if_pos (by rfl)]
      go_simp
      go_at_call 17
      refine (same_any (l := T.take N) (m := T.take N) _ _ _ (HC.out.below hHeld (fun _ h => h)) ((HT.out.below hHeld (fun _ h => h)).take N hNT)).mono ?_
      rintro e w' ⟨rfl, rfl⟩
      rw [decide_eq_true (rfl : T.take N = T.take N)]
      show K _ _
      refine hK.out _ _ (by exact hHeld) (fun hHeld => ?_)
      clear hK K
      try simp only [Act.put, List.getElem_toArray, List.getElem_cons_succ, List.getElem_cons_zero, List.setIfInBounds_toArray, List.set_cons_zero, List.set_cons_succ]
      refine wpAnyH_take (i := 30) (v := .bool true) rfl (by kernel_rfl) (by kernel_rfl) (by kernel_rfl) (fun _ _ _ h => h) (Or.inl ⟨by rfl, fun w hSw => ?_⟩) hHeld ?_
      · clear hSw; go_simp; all_goals (try first | rfl | omega)
      try simp only [Act.put, List.getElem_toArray, List.getElem_cons_succ, List.getElem_cons_zero, List.setIfInBounds_toArray, List.set_cons_zero, List.set_cons_succ]
      refine wpAnyH_take (i := 31) (v := .bool true) rfl (by kernel_rfl) (by kernel_rfl) (by kernel_rfl) (fun _ _ _ h => h) (Or.inl ⟨by rfl, fun w hSw => ?_⟩) hHeld ?_
      · clear hSw; go_simp; all_goals (try first | rfl | omega)
      try simp only [Act.put, List.getElem_toArray, List.getElem_cons_succ, List.getElem_cons_zero, List.setIfInBounds_toArray, List.set_cons_zero, List.set_cons_succ]
      refine wpAnyH_done (by kernel_rfl) ?_ _
      go_wp2
      go_ret
      exact ⟨rfl, HB.out.drew⟩
    exact AllReadyH.nil
end Go.Proofs.Ytegdpjoncjmdeaa
