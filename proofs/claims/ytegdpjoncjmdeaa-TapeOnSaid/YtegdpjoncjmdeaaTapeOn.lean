/- TapeOn: the walk. -/
import Derived.Test.YtegdpjoncjmdeaaRawM
import Derived.Test.YtegdpjoncjmdeaaTapeP
set_option linter.unusedVariables false
set_option linter.unusedSimpArgs false
attribute [local go_sem ↓] Go.wp_at_zero Go.wp_at_succ
namespace Go.Proofs.Ytegdpjoncjmdeaa
open Go Go.RowKit

set_option maxRecDepth 100000 in
set_option maxHeartbeats 8000000 in
theorem tapeOn_walk (v : Value) (l : List RawD) (n : Int) (vt : Value) (r : RawD) (w : World) (hv : RdS RRaw (fun _ => True) w v l) (n1 : -9223372036854775808 ≤ n) (n2 : n ≤ 9223372036854775807) (hr : RawOk (fun _ => True) w vt r) :
    Calls Try.prog 12 #[v, .int .i64 n, .agg #[.int .i64 r.k, .int .i64 r.a, .int .i64 r.b, .int .i64 r.c, vt]] w fun e w' => e = .returned (.bool true) ∧ Below w.heap.size w w' := by
  have HB := Lib.hid (Below.refl w.heap.size w)
  have HR := Lib.hid hr
  have HV := Lib.hid (hv)
  obtain ⟨adv, capv, rfl, -, -⟩ := hv.form
  obtain ⟨hok, hm24, hT72⟩ := recs_parts l
  have HOK := Lib.hid hok
  have hms : (recsL l).length ≤ 1000 := by omega
  have HTP := Lib.hid (fun k hk => torn_parts hok k hk)
  obtain ⟨adt, capt, rfl, -, -⟩ := hr.2.2.2.2.1.form
  have HRE := Lib.hid (recM_ok r)
  clear hv hok hr
  go_enter Try.func12, Try.ntmps12
  go_wp2_with fail
  refine (records_any _ _ (HV.out.below (by repeat (first | with_reducible exact Below.refl _ _ | with_reducible refine Below.drew ?_ | with_reducible refine Below.setCell ?_ (by first | omega | (simp <;> omega)) _ | with_reducible refine Below.alloc ?_ (by first | omega | (simp <;> omega)) _)) (fun _ h => h))).mono ?_
  rintro e w1 ⟨v1, rfl, h1, hb1⟩
  have hB1 : Below w.heap.size w w1 := Below.trans (by repeat (first | with_reducible exact Below.refl _ _ | with_reducible refine Below.drew ?_ | with_reducible refine Below.setCell ?_ (by first | omega | (simp <;> omega)) _ | with_reducible refine Below.alloc ?_ (by first | omega | (simp <;> omega)) _)) (hb1.mono (by first | exact Nat.le_refl _ | (simp; done) | (simp; omega)))
  have z1 := hB1.size
  have BR := Lib.hid (BoxAt.belowS (show BoxAt _ (w.heap.size) [.int .i64 r.k, .int .i64 r.a, .int .i64 r.b, .int .i64 r.c, .slice adt r.txs.length capt] 44 from (by repeat (first | with_reducible exact BoxAt.newAt _ _ _ (by first | rfl | simp) | with_reducible refine BoxAt.drew ?_ | with_reducible refine BoxAt.alloc ?_ _ | with_reducible refine BoxAt.setOther ?_ (by first | omega | (simp <;> omega)) _))) hb1)
  replace HB := Lib.hid (HB.out.trans (hB1.mono HB.out.size))
  replace HV := Lib.hid (HV.out.below hB1 (fun _ h => h))
  replace HR := Lib.hid (HR.out.keep (Keep.below hB1) (fun _ h => h))
  obtain ⟨ad_h1, cap_h1, rfl, -, -⟩ := h1.form
  have HM := Lib.hid (h1.mono (G' := fun _ => True) (fun _ _ => trivial))
  clear hb1 hB1 h1
  clear HV
  go_wp2_with fail
  refine (taped_any _ _ (HM.out.below (by repeat (first | with_reducible exact Below.refl _ _ | with_reducible refine Below.drew ?_ | with_reducible refine Below.setCell ?_ (by first | omega | (simp <;> omega)) _ | with_reducible refine Below.alloc ?_ (by first | omega | (simp <;> omega)) _)) (fun _ h => h)) HOK.out hms).mono ?_
  rintro e w2 ⟨vT, rfl, hT, hb2⟩
  have hB2 : Below w1.heap.size w1 w2 := Below.trans (by repeat (first | with_reducible exact Below.refl _ _ | with_reducible refine Below.drew ?_ | with_reducible refine Below.setCell ?_ (by first | omega | (simp <;> omega)) _ | with_reducible refine Below.alloc ?_ (by first | omega | (simp <;> omega)) _)) (hb2.mono (by first | exact Nat.le_refl _ | (simp; done) | (simp; omega)))
  have z2 := hB2.size
  replace HB := Lib.hid (HB.out.trans (hB2.mono HB.out.size))
  replace HR := Lib.hid (HR.out.keep (Keep.below hB2) (fun _ h => h))
  replace BR := Lib.hid (BR.out.belowS hB2)
  replace HM := Lib.hid (HM.out.below hB2 (fun _ h => h))
  obtain ⟨ad_hT, cap_hT, rfl, -, -⟩ := hT.form
  have HT := Lib.hid (hT.mono (G' := fun _ => True) (fun _ _ => trivial))
  clear hb2 hB2 hT
  replace HR := Lib.hid (HR.out.low.keep (G' := fun b => b ≠ w2.heap.size) (Keep.refl _ _) (fun b hb => by have := hb.2; omega))
  replace HM := Lib.hid ((HM.out.low (by decide)).mono (G' := fun b => b ≠ w2.heap.size) (fun b hb => by have := hb.2; omega))
  replace HT := Lib.hid ((HT.out.low (by decide)).mono (G' := fun b => b ≠ w2.heap.size) (fun b hb => by have := hb.2; omega))
  generalize recsL l = ms at *
  obtain ⟨T, hTe⟩ : ∃ T, T = tapeB ms := ⟨_, rfl⟩
  rw [← hTe] at HT HTP hT72 ⊢
  clear hTe
  have zBR := BR.out.lt
  go_upto_region 2 with fail
  obtain ⟨wb, hwb⟩ : ∃ wb, wb = (w2.alloc (.cells #[.slice ad_hT T.length cap_hT, .int .i64 0] 50)) := ⟨_, rfl⟩
  have hBw : Below w2.heap.size w2 wb := by rw [hwb]; exact (by repeat (first | with_reducible exact Below.refl _ _ | with_reducible refine Below.drew ?_ | with_reducible refine Below.setCell ?_ (by first | omega | (simp <;> omega)) _ | with_reducible refine Below.alloc ?_ (by first | omega | (simp <;> omega)) _))
  have BT := Lib.hid (show BoxAt wb (w2.heap.size) [.slice ad_hT T.length cap_hT, .int .i64 0] 50 by rw [hwb]; exact (by repeat (first | with_reducible exact BoxAt.newAt _ _ _ (by first | rfl | simp) | with_reducible refine BoxAt.drew ?_ | with_reducible refine BoxAt.alloc ?_ _ | with_reducible refine BoxAt.setOther ?_ (by first | omega | (simp <;> omega)) _)))
  rw [← hwb]
  have zwb := hBw.size
  clear hwb
  replace HB := Lib.hid (HB.out.trans (hBw.mono HB.out.size))
  replace HR := Lib.hid (HR.out.keep (Keep.below hBw) (fun _ h => h))
  replace BR := Lib.hid (BR.out.belowS hBw)
  replace HM := Lib.hid (HM.out.below hBw (fun _ h => h))
  replace HT := Lib.hid (HT.out.below hBw (fun _ h => h))
  clear hBw
  have zlBT := BT.out.lt
  obtain ⟨p1, p2⟩ := pickedZ_range n 900 (by omega)
  obtain ⟨q, hq⟩ : ∃ q : Int, pickedZ n 900 = q := ⟨_, rfl⟩
  rw [hq] at p1 p2
  have HQ := Lib.hid hq
  clear hq
  obtain ⟨N, hN⟩ : ∃ N : Nat, (N : Int) = 0 + min q ((T.length : Int) - 0) := ⟨(0 + min q ((T.length : Int) - 0)).toNat, by omega⟩
  have HN := Lib.hid hN
  have hNT : N ≤ T.length := by omega
  have hNs : 0 ≤ (N : Int) := by omega
  have hNl : (T.take N).length = N := by rw [List.length_take]; omega
  have HNL := Lib.hid hNl
  clear hN hNl
  go_cut [9] (fun e wx => ∃ (ad : Option Addr) (cap : Nat), e = .int .i64 0 ∧ BoxAt wx (w2.heap.size) [.slice ad N cap, .int .i64 (N : Int)] 50 ∧ RdB (fun b => b ≠ w2.heap.size) wx (.slice ad N cap) (T.take N) ∧ Keep (fun b => b ≠ w2.heap.size) wb wx ∧ (∀ (b' : Nat) (cs : List Value) (T' : TypeId), b' ≠ w2.heap.size → b' < wb.heap.size → BoxAt wb b' cs T' → BoxAt wx b' cs T') ∧ wb.heap.size ≤ wx.heap.size ∧ Below w.heap.size w wx)
  case first =>
    refine wp_region_held_drew (S := fun _ => True) (by kernel_rfl) (by exact trivial) (fun hHeld => ?_)
    refine wpAnyH_take (i := 1) (v := .int .i64 n) rfl (by kernel_rfl) (by kernel_rfl) (by kernel_rfl) (fun _ _ _ h => h) (Or.inl ⟨by rfl, fun w hSw => ?_⟩) hHeld ?_
    · clear hSw; go_simp; all_goals (try first | rfl | omega)
    try simp only [Act.put, List.getElem_toArray, List.getElem_cons_succ, List.getElem_cons_zero, List.setIfInBounds_toArray, List.set_cons_zero, List.set_cons_succ]
    refine wpAnyH_ready (rs := [0, 2]) (by kernel_rfl) (by simp) ?_
    refine AllReadyH.cons rfl (fun K hK => ?_) ?_
    · rw [if_pos (by rfl)]
      have g0 := BT.out.cell 0 rfl
      have g1 := BT.out.cell 1 rfl
      go_simp
      show K _ _
      refine hK.out _ _ (by exact trivial) (fun hHeld => ?_)
      clear hK K
      try simp only [Act.put, List.getElem_toArray, List.getElem_cons_succ, List.getElem_cons_zero, List.setIfInBounds_toArray, List.set_cons_zero, List.set_cons_succ]
      refine wpAnyH_ready (rs := [2]) (by kernel_rfl) (by simp) ?_
      refine AllReadyH.cons rfl (fun K hK => ?_) ?_
      · rw [if_pos (by rfl)]
        go_simp
        go_at_call 19
        refine (picked_any n 900 _ n1 n2 (by omega) (by omega)).mono ?_
        rintro e w' ⟨rfl, rfl⟩
        rw [HQ.out]
        show K _ _
        refine hK.out _ _ (by exact trivial) (fun hHeld => ?_)
        clear hK K
        try simp only [Act.put, List.getElem_toArray, List.getElem_cons_succ, List.getElem_cons_zero, List.setIfInBounds_toArray, List.set_cons_zero, List.set_cons_succ]
        refine wpAnyH_ready (rs := [3]) (by kernel_rfl) (by simp) ?_
        refine AllReadyH.cons rfl (fun K hK => ?_) ?_
        · rw [if_pos (by rfl)]
          go_simp
          go_at_call 26
          refine (tcrash_rd _ T (0) q N _ (HT.out.below ((Below.refl _ _).drew) (fun _ h => h)) (tapeOk_at (by omega) (by omega) (by omega)) p1 (by omega) HN.out).mono ?_
          rintro e wC ⟨vc, rfl, hc, hb_wC⟩
          have hcf := hc.form
          rw [HNL.out] at hcf
          obtain ⟨ad_hc, cap_hc, rfl, -, -⟩ := hcf
          have zC := hb_wC.size
          have zdr : wb.drew.heap.size = wb.heap.size := rfl
          have hB_wC : Below wb.heap.size wb wC := Below.trans ((Below.refl _ _).drew) (hb_wC.mono (Nat.le_refl _))
          have HC := Lib.hid ((show RdB (fun b => wb.heap.size ≤ b ∧ b < wC.heap.size) wC _ _ from hc.low (by decide)))
          clear zdr
          have Hb_wC := Lib.hid hB_wC
          clear hb_wC hB_wC hc
          show K _ _
          refine hK.out _ _ (by exact trivial) (fun hHeld => ?_)
          clear hK K
          try simp only [Act.put, List.getElem_toArray, List.getElem_cons_succ, List.getElem_cons_zero, List.setIfInBounds_toArray, List.set_cons_zero, List.set_cons_succ]
          refine wpAnyH_take (i := 4) (v := .tuple #[.agg #[.slice ad_hc N cap_hc, .int .i64 (N : Int)], .int .i64 0]) rfl (by kernel_rfl) (by kernel_rfl) (by kernel_rfl) (fun _ _ _ h => h) (Or.inl ⟨by rfl, fun w hSw => ?_⟩) hHeld ?_
          · clear hSw; go_simp; all_goals (try first | rfl | omega)
          try simp only [Act.put, List.getElem_toArray, List.getElem_cons_succ, List.getElem_cons_zero, List.setIfInBounds_toArray, List.set_cons_zero, List.set_cons_succ]
          refine wpAnyH_take (i := 5) (v := .agg #[.slice ad_hc N cap_hc, .int .i64 (N : Int)]) rfl (by kernel_rfl) (by kernel_rfl) (by kernel_rfl) (fun _ _ _ h => h) (Or.inl ⟨by rfl, fun w hSw => ?_⟩) hHeld ?_
          · clear hSw; go_simp; all_goals (try first | rfl | omega)
          try simp only [Act.put, List.getElem_toArray, List.getElem_cons_succ, List.getElem_cons_zero, List.setIfInBounds_toArray, List.set_cons_zero, List.set_cons_succ]
          refine wpAnyH_take (i := 6) (v := .int .i64 0) rfl (by kernel_rfl) (by kernel_rfl) (by kernel_rfl) (fun _ _ _ h => h) (Or.inl ⟨by rfl, fun w hSw => ?_⟩) hHeld ?_
          · clear hSw; go_simp; all_goals (try first | rfl | omega)
          try simp only [Act.put, List.getElem_toArray, List.getElem_cons_succ, List.getElem_cons_zero, List.setIfInBounds_toArray, List.set_cons_zero, List.set_cons_succ]
          refine wpAnyH_ready (rs := [7]) (by kernel_rfl) (by simp) ?_
          refine AllReadyH.cons rfl (fun K hK => ?_) ?_
          · rw [if_pos (by rfl)]
            have hs := BT.out.belowS Hb_wC.out
            have s0 := hs.cell 0 rfl
            have s1 := hs.cell 1 rfl
            have sf0 := hs.free 0
            have sf1 := hs.free 1
            have slt := hs.lt
            have HS7 := Lib.hid hs
            clear hs
            go_simp
            show K _ _
            refine hK.out _ _ (by exact trivial) (fun hHeld => ?_)
            clear hK K
            try simp only [Act.put, List.getElem_toArray, List.getElem_cons_succ, List.getElem_cons_zero, List.setIfInBounds_toArray, List.set_cons_zero, List.set_cons_succ]
            refine wpAnyH_take (i := 8) (v := .int .i64 0) rfl (by kernel_rfl) (by kernel_rfl) (by kernel_rfl) (fun _ _ _ h => h) (Or.inl ⟨by rfl, fun w hSw => ?_⟩) hHeld ?_
            · clear hSw; go_simp; all_goals (try first | rfl | omega)
            try simp only [Act.put, List.getElem_toArray, List.getElem_cons_succ, List.getElem_cons_zero, List.setIfInBounds_toArray, List.set_cons_zero, List.set_cons_succ]
            refine wpAnyH_done (by kernel_rfl) ?_ _
            go_wp2
            go_meet
            refine ⟨ad_hc, cap_hc, rfl, HS7.out.set2 _ _, HC.out.keep ((Keep.setCell (p := ⟨w2.heap.size, 0, none⟩) (by simp; omega) _).trans (Keep.setCell (p := ⟨w2.heap.size, 1, none⟩) (by simp; omega) _)) (fun b hb => by have h1 := hb.1; omega), ((Keep.below Hb_wC.out).trans (Keep.setCell (p := ⟨w2.heap.size, 0, none⟩) (by simp) _)).trans (Keep.setCell (p := ⟨w2.heap.size, 1, none⟩) (by simp) _), fun b' cs T' hne hlt hb => ((hb.belowS Hb_wC.out).setOther (p := ⟨w2.heap.size, 0, none⟩) hne _).setOther (p := ⟨w2.heap.size, 1, none⟩) hne _, by have := Hb_wC.out.size; simp [World.setCell]; omega, ((HB.out.trans (Hb_wC.out.mono HB.out.size)).setCell (by simp; omega) _).setCell (by simp; omega) _⟩
          exact AllReadyH.nil
        exact AllReadyH.nil
      exact AllReadyH.nil
    refine AllReadyH.cons rfl (fun K hK => ?_) ?_
    · rw [if_pos (by rfl)]
      go_simp
      go_at_call 19
      refine (picked_any n 900 _ n1 n2 (by omega) (by omega)).mono ?_
      rintro e w' ⟨rfl, rfl⟩
      rw [HQ.out]
      show K _ _
      refine hK.out _ _ (by exact trivial) (fun hHeld => ?_)
      clear hK K
      try simp only [Act.put, List.getElem_toArray, List.getElem_cons_succ, List.getElem_cons_zero, List.setIfInBounds_toArray, List.set_cons_zero, List.set_cons_succ]
      refine wpAnyH_ready (rs := [0]) (by kernel_rfl) (by simp) ?_
      refine AllReadyH.cons rfl (fun K hK => ?_) ?_
      · rw [if_pos (by rfl)]
        have g0 := BT.out.cell 0 rfl
        have g1 := BT.out.cell 1 rfl
        go_simp
        show K _ _
        refine hK.out _ _ (by exact trivial) (fun hHeld => ?_)
        clear hK K
        try simp only [Act.put, List.getElem_toArray, List.getElem_cons_succ, List.getElem_cons_zero, List.setIfInBounds_toArray, List.set_cons_zero, List.set_cons_succ]
        refine wpAnyH_ready (rs := [3]) (by kernel_rfl) (by simp) ?_
        refine AllReadyH.cons rfl (fun K hK => ?_) ?_
        · rw [if_pos (by rfl)]
          go_simp
          go_at_call 26
          refine (tcrash_rd _ T (0) q N _ (HT.out.below ((Below.refl _ _).drew) (fun _ h => h)) (tapeOk_at (by omega) (by omega) (by omega)) p1 (by omega) HN.out).mono ?_
          rintro e wC ⟨vc, rfl, hc, hb_wC⟩
          have hcf := hc.form
          rw [HNL.out] at hcf
          obtain ⟨ad_hc, cap_hc, rfl, -, -⟩ := hcf
          have zC := hb_wC.size
          have zdr : wb.drew.heap.size = wb.heap.size := rfl
          have hB_wC : Below wb.heap.size wb wC := Below.trans ((Below.refl _ _).drew) (hb_wC.mono (Nat.le_refl _))
          have HC := Lib.hid ((show RdB (fun b => wb.heap.size ≤ b ∧ b < wC.heap.size) wC _ _ from hc.low (by decide)))
          clear zdr
          have Hb_wC := Lib.hid hB_wC
          clear hb_wC hB_wC hc
          show K _ _
          refine hK.out _ _ (by exact trivial) (fun hHeld => ?_)
          clear hK K
          try simp only [Act.put, List.getElem_toArray, List.getElem_cons_succ, List.getElem_cons_zero, List.setIfInBounds_toArray, List.set_cons_zero, List.set_cons_succ]
          refine wpAnyH_take (i := 4) (v := .tuple #[.agg #[.slice ad_hc N cap_hc, .int .i64 (N : Int)], .int .i64 0]) rfl (by kernel_rfl) (by kernel_rfl) (by kernel_rfl) (fun _ _ _ h => h) (Or.inl ⟨by rfl, fun w hSw => ?_⟩) hHeld ?_
          · clear hSw; go_simp; all_goals (try first | rfl | omega)
          try simp only [Act.put, List.getElem_toArray, List.getElem_cons_succ, List.getElem_cons_zero, List.setIfInBounds_toArray, List.set_cons_zero, List.set_cons_succ]
          refine wpAnyH_take (i := 5) (v := .agg #[.slice ad_hc N cap_hc, .int .i64 (N : Int)]) rfl (by kernel_rfl) (by kernel_rfl) (by kernel_rfl) (fun _ _ _ h => h) (Or.inl ⟨by rfl, fun w hSw => ?_⟩) hHeld ?_
          · clear hSw; go_simp; all_goals (try first | rfl | omega)
          try simp only [Act.put, List.getElem_toArray, List.getElem_cons_succ, List.getElem_cons_zero, List.setIfInBounds_toArray, List.set_cons_zero, List.set_cons_succ]
          refine wpAnyH_take (i := 6) (v := .int .i64 0) rfl (by kernel_rfl) (by kernel_rfl) (by kernel_rfl) (fun _ _ _ h => h) (Or.inl ⟨by rfl, fun w hSw => ?_⟩) hHeld ?_
          · clear hSw; go_simp; all_goals (try first | rfl | omega)
          try simp only [Act.put, List.getElem_toArray, List.getElem_cons_succ, List.getElem_cons_zero, List.setIfInBounds_toArray, List.set_cons_zero, List.set_cons_succ]
          refine wpAnyH_ready (rs := [7]) (by kernel_rfl) (by simp) ?_
          refine AllReadyH.cons rfl (fun K hK => ?_) ?_
          · rw [if_pos (by rfl)]
            have hs := BT.out.belowS Hb_wC.out
            have s0 := hs.cell 0 rfl
            have s1 := hs.cell 1 rfl
            have sf0 := hs.free 0
            have sf1 := hs.free 1
            have slt := hs.lt
            have HS7 := Lib.hid hs
            clear hs
            go_simp
            show K _ _
            refine hK.out _ _ (by exact trivial) (fun hHeld => ?_)
            clear hK K
            try simp only [Act.put, List.getElem_toArray, List.getElem_cons_succ, List.getElem_cons_zero, List.setIfInBounds_toArray, List.set_cons_zero, List.set_cons_succ]
            refine wpAnyH_take (i := 8) (v := .int .i64 0) rfl (by kernel_rfl) (by kernel_rfl) (by kernel_rfl) (fun _ _ _ h => h) (Or.inl ⟨by rfl, fun w hSw => ?_⟩) hHeld ?_
            · clear hSw; go_simp; all_goals (try first | rfl | omega)
            try simp only [Act.put, List.getElem_toArray, List.getElem_cons_succ, List.getElem_cons_zero, List.setIfInBounds_toArray, List.set_cons_zero, List.set_cons_succ]
            refine wpAnyH_done (by kernel_rfl) ?_ _
            go_wp2
            go_meet
            refine ⟨ad_hc, cap_hc, rfl, HS7.out.set2 _ _, HC.out.keep ((Keep.setCell (p := ⟨w2.heap.size, 0, none⟩) (by simp; omega) _).trans (Keep.setCell (p := ⟨w2.heap.size, 1, none⟩) (by simp; omega) _)) (fun b hb => by have h1 := hb.1; omega), ((Keep.below Hb_wC.out).trans (Keep.setCell (p := ⟨w2.heap.size, 0, none⟩) (by simp) _)).trans (Keep.setCell (p := ⟨w2.heap.size, 1, none⟩) (by simp) _), fun b' cs T' hne hlt hb => ((hb.belowS Hb_wC.out).setOther (p := ⟨w2.heap.size, 0, none⟩) hne _).setOther (p := ⟨w2.heap.size, 1, none⟩) hne _, by have := Hb_wC.out.size; simp [World.setCell]; omega, ((HB.out.trans (Hb_wC.out.mono HB.out.size)).setCell (by simp; omega) _).setCell (by simp; omega) _⟩
          exact AllReadyH.nil
        exact AllReadyH.nil
      exact AllReadyH.nil
    exact AllReadyH.nil
  case rest =>
    obtain ⟨ad9, cap9, rfl, hX9, hr9, hK9, hF9, hz9, hB9⟩ := hcut
    have BTn := Lib.hid hX9
    have HC := Lib.hid hr9
    replace HB := Lib.hid hB9
    replace HR := Lib.hid (HR.out.keep hK9 (fun _ h => h))
    replace BR := Lib.hid (hF9 _ _ _ (by first | omega | (have := BR.out.lt; omega)) BR.out.lt BR.out)
    replace HM := Lib.hid (HM.out.keep hK9 (fun _ h => h))
    replace HT := Lib.hid (HT.out.keep hK9 (fun _ h => h))
    clear hX9 hr9 hK9 hF9 hB9 BT
    have HN0 := Lib.hid (show min (N : Int) ((N : Nat) : Int) = (N : Int) by omega)
    obtain ⟨P, hP0, hP1, hP2, hP3, hP4, hP5, hP6, hP7, hP8, hP9⟩ := HTP.out N (by omega)
    have HP1 := Lib.hid hP1
    have HP2 := Lib.hid hP2
    have HP3 := Lib.hid hP3
    have HP5 := Lib.hid hP5
    have HP6 := Lib.hid hP6
    have HP8 := Lib.hid hP8
    have HP0 := Lib.hid hP0
    obtain ⟨Q, hQ⟩ : ∃ Q, Q = tapeB P := ⟨_, rfl⟩
    rw [← hQ] at HP2 HP3 HP5 hP4
    have HQE := Lib.hid hQ
    clear hP0 hP1 hP2 hP3 hP5 hP6 hP7 hP8 hQ HTP
    have t0 := BTn.out.cell 0 rfl
    have t1 := BTn.out.cell 1 rfl
    have zBTn := BTn.out.lt
    go_wp2_with fail
    refine (trecover_ok _ (T.take N) (N : Int) _ (HC.out.below (by repeat (first | with_reducible exact Below.refl _ _ | with_reducible refine Below.drew ?_ | with_reducible refine Below.setCell ?_ (by first | omega | (simp <;> omega)) _ | with_reducible refine Below.alloc ?_ (by first | omega | (simp <;> omega)) _)) (fun _ h => h)) (by rw [HNL.out]; exact tapeOk_at (by omega) (by omega) (by omega))).mono ?_
    rw [HP1.out]
    rw [HP2.out]
    rw [HP3.out]
    rintro e w3 ⟨v6, v7, rfl, hv6, hv7, hb3⟩
    have hB3 : Below wc.heap.size wc w3 := Below.trans (by repeat (first | with_reducible exact Below.refl _ _ | with_reducible refine Below.drew ?_ | with_reducible refine Below.setCell ?_ (by first | omega | (simp <;> omega)) _ | with_reducible refine Below.alloc ?_ (by first | omega | (simp <;> omega)) _)) (hb3.mono (by first | exact Nat.le_refl _ | (simp; done) | (simp; omega)))
    have z3 := hB3.size
    replace HB := Lib.hid (HB.out.trans (hB3.mono HB.out.size))
    replace HR := Lib.hid (HR.out.keep (Keep.below hB3) (fun _ h => h))
    replace BR := Lib.hid (BR.out.belowS hB3)
    replace HM := Lib.hid (HM.out.below hB3 (fun _ h => h))
    replace HT := Lib.hid (HT.out.below hB3 (fun _ h => h))
    replace BTn := Lib.hid (BTn.out.belowS hB3)
    replace HC := Lib.hid (HC.out.below hB3 (fun _ h => h))
    clear t0 t1 zBTn
    dsimp only at hv6 hv7 ⊢
    rw [show min (N : Int) (Q.length : Int) = (Q.length : Int) by omega]
    obtain ⟨ad_v6, cap_v6, rfl, -, -⟩ := hv6.form
    obtain ⟨ad_v7, cap_v7, rfl, -, -⟩ := hv7.form
    have HG := Lib.hid (hv6.mono (G' := fun b => b ≠ w2.heap.size) (fun b hb => by first | omega | (simp at hb; omega)))
    have HU := Lib.hid (hv7.mono (G' := fun b => b ≠ w2.heap.size) (fun b hb => by first | omega | (simp at hb; omega)))
    clear hb3 hB3 hv6 hv7
    have r_0 := BR.out.cell 0 rfl
    have r_1 := BR.out.cell 1 rfl
    have r_2 := BR.out.cell 2 rfl
    have r_3 := BR.out.cell 3 rfl
    have r_4 := BR.out.cell 4 rfl
    have zBR := BR.out.lt
    go_wp2_with fail
    refine (record_any r _ _ (HR.out.keep (Keep.below (by repeat (first | with_reducible exact Below.refl _ _ | with_reducible refine Below.drew ?_ | with_reducible refine Below.setCell ?_ (by first | omega | (simp <;> omega)) _ | with_reducible refine Below.alloc ?_ (by first | omega | (simp <;> omega)) _))) (fun _ h => h))).mono ?_
    rintro e w4 ⟨mv, rfl, hM, hb4⟩
    have hB4 : Below w3.heap.size w3 w4 := Below.trans (by repeat (first | with_reducible exact Below.refl _ _ | with_reducible refine Below.drew ?_ | with_reducible refine Below.setCell ?_ (by first | omega | (simp <;> omega)) _ | with_reducible refine Below.alloc ?_ (by first | omega | (simp <;> omega)) _)) (hb4.mono (by first | exact Nat.le_refl _ | (simp; done) | (simp; omega)))
    have z4 := hB4.size
    have BU := Lib.hid (BoxAt.belowS (show BoxAt _ (w3.heap.size) [.slice ad_v7 Q.length cap_v7, .int .i64 (Q.length : Int)] 50 from (by repeat (first | with_reducible exact BoxAt.newAt _ _ _ (by first | rfl | simp) | with_reducible refine BoxAt.drew ?_ | with_reducible refine BoxAt.alloc ?_ _ | with_reducible refine BoxAt.setOther ?_ (by first | omega | (simp <;> omega)) _))) hb4)
    replace HB := Lib.hid (HB.out.trans (hB4.mono HB.out.size))
    replace HR := Lib.hid (HR.out.keep (Keep.below hB4) (fun _ h => h))
    replace BR := Lib.hid (BR.out.belowS hB4)
    replace HM := Lib.hid (HM.out.below hB4 (fun _ h => h))
    replace HT := Lib.hid (HT.out.below hB4 (fun _ h => h))
    replace BTn := Lib.hid (BTn.out.belowS hB4)
    replace HC := Lib.hid (HC.out.below hB4 (fun _ h => h))
    replace HG := Lib.hid (HG.out.below hB4 (fun _ h => h))
    replace HU := Lib.hid (HU.out.below hB4 (fun _ h => h))
    have HRM := Lib.hid (hM.mono (G' := fun b => b ≠ w2.heap.size) (fun b hb => by first | omega | (simp at hb; omega)))
    clear r_0 r_1 r_2 r_3 r_4 zBR
    clear hb4 hB4 hM
    generalize recM r = R at *
    go_upto_region 5 with (refine wpList_store_new rfl 35 _ _ rfl (msgCells R mv) 35 zeroMsg rfl rfl (by kernel_rfl) rfl (msgCells_one HRM.out) ?_; intro wm2 hb_wm2 hB_wm2 hs_wm2)
    have HMX := Lib.hid hb_wm2
    have zm2 : w4.heap.size < wm2.heap.size := by omega
    replace HB := Lib.hid (HB.out.trans (hB_wm2.mono HB.out.size))
    replace HR := Lib.hid (HR.out.keep (Keep.below hB_wm2) (fun _ h => h))
    replace BR := Lib.hid (BR.out.belowS hB_wm2)
    replace HM := Lib.hid (HM.out.below hB_wm2 (fun _ h => h))
    replace HT := Lib.hid (HT.out.below hB_wm2 (fun _ h => h))
    replace BTn := Lib.hid (BTn.out.belowS hB_wm2)
    replace HC := Lib.hid (HC.out.below hB_wm2 (fun _ h => h))
    replace HG := Lib.hid (HG.out.below hB_wm2 (fun _ h => h))
    replace HU := Lib.hid (HU.out.below hB_wm2 (fun _ h => h))
    replace BU := Lib.hid (BU.out.belowS hB_wm2)
    replace HRM := Lib.hid (HRM.out.below hB_wm2 (fun _ h => h))
    clear hb_wm2 hB_wm2 hs_wm2
    have u0 := BU.out.cell 0 rfl
    have u1 := BU.out.cell 1 rfl
    have zBU := BU.out.lt
    have hfl := frm_len R
    have hel := encL_len (recCode_iff HRE.out).1
    have HLE := Lib.hid (show Q.length + (frmL R).length ≤ 400000 by omega)
    obtain ⟨V, hV⟩ : ∃ V, V = Q ++ frmL R := ⟨_, rfl⟩
    have HV := Lib.hid hV
    have hVl : V.length = Q.length + (frmL R).length := by rw [hV]; simp
    have hV8 : V.length ≤ 8000 := by omega
    have hQV : Q.length ≤ V.length := by omega
    have HRV := Lib.hid (show recL V = (P ++ [R], V.length) by rw [hV, HQE.out, ← tapeB_one, ← tapeB_app]; exact recL_all (fun x hx => by rcases List.mem_append.1 hx with h | h; exact HP8.out x h; rw [List.mem_singleton.1 h]; exact HRE.out))
    clear hV hVl hfl hel
    go_wp2_with (refine wpList_load_box rfl 35 _ rfl w4.heap.size rfl (msgCells R mv) 35 HMX.out Try.underlying35 rfl (by kernel_rfl) ?_)
    refine (tappend_ok R mv _ Q (Q.length : Int) _ (HRM.out.below (by repeat (first | with_reducible exact Below.refl _ _ | with_reducible refine Below.drew ?_ | with_reducible refine Below.setCell ?_ (by first | omega | (simp <;> omega)) _ | with_reducible refine Below.alloc ?_ (by first | omega | (simp <;> omega)) _)) (fun _ h => h)) (HU.out.below (by repeat (first | with_reducible exact Below.refl _ _ | with_reducible refine Below.drew ?_ | with_reducible refine Below.setCell ?_ (by first | omega | (simp <;> omega)) _ | with_reducible refine Below.alloc ?_ (by first | omega | (simp <;> omega)) _)) (fun _ h => h)) (tapeOk_at (by omega) (by omega) (by omega)) HRE.out HLE.out).mono ?_
    rintro e w5 ⟨v8, rfl, h8, hb5⟩
    have hB5 : Below wm2.heap.size wm2 w5 := Below.trans (by repeat (first | with_reducible exact Below.refl _ _ | with_reducible refine Below.drew ?_ | with_reducible refine Below.setCell ?_ (by first | omega | (simp <;> omega)) _ | with_reducible refine Below.alloc ?_ (by first | omega | (simp <;> omega)) _)) (hb5.mono (by first | exact Nat.le_refl _ | (simp; done) | (simp; omega)))
    have z5 := hB5.size
    replace HB := Lib.hid (HB.out.trans (hB5.mono HB.out.size))
    replace HR := Lib.hid (HR.out.keep (Keep.below hB5) (fun _ h => h))
    replace BR := Lib.hid (BR.out.belowS hB5)
    replace HM := Lib.hid (HM.out.below hB5 (fun _ h => h))
    replace HT := Lib.hid (HT.out.below hB5 (fun _ h => h))
    replace BTn := Lib.hid (BTn.out.belowS hB5)
    replace HC := Lib.hid (HC.out.below hB5 (fun _ h => h))
    replace HG := Lib.hid (HG.out.below hB5 (fun _ h => h))
    replace HU := Lib.hid (HU.out.below hB5 (fun _ h => h))
    replace BU := Lib.hid (BU.out.belowS hB5)
    replace HRM := Lib.hid (HRM.out.below hB5 (fun _ h => h))
    replace HMX := Lib.hid (HMX.out.belowS hB5)
    clear u0 u1 zBU
    rw [← HV.out] at h8
    obtain ⟨ad_h8, cap_h8, rfl, -, -⟩ := h8.form
    have HVD := Lib.hid (h8.mono (G' := fun b => b ≠ w2.heap.size) (fun b hb => by first | omega | (simp at hb; omega)))
    clear hb5 hB5 h8
    go_wp2_with fail
    refine (trecover_ok _ V (Q.length : Int) _ (HVD.out.below (by repeat (first | with_reducible exact Below.refl _ _ | with_reducible refine Below.drew ?_ | with_reducible refine Below.setCell ?_ (by first | omega | (simp <;> omega)) _ | with_reducible refine Below.alloc ?_ (by first | omega | (simp <;> omega)) _)) (fun _ h => h)) (tapeOk_at (by omega) (by omega) (by omega))).mono ?_
    rw [HRV.out]
    rintro e w6 ⟨v9, v10, rfl, hv9, hv10, hb6⟩
    have hB6 : Below w5.heap.size w5 w6 := Below.trans (by repeat (first | with_reducible exact Below.refl _ _ | with_reducible refine Below.drew ?_ | with_reducible refine Below.setCell ?_ (by first | omega | (simp <;> omega)) _ | with_reducible refine Below.alloc ?_ (by first | omega | (simp <;> omega)) _)) (hb6.mono (by first | exact Nat.le_refl _ | (simp; done) | (simp; omega)))
    have z6 := hB6.size
    have BV := Lib.hid (BoxAt.belowS (show BoxAt _ (w5.heap.size) [.slice ad_h8 V.length cap_h8, .int .i64 (Q.length : Int)] 50 from (by repeat (first | with_reducible exact BoxAt.newAt _ _ _ (by first | rfl | simp) | with_reducible refine BoxAt.drew ?_ | with_reducible refine BoxAt.alloc ?_ _ | with_reducible refine BoxAt.setOther ?_ (by first | omega | (simp <;> omega)) _))) hb6)
    replace HB := Lib.hid (HB.out.trans (hB6.mono HB.out.size))
    replace HR := Lib.hid (HR.out.keep (Keep.below hB6) (fun _ h => h))
    replace BR := Lib.hid (BR.out.belowS hB6)
    replace HM := Lib.hid (HM.out.below hB6 (fun _ h => h))
    replace HT := Lib.hid (HT.out.below hB6 (fun _ h => h))
    replace BTn := Lib.hid (BTn.out.belowS hB6)
    replace HC := Lib.hid (HC.out.below hB6 (fun _ h => h))
    replace HG := Lib.hid (HG.out.below hB6 (fun _ h => h))
    replace HU := Lib.hid (HU.out.below hB6 (fun _ h => h))
    replace BU := Lib.hid (BU.out.belowS hB6)
    replace HRM := Lib.hid (HRM.out.below hB6 (fun _ h => h))
    replace HMX := Lib.hid (HMX.out.belowS hB6)
    replace HVD := Lib.hid (HVD.out.below hB6 (fun _ h => h))
    dsimp only at hv9 hv10 ⊢
    rw [List.take_length] at hv10
    obtain ⟨ad_v9, cap_v9, rfl, -, -⟩ := hv9.form
    obtain ⟨ad_v10, cap_v10, rfl, -, -⟩ := hv10.form
    have HA := Lib.hid (hv9.mono (G' := fun b => b ≠ w2.heap.size) (fun b hb => by first | omega | (simp at hb; omega)))
    have HAD := Lib.hid (hv10.mono (G' := fun b => b ≠ w2.heap.size) (fun b hb => by first | omega | (simp at hb; omega)))
    clear hb6 hB6 hv9 hv10
    obtain ⟨A, hA⟩ : ∃ A, A = P ++ [R] := ⟨_, rfl⟩
    rw [← hA] at HA ⊢
    have hAl : A.length = P.length + 1 := by rw [hA]; simp
    have HAL := Lib.hid hAl
    have HAR := Lib.hid (show ∀ (h : P.length < A.length), A[P.length] = R by intro h; subst hA; simp)
    have HPA := Lib.hid (show Pre P A by rw [hA]; exact pre_app _ _)
    have hPA : P.length < A.length := by omega
    clear hA hAl
    go_upto_region 7 with fail
    obtain ⟨wz, hwb⟩ : ∃ wz, wz = (w6.alloc (.cells #[.slice ad_v10 V.length cap_v10, .int .i64 (min (Q.length : Int) ((V.length : Nat) : Int))] 50)) := ⟨_, rfl⟩
    have hBw : Below w6.heap.size w6 wz := by rw [hwb]; exact (by repeat (first | with_reducible exact Below.refl _ _ | with_reducible refine Below.drew ?_ | with_reducible refine Below.setCell ?_ (by first | omega | (simp <;> omega)) _ | with_reducible refine Below.alloc ?_ (by first | omega | (simp <;> omega)) _))
    have BZ := Lib.hid (show BoxAt wz (w6.heap.size) [.slice ad_v10 V.length cap_v10, .int .i64 (min (Q.length : Int) ((V.length : Nat) : Int))] 50 by rw [hwb]; exact (by repeat (first | with_reducible exact BoxAt.newAt _ _ _ (by first | rfl | simp) | with_reducible refine BoxAt.drew ?_ | with_reducible refine BoxAt.alloc ?_ _ | with_reducible refine BoxAt.setOther ?_ (by first | omega | (simp <;> omega)) _)))
    rw [← hwb]
    have zwz := hBw.size
    clear hwb
    replace HB := Lib.hid (HB.out.trans (hBw.mono HB.out.size))
    replace HR := Lib.hid (HR.out.keep (Keep.below hBw) (fun _ h => h))
    replace BR := Lib.hid (BR.out.belowS hBw)
    replace HM := Lib.hid (HM.out.below hBw (fun _ h => h))
    replace HT := Lib.hid (HT.out.below hBw (fun _ h => h))
    replace BTn := Lib.hid (BTn.out.belowS hBw)
    replace HC := Lib.hid (HC.out.below hBw (fun _ h => h))
    replace HG := Lib.hid (HG.out.below hBw (fun _ h => h))
    replace HU := Lib.hid (HU.out.below hBw (fun _ h => h))
    replace BU := Lib.hid (BU.out.belowS hBw)
    replace HRM := Lib.hid (HRM.out.below hBw (fun _ h => h))
    replace HMX := Lib.hid (HMX.out.belowS hBw)
    replace HVD := Lib.hid (HVD.out.below hBw (fun _ h => h))
    replace BV := Lib.hid (BV.out.belowS hBw)
    replace HA := Lib.hid (HA.out.below hBw (fun _ h => h))
    replace HAD := Lib.hid (HAD.out.below hBw (fun _ h => h))
    clear hBw
    have zlBZ := BZ.out.lt
    obtain ⟨bA, oA, mA, hab, -, hcA, hrA⟩ := HA.out.msg P.length hPA
    subst hab
    rw [HAR.out hPA] at hcA hrA
    have rA : wz.rangeAt bA (oA + P.length * 19) (msgCells R mA) := fun j v hv => by rw [Nat.add_assoc]; exact hcA j v hv
    have zA := World.block_lt_of_cell? wz _ (rA 0 _ rfl)
    have HRA := Lib.hid hrA
    have hAl2 : (A.length : Int) = (P.length : Int) + 1 := by have := HAL.out; omega
    have HAL2 := Lib.hid hAl2
    have pA : (P.length : Int) < (A.length : Int) := by omega
    have pA0 : (0 : Int) ≤ (P.length : Int) := by omega
    have wPA : IntKind.i64.wrap ((P.length : Int) + 1) = (P.length : Int) + 1 := IntWalk.i64_in _ (by omega)
    clear hcA hrA hAl2
    refine wp_region_held_drew (S := fun w' => Below wz.heap.size wz w') (by kernel_rfl) (by exact (Below.refl _ _).drew) (fun hHeld => ?_)
    refine wpAnyH_take (i := 0) (v := .bool true) rfl (by kernel_rfl) (by kernel_rfl) (by kernel_rfl) (fun _ _ _ h => h) (Or.inl ⟨by rfl, fun w hSw => ?_⟩) hHeld ?_
    · clear hSw; go_simp; all_goals (try first | rfl | omega)
    try simp only [Act.put, List.getElem_toArray, List.getElem_cons_succ, List.getElem_cons_zero, List.setIfInBounds_toArray, List.set_cons_zero, List.set_cons_succ]
    refine wpAnyH_take (i := 1) (v := .bool true) rfl (by kernel_rfl) (by kernel_rfl) (by kernel_rfl) (fun _ _ _ h => h) (Or.inl ⟨by rfl, fun w hSw => ?_⟩) hHeld ?_
    · clear hSw; go_simp; all_goals (try first | rfl | omega)
    try simp only [Act.put, List.getElem_toArray, List.getElem_cons_succ, List.getElem_cons_zero, List.setIfInBounds_toArray, List.set_cons_zero, List.set_cons_succ]
    refine wpAnyH_take (i := 2) (v := .int .i64 0) rfl (by kernel_rfl) (by kernel_rfl) (by kernel_rfl) (fun _ _ _ h => h) (Or.inl ⟨by rfl, fun w hSw => ?_⟩) hHeld ?_
    · clear hSw; go_simp; all_goals (try first | rfl | omega)
    try simp only [Act.put, List.getElem_toArray, List.getElem_cons_succ, List.getElem_cons_zero, List.setIfInBounds_toArray, List.set_cons_zero, List.set_cons_succ]
    refine wpAnyH_take (i := 3) (v := .bool true) rfl (by kernel_rfl) (by kernel_rfl) (by kernel_rfl) (fun _ _ _ h => h) (Or.inl ⟨by rfl, fun w hSw => ?_⟩) hHeld ?_
    · clear hSw; go_simp; all_goals (try first | rfl | omega)
    try simp only [Act.put, List.getElem_toArray, List.getElem_cons_succ, List.getElem_cons_zero, List.setIfInBounds_toArray, List.set_cons_zero, List.set_cons_succ]
    refine wpAnyH_take (i := 4) (v := .bool true) rfl (by kernel_rfl) (by kernel_rfl) (by kernel_rfl) (fun _ _ _ h => h) (Or.inl ⟨by rfl, fun w hSw => ?_⟩) hHeld ?_
    · clear hSw; go_simp; all_goals (try first | rfl | omega)
    try simp only [Act.put, List.getElem_toArray, List.getElem_cons_succ, List.getElem_cons_zero, List.setIfInBounds_toArray, List.set_cons_zero, List.set_cons_succ]
    refine wpAnyH_take (i := 5) (v := .bool true) rfl (by kernel_rfl) (by kernel_rfl) (by kernel_rfl) (fun _ _ _ h => h) (Or.inl ⟨by rfl, fun w hSw => ?_⟩) hHeld ?_
    · clear hSw; go_simp; all_goals (try first | rfl | omega)
    try simp only [Act.put, List.getElem_toArray, List.getElem_cons_succ, List.getElem_cons_zero, List.setIfInBounds_toArray, List.set_cons_zero, List.set_cons_succ]
    refine wpAnyH_take (i := 6) (v := .int .i64 0) rfl (by kernel_rfl) (by kernel_rfl) (by kernel_rfl) (fun _ _ _ h => h) (Or.inl ⟨by rfl, fun w hSw => ?_⟩) hHeld ?_
    · clear hSw; go_simp; all_goals (try first | rfl | omega)
    try simp only [Act.put, List.getElem_toArray, List.getElem_cons_succ, List.getElem_cons_zero, List.setIfInBounds_toArray, List.set_cons_zero, List.set_cons_succ]
    refine wpAnyH_take (i := 7) (v := .bool true) rfl (by kernel_rfl) (by kernel_rfl) (by kernel_rfl) (fun _ _ _ h => h) (Or.inl ⟨by rfl, fun w hSw => ?_⟩) hHeld ?_
    · clear hSw; go_simp; all_goals (try first | rfl | omega)
    try simp only [Act.put, List.getElem_toArray, List.getElem_cons_succ, List.getElem_cons_zero, List.setIfInBounds_toArray, List.set_cons_zero, List.set_cons_succ]
    refine wpAnyH_take (i := 8) (v := .bool true) rfl (by kernel_rfl) (by kernel_rfl) (by kernel_rfl) (fun _ _ _ h => h) (Or.inl ⟨by rfl, fun w hSw => ?_⟩) hHeld ?_
    · clear hSw; go_simp; all_goals (try first | rfl | omega)
    try simp only [Act.put, List.getElem_toArray, List.getElem_cons_succ, List.getElem_cons_zero, List.setIfInBounds_toArray, List.set_cons_zero, List.set_cons_succ]
    refine wpAnyH_take (i := 9) (v := .bool true) rfl (by kernel_rfl) (by kernel_rfl) (by kernel_rfl) (fun _ _ _ h => h) (Or.inl ⟨by rfl, fun w hSw => ?_⟩) hHeld ?_
    · clear hSw; go_simp; all_goals (try first | rfl | omega)
    try simp only [Act.put, List.getElem_toArray, List.getElem_cons_succ, List.getElem_cons_zero, List.setIfInBounds_toArray, List.set_cons_zero, List.set_cons_succ]
    refine wpAnyH_take (i := 10) (v := .int .i64 0) rfl (by kernel_rfl) (by kernel_rfl) (by kernel_rfl) (fun _ _ _ h => h) (Or.inl ⟨by rfl, fun w hSw => ?_⟩) hHeld ?_
    · clear hSw; go_simp; all_goals (try first | rfl | omega)
    try simp only [Act.put, List.getElem_toArray, List.getElem_cons_succ, List.getElem_cons_zero, List.setIfInBounds_toArray, List.set_cons_zero, List.set_cons_succ]
    refine wpAnyH_take (i := 11) (v := .bool true) rfl (by kernel_rfl) (by kernel_rfl) (by kernel_rfl) (fun _ _ _ h => h) (Or.inl ⟨by rfl, fun w hSw => ?_⟩) hHeld ?_
    · clear hSw; go_simp; all_goals (try first | rfl | omega)
    try simp only [Act.put, List.getElem_toArray, List.getElem_cons_succ, List.getElem_cons_zero, List.setIfInBounds_toArray, List.set_cons_zero, List.set_cons_succ]
    refine wpAnyH_take (i := 12) (v := .bool true) rfl (by kernel_rfl) (by kernel_rfl) (by kernel_rfl) (fun _ _ _ h => h) (Or.inl ⟨by rfl, fun w hSw => ?_⟩) hHeld ?_
    · clear hSw; go_simp; all_goals (try first | rfl | omega)
    try simp only [Act.put, List.getElem_toArray, List.getElem_cons_succ, List.getElem_cons_zero, List.setIfInBounds_toArray, List.set_cons_zero, List.set_cons_succ]
    refine wpAnyH_take (i := 13) (v := .bool true) rfl (by kernel_rfl) (by kernel_rfl) (by kernel_rfl) (fun _ _ _ h => h) (Or.inl ⟨by rfl, fun w hSw => ?_⟩) hHeld ?_
    · clear hSw; go_simp; all_goals (try first | rfl | omega)
    try simp only [Act.put, List.getElem_toArray, List.getElem_cons_succ, List.getElem_cons_zero, List.setIfInBounds_toArray, List.set_cons_zero, List.set_cons_succ]
    refine wpAnyH_take (i := 14) (v := .int .i64 0) rfl (by kernel_rfl) (by kernel_rfl) (by kernel_rfl) (fun _ _ _ h => h) (Or.inl ⟨by rfl, fun w hSw => ?_⟩) hHeld ?_
    · clear hSw; go_simp; all_goals (try first | rfl | omega)
    try simp only [Act.put, List.getElem_toArray, List.getElem_cons_succ, List.getElem_cons_zero, List.setIfInBounds_toArray, List.set_cons_zero, List.set_cons_succ]
    refine wpAnyH_take (i := 15) (v := .bool true) rfl (by kernel_rfl) (by kernel_rfl) (by kernel_rfl) (fun _ _ _ h => h) (Or.inl ⟨by rfl, fun w hSw => ?_⟩) hHeld ?_
    · clear hSw; go_simp; all_goals (try first | rfl | omega)
    try simp only [Act.put, List.getElem_toArray, List.getElem_cons_succ, List.getElem_cons_zero, List.setIfInBounds_toArray, List.set_cons_zero, List.set_cons_succ]
    refine wpAnyH_take (i := 16) (v := .bool true) rfl (by kernel_rfl) (by kernel_rfl) (by kernel_rfl) (fun _ _ _ h => h) (Or.inl ⟨by rfl, fun w hSw => ?_⟩) hHeld ?_
    · clear hSw; go_simp; all_goals (try first | rfl | omega)
    try simp only [Act.put, List.getElem_toArray, List.getElem_cons_succ, List.getElem_cons_zero, List.setIfInBounds_toArray, List.set_cons_zero, List.set_cons_succ]
    refine wpAnyH_take (i := 17) (v := .bool true) rfl (by kernel_rfl) (by kernel_rfl) (by kernel_rfl) (fun _ _ _ h => h) (Or.inl ⟨by rfl, fun w hSw => ?_⟩) hHeld ?_
    · clear hSw; go_simp; all_goals (try first | rfl | omega)
    try simp only [Act.put, List.getElem_toArray, List.getElem_cons_succ, List.getElem_cons_zero, List.setIfInBounds_toArray, List.set_cons_zero, List.set_cons_succ]
    refine wpAnyH_take (i := 18) (v := .slice (some ⟨bA, oA, none⟩) A.length cap_v9) rfl (by kernel_rfl) (by kernel_rfl) (by kernel_rfl) (fun _ _ _ h => h) (Or.inl ⟨by rfl, fun w hSw => ?_⟩) hHeld ?_
    · clear hSw; go_simp; all_goals (try first | rfl | omega)
    try simp only [Act.put, List.getElem_toArray, List.getElem_cons_succ, List.getElem_cons_zero, List.setIfInBounds_toArray, List.set_cons_zero, List.set_cons_succ]
    refine wpAnyH_take (i := 19) (v := .int .i64 (A.length : Int)) rfl (by kernel_rfl) (by kernel_rfl) (by kernel_rfl) (fun _ _ _ h => h) (Or.inl ⟨by rfl, fun w hSw => ?_⟩) hHeld ?_
    · clear hSw; go_simp; all_goals (try first | rfl | omega)
    try simp only [Act.put, List.getElem_toArray, List.getElem_cons_succ, List.getElem_cons_zero, List.setIfInBounds_toArray, List.set_cons_zero, List.set_cons_succ]
    refine wpAnyH_take (i := 20) (v := .slice ad_v6 P.length cap_v6) rfl (by kernel_rfl) (by kernel_rfl) (by kernel_rfl) (fun _ _ _ h => h) (Or.inl ⟨by rfl, fun w hSw => ?_⟩) hHeld ?_
    · clear hSw; go_simp; all_goals (try first | rfl | omega)
    try simp only [Act.put, List.getElem_toArray, List.getElem_cons_succ, List.getElem_cons_zero, List.setIfInBounds_toArray, List.set_cons_zero, List.set_cons_succ]
    refine wpAnyH_take (i := 21) (v := .int .i64 (P.length : Int)) rfl (by kernel_rfl) (by kernel_rfl) (by kernel_rfl) (fun _ _ _ h => h) (Or.inl ⟨by rfl, fun w hSw => ?_⟩) hHeld ?_
    · clear hSw; go_simp; all_goals (try first | rfl | omega)
    try simp only [Act.put, List.getElem_toArray, List.getElem_cons_succ, List.getElem_cons_zero, List.setIfInBounds_toArray, List.set_cons_zero, List.set_cons_succ]
    refine wpAnyH_take (i := 22) (v := .int .i64 ((P.length : Int) + 1)) rfl (by kernel_rfl) (by kernel_rfl) (by kernel_rfl) (fun _ _ _ h => h) (Or.inl ⟨by rfl, fun w hSw => ?_⟩) hHeld ?_
    · clear hSw; go_simp; all_goals (try first | rfl | omega)
    try simp only [Act.put, List.getElem_toArray, List.getElem_cons_succ, List.getElem_cons_zero, List.setIfInBounds_toArray, List.set_cons_zero, List.set_cons_succ]
    refine wpAnyH_take (i := 23) (v := .bool true) rfl (by kernel_rfl) (by kernel_rfl) (by kernel_rfl) (fun _ _ _ h => h) (Or.inl ⟨by rfl, fun w hSw => ?_⟩) hHeld ?_
    · clear hSw; have hq := HAL2.out; go_simp; all_goals (try first | rfl | omega | (simp; done))
    try simp only [Act.put, List.getElem_toArray, List.getElem_cons_succ, List.getElem_cons_zero, List.setIfInBounds_toArray, List.set_cons_zero, List.set_cons_succ]
    refine wpAnyH_take (i := 24) (v := .bool true) rfl (by kernel_rfl) (by kernel_rfl) (by kernel_rfl) (fun _ _ _ h => h) (Or.inl ⟨by rfl, fun w hSw => ?_⟩) hHeld ?_
    · clear hSw; go_simp; all_goals (try first | rfl | omega)
    try simp only [Act.put, List.getElem_toArray, List.getElem_cons_succ, List.getElem_cons_zero, List.setIfInBounds_toArray, List.set_cons_zero, List.set_cons_succ]
    refine wpAnyH_take (i := 25) (v := .bool true) rfl (by kernel_rfl) (by kernel_rfl) (by kernel_rfl) (fun _ _ _ h => h) (Or.inl ⟨by rfl, fun w hSw => ?_⟩) hHeld ?_
    · clear hSw; go_simp; all_goals (try first | rfl | omega)
    try simp only [Act.put, List.getElem_toArray, List.getElem_cons_succ, List.getElem_cons_zero, List.setIfInBounds_toArray, List.set_cons_zero, List.set_cons_succ]
    refine wpAnyH_take (i := 26) (v := .slice ad_v6 P.length cap_v6) rfl (by kernel_rfl) (by kernel_rfl) (by kernel_rfl) (fun _ _ _ h => h) (Or.inl ⟨by rfl, fun w hSw => ?_⟩) hHeld ?_
    · clear hSw; go_simp; all_goals (try first | rfl | omega)
    try simp only [Act.put, List.getElem_toArray, List.getElem_cons_succ, List.getElem_cons_zero, List.setIfInBounds_toArray, List.set_cons_zero, List.set_cons_succ]
    refine wpAnyH_take (i := 27) (v := .slice (some ⟨bA, oA, none⟩) A.length cap_v9) rfl (by kernel_rfl) (by kernel_rfl) (by kernel_rfl) (fun _ _ _ h => h) (Or.inl ⟨by rfl, fun w hSw => ?_⟩) hHeld ?_
    · clear hSw; go_simp; all_goals (try first | rfl | omega)
    try simp only [Act.put, List.getElem_toArray, List.getElem_cons_succ, List.getElem_cons_zero, List.setIfInBounds_toArray, List.set_cons_zero, List.set_cons_succ]
    refine wpAnyH_ready (rs := [28]) (by kernel_rfl) (by simp) ?_
    refine AllReadyH.cons rfl (fun K hK => ?_) ?_
    · rw [if_pos (by rfl)]
      go_simp
      go_at_call 28
      refine (begins_pre _ _ _ (HG.out.below hHeld (fun _ h => h)) (HA.out.below hHeld (fun _ h => h)) HPA.out).mono ?_
      rintro e wR ⟨rfl, hb_wR⟩
      have hB_wR : Below wz.heap.size wz wR := Below.trans hHeld (hb_wR.mono (Below.size hHeld))
      have Hb_wR := Lib.hid hB_wR
      clear hb_wR hB_wR
      show K _ _
      refine hK.out _ _ (by exact Hb_wR.out) (fun hHeld => ?_)
      clear hK K
      try simp only [Act.put, List.getElem_toArray, List.getElem_cons_succ, List.getElem_cons_zero, List.setIfInBounds_toArray, List.set_cons_zero, List.set_cons_succ]
      refine wpAnyH_take (i := 29) (v := .bool true) rfl (by kernel_rfl) (by kernel_rfl) (by kernel_rfl) (fun _ _ _ h => h) (Or.inl ⟨by rfl, fun w hSw => ?_⟩) hHeld ?_
      · clear hSw; go_simp; all_goals (try first | rfl | omega)
      try simp only [Act.put, List.getElem_toArray, List.getElem_cons_succ, List.getElem_cons_zero, List.setIfInBounds_toArray, List.set_cons_zero, List.set_cons_succ]
      refine wpAnyH_take (i := 30) (v := .bool true) rfl (by kernel_rfl) (by kernel_rfl) (by kernel_rfl) (fun _ _ _ h => h) (Or.inl ⟨by rfl, fun w hSw => ?_⟩) hHeld ?_
      · clear hSw; go_simp; all_goals (try first | rfl | omega)
      try simp only [Act.put, List.getElem_toArray, List.getElem_cons_succ, List.getElem_cons_zero, List.setIfInBounds_toArray, List.set_cons_zero, List.set_cons_succ]
      refine wpAnyH_take (i := 31) (v := .slice (some ⟨bA, oA, none⟩) A.length cap_v9) rfl (by kernel_rfl) (by kernel_rfl) (by kernel_rfl) (fun _ _ _ h => h) (Or.inl ⟨by rfl, fun w hSw => ?_⟩) hHeld ?_
      · clear hSw; go_simp; all_goals (try first | rfl | omega)
      try simp only [Act.put, List.getElem_toArray, List.getElem_cons_succ, List.getElem_cons_zero, List.setIfInBounds_toArray, List.set_cons_zero, List.set_cons_succ]
      refine wpAnyH_take (i := 32) (v := .slice ad_v6 P.length cap_v6) rfl (by kernel_rfl) (by kernel_rfl) (by kernel_rfl) (fun _ _ _ h => h) (Or.inl ⟨by rfl, fun w hSw => ?_⟩) hHeld ?_
      · clear hSw; go_simp; all_goals (try first | rfl | omega)
      try simp only [Act.put, List.getElem_toArray, List.getElem_cons_succ, List.getElem_cons_zero, List.setIfInBounds_toArray, List.set_cons_zero, List.set_cons_succ]
      refine wpAnyH_take (i := 33) (v := .int .i64 (P.length : Int)) rfl (by kernel_rfl) (by kernel_rfl) (by kernel_rfl) (fun _ _ _ h => h) (Or.inl ⟨by rfl, fun w hSw => ?_⟩) hHeld ?_
      · clear hSw; go_simp; all_goals (try first | rfl | omega)
      try simp only [Act.put, List.getElem_toArray, List.getElem_cons_succ, List.getElem_cons_zero, List.setIfInBounds_toArray, List.set_cons_zero, List.set_cons_succ]
      refine wpAnyH_take (i := 34) (v := .pointer (some ⟨bA, oA + P.length * 19, none⟩)) rfl (by kernel_rfl) (by kernel_rfl) (by kernel_rfl) (fun _ _ _ h => h) (Or.inl ⟨by rfl, fun w hSw => ?_⟩) hHeld ?_
      · clear hSw; go_simp; all_goals (try first | rfl | omega)
      try simp only [Act.put, List.getElem_toArray, List.getElem_cons_succ, List.getElem_cons_zero, List.setIfInBounds_toArray, List.set_cons_zero, List.set_cons_succ]
      refine wpAnyH_take (i := 35) (v := .agg (msgCells R mA).toArray) rfl (by kernel_rfl) (by kernel_rfl) (by kernel_rfl) (fun _ _ _ h => h) (yieldsIf_load_mid (by rfl) 35 _ rfl bA (oA + P.length * 19) rfl (msgCells R mA) _ (fun w hSw => fun j v hv => by rw [(bcellAt hSw _ zA).1]; exact rA j v hv) Try.underlying35 rfl (by kernel_rfl)) hHeld ?_
      try simp only [Act.put, List.getElem_toArray, List.getElem_cons_succ, List.getElem_cons_zero, List.setIfInBounds_toArray, List.set_cons_zero, List.set_cons_succ]
      refine wpAnyH_take (i := 36) (v := .agg (msgCells R mv).toArray) rfl (by kernel_rfl) (by kernel_rfl) (by kernel_rfl) (fun _ _ _ h => h) (yieldsIf_load_mid (by rfl) 35 _ rfl w4.heap.size 0 rfl (msgCells R mv) _ (fun w hSw => fun j v hv => by have := (HMX.out.belowS hSw).cell j hv; simpa using this) Try.underlying35 rfl (by kernel_rfl)) hHeld ?_
      try simp only [Act.put, List.getElem_toArray, List.getElem_cons_succ, List.getElem_cons_zero, List.setIfInBounds_toArray, List.set_cons_zero, List.set_cons_succ]
      refine wpAnyH_ready (rs := [37]) (by kernel_rfl) (by simp) ?_
      refine AllReadyH.cons rfl (fun K hK => ?_) ?_
      · rw [if_pos (by rfl)]
        go_simp
        go_at_call 29
        refine (sameMessage_eq R mA mv _ (HRA.out.below hHeld (fun _ h => h)) (HRM.out.below hHeld (fun _ h => h))).mono ?_
        rintro e wS ⟨rfl, hb_wS⟩
        have hB_wS : Below wz.heap.size wz wS := Below.trans hHeld (hb_wS.mono (Below.size hHeld))
        have Hb_wS := Lib.hid hB_wS
        clear hb_wS hB_wS
        show K _ _
        refine hK.out _ _ (by exact Hb_wS.out) (fun hHeld => ?_)
        clear hK K
        try simp only [Act.put, List.getElem_toArray, List.getElem_cons_succ, List.getElem_cons_zero, List.setIfInBounds_toArray, List.set_cons_zero, List.set_cons_succ]
        refine wpAnyH_take (i := 38) (v := .bool true) rfl (by kernel_rfl) (by kernel_rfl) (by kernel_rfl) (fun _ _ _ h => h) (Or.inl ⟨by rfl, fun w hSw => ?_⟩) hHeld ?_
        · clear hSw; go_simp; all_goals (try first | rfl | omega)
        try simp only [Act.put, List.getElem_toArray, List.getElem_cons_succ, List.getElem_cons_zero, List.setIfInBounds_toArray, List.set_cons_zero, List.set_cons_succ]
        refine wpAnyH_take (i := 39) (v := .bool true) rfl (by kernel_rfl) (by kernel_rfl) (by kernel_rfl) (fun _ _ _ h => h) (Or.inl ⟨by rfl, fun w hSw => ?_⟩) hHeld ?_
        · clear hSw; go_simp; all_goals (try first | rfl | omega)
        try simp only [Act.put, List.getElem_toArray, List.getElem_cons_succ, List.getElem_cons_zero, List.setIfInBounds_toArray, List.set_cons_zero, List.set_cons_succ]
        refine wpAnyH_done (by kernel_rfl) ?_ _
        go_wp2
        go_ret
        exact ⟨rfl, HB.out.trans (Hb_wS.out.mono HB.out.size)⟩
      exact AllReadyH.nil
    exact AllReadyH.nil
end Go.Proofs.Ytegdpjoncjmdeaa
