/- SyncSafe: the walk. -/
import Derived.Test.YtegdpjoncjmdeaaRawM
import Derived.Test.YtegdpjoncjmdeaaTapeP
set_option linter.unusedVariables false
set_option linter.unusedSimpArgs false
attribute [local go_sem ↓] Go.wp_at_zero Go.wp_at_succ
namespace Go.Proofs.Ytegdpjoncjmdeaa
open Go Go.RowKit

set_option maxRecDepth 100000 in
set_option maxHeartbeats 8000000 in
theorem syncSafe_walk (v : Value) (l : List RawD) (n : Int) (w : World) (hv : RdS RRaw (fun _ => True) w v l) (n1 : -9223372036854775808 ≤ n) (n2 : n ≤ 9223372036854775807) :
    Calls Try.prog 14 #[v, .int .i64 n] w fun e w' => e = .returned (.bool true) ∧ Below w.heap.size w w' := by
  have HB := Lib.hid (Below.refl w.heap.size w)
  have HV := Lib.hid (hv)
  obtain ⟨adv, capv, rfl, -, -⟩ := hv.form
  obtain ⟨hok, hm24, hT72⟩ := recs_parts l
  have HOK := Lib.hid hok
  have hms : (recsL l).length ≤ 1000 := by omega
  have HTP := Lib.hid (fun k hk => torn_parts hok k hk)
  have HRA := Lib.hid (recL_all hok)
  clear hv hok
  go_enter Try.func14, Try.ntmps14
  go_wp2_with fail
  refine (records_any _ _ (HV.out.below (by repeat (first | with_reducible exact Below.refl _ _ | with_reducible refine Below.drew ?_ | with_reducible refine Below.setCell ?_ (by first | omega | (simp <;> omega)) _ | with_reducible refine Below.alloc ?_ (by first | omega | (simp <;> omega)) _)) (fun _ h => h))).mono ?_
  rintro e w1 ⟨v1, rfl, h1, hb1⟩
  have hB1 : Below w.heap.size w w1 := Below.trans (by repeat (first | with_reducible exact Below.refl _ _ | with_reducible refine Below.drew ?_ | with_reducible refine Below.setCell ?_ (by first | omega | (simp <;> omega)) _ | with_reducible refine Below.alloc ?_ (by first | omega | (simp <;> omega)) _)) (hb1.mono (by first | exact Nat.le_refl _ | (simp; done) | (simp; omega)))
  have z1 := hB1.size
  replace HB := Lib.hid (HB.out.trans (hB1.mono HB.out.size))
  replace HV := Lib.hid (HV.out.below hB1 (fun _ h => h))
  obtain ⟨ad_h1, cap_h1, rfl, -, -⟩ := h1.form
  have HM := Lib.hid (h1.mono (G' := fun _ => True) (fun _ _ => trivial))
  clear hb1 hB1 h1
  clear HV
  go_wp2_with fail
  refine (taped_any _ _ (HM.out.below (by repeat (first | with_reducible exact Below.refl _ _ | with_reducible refine Below.drew ?_ | with_reducible refine Below.setCell ?_ (by first | omega | (simp <;> omega)) _ | with_reducible refine Below.alloc ?_ (by first | omega | (simp <;> omega)) _)) (fun _ h => h)) HOK.out hms).mono ?_
  rintro e w2 ⟨vT, rfl, hT, hb2⟩
  have hB2 : Below w1.heap.size w1 w2 := Below.trans (by repeat (first | with_reducible exact Below.refl _ _ | with_reducible refine Below.drew ?_ | with_reducible refine Below.setCell ?_ (by first | omega | (simp <;> omega)) _ | with_reducible refine Below.alloc ?_ (by first | omega | (simp <;> omega)) _)) (hb2.mono (by first | exact Nat.le_refl _ | (simp; done) | (simp; omega)))
  have z2 := hB2.size
  replace HB := Lib.hid (HB.out.trans (hB2.mono HB.out.size))
  replace HM := Lib.hid (HM.out.below hB2 (fun _ h => h))
  obtain ⟨ad_hT, cap_hT, rfl, -, -⟩ := hT.form
  have HT := Lib.hid (hT.mono (G' := fun _ => True) (fun _ _ => trivial))
  clear hb2 hB2 hT
  replace HM := Lib.hid ((HM.out.low (by decide)).mono (G' := fun b => b ≠ w2.heap.size) (fun b hb => by have := hb.2; omega))
  replace HT := Lib.hid ((HT.out.low (by decide)).mono (G' := fun b => b ≠ w2.heap.size) (fun b hb => by have := hb.2; omega))
  generalize recsL l = ms at *
  obtain ⟨T, hTe⟩ : ∃ T, T = tapeB ms := ⟨_, rfl⟩
  rw [← hTe] at HT HTP HRA hT72 ⊢
  clear hTe
  go_wp2_with fail
  refine (tsync_rd _ T 0 _ (HT.out.below (by repeat (first | with_reducible exact Below.refl _ _ | with_reducible refine Below.drew ?_ | with_reducible refine Below.setCell ?_ (by first | omega | (simp <;> omega)) _ | with_reducible refine Below.alloc ?_ (by first | omega | (simp <;> omega)) _)) (fun _ h => h)) (tapeOk_zero (by omega))).mono ?_
  rintro e w3 ⟨v3, rfl, h3, hb3⟩
  have hB3 : Below w2.heap.size w2 w3 := Below.trans (by repeat (first | with_reducible exact Below.refl _ _ | with_reducible refine Below.drew ?_ | with_reducible refine Below.setCell ?_ (by first | omega | (simp <;> omega)) _ | with_reducible refine Below.alloc ?_ (by first | omega | (simp <;> omega)) _)) (hb3.mono (by first | exact Nat.le_refl _ | (simp; done) | (simp; omega)))
  have z3 := hB3.size
  have BT := Lib.hid (BoxAt.belowS (show BoxAt _ (w2.heap.size) [.slice ad_hT T.length cap_hT, .int .i64 0] 50 from (by repeat (first | with_reducible exact BoxAt.newAt _ _ _ (by first | rfl | simp) | with_reducible refine BoxAt.drew ?_ | with_reducible refine BoxAt.alloc ?_ _ | with_reducible refine BoxAt.setOther ?_ (by first | omega | (simp <;> omega)) _))) hb3)
  replace HB := Lib.hid (HB.out.trans (hB3.mono HB.out.size))
  replace HM := Lib.hid (HM.out.below hB3 (fun _ h => h))
  replace HT := Lib.hid (HT.out.below hB3 (fun _ h => h))
  obtain ⟨ad_h3, cap_h3, rfl, -, -⟩ := h3.form
  have HS := Lib.hid (h3.mono (G' := fun b => b ≠ w2.heap.size) (fun b hb => by first | omega | (simp at hb; omega)))
  clear hb3 hB3 h3
  have t0 := BT.out.cell 0 rfl
  have t1 := BT.out.cell 1 rfl
  have zBT := BT.out.lt
  have fBT0 := BT.out.free 0
  have fBT1 := BT.out.free 1
  go_upto_region 4 with fail
  obtain ⟨w4, hw4⟩ : ∃ w4, w4 = ((w3.setCell ⟨w2.heap.size, 0, none⟩ (.slice ad_h3 T.length cap_h3)).setCell ⟨w2.heap.size, 1, none⟩ (.int .i64 (T.length : Int))) := ⟨_, rfl⟩
  have hK4 : Keep (fun b => b ≠ w2.heap.size) w3 w4 := by rw [hw4]; exact ((Keep.setCell (p := ⟨w2.heap.size, 0, none⟩) (by simp) _).trans (Keep.setCell (p := ⟨w2.heap.size, 1, none⟩) (by simp) _))
  have zza4 : w4.heap.size ≤ w3.heap.size := by rw [hw4]; simp [World.setCell]
  have zzb4 : w3.heap.size ≤ w4.heap.size := by rw [hw4]; simp [World.setCell]
  have hbx4 := ((BT.out.set 0 (.slice ad_h3 T.length cap_h3)).set 1 (.int .i64 (T.length : Int)))
  rw [← hw4] at hbx4
  replace BT := Lib.hid hbx4
  have hq := ((HB.out.setCell (p := ⟨w2.heap.size, 0, none⟩) (by first | omega | (simp <;> omega)) (.slice ad_h3 T.length cap_h3)).setCell (p := ⟨w2.heap.size, 1, none⟩) (by first | omega | (simp <;> omega)) (.int .i64 (T.length : Int)))
  rw [← hw4] at hq
  replace HB := Lib.hid hq
  clear hq
  replace HM := Lib.hid (HM.out.keep hK4 (fun _ h => h))
  replace HT := Lib.hid (HT.out.keep hK4 (fun _ h => h))
  replace HS := Lib.hid (HS.out.keep hK4 (fun _ h => h))
  rw [← hw4]
  clear t0 t1 zBT fBT0 fBT1
  clear hw4 hK4 hbx4
  obtain ⟨p1, p2⟩ := pickedZ_range n 99 (by omega)
  obtain ⟨q, hq⟩ : ∃ q : Int, pickedZ n 99 = q := ⟨_, rfl⟩
  rw [hq] at p1 p2
  have HQ := Lib.hid hq
  clear hq
  go_cut [9, 10] (fun p e wx => ∃ (X : Nat) (ad : Option Addr) (cap : Nat), p = .pointer (some ⟨X, 0, none⟩) ∧ e = .int .i64 0 ∧ w4.heap.size ≤ X ∧ BoxAt wx X [.slice ad T.length cap, .int .i64 (T.length : Int)] 50 ∧ RdB (fun b => b ≠ w2.heap.size ∧ b ≠ X) wx (.slice ad T.length cap) T ∧ Below w4.heap.size w4 wx)
  case first =>
    refine wp_region_held_drew (S := fun w' => Below w4.heap.size w4 w') (by kernel_rfl) (by exact (Below.refl _ _).drew) (fun hHeld => ?_)
    refine wpAnyH_take (i := 0) (v := .agg #[.slice ad_h3 T.length cap_h3, .int .i64 (T.length : Int)]) rfl (by kernel_rfl) (by kernel_rfl) (by kernel_rfl) (fun _ _ _ h => h) (Or.inl ⟨by rfl, fun w hSw => ?_⟩) hHeld ?_
    · have qb := BT.out.belowS hSw; have q0 := qb.cell 0 rfl; have q1 := qb.cell 1 rfl; clear hSw qb; go_simp
    try simp only [Act.put, List.getElem_toArray, List.getElem_cons_succ, List.getElem_cons_zero, List.setIfInBounds_toArray, List.set_cons_zero, List.set_cons_succ]
    refine wpAnyH_take (i := 1) (v := .int .i64 n) rfl (by kernel_rfl) (by kernel_rfl) (by kernel_rfl) (fun _ _ _ h => h) (Or.inl ⟨by rfl, fun w hSw => ?_⟩) hHeld ?_
    · clear hSw; go_simp; all_goals (try first | rfl | omega)
    try simp only [Act.put, List.getElem_toArray, List.getElem_cons_succ, List.getElem_cons_zero, List.setIfInBounds_toArray, List.set_cons_zero, List.set_cons_succ]
    refine wpAnyH_ready (rs := [2, 7]) (by kernel_rfl) (by simp) ?_
    refine AllReadyH.cons rfl (fun K hK => ?_) ?_
    · rw [if_pos (by rfl)]
      go_simp
      go_at_call 19
      refine (picked_any n 99 _ n1 n2 (by omega) (by omega)).mono ?_
      rintro e w' ⟨rfl, rfl⟩
      rw [HQ.out]
      show K _ _
      refine hK.out _ _ (by exact hHeld) (fun hHeld => ?_)
      clear hK K
      try simp only [Act.put, List.getElem_toArray, List.getElem_cons_succ, List.getElem_cons_zero, List.setIfInBounds_toArray, List.set_cons_zero, List.set_cons_succ]
      refine wpAnyH_ready (rs := [3, 7]) (by kernel_rfl) (by simp) ?_
      refine AllReadyH.cons rfl (fun K hK => ?_) ?_
      · rw [if_pos (by rfl)]
        go_simp
        go_at_call 26
        refine (tcrash_rd _ T (T.length : Int) q T.length _ (HS.out.below hHeld (fun _ h => h)) (tapeOk_at (by omega) (by omega) (by omega)) p1 (by omega) (by omega)).mono ?_
        rintro e wC ⟨vc, rfl, hc, hb_wC⟩
        rw [List.take_length] at hc
        obtain ⟨ad_hc, cap_hc, rfl, -, -⟩ := hc.form
        have zdr : w4.drew.heap.size = w4.heap.size := rfl
        have zC := hb_wC.size
        have zH := Below.size hHeld
        have hB_wC : Below w4.heap.size w4 wC := Below.trans hHeld (hb_wC.mono (Below.size hHeld))
        have HC := Lib.hid (hc.low (by decide))
        clear zdr
        have Hb_wC := Lib.hid hB_wC
        clear hb_wC hB_wC hc
        show K _ _
        refine hK.out _ _ (by exact Hb_wC.out) (fun hHeld => ?_)
        clear hK K
        try simp only [Act.put, List.getElem_toArray, List.getElem_cons_succ, List.getElem_cons_zero, List.setIfInBounds_toArray, List.set_cons_zero, List.set_cons_succ]
        refine wpAnyH_take (i := 4) (v := .tuple #[.agg #[.slice ad_hc T.length cap_hc, .int .i64 (T.length : Int)], .int .i64 0]) rfl (by kernel_rfl) (by kernel_rfl) (by kernel_rfl) (fun _ _ _ h => h) (Or.inl ⟨by rfl, fun w hSw => ?_⟩) hHeld ?_
        · clear hSw; go_simp; all_goals (try first | rfl | omega)
        try simp only [Act.put, List.getElem_toArray, List.getElem_cons_succ, List.getElem_cons_zero, List.setIfInBounds_toArray, List.set_cons_zero, List.set_cons_succ]
        refine wpAnyH_take (i := 5) (v := .agg #[.slice ad_hc T.length cap_hc, .int .i64 (T.length : Int)]) rfl (by kernel_rfl) (by kernel_rfl) (by kernel_rfl) (fun _ _ _ h => h) (Or.inl ⟨by rfl, fun w hSw => ?_⟩) hHeld ?_
        · clear hSw; go_simp; all_goals (try first | rfl | omega)
        try simp only [Act.put, List.getElem_toArray, List.getElem_cons_succ, List.getElem_cons_zero, List.setIfInBounds_toArray, List.set_cons_zero, List.set_cons_succ]
        refine wpAnyH_take (i := 6) (v := .int .i64 0) rfl (by kernel_rfl) (by kernel_rfl) (by kernel_rfl) (fun _ _ _ h => h) (Or.inl ⟨by rfl, fun w hSw => ?_⟩) hHeld ?_
        · clear hSw; go_simp; all_goals (try first | rfl | omega)
        try simp only [Act.put, List.getElem_toArray, List.getElem_cons_succ, List.getElem_cons_zero, List.setIfInBounds_toArray, List.set_cons_zero, List.set_cons_succ]
        refine wpAnyH_ready (rs := [7]) (by kernel_rfl) (by simp) ?_
        refine AllReadyH.cons rfl (fun K hK => ?_) ?_
        · rw [if_pos (by rfl)]
          go_simp
          have HX70 : BoxAt (wC.alloc (.cells #[.slice none 0 0, .int .i64 0] 50)) (wC.heap.size) [.slice none 0 0, .int .i64 0] 50 := BoxAt.newAt wC [.slice none 0 0, .int .i64 0] 50 rfl
          show K _ _
          refine hK.out _ _ (by exact Below.alloc hHeld (Below.size hHeld) _) (fun hHeld => ?_)
          clear hK K
          try simp only [Act.put, List.getElem_toArray, List.getElem_cons_succ, List.getElem_cons_zero, List.setIfInBounds_toArray, List.set_cons_zero, List.set_cons_succ]
          refine wpAnyH_ready (rs := [8]) (by kernel_rfl) (by simp) ?_
          refine AllReadyH.cons rfl (fun K hK => ?_) ?_
          · rw [if_pos (by rfl)]
            go_simp
            show K _ _
            refine hK.out _ _ (by repeat (first | with_reducible exact hHeld | with_reducible refine Below.setCell ?_ (by first | omega | (simp <;> omega)) _ | with_reducible refine Below.alloc ?_ (by first | omega | (simp <;> omega)) _ | with_reducible exact Below.refl _ _ | with_reducible refine Below.drew ?_ | with_reducible exact Hb_wC.out)) (fun hHeld => ?_)
            clear hK K
            try simp only [Act.put, List.getElem_toArray, List.getElem_cons_succ, List.getElem_cons_zero, List.setIfInBounds_toArray, List.set_cons_zero, List.set_cons_succ]
            refine wpAnyH_take (i := 9) (v := .int .i64 0) rfl (by kernel_rfl) (by kernel_rfl) (by kernel_rfl) (fun _ _ _ h => h) (Or.inl ⟨by rfl, fun w hSw => ?_⟩) hHeld ?_
            · clear hSw; go_simp; all_goals (try first | rfl | omega)
            try simp only [Act.put, List.getElem_toArray, List.getElem_cons_succ, List.getElem_cons_zero, List.setIfInBounds_toArray, List.set_cons_zero, List.set_cons_succ]
            refine wpAnyH_done (by kernel_rfl) ?_ _
            go_wp2
            go_meet
            refine ⟨wC.heap.size, ad_hc, cap_hc, rfl, rfl, by have := Hb_wC.out.size; omega, BoxAt.newAt _ [_, _] _ rfl, HC.out.keep (Keep.alloc _ _ _) (fun b hb => by have h1 : w4.heap.size ≤ b := (by first | exact hb.1 | (have h := hb.1; simp at h; omega)); have h2 := hb.2; have h3 := hb.1; (try simp at h3); have h5 := BT.out.lt; exact ⟨by omega, by omega⟩), Hb_wC.out.alloc Hb_wC.out.size _⟩
          exact AllReadyH.nil
        exact AllReadyH.nil
      refine AllReadyH.cons rfl (fun K hK => ?_) ?_
      · rw [if_pos (by rfl)]
        go_simp
        have HX70 : BoxAt (w4.drew.alloc (.cells #[.slice none 0 0, .int .i64 0] 50)) (w4.heap.size) [.slice none 0 0, .int .i64 0] 50 := BoxAt.newAt w4.drew [.slice none 0 0, .int .i64 0] 50 rfl
        show K _ _
        refine hK.out _ _ (by exact Below.alloc hHeld (Below.size hHeld) _) (fun hHeld => ?_)
        clear hK K
        try simp only [Act.put, List.getElem_toArray, List.getElem_cons_succ, List.getElem_cons_zero, List.setIfInBounds_toArray, List.set_cons_zero, List.set_cons_succ]
        refine wpAnyH_ready (rs := [3]) (by kernel_rfl) (by simp) ?_
        refine AllReadyH.cons rfl (fun K hK => ?_) ?_
        · rw [if_pos (by rfl)]
          go_simp
          go_at_call 26
          refine (tcrash_rd _ T (T.length : Int) q T.length _ (HS.out.below hHeld (fun _ h => h)) (tapeOk_at (by omega) (by omega) (by omega)) p1 (by omega) (by omega)).mono ?_
          rintro e wC ⟨vc, rfl, hc, hb_wC⟩
          rw [List.take_length] at hc
          obtain ⟨ad_hc, cap_hc, rfl, -, -⟩ := hc.form
          have zdr : w4.drew.heap.size = w4.heap.size := rfl
          have zC := hb_wC.size
          have zH := Below.size hHeld
          have hB_wC : Below w4.heap.size w4 wC := Below.trans hHeld (hb_wC.mono (Below.size hHeld))
          have HX7 := Lib.hid (HX70.belowS hb_wC)
          have zl_HX7 := HX70.lt
          have HC := Lib.hid (hc.low (by decide))
          clear zdr
          have Hb_wC := Lib.hid hB_wC
          clear hb_wC hB_wC hc
          show K _ _
          refine hK.out _ _ (by exact Hb_wC.out) (fun hHeld => ?_)
          clear hK K
          try simp only [Act.put, List.getElem_toArray, List.getElem_cons_succ, List.getElem_cons_zero, List.setIfInBounds_toArray, List.set_cons_zero, List.set_cons_succ]
          refine wpAnyH_take (i := 4) (v := .tuple #[.agg #[.slice ad_hc T.length cap_hc, .int .i64 (T.length : Int)], .int .i64 0]) rfl (by kernel_rfl) (by kernel_rfl) (by kernel_rfl) (fun _ _ _ h => h) (Or.inl ⟨by rfl, fun w hSw => ?_⟩) hHeld ?_
          · clear hSw; go_simp; all_goals (try first | rfl | omega)
          try simp only [Act.put, List.getElem_toArray, List.getElem_cons_succ, List.getElem_cons_zero, List.setIfInBounds_toArray, List.set_cons_zero, List.set_cons_succ]
          refine wpAnyH_take (i := 5) (v := .agg #[.slice ad_hc T.length cap_hc, .int .i64 (T.length : Int)]) rfl (by kernel_rfl) (by kernel_rfl) (by kernel_rfl) (fun _ _ _ h => h) (Or.inl ⟨by rfl, fun w hSw => ?_⟩) hHeld ?_
          · clear hSw; go_simp; all_goals (try first | rfl | omega)
          try simp only [Act.put, List.getElem_toArray, List.getElem_cons_succ, List.getElem_cons_zero, List.setIfInBounds_toArray, List.set_cons_zero, List.set_cons_succ]
          refine wpAnyH_take (i := 6) (v := .int .i64 0) rfl (by kernel_rfl) (by kernel_rfl) (by kernel_rfl) (fun _ _ _ h => h) (Or.inl ⟨by rfl, fun w hSw => ?_⟩) hHeld ?_
          · clear hSw; go_simp; all_goals (try first | rfl | omega)
          try simp only [Act.put, List.getElem_toArray, List.getElem_cons_succ, List.getElem_cons_zero, List.setIfInBounds_toArray, List.set_cons_zero, List.set_cons_succ]
          refine wpAnyH_ready (rs := [8]) (by kernel_rfl) (by simp) ?_
          refine AllReadyH.cons rfl (fun K hK => ?_) ?_
          · rw [if_pos (by rfl)]
            have s0 := HX7.out.cell 0 rfl
            have sf0 := HX7.out.free 0
            have s1 := HX7.out.cell 1 rfl
            have sf1 := HX7.out.free 1
            have slt := HX7.out.lt
            go_simp
            show K _ _
            refine hK.out _ _ (by repeat (first | with_reducible exact hHeld | with_reducible refine Below.setCell ?_ (by first | omega | (simp <;> omega)) _ | with_reducible refine Below.alloc ?_ (by first | omega | (simp <;> omega)) _ | with_reducible exact Below.refl _ _ | with_reducible refine Below.drew ?_ | with_reducible exact Hb_wC.out)) (fun hHeld => ?_)
            clear hK K
            try simp only [Act.put, List.getElem_toArray, List.getElem_cons_succ, List.getElem_cons_zero, List.setIfInBounds_toArray, List.set_cons_zero, List.set_cons_succ]
            refine wpAnyH_take (i := 9) (v := .int .i64 0) rfl (by kernel_rfl) (by kernel_rfl) (by kernel_rfl) (fun _ _ _ h => h) (Or.inl ⟨by rfl, fun w hSw => ?_⟩) hHeld ?_
            · clear hSw; go_simp; all_goals (try first | rfl | omega)
            try simp only [Act.put, List.getElem_toArray, List.getElem_cons_succ, List.getElem_cons_zero, List.setIfInBounds_toArray, List.set_cons_zero, List.set_cons_succ]
            refine wpAnyH_done (by kernel_rfl) ?_ _
            go_wp2
            go_meet
            refine ⟨w4.heap.size, ad_hc, cap_hc, rfl, rfl, by omega, HX7.out.set2 _ _, HC.out.keep ((Keep.setCell (p := ⟨w4.heap.size, 0, none⟩) (by first | (simp; done) | (simp; omega)) _).trans (Keep.setCell (p := ⟨w4.heap.size, 1, none⟩) (by first | (simp; done) | (simp; omega)) _)) (fun b hb => by have h1 : w4.heap.size ≤ b := (by first | exact hb.1 | (have h := hb.1; simp at h; omega)); have h2 := hb.2; have h3 := hb.1; (try simp at h3); have h5 := BT.out.lt; exact ⟨by omega, by omega⟩), (Hb_wC.out.setCell (by simp) _).setCell (by simp) _⟩
          exact AllReadyH.nil
        exact AllReadyH.nil
      exact AllReadyH.nil
    refine AllReadyH.cons rfl (fun K hK => ?_) ?_
    · rw [if_pos (by rfl)]
      go_simp
      have HX70 : BoxAt (w4.drew.alloc (.cells #[.slice none 0 0, .int .i64 0] 50)) (w4.heap.size) [.slice none 0 0, .int .i64 0] 50 := BoxAt.newAt w4.drew [.slice none 0 0, .int .i64 0] 50 rfl
      show K _ _
      refine hK.out _ _ (by exact Below.alloc hHeld (Below.size hHeld) _) (fun hHeld => ?_)
      clear hK K
      try simp only [Act.put, List.getElem_toArray, List.getElem_cons_succ, List.getElem_cons_zero, List.setIfInBounds_toArray, List.set_cons_zero, List.set_cons_succ]
      refine wpAnyH_ready (rs := [2]) (by kernel_rfl) (by simp) ?_
      refine AllReadyH.cons rfl (fun K hK => ?_) ?_
      · rw [if_pos (by rfl)]
        go_simp
        go_at_call 19
        refine (picked_any n 99 _ n1 n2 (by omega) (by omega)).mono ?_
        rintro e w' ⟨rfl, rfl⟩
        rw [HQ.out]
        show K _ _
        refine hK.out _ _ (by exact hHeld) (fun hHeld => ?_)
        clear hK K
        try simp only [Act.put, List.getElem_toArray, List.getElem_cons_succ, List.getElem_cons_zero, List.setIfInBounds_toArray, List.set_cons_zero, List.set_cons_succ]
        refine wpAnyH_ready (rs := [3]) (by kernel_rfl) (by simp) ?_
        refine AllReadyH.cons rfl (fun K hK => ?_) ?_
        · rw [if_pos (by rfl)]
          go_simp
          go_at_call 26
          refine (tcrash_rd _ T (T.length : Int) q T.length _ (HS.out.below hHeld (fun _ h => h)) (tapeOk_at (by omega) (by omega) (by omega)) p1 (by omega) (by omega)).mono ?_
          rintro e wC ⟨vc, rfl, hc, hb_wC⟩
          rw [List.take_length] at hc
          obtain ⟨ad_hc, cap_hc, rfl, -, -⟩ := hc.form
          have zdr : w4.drew.heap.size = w4.heap.size := rfl
          have zC := hb_wC.size
          have zH := Below.size hHeld
          have hB_wC : Below w4.heap.size w4 wC := Below.trans hHeld (hb_wC.mono (Below.size hHeld))
          have HX7 := Lib.hid (HX70.belowS hb_wC)
          have zl_HX7 := HX70.lt
          have HC := Lib.hid (hc.low (by decide))
          clear zdr
          have Hb_wC := Lib.hid hB_wC
          clear hb_wC hB_wC hc
          show K _ _
          refine hK.out _ _ (by exact Hb_wC.out) (fun hHeld => ?_)
          clear hK K
          try simp only [Act.put, List.getElem_toArray, List.getElem_cons_succ, List.getElem_cons_zero, List.setIfInBounds_toArray, List.set_cons_zero, List.set_cons_succ]
          refine wpAnyH_take (i := 4) (v := .tuple #[.agg #[.slice ad_hc T.length cap_hc, .int .i64 (T.length : Int)], .int .i64 0]) rfl (by kernel_rfl) (by kernel_rfl) (by kernel_rfl) (fun _ _ _ h => h) (Or.inl ⟨by rfl, fun w hSw => ?_⟩) hHeld ?_
          · clear hSw; go_simp; all_goals (try first | rfl | omega)
          try simp only [Act.put, List.getElem_toArray, List.getElem_cons_succ, List.getElem_cons_zero, List.setIfInBounds_toArray, List.set_cons_zero, List.set_cons_succ]
          refine wpAnyH_take (i := 5) (v := .agg #[.slice ad_hc T.length cap_hc, .int .i64 (T.length : Int)]) rfl (by kernel_rfl) (by kernel_rfl) (by kernel_rfl) (fun _ _ _ h => h) (Or.inl ⟨by rfl, fun w hSw => ?_⟩) hHeld ?_
          · clear hSw; go_simp; all_goals (try first | rfl | omega)
          try simp only [Act.put, List.getElem_toArray, List.getElem_cons_succ, List.getElem_cons_zero, List.setIfInBounds_toArray, List.set_cons_zero, List.set_cons_succ]
          refine wpAnyH_take (i := 6) (v := .int .i64 0) rfl (by kernel_rfl) (by kernel_rfl) (by kernel_rfl) (fun _ _ _ h => h) (Or.inl ⟨by rfl, fun w hSw => ?_⟩) hHeld ?_
          · clear hSw; go_simp; all_goals (try first | rfl | omega)
          try simp only [Act.put, List.getElem_toArray, List.getElem_cons_succ, List.getElem_cons_zero, List.setIfInBounds_toArray, List.set_cons_zero, List.set_cons_succ]
          refine wpAnyH_ready (rs := [8]) (by kernel_rfl) (by simp) ?_
          refine AllReadyH.cons rfl (fun K hK => ?_) ?_
          · rw [if_pos (by rfl)]
            have s0 := HX7.out.cell 0 rfl
            have sf0 := HX7.out.free 0
            have s1 := HX7.out.cell 1 rfl
            have sf1 := HX7.out.free 1
            have slt := HX7.out.lt
            go_simp
            show K _ _
            refine hK.out _ _ (by repeat (first | with_reducible exact hHeld | with_reducible refine Below.setCell ?_ (by first | omega | (simp <;> omega)) _ | with_reducible refine Below.alloc ?_ (by first | omega | (simp <;> omega)) _ | with_reducible exact Below.refl _ _ | with_reducible refine Below.drew ?_ | with_reducible exact Hb_wC.out)) (fun hHeld => ?_)
            clear hK K
            try simp only [Act.put, List.getElem_toArray, List.getElem_cons_succ, List.getElem_cons_zero, List.setIfInBounds_toArray, List.set_cons_zero, List.set_cons_succ]
            refine wpAnyH_take (i := 9) (v := .int .i64 0) rfl (by kernel_rfl) (by kernel_rfl) (by kernel_rfl) (fun _ _ _ h => h) (Or.inl ⟨by rfl, fun w hSw => ?_⟩) hHeld ?_
            · clear hSw; go_simp; all_goals (try first | rfl | omega)
            try simp only [Act.put, List.getElem_toArray, List.getElem_cons_succ, List.getElem_cons_zero, List.setIfInBounds_toArray, List.set_cons_zero, List.set_cons_succ]
            refine wpAnyH_done (by kernel_rfl) ?_ _
            go_wp2
            go_meet
            refine ⟨w4.heap.size, ad_hc, cap_hc, rfl, rfl, by omega, HX7.out.set2 _ _, HC.out.keep ((Keep.setCell (p := ⟨w4.heap.size, 0, none⟩) (by first | (simp; done) | (simp; omega)) _).trans (Keep.setCell (p := ⟨w4.heap.size, 1, none⟩) (by first | (simp; done) | (simp; omega)) _)) (fun b hb => by have h1 : w4.heap.size ≤ b := (by first | exact hb.1 | (have h := hb.1; simp at h; omega)); have h2 := hb.2; have h3 := hb.1; (try simp at h3); have h5 := BT.out.lt; exact ⟨by omega, by omega⟩), (Hb_wC.out.setCell (by simp) _).setCell (by simp) _⟩
          exact AllReadyH.nil
        exact AllReadyH.nil
      exact AllReadyH.nil
    exact AllReadyH.nil
  case rest =>
    obtain ⟨X, ad9, cap9, rfl, rfl, hXle, hX, hXr, hB9⟩ := hcut
    replace HB := Lib.hid (HB.out.trans (hB9.mono HB.out.size))
    replace HM := Lib.hid (HM.out.below hB9 (fun _ h => h))
    replace HT := Lib.hid (HT.out.below hB9 (fun _ h => h))
    replace BT := Lib.hid (BT.out.belowS hB9)
    replace HS := Lib.hid (HS.out.below hB9 (fun _ h => h))
    have BX := Lib.hid hX
    have HC9 := Lib.hid hXr
    clear hX hXr hB9
    have x0 := BX.out.cell 0 rfl
    have x1 := BX.out.cell 1 rfl
    have zBX := BX.out.lt
    go_wp2_with fail
    refine (trecover_ok _ T (T.length : Int) _ (HC9.out.below (by repeat (first | with_reducible exact Below.refl _ _ | with_reducible refine Below.drew ?_ | with_reducible refine Below.setCell ?_ (by first | omega | (simp <;> omega)) _ | with_reducible refine Below.alloc ?_ (by first | omega | (simp <;> omega)) _)) (fun _ h => h)) (tapeOk_at (by omega) (by omega) (by omega))).mono ?_
    rw [HRA.out]
    rintro e w5 ⟨v6, vD, rfl, h6, hD, hb5⟩
    have hB5 : Below wc.heap.size wc w5 := Below.trans (by repeat (first | with_reducible exact Below.refl _ _ | with_reducible refine Below.drew ?_ | with_reducible refine Below.setCell ?_ (by first | omega | (simp <;> omega)) _ | with_reducible refine Below.alloc ?_ (by first | omega | (simp <;> omega)) _)) (hb5.mono (by first | exact Nat.le_refl _ | (simp; done) | (simp; omega)))
    have z5 := hB5.size
    replace HB := Lib.hid (HB.out.trans (hB5.mono HB.out.size))
    replace HM := Lib.hid (HM.out.below hB5 (fun _ h => h))
    replace HT := Lib.hid (HT.out.below hB5 (fun _ h => h))
    replace BT := Lib.hid (BT.out.belowS hB5)
    replace HS := Lib.hid (HS.out.below hB5 (fun _ h => h))
    replace BX := Lib.hid (BX.out.belowS hB5)
    replace HC9 := Lib.hid (HC9.out.below hB5 (fun _ h => h))
    clear x0 x1 zBX
    dsimp only at h6 hD ⊢
    rw [List.take_length] at hD
    rw [show min (T.length : Int) (T.length : Int) = (T.length : Int) by omega]
    obtain ⟨ad_h6, cap_h6, rfl, -, -⟩ := h6.form
    obtain ⟨ad_hD, cap_hD, rfl, -, -⟩ := hD.form
    have HG := Lib.hid (h6.mono (G' := fun _ => True) (fun _ _ => trivial))
    have HU := Lib.hid (hD.mono (G' := fun _ => True) (fun _ _ => trivial))
    clear hb5 hB5 h6 hD
    go_wp2_with fail
    refine (trecover_ok (.slice none 0 0) [] 0 _ (RdS.nil RByte (fun _ => True) _) (by decide)).mono ?_
    rw [recL_nil]
    rintro e w6 ⟨v7, vE, rfl, h7, hE, hb6⟩
    have hB6 : Below w5.heap.size w5 w6 := Below.trans (by repeat (first | with_reducible exact Below.refl _ _ | with_reducible refine Below.drew ?_ | with_reducible refine Below.setCell ?_ (by first | omega | (simp <;> omega)) _ | with_reducible refine Below.alloc ?_ (by first | omega | (simp <;> omega)) _)) (hb6.mono (by first | exact Nat.le_refl _ | (simp; done) | (simp; omega)))
    have z6 := hB6.size
    have BU := Lib.hid (BoxAt.belowS (show BoxAt _ (w5.heap.size) [.slice ad_hD T.length cap_hD, .int .i64 (T.length : Int)] 50 from (by repeat (first | with_reducible exact BoxAt.newAt _ _ _ (by first | rfl | simp) | with_reducible refine BoxAt.drew ?_ | with_reducible refine BoxAt.alloc ?_ _ | with_reducible refine BoxAt.setOther ?_ (by first | omega | (simp <;> omega)) _))) hb6)
    replace HB := Lib.hid (HB.out.trans (hB6.mono HB.out.size))
    replace HM := Lib.hid (HM.out.below hB6 (fun _ h => h))
    replace HT := Lib.hid (HT.out.below hB6 (fun _ h => h))
    replace BT := Lib.hid (BT.out.belowS hB6)
    replace HS := Lib.hid (HS.out.below hB6 (fun _ h => h))
    replace BX := Lib.hid (BX.out.belowS hB6)
    replace HC9 := Lib.hid (HC9.out.below hB6 (fun _ h => h))
    replace HG := Lib.hid (HG.out.below hB6 (fun _ h => h))
    replace HU := Lib.hid (HU.out.below hB6 (fun _ h => h))
    dsimp only at h7 hE ⊢
    simp only [List.take_nil] at hE
    try rw [show min (0 : Int) ((0 : Nat) : Int) = 0 from rfl]
    obtain ⟨ad_h7, cap_h7, rfl, -, -⟩ := h7.form
    obtain ⟨ad_hE, cap_hE, rfl, -, -⟩ := hE.form
    clear hb6 hB6 h7 hE
    go_wp2_with fail
    refine (begins_pre _ _ _ (HG.out.below (by repeat (first | with_reducible exact Below.refl _ _ | with_reducible refine Below.drew ?_ | with_reducible refine Below.setCell ?_ (by first | omega | (simp <;> omega)) _ | with_reducible refine Below.alloc ?_ (by first | omega | (simp <;> omega)) _)) (fun _ h => h)) (HM.out.below (by repeat (first | with_reducible exact Below.refl _ _ | with_reducible refine Below.drew ?_ | with_reducible refine Below.setCell ?_ (by first | omega | (simp <;> omega)) _ | with_reducible refine Below.alloc ?_ (by first | omega | (simp <;> omega)) _)) (fun _ h => h)) (pre_self ms)).mono ?_
    rintro e w7 ⟨rfl, hb7⟩
    have hB7 : Below w6.heap.size w6 w7 := Below.trans (by repeat (first | with_reducible exact Below.refl _ _ | with_reducible refine Below.drew ?_ | with_reducible refine Below.setCell ?_ (by first | omega | (simp <;> omega)) _ | with_reducible refine Below.alloc ?_ (by first | omega | (simp <;> omega)) _)) (hb7.mono (by first | exact Nat.le_refl _ | (simp; done) | (simp; omega)))
    have z7 := hB7.size
    have BE := Lib.hid (BoxAt.belowS (show BoxAt _ (w6.heap.size) [.slice ad_hE 0 cap_hE, .int .i64 0] 50 from (by repeat (first | with_reducible exact BoxAt.newAt _ _ _ (by first | rfl | simp) | with_reducible refine BoxAt.drew ?_ | with_reducible refine BoxAt.alloc ?_ _ | with_reducible refine BoxAt.setOther ?_ (by first | omega | (simp <;> omega)) _))) hb7)
    replace HB := Lib.hid (HB.out.trans (hB7.mono HB.out.size))
    replace HM := Lib.hid (HM.out.below hB7 (fun _ h => h))
    replace HT := Lib.hid (HT.out.below hB7 (fun _ h => h))
    replace BT := Lib.hid (BT.out.belowS hB7)
    replace HS := Lib.hid (HS.out.below hB7 (fun _ h => h))
    replace BX := Lib.hid (BX.out.belowS hB7)
    replace HC9 := Lib.hid (HC9.out.below hB7 (fun _ h => h))
    replace HG := Lib.hid (HG.out.below hB7 (fun _ h => h))
    replace HU := Lib.hid (HU.out.below hB7 (fun _ h => h))
    replace BU := Lib.hid (BU.out.belowS hB7)
    clear hb7 hB7
    have t0 := BT.out.cell 0 rfl
    have t1 := BT.out.cell 1 rfl
    have zBT := BT.out.lt
    have u0 := BU.out.cell 0 rfl
    have u1 := BU.out.cell 1 rfl
    have zBU := BU.out.lt
    have e0 := BE.out.cell 0 rfl
    have zBE := BE.out.lt
    go_wp2_with fail
    refine (same_any (l := T) (m := T) _ _ w7 HU.out HS.out).mono ?_
    rintro e w' ⟨rfl, rfl⟩
    rw [decide_eq_true (rfl : T = T)]
    go_wp2
    go_ret
    exact ⟨rfl, HB.out⟩
end Go.Proofs.Ytegdpjoncjmdeaa
