/- TapeKeeps: the walk. -/
import Derived.Test.YtegdpjoncjmdeaaRawM
import Derived.Test.YtegdpjoncjmdeaaTapeP
set_option linter.unusedVariables false
set_option linter.unusedSimpArgs false
attribute [local go_sem ↓] Go.wp_at_zero Go.wp_at_succ
namespace Go.Proofs.Ytegdpjoncjmdeaa
open Go Go.RowKit

theorem tapeB_mono (ms : List Msg) {i j : Nat} (h : i ≤ j) : (tapeB (ms.take i)).length ≤ (tapeB (ms.take j)).length := by
  have := tapeB_take_le (ms.take j) i
  rwa [List.take_take, Nat.min_eq_left h] at this
set_option maxRecDepth 100000 in
set_option maxHeartbeats 8000000 in
theorem tapeKeeps_walk (v : Value) (l : List RawD) (a n : Int) (w : World) (hv : RdS RRaw (fun _ => True) w v l) (a1 : -9223372036854775808 ≤ a) (a2 : a ≤ 9223372036854775807) (n1 : -9223372036854775808 ≤ n) (n2 : n ≤ 9223372036854775807) :
    Calls Try.prog 13 #[v, .int .i64 a, .int .i64 n] w fun e w' => e = .returned (.bool true) ∧ Below w.heap.size w w' := by
  have HB := Lib.hid (Below.refl w.heap.size w)
  have HV := Lib.hid (hv)
  obtain ⟨adv, capv, rfl, -, -⟩ := hv.form
  obtain ⟨hok, hm24, hT72⟩ := recs_parts l
  have HOK := Lib.hid hok
  have hms : (recsL l).length ≤ 1000 := by omega
  have HTP := Lib.hid (fun k hk => torn_parts hok k hk)
  have hTt := fun (k : Nat) (hk : k < (recsL l).length) => (show tapeB ((recsL l).take (k + 1)) = tapeB ((recsL l).take k) ++ frmL (recsL l)[k] by rw [List.take_succ_eq_append_getElem hk, tapeB_app, tapeB_one])
  have HTT := Lib.hid hTt
  have HLE := Lib.hid (fun (k : Nat) => (tapeB_len ((recsL l).take k) (fun m hm => hok m (List.mem_of_mem_take hm))))
  clear hTt
  clear hv hok
  go_enter Try.func13, Try.ntmps13
  go_wp2_with fail
  refine (records_any _ _ (HV.out.below (by repeat (first | with_reducible exact Below.refl _ _ | with_reducible refine Below.drew ?_ | with_reducible refine Below.setCell ?_ (by first | omega | (simp <;> omega)) _ | with_reducible refine Below.alloc ?_ (by first | omega | (simp <;> omega)) _)) (fun _ h => h))).mono ?_
  rintro e w1 ⟨v1, rfl, h1, hb1⟩
  have hB1 : Below w.heap.size w w1 := Below.trans (by repeat (first | with_reducible exact Below.refl _ _ | with_reducible refine Below.drew ?_ | with_reducible refine Below.setCell ?_ (by first | omega | (simp <;> omega)) _ | with_reducible refine Below.alloc ?_ (by first | omega | (simp <;> omega)) _)) (hb1.mono (by first | exact Nat.le_refl _ | (simp; done) | (simp; omega)))
  have z1 := hB1.size
  replace HB := Lib.hid (HB.out.trans (hB1.mono HB.out.size))
  replace HV := Lib.hid (HV.out.below hB1 (fun _ h => h))
  obtain ⟨ad_h1, cap_h1, rfl, -, -⟩ := h1.form
  have HM := Lib.hid (h1.mono (G' := fun _ => True) (fun _ _ => trivial))
  clear hb1 hB1 h1
  clear HV
  generalize recsL l = ms at *
  obtain ⟨p1, p2⟩ := pickedZ_range a ((ms.length : Int) + 1) (by omega)
  obtain ⟨k, hk⟩ : ∃ k : Nat, pickedZ a ((ms.length : Int) + 1) = (k : Int) := ⟨_, (Int.toNat_of_nonneg p1).symm⟩
  rw [hk] at p1 p2
  have HK := Lib.hid hk
  have hkm : k ≤ ms.length := by omega
  have hcap1 := HM.out.len.2.1
  have ik : (k : Int) ≤ (cap_h1 : Int) := by omega
  have hkl : (ms.take k).length = k := by rw [List.length_take]; omega
  have HKL := Lib.hid hkl
  have hK1 := HLE.out k
  rw [hkl] at hK1
  have HOKK := Lib.hid (show ∀ m ∈ ms.take k, recCode m = 0 from fun m hm => HOK.out m (List.mem_of_mem_take hm))
  clear hk hkl p1 p2
  go_wp2_with (go_at_call 19; refine (picked_any a ((ms.length : Int) + 1) _ a1 a2 (by omega) (by omega)).mono ?_; rintro e w' ⟨rfl, rfl⟩; rw [HK.out])
  refine (taped_any (.slice ad_h1 k k) _ ((HM.out.below (by repeat (first | with_reducible exact Below.refl _ _ | with_reducible refine Below.drew ?_ | with_reducible refine Below.setCell ?_ (by first | omega | (simp <;> omega)) _ | with_reducible refine Below.alloc ?_ (by first | omega | (simp <;> omega)) _)) (fun _ h => h)).take3 k hkm) HOKK.out (by rw [HKL.out]; omega)).mono ?_
  rintro e w2 ⟨vT, rfl, hT, hb2⟩
  have hB2 : Below w1.heap.size w1 w2 := Below.trans (by repeat (first | with_reducible exact Below.refl _ _ | with_reducible refine Below.drew ?_ | with_reducible refine Below.setCell ?_ (by first | omega | (simp <;> omega)) _ | with_reducible refine Below.alloc ?_ (by first | omega | (simp <;> omega)) _)) (hb2.mono (by first | exact Nat.le_refl _ | (simp; done) | (simp; omega)))
  have z2 := hB2.size
  replace HB := Lib.hid (HB.out.trans (hB2.mono HB.out.size))
  replace HM := Lib.hid (HM.out.below hB2 (fun _ h => h))
  obtain ⟨ad_hT, cap_hT, rfl, -, -⟩ := hT.form
  have HT := Lib.hid (hT.mono (G' := fun _ => True) (fun _ _ => trivial))
  clear hb2 hB2 hT
  obtain ⟨KL, hKe⟩ : ∃ KL, KL = tapeB (ms.take k) := ⟨_, rfl⟩
  rw [← hKe] at HT hK1 ⊢
  have HKE := Lib.hid hKe
  clear hKe
  replace HM := Lib.hid ((HM.out.low (by decide)).mono (G' := fun b => b ≠ w2.heap.size) (fun b hb => by have := hb.2; omega))
  replace HT := Lib.hid ((HT.out.low (by decide)).mono (G' := fun b => b ≠ w2.heap.size) (fun b hb => by have := hb.2; omega))
  go_wp2_with fail
  refine (tsync_rd _ KL 0 _ (HT.out.below (by repeat (first | with_reducible exact Below.refl _ _ | with_reducible refine Below.drew ?_ | with_reducible refine Below.setCell ?_ (by first | omega | (simp <;> omega)) _ | with_reducible refine Below.alloc ?_ (by first | omega | (simp <;> omega)) _)) (fun _ h => h)) (tapeOk_zero (by omega))).mono ?_
  rintro e w3 ⟨v3, rfl, h3, hb3⟩
  have hB3 : Below w2.heap.size w2 w3 := Below.trans (by repeat (first | with_reducible exact Below.refl _ _ | with_reducible refine Below.drew ?_ | with_reducible refine Below.setCell ?_ (by first | omega | (simp <;> omega)) _ | with_reducible refine Below.alloc ?_ (by first | omega | (simp <;> omega)) _)) (hb3.mono (by first | exact Nat.le_refl _ | (simp; done) | (simp; omega)))
  have z3 := hB3.size
  have BT := Lib.hid (BoxAt.belowS (show BoxAt _ (w2.heap.size) [.slice ad_hT KL.length cap_hT, .int .i64 0] 50 from (by repeat (first | with_reducible exact BoxAt.newAt _ _ _ (by first | rfl | simp) | with_reducible refine BoxAt.drew ?_ | with_reducible refine BoxAt.alloc ?_ _ | with_reducible refine BoxAt.setOther ?_ (by first | omega | (simp <;> omega)) _))) hb3)
  replace HB := Lib.hid (HB.out.trans (hB3.mono HB.out.size))
  replace HM := Lib.hid (HM.out.below hB3 (fun _ h => h))
  replace HT := Lib.hid (HT.out.below hB3 (fun _ h => h))
  obtain ⟨ad_h3, cap_h3, rfl, -, -⟩ := h3.form
  have HS := Lib.hid (h3.mono (G' := fun b => b ≠ w2.heap.size) (fun b hb => by first | omega | (simp at hb; omega)))
  clear hb3 hB3 h3
  have t0 := BT.out.cell 0 rfl
  have t1 := BT.out.cell 1 rfl
  have zBT := BT.out.lt
  have fBT0 := BT.out.free 0
  have fBT1 := BT.out.free 1
  go_upto_region 5 with fail
  obtain ⟨w4, hw4⟩ : ∃ w4, w4 = ((w3.setCell ⟨w2.heap.size, 0, none⟩ (.slice ad_h3 KL.length cap_h3)).setCell ⟨w2.heap.size, 1, none⟩ (.int .i64 (KL.length : Int))) := ⟨_, rfl⟩
  have hK4 : Keep (fun b => b ≠ w2.heap.size) w3 w4 := by rw [hw4]; exact ((Keep.setCell (p := ⟨w2.heap.size, 0, none⟩) (by simp) _).trans (Keep.setCell (p := ⟨w2.heap.size, 1, none⟩) (by simp) _))
  have zza4 : w4.heap.size ≤ w3.heap.size := by rw [hw4]; simp [World.setCell]
  have zzb4 : w3.heap.size ≤ w4.heap.size := by rw [hw4]; simp [World.setCell]
  have hbx4 := ((BT.out.set 0 (.slice ad_h3 KL.length cap_h3)).set 1 (.int .i64 (KL.length : Int)))
  rw [← hw4] at hbx4
  replace BT := Lib.hid hbx4
  have hq := ((HB.out.setCell (p := ⟨w2.heap.size, 0, none⟩) (by first | omega | (simp <;> omega)) (.slice ad_h3 KL.length cap_h3)).setCell (p := ⟨w2.heap.size, 1, none⟩) (by first | omega | (simp <;> omega)) (.int .i64 (KL.length : Int)))
  rw [← hw4] at hq
  replace HB := Lib.hid hq
  clear hq
  replace HM := Lib.hid (HM.out.keep hK4 (fun _ h => h))
  replace HT := Lib.hid (HT.out.keep hK4 (fun _ h => h))
  replace HS := Lib.hid (HS.out.keep hK4 (fun _ h => h))
  rw [← hw4]
  clear t0 t1 zBT fBT0 fBT1
  clear hw4 hK4 hbx4
  clear HT
  have zBT := BT.out.lt
  have t0 := BT.out.cell 0 rfl
  have t1 := BT.out.cell 1 rfl
  go_upto_region 7 with fail
  clear t0 t1
  go_loopw [13] (fun i wr => ∃ (j : Nat) (ad : Option Addr) (cap : Nat), k ≤ j ∧ j ≤ ms.length ∧ i = .int .i64 j ∧ BoxAt wr w2.heap.size [.slice ad (tapeB (ms.take j)).length cap, .int .i64 (KL.length : Int)] 50 ∧ RdB (fun b => b ≠ w2.heap.size) wr (.slice ad (tapeB (ms.take j)).length cap) (tapeB (ms.take j)) ∧ Keep (fun b => b ≠ w2.heap.size) w4 wr ∧ w4.heap.size ≤ wr.heap.size ∧ Below w.heap.size w wr) (fun i _ => ms.length - (intOf i).toNat)
  case atStart => exact ⟨k, ad_h3, cap_h3, Nat.le_refl _, hkm, rfl, by rw [← HKE.out]; exact BT.out, by rw [← HKE.out]; exact HS.out, Keep.refl _ _, Nat.le_refl _, HB.out⟩
  case round =>
    obtain ⟨j, adj, capj, hkj, hjm, rfl, hT, hrd, hKp, hzr, hB⟩ := hrel
    have hz := hT.lt
    have HBr := Lib.hid hB
    have HKp := Lib.hid hKp
    have BTr := Lib.hid hT
    have HD := Lib.hid hrd
    have hjl : (ms.take j).length = j := by rw [List.length_take]; omega
    have hlj := (HLE.out j).1
    rw [hjl] at hlj
    clear hjl
    by_cases hlt : j < ms.length
    · have i0 : (0 : Int) ≤ (j : Int) := by omega
      have i1 : (j : Int) < (ms.length : Int) := by omega
      obtain ⟨bm, om, mv, hab, -, hcm', hrm⟩ := (HM.out.keep hKp (fun _ h => h)).msg j hlt
      subst hab
      have hrc := HOK.out ms[j] (List.getElem_mem hlt)
      have hTk := HTT.out j hlt
      have hl2 := encL_len (recCode_iff hrc).1
      have hfl := frm_len ms[j]
      have rm : wr.rangeAt bm (om + j * 19) (msgCells ms[j] mv) := fun j' v hv => by rw [Nat.add_assoc]; exact hcm' j' v hv
      have zm : bm < wr.heap.size := World.block_lt_of_cell? wr _ (rm 0 _ rfl)
      have hKL2 : KL.length ≤ (tapeB (ms.take j)).length := by rw [HKE.out]; exact tapeB_mono ms hkj
      generalize ms[j] = M at *
      generalize tapeB (ms.take j) = L at *
      obtain ⟨N, hN0⟩ : ∃ N, N = L ++ frmL M := ⟨_, rfl⟩
      rw [← hN0] at hTk
      have lN : N.length = L.length + (frmL M).length := by rw [hN0]; simp
      have HLEN := Lib.hid (show L.length + (frmL M).length ≤ 400000 by omega)
      have HNL := Lib.hid hN0
      have HTK := Lib.hid hTk
      have HRM := Lib.hid hrm
      have HRC := Lib.hid hrc
      have HTO := Lib.hid (show tapeOk L.length (KL.length : Int) = true from tapeOk_at (by omega) (by omega) (by omega))
      clear hcm' hrm hrc hTk hN0 lN hfl hl2 hB hKp hT hrd
      go_upto_region 9 with fail
      refine wp_region_held_drew (S := fun w' => Below wr.heap.size wr w') (by kernel_rfl) (by exact (Below.refl _ _).drew) (fun hHeld => ?_)
      refine wpAnyH_take (i := 0) (v := .agg #[.slice adj L.length capj, .int .i64 (KL.length : Int)]) rfl (by kernel_rfl) (by kernel_rfl) (by kernel_rfl) (fun _ _ _ h => h) (Or.inl ⟨by rfl, fun w hSw => ?_⟩) hHeld ?_
      · have qb := BTr.out.belowS hSw; have q0 := qb.cell 0 rfl; have q1 := qb.cell 1 rfl; clear hSw qb; go_simp
      try simp only [Act.put, List.getElem_toArray, List.getElem_cons_succ, List.getElem_cons_zero, List.setIfInBounds_toArray, List.set_cons_zero, List.set_cons_succ]
      refine wpAnyH_take (i := 1) (v := .slice (some ⟨bm, om, none⟩) ms.length cap_h1) rfl (by kernel_rfl) (by kernel_rfl) (by kernel_rfl) (fun _ _ _ h => h) (Or.inl ⟨by rfl, fun w hSw => ?_⟩) hHeld ?_
      · clear hSw; go_simp; all_goals (try first | rfl | omega)
      try simp only [Act.put, List.getElem_toArray, List.getElem_cons_succ, List.getElem_cons_zero, List.setIfInBounds_toArray, List.set_cons_zero, List.set_cons_succ]
      refine wpAnyH_take (i := 2) (v := .int .i64 (j : Int)) rfl (by kernel_rfl) (by kernel_rfl) (by kernel_rfl) (fun _ _ _ h => h) (Or.inl ⟨by rfl, fun w hSw => ?_⟩) hHeld ?_
      · clear hSw; go_simp; all_goals (try first | rfl | omega)
      try simp only [Act.put, List.getElem_toArray, List.getElem_cons_succ, List.getElem_cons_zero, List.setIfInBounds_toArray, List.set_cons_zero, List.set_cons_succ]
      refine wpAnyH_take (i := 3) (v := .pointer (some ⟨bm, om + j * 19, none⟩)) rfl (by kernel_rfl) (by kernel_rfl) (by kernel_rfl) (fun _ _ _ h => h) (Or.inl ⟨by rfl, fun w hSw => ?_⟩) hHeld ?_
      · clear hSw; go_simp; all_goals (try first | rfl | omega)
      try simp only [Act.put, List.getElem_toArray, List.getElem_cons_succ, List.getElem_cons_zero, List.setIfInBounds_toArray, List.set_cons_zero, List.set_cons_succ]
      refine wpAnyH_take (i := 4) (v := .agg (msgCells M mv).toArray) rfl (by kernel_rfl) (by kernel_rfl) (by kernel_rfl) (fun _ _ _ h => h) (yieldsIf_load_mid (by rfl) 35 _ rfl bm (om + j * 19) rfl (msgCells M mv) _ (fun w hSw => fun j v hv => by rw [(bcellAt hSw _ zm).1]; exact rm j v hv) Try.underlying35 rfl (by kernel_rfl)) hHeld ?_
      try simp only [Act.put, List.getElem_toArray, List.getElem_cons_succ, List.getElem_cons_zero, List.setIfInBounds_toArray, List.set_cons_zero, List.set_cons_succ]
      refine wpAnyH_ready (rs := [5, 9]) (by kernel_rfl) (by simp) ?_
      refine AllReadyH.cons rfl (fun K hK => ?_) ?_
      · rw [if_pos (by rfl)]
        go_simp
        go_at_call 22
        refine (tappend_ok M mv _ L (KL.length : Int) _ (HRM.out.below hHeld (fun _ h => h)) (HD.out.below hHeld (fun _ h => h)) HTO.out HRC.out HLEN.out).mono ?_
        rintro e wN ⟨vN, rfl, hN, hb_wN⟩
        rw [← HNL.out] at hN
        obtain ⟨adN, capN, rfl, -, -⟩ := hN.form
        have zN := hb_wN.size
        have zH := Below.size hHeld
        have hB_wN : Below wr.heap.size wr wN := Below.trans hHeld (hb_wN.mono (Below.size hHeld))
        have HN2 := Lib.hid (hN.low (by decide))
        have HT2 := Lib.hid (BTr.out.belowS hB_wN)
        have t0 := HT2.out.cell 0 rfl
        have t1 := HT2.out.cell 1 rfl
        have f0 := HT2.out.free 0
        have f1 := HT2.out.free 1
        have zT2 := HT2.out.lt
        have nX : wr.heap.size ≠ w2.heap.size := by omega
        have nX2 : wN.heap.size ≠ w2.heap.size := by have := hB_wN.size; omega
        have Hb_wN := Lib.hid hB_wN
        clear hb_wN hB_wN hN
        show K _ _
        refine hK.out _ _ (by exact Hb_wN.out) (fun hHeld => ?_)
        clear hK K
        try simp only [Act.put, List.getElem_toArray, List.getElem_cons_succ, List.getElem_cons_zero, List.setIfInBounds_toArray, List.set_cons_zero, List.set_cons_succ]
        refine wpAnyH_take (i := 6) (v := .tuple #[.agg #[.slice adN N.length capN, .int .i64 (KL.length : Int)], .int .i64 0]) rfl (by kernel_rfl) (by kernel_rfl) (by kernel_rfl) (fun _ _ _ h => h) (Or.inl ⟨by rfl, fun w hSw => ?_⟩) hHeld ?_
        · clear hSw; go_simp; all_goals (try first | rfl | omega)
        try simp only [Act.put, List.getElem_toArray, List.getElem_cons_succ, List.getElem_cons_zero, List.setIfInBounds_toArray, List.set_cons_zero, List.set_cons_succ]
        refine wpAnyH_take (i := 7) (v := .agg #[.slice adN N.length capN, .int .i64 (KL.length : Int)]) rfl (by kernel_rfl) (by kernel_rfl) (by kernel_rfl) (fun _ _ _ h => h) (Or.inl ⟨by rfl, fun w hSw => ?_⟩) hHeld ?_
        · clear hSw; go_simp; all_goals (try first | rfl | omega)
        try simp only [Act.put, List.getElem_toArray, List.getElem_cons_succ, List.getElem_cons_zero, List.setIfInBounds_toArray, List.set_cons_zero, List.set_cons_succ]
        refine wpAnyH_take (i := 8) (v := .int .i64 0) rfl (by kernel_rfl) (by kernel_rfl) (by kernel_rfl) (fun _ _ _ h => h) (Or.inl ⟨by rfl, fun w hSw => ?_⟩) hHeld ?_
        · clear hSw; go_simp; all_goals (try first | rfl | omega)
        try simp only [Act.put, List.getElem_toArray, List.getElem_cons_succ, List.getElem_cons_zero, List.setIfInBounds_toArray, List.set_cons_zero, List.set_cons_succ]
        refine wpAnyH_ready (rs := [9]) (by kernel_rfl) (by simp) ?_
        refine AllReadyH.cons rfl (fun K hK => ?_) ?_
        · rw [if_pos (by rfl)]
          go_simp
          have HX90 : BoxAt (wN.alloc (.cells #[.slice none 0 0, .int .i64 0] 50)) (wN.heap.size) [.slice none 0 0, .int .i64 0] 50 := BoxAt.newAt wN [.slice none 0 0, .int .i64 0] 50 (by first | rfl | simp)
          show K _ _
          refine hK.out _ _ (by exact Below.alloc hHeld (Below.size hHeld) _) (fun hHeld => ?_)
          clear hK K
          try simp only [Act.put, List.getElem_toArray, List.getElem_cons_succ, List.getElem_cons_zero, List.setIfInBounds_toArray, List.set_cons_zero, List.set_cons_succ]
          refine wpAnyH_ready (rs := [10]) (by kernel_rfl) (by simp) ?_
          refine AllReadyH.cons rfl (fun K hK => ?_) ?_
          · rw [if_pos (by rfl)]
            go_simp
            show K _ _
            refine hK.out _ _ (by repeat (first | with_reducible exact hHeld | with_reducible refine Below.setCell ?_ (by first | omega | (simp <;> omega)) _ | with_reducible refine Below.alloc ?_ (by first | omega | (simp <;> omega)) _ | with_reducible exact Below.refl _ _ | with_reducible refine Below.drew ?_ | with_reducible exact Hb_wN.out)) (fun hHeld => ?_)
            clear hK K
            try simp only [Act.put, List.getElem_toArray, List.getElem_cons_succ, List.getElem_cons_zero, List.setIfInBounds_toArray, List.set_cons_zero, List.set_cons_succ]
            refine wpAnyH_take (i := 11) (v := .int .i64 0) rfl (by kernel_rfl) (by kernel_rfl) (by kernel_rfl) (fun _ _ _ h => h) (Or.inl ⟨by rfl, fun w hSw => ?_⟩) hHeld ?_
            · clear hSw; go_simp; all_goals (try first | rfl | omega)
            try simp only [Act.put, List.getElem_toArray, List.getElem_cons_succ, List.getElem_cons_zero, List.setIfInBounds_toArray, List.set_cons_zero, List.set_cons_succ]
            refine wpAnyH_done (by kernel_rfl) ?_ _
            go_wp2
            go_roundw
            case rel =>
              refine ⟨j + 1, adN, capN, by omega, by omega, by go_num, by rw [HTK.out]; first | with_reducible exact (HT2.out.set2 _ _).alloc _ | with_reducible exact BoxAt.set2 (by repeat (first | with_reducible exact HT2.out | with_reducible refine BoxAt.drew ?_ | with_reducible refine BoxAt.alloc ?_ _ | with_reducible refine BoxAt.setOther ?_ (by first | omega | (simp <;> omega)) _)) _ _, ?_, ?_, ?_, ?_⟩
              · rw [HTK.out]; exact HN2.out.keep (by repeat (first | with_reducible exact Keep.refl _ _ | with_reducible refine Keep.drew' ?_ | with_reducible refine Keep.alloc' ?_ _ | with_reducible refine Keep.setCell' ?_ (by first | (simp; done) | (simp <;> omega) | omega) _)) (fun b hb => by have h1 := hb.1; simp at h1; omega)
              · with_reducible exact Keep.alloc' (Keep.setCell' (p := ⟨w2.heap.size, 1, none⟩) (Keep.setCell' (p := ⟨w2.heap.size, 0, none⟩) (HKp.out.trans (Keep.below Hb_wN.out)) (by simp) _) (by simp) _) _
              · have h1 := Hb_wN.out.size; simp [World.setCell]; omega
              · exact (by repeat (first | with_reducible exact (HBr.out.trans (Hb_wN.out.mono HBr.out.size)) | with_reducible exact Below.refl _ _ | with_reducible refine Below.drew ?_ | with_reducible refine Below.setCell ?_ (by first | omega | (simp <;> omega)) _ | with_reducible refine Below.alloc ?_ (by first | omega | (simp <;> omega)) _))
            case measure => simp [intOf]; omega
          exact AllReadyH.nil
        exact AllReadyH.nil
      refine AllReadyH.cons rfl (fun K hK => ?_) ?_
      · rw [if_pos (by rfl)]
        go_simp
        have HX90 : BoxAt (wr.drew.alloc (.cells #[.slice none 0 0, .int .i64 0] 50)) (wr.heap.size) [.slice none 0 0, .int .i64 0] 50 := BoxAt.newAt wr.drew [.slice none 0 0, .int .i64 0] 50 (by first | rfl | simp)
        show K _ _
        refine hK.out _ _ (by exact Below.alloc hHeld (Below.size hHeld) _) (fun hHeld => ?_)
        clear hK K
        try simp only [Act.put, List.getElem_toArray, List.getElem_cons_succ, List.getElem_cons_zero, List.setIfInBounds_toArray, List.set_cons_zero, List.set_cons_succ]
        refine wpAnyH_ready (rs := [5]) (by kernel_rfl) (by simp) ?_
        refine AllReadyH.cons rfl (fun K hK => ?_) ?_
        · rw [if_pos (by rfl)]
          go_simp
          go_at_call 22
          refine (tappend_ok M mv _ L (KL.length : Int) _ (HRM.out.below hHeld (fun _ h => h)) (HD.out.below hHeld (fun _ h => h)) HTO.out HRC.out HLEN.out).mono ?_
          rintro e wN ⟨vN, rfl, hN, hb_wN⟩
          rw [← HNL.out] at hN
          obtain ⟨adN, capN, rfl, -, -⟩ := hN.form
          have zN := hb_wN.size
          have zH := Below.size hHeld
          have hB_wN : Below wr.heap.size wr wN := Below.trans hHeld (hb_wN.mono (Below.size hHeld))
          have HX9 := Lib.hid (HX90.belowS hb_wN)
          have zl_HX9 := HX90.lt
          have HN2 := Lib.hid (hN.low (by decide))
          have HT2 := Lib.hid (BTr.out.belowS hB_wN)
          have t0 := HT2.out.cell 0 rfl
          have t1 := HT2.out.cell 1 rfl
          have f0 := HT2.out.free 0
          have f1 := HT2.out.free 1
          have zT2 := HT2.out.lt
          have nX : wr.heap.size ≠ w2.heap.size := by omega
          have nX2 : wN.heap.size ≠ w2.heap.size := by have := hB_wN.size; omega
          have Hb_wN := Lib.hid hB_wN
          clear hb_wN hB_wN hN
          show K _ _
          refine hK.out _ _ (by exact Hb_wN.out) (fun hHeld => ?_)
          clear hK K
          try simp only [Act.put, List.getElem_toArray, List.getElem_cons_succ, List.getElem_cons_zero, List.setIfInBounds_toArray, List.set_cons_zero, List.set_cons_succ]
          refine wpAnyH_take (i := 6) (v := .tuple #[.agg #[.slice adN N.length capN, .int .i64 (KL.length : Int)], .int .i64 0]) rfl (by kernel_rfl) (by kernel_rfl) (by kernel_rfl) (fun _ _ _ h => h) (Or.inl ⟨by rfl, fun w hSw => ?_⟩) hHeld ?_
          · clear hSw; go_simp; all_goals (try first | rfl | omega)
          try simp only [Act.put, List.getElem_toArray, List.getElem_cons_succ, List.getElem_cons_zero, List.setIfInBounds_toArray, List.set_cons_zero, List.set_cons_succ]
          refine wpAnyH_take (i := 7) (v := .agg #[.slice adN N.length capN, .int .i64 (KL.length : Int)]) rfl (by kernel_rfl) (by kernel_rfl) (by kernel_rfl) (fun _ _ _ h => h) (Or.inl ⟨by rfl, fun w hSw => ?_⟩) hHeld ?_
          · clear hSw; go_simp; all_goals (try first | rfl | omega)
          try simp only [Act.put, List.getElem_toArray, List.getElem_cons_succ, List.getElem_cons_zero, List.setIfInBounds_toArray, List.set_cons_zero, List.set_cons_succ]
          refine wpAnyH_take (i := 8) (v := .int .i64 0) rfl (by kernel_rfl) (by kernel_rfl) (by kernel_rfl) (fun _ _ _ h => h) (Or.inl ⟨by rfl, fun w hSw => ?_⟩) hHeld ?_
          · clear hSw; go_simp; all_goals (try first | rfl | omega)
          try simp only [Act.put, List.getElem_toArray, List.getElem_cons_succ, List.getElem_cons_zero, List.setIfInBounds_toArray, List.set_cons_zero, List.set_cons_succ]
          refine wpAnyH_ready (rs := [10]) (by kernel_rfl) (by simp) ?_
          refine AllReadyH.cons rfl (fun K hK => ?_) ?_
          · rw [if_pos (by rfl)]
            have s0 := HX9.out.cell 0 rfl
            have sf0 := HX9.out.free 0
            have s1 := HX9.out.cell 1 rfl
            have sf1 := HX9.out.free 1
            have slt := HX9.out.lt
            go_simp
            show K _ _
            refine hK.out _ _ (by repeat (first | with_reducible exact hHeld | with_reducible refine Below.setCell ?_ (by first | omega | (simp <;> omega)) _ | with_reducible refine Below.alloc ?_ (by first | omega | (simp <;> omega)) _ | with_reducible exact Below.refl _ _ | with_reducible refine Below.drew ?_ | with_reducible exact Hb_wN.out)) (fun hHeld => ?_)
            clear hK K
            try simp only [Act.put, List.getElem_toArray, List.getElem_cons_succ, List.getElem_cons_zero, List.setIfInBounds_toArray, List.set_cons_zero, List.set_cons_succ]
            refine wpAnyH_take (i := 11) (v := .int .i64 0) rfl (by kernel_rfl) (by kernel_rfl) (by kernel_rfl) (fun _ _ _ h => h) (Or.inl ⟨by rfl, fun w hSw => ?_⟩) hHeld ?_
            · clear hSw; go_simp; all_goals (try first | rfl | omega)
            try simp only [Act.put, List.getElem_toArray, List.getElem_cons_succ, List.getElem_cons_zero, List.setIfInBounds_toArray, List.set_cons_zero, List.set_cons_succ]
            refine wpAnyH_done (by kernel_rfl) ?_ _
            go_wp2
            go_roundw
            case rel =>
              refine ⟨j + 1, adN, capN, by omega, by omega, by go_num, by rw [HTK.out]; first | with_reducible exact (HT2.out.set2 _ _).alloc _ | with_reducible exact BoxAt.set2 (by repeat (first | with_reducible exact HT2.out | with_reducible refine BoxAt.drew ?_ | with_reducible refine BoxAt.alloc ?_ _ | with_reducible refine BoxAt.setOther ?_ (by first | omega | (simp <;> omega)) _)) _ _, ?_, ?_, ?_, ?_⟩
              · rw [HTK.out]; exact HN2.out.keep (by repeat (first | with_reducible exact Keep.refl _ _ | with_reducible refine Keep.drew' ?_ | with_reducible refine Keep.alloc' ?_ _ | with_reducible refine Keep.setCell' ?_ (by first | (simp; done) | (simp <;> omega) | omega) _)) (fun b hb => by have h1 := hb.1; simp at h1; omega)
              · have hb2 : Below wr.heap.size wr ((wN.setCell ⟨wr.heap.size, 0, none⟩ (.slice adN N.length capN)).setCell ⟨wr.heap.size, 1, none⟩ (.int .i64 (KL.length : Int))) := (Hb_wN.out.setCell (by simp) _).setCell (by simp) _; with_reducible exact Keep.setCell' (p := ⟨w2.heap.size, 1, none⟩) (Keep.setCell' (p := ⟨w2.heap.size, 0, none⟩) (HKp.out.trans (Keep.below hb2)) (by simp) _) (by simp) _
              · have h1 := Hb_wN.out.size; simp [World.setCell]; omega
              · exact (by repeat (first | with_reducible exact (HBr.out.trans (Hb_wN.out.mono HBr.out.size)) | with_reducible exact Below.refl _ _ | with_reducible refine Below.drew ?_ | with_reducible refine Below.setCell ?_ (by first | omega | (simp <;> omega)) _ | with_reducible refine Below.alloc ?_ (by first | omega | (simp <;> omega)) _))
            case measure => simp [intOf]; omega
          exact AllReadyH.nil
        exact AllReadyH.nil
      exact AllReadyH.nil
    · obtain rfl : j = ms.length := by omega
      have t1 : ¬ (ms.length : Int) < (ms.length : Int) := by omega
      rw [List.take_length] at HD BTr hlj
      clear hT hrd hKp hB
      obtain ⟨T, hTe⟩ : ∃ T, T = tapeB ms := ⟨_, rfl⟩
      rw [← hTe] at HD BTr HTP hlj
      have hKT : KL.length ≤ T.length := by rw [hTe, HKE.out]; exact tapeB_take_le ms k
      clear hTe
      replace HM := Lib.hid (HM.out.keep HKp.out (fun _ h => h))
      clear HS BT
      replace HB := HBr
      clear HKp
      go_upto_region 13 with fail
      obtain ⟨p1, p2⟩ := pickedZ_range n 900 (by omega)
      obtain ⟨q, hq⟩ : ∃ q : Int, pickedZ n 900 = q := ⟨_, rfl⟩
      rw [hq] at p1 p2
      have HQ := Lib.hid hq
      clear hq
      obtain ⟨N, hN⟩ : ∃ N : Nat, (N : Int) = (KL.length : Int) + min q ((T.length : Int) - (KL.length : Int)) := ⟨((KL.length : Int) + min q ((T.length : Int) - (KL.length : Int))).toNat, by omega⟩
      have HN := Lib.hid hN
      have hNT : N ≤ T.length := by omega
      have hNs : (KL.length : Int) ≤ (N : Int) := by omega
      have hNl : (T.take N).length = N := by rw [List.length_take]; omega
      have HNL := Lib.hid hNl
      clear hN hNl
      go_cut [16] (fun e wx => ∃ (ad : Option Addr) (cap : Nat), e = .int .i64 0 ∧ BoxAt wx (w2.heap.size) [.slice ad N cap, .int .i64 (N : Int)] 50 ∧ RdB (fun b => b ≠ w2.heap.size) wx (.slice ad N cap) (T.take N) ∧ Keep (fun b => b ≠ w2.heap.size) wr wx ∧ (∀ (b' : Nat) (cs : List Value) (T' : TypeId), b' ≠ w2.heap.size → b' < wr.heap.size → BoxAt wr b' cs T' → BoxAt wx b' cs T') ∧ wr.heap.size ≤ wx.heap.size ∧ Below w.heap.size w wx)
      case first =>
        refine wp_region_held_drew (S := fun _ => True) (by kernel_rfl) (by exact trivial) (fun hHeld => ?_)
        refine wpAnyH_take (i := 1) (v := .int .i64 n) rfl (by kernel_rfl) (by kernel_rfl) (by kernel_rfl) (fun _ _ _ h => h) (Or.inl ⟨by rfl, fun w hSw => ?_⟩) hHeld ?_
        · clear hSw; go_simp; all_goals (try first | rfl | omega)
        try simp only [Act.put, List.getElem_toArray, List.getElem_cons_succ, List.getElem_cons_zero, List.setIfInBounds_toArray, List.set_cons_zero, List.set_cons_succ]
        refine wpAnyH_ready (rs := [0, 2]) (by kernel_rfl) (by simp) ?_
        refine AllReadyH.cons rfl (fun K hK => ?_) ?_
        · rw [if_pos (by rfl)]
          have g0 := BTr.out.cell 0 rfl
          have g1 := BTr.out.cell 1 rfl
          go_simp
          show K _ _
          refine hK.out _ _ (by exact trivial) (fun hHeld => ?_)
          clear hK K
          try simp only [Act.put, List.getElem_toArray, List.getElem_cons_succ, List.getElem_cons_zero, List.setIfInBounds_toArray, List.set_cons_zero, List.set_cons_succ]
          refine wpAnyH_ready (rs := [2]) (by kernel_rfl) (by simp) ?_
          refine AllReadyH.cons rfl (fun K hK => ?_) ?_
          · rw [if_pos (by rfl)]
            go_simp
            go_at_call 19
            refine (picked_any n 900 _ n1 n2 (by omega) (by omega)).mono ?_
            rintro e w' ⟨rfl, rfl⟩
            rw [HQ.out]
            show K _ _
            refine hK.out _ _ (by exact trivial) (fun hHeld => ?_)
            clear hK K
            try simp only [Act.put, List.getElem_toArray, List.getElem_cons_succ, List.getElem_cons_zero, List.setIfInBounds_toArray, List.set_cons_zero, List.set_cons_succ]
            refine wpAnyH_ready (rs := [3]) (by kernel_rfl) (by simp) ?_
            refine AllReadyH.cons rfl (fun K hK => ?_) ?_
            · rw [if_pos (by rfl)]
              go_simp
              go_at_call 26
              refine (tcrash_rd _ T ((KL.length : Int)) q N _ (HD.out.below ((Below.refl _ _).drew) (fun _ h => h)) (tapeOk_at (by omega) (by omega) (by omega)) p1 (by omega) HN.out).mono ?_
              rintro e wC ⟨vc, rfl, hc, hb_wC⟩
              have hcf := hc.form
              rw [HNL.out] at hcf
              obtain ⟨ad_hc, cap_hc, rfl, -, -⟩ := hcf
              have zC := hb_wC.size
              have zdr : wr.drew.heap.size = wr.heap.size := rfl
              have hB_wC : Below wr.heap.size wr wC := Below.trans ((Below.refl _ _).drew) (hb_wC.mono (Nat.le_refl _))
              have HC := Lib.hid ((show RdB (fun b => wr.heap.size ≤ b ∧ b < wC.heap.size) wC _ _ from hc.low (by decide)))
              clear zdr
              have Hb_wC := Lib.hid hB_wC
              clear hb_wC hB_wC hc
              show K _ _
              refine hK.out _ _ (by exact trivial) (fun hHeld => ?_)
              clear hK K
              try simp only [Act.put, List.getElem_toArray, List.getElem_cons_succ, List.getElem_cons_zero, List.setIfInBounds_toArray, List.set_cons_zero, List.set_cons_succ]
              refine wpAnyH_take (i := 4) (v := .tuple #[.agg #[.slice ad_hc N cap_hc, .int .i64 (N : Int)], .int .i64 0]) rfl (by kernel_rfl) (by kernel_rfl) (by kernel_rfl) (fun _ _ _ h => h) (Or.inl ⟨by rfl, fun w hSw => ?_⟩) hHeld ?_
              · clear hSw; go_simp; all_goals (try first | rfl | omega)
              try simp only [Act.put, List.getElem_toArray, List.getElem_cons_succ, List.getElem_cons_zero, List.setIfInBounds_toArray, List.set_cons_zero, List.set_cons_succ]
              refine wpAnyH_take (i := 5) (v := .agg #[.slice ad_hc N cap_hc, .int .i64 (N : Int)]) rfl (by kernel_rfl) (by kernel_rfl) (by kernel_rfl) (fun _ _ _ h => h) (Or.inl ⟨by rfl, fun w hSw => ?_⟩) hHeld ?_
              · clear hSw; go_simp; all_goals (try first | rfl | omega)
              try simp only [Act.put, List.getElem_toArray, List.getElem_cons_succ, List.getElem_cons_zero, List.setIfInBounds_toArray, List.set_cons_zero, List.set_cons_succ]
              refine wpAnyH_take (i := 6) (v := .int .i64 0) rfl (by kernel_rfl) (by kernel_rfl) (by kernel_rfl) (fun _ _ _ h => h) (Or.inl ⟨by rfl, fun w hSw => ?_⟩) hHeld ?_
              · clear hSw; go_simp; all_goals (try first | rfl | omega)
              try simp only [Act.put, List.getElem_toArray, List.getElem_cons_succ, List.getElem_cons_zero, List.setIfInBounds_toArray, List.set_cons_zero, List.set_cons_succ]
              refine wpAnyH_ready (rs := [7]) (by kernel_rfl) (by simp) ?_
              refine AllReadyH.cons rfl (fun K hK => ?_) ?_
              · rw [if_pos (by rfl)]
                have hs := BTr.out.belowS Hb_wC.out
                have s0 := hs.cell 0 rfl
                have s1 := hs.cell 1 rfl
                have sf0 := hs.free 0
                have sf1 := hs.free 1
                have slt := hs.lt
                have HS7 := Lib.hid hs
                clear hs
                go_simp
                show K _ _
                refine hK.out _ _ (by exact trivial) (fun hHeld => ?_)
                clear hK K
                try simp only [Act.put, List.getElem_toArray, List.getElem_cons_succ, List.getElem_cons_zero, List.setIfInBounds_toArray, List.set_cons_zero, List.set_cons_succ]
                refine wpAnyH_take (i := 8) (v := .int .i64 0) rfl (by kernel_rfl) (by kernel_rfl) (by kernel_rfl) (fun _ _ _ h => h) (Or.inl ⟨by rfl, fun w hSw => ?_⟩) hHeld ?_
                · clear hSw; go_simp; all_goals (try first | rfl | omega)
                try simp only [Act.put, List.getElem_toArray, List.getElem_cons_succ, List.getElem_cons_zero, List.setIfInBounds_toArray, List.set_cons_zero, List.set_cons_succ]
                refine wpAnyH_done (by kernel_rfl) ?_ _
                go_wp2
                go_meet
                refine ⟨ad_hc, cap_hc, rfl, HS7.out.set2 _ _, HC.out.keep ((Keep.setCell (p := ⟨w2.heap.size, 0, none⟩) (by simp; omega) _).trans (Keep.setCell (p := ⟨w2.heap.size, 1, none⟩) (by simp; omega) _)) (fun b hb => by have h1 := hb.1; omega), ((Keep.below Hb_wC.out).trans (Keep.setCell (p := ⟨w2.heap.size, 0, none⟩) (by simp) _)).trans (Keep.setCell (p := ⟨w2.heap.size, 1, none⟩) (by simp) _), fun b' cs T' hne hlt hb => ((hb.belowS Hb_wC.out).setOther (p := ⟨w2.heap.size, 0, none⟩) hne _).setOther (p := ⟨w2.heap.size, 1, none⟩) hne _, by have := Hb_wC.out.size; simp [World.setCell]; omega, ((HB.out.trans (Hb_wC.out.mono HB.out.size)).setCell (by simp; omega) _).setCell (by simp; omega) _⟩
              exact AllReadyH.nil
            exact AllReadyH.nil
          exact AllReadyH.nil
        refine AllReadyH.cons rfl (fun K hK => ?_) ?_
        · rw [if_pos (by rfl)]
          go_simp
          go_at_call 19
          refine (picked_any n 900 _ n1 n2 (by omega) (by omega)).mono ?_
          rintro e w' ⟨rfl, rfl⟩
          rw [HQ.out]
          show K _ _
          refine hK.out _ _ (by exact trivial) (fun hHeld => ?_)
          clear hK K
          try simp only [Act.put, List.getElem_toArray, List.getElem_cons_succ, List.getElem_cons_zero, List.setIfInBounds_toArray, List.set_cons_zero, List.set_cons_succ]
          refine wpAnyH_ready (rs := [0]) (by kernel_rfl) (by simp) ?_
          refine AllReadyH.cons rfl (fun K hK => ?_) ?_
          · rw [if_pos (by rfl)]
            have g0 := BTr.out.cell 0 rfl
            have g1 := BTr.out.cell 1 rfl
            go_simp
            show K _ _
            refine hK.out _ _ (by exact trivial) (fun hHeld => ?_)
            clear hK K
            try simp only [Act.put, List.getElem_toArray, List.getElem_cons_succ, List.getElem_cons_zero, List.setIfInBounds_toArray, List.set_cons_zero, List.set_cons_succ]
            refine wpAnyH_ready (rs := [3]) (by kernel_rfl) (by simp) ?_
            refine AllReadyH.cons rfl (fun K hK => ?_) ?_
            · rw [if_pos (by rfl)]
              go_simp
              go_at_call 26
              refine (tcrash_rd _ T ((KL.length : Int)) q N _ (HD.out.below ((Below.refl _ _).drew) (fun _ h => h)) (tapeOk_at (by omega) (by omega) (by omega)) p1 (by omega) HN.out).mono ?_
              rintro e wC ⟨vc, rfl, hc, hb_wC⟩
              have hcf := hc.form
              rw [HNL.out] at hcf
              obtain ⟨ad_hc, cap_hc, rfl, -, -⟩ := hcf
              have zC := hb_wC.size
              have zdr : wr.drew.heap.size = wr.heap.size := rfl
              have hB_wC : Below wr.heap.size wr wC := Below.trans ((Below.refl _ _).drew) (hb_wC.mono (Nat.le_refl _))
              have HC := Lib.hid ((show RdB (fun b => wr.heap.size ≤ b ∧ b < wC.heap.size) wC _ _ from hc.low (by decide)))
              clear zdr
              have Hb_wC := Lib.hid hB_wC
              clear hb_wC hB_wC hc
              show K _ _
              refine hK.out _ _ (by exact trivial) (fun hHeld => ?_)
              clear hK K
              try simp only [Act.put, List.getElem_toArray, List.getElem_cons_succ, List.getElem_cons_zero, List.setIfInBounds_toArray, List.set_cons_zero, List.set_cons_succ]
              refine wpAnyH_take (i := 4) (v := .tuple #[.agg #[.slice ad_hc N cap_hc, .int .i64 (N : Int)], .int .i64 0]) rfl (by kernel_rfl) (by kernel_rfl) (by kernel_rfl) (fun _ _ _ h => h) (Or.inl ⟨by rfl, fun w hSw => ?_⟩) hHeld ?_
              · clear hSw; go_simp; all_goals (try first | rfl | omega)
              try simp only [Act.put, List.getElem_toArray, List.getElem_cons_succ, List.getElem_cons_zero, List.setIfInBounds_toArray, List.set_cons_zero, List.set_cons_succ]
              refine wpAnyH_take (i := 5) (v := .agg #[.slice ad_hc N cap_hc, .int .i64 (N : Int)]) rfl (by kernel_rfl) (by kernel_rfl) (by kernel_rfl) (fun _ _ _ h => h) (Or.inl ⟨by rfl, fun w hSw => ?_⟩) hHeld ?_
              · clear hSw; go_simp; all_goals (try first | rfl | omega)
              try simp only [Act.put, List.getElem_toArray, List.getElem_cons_succ, List.getElem_cons_zero, List.setIfInBounds_toArray, List.set_cons_zero, List.set_cons_succ]
              refine wpAnyH_take (i := 6) (v := .int .i64 0) rfl (by kernel_rfl) (by kernel_rfl) (by kernel_rfl) (fun _ _ _ h => h) (Or.inl ⟨by rfl, fun w hSw => ?_⟩) hHeld ?_
              · clear hSw; go_simp; all_goals (try first | rfl | omega)
              try simp only [Act.put, List.getElem_toArray, List.getElem_cons_succ, List.getElem_cons_zero, List.setIfInBounds_toArray, List.set_cons_zero, List.set_cons_succ]
              refine wpAnyH_ready (rs := [7]) (by kernel_rfl) (by simp) ?_
              refine AllReadyH.cons rfl (fun K hK => ?_) ?_
              · rw [if_pos (by rfl)]
                have hs := BTr.out.belowS Hb_wC.out
                have s0 := hs.cell 0 rfl
                have s1 := hs.cell 1 rfl
                have sf0 := hs.free 0
                have sf1 := hs.free 1
                have slt := hs.lt
                have HS7 := Lib.hid hs
                clear hs
                go_simp
                show K _ _
                refine hK.out _ _ (by exact trivial) (fun hHeld => ?_)
                clear hK K
                try simp only [Act.put, List.getElem_toArray, List.getElem_cons_succ, List.getElem_cons_zero, List.setIfInBounds_toArray, List.set_cons_zero, List.set_cons_succ]
                refine wpAnyH_take (i := 8) (v := .int .i64 0) rfl (by kernel_rfl) (by kernel_rfl) (by kernel_rfl) (fun _ _ _ h => h) (Or.inl ⟨by rfl, fun w hSw => ?_⟩) hHeld ?_
                · clear hSw; go_simp; all_goals (try first | rfl | omega)
                try simp only [Act.put, List.getElem_toArray, List.getElem_cons_succ, List.getElem_cons_zero, List.setIfInBounds_toArray, List.set_cons_zero, List.set_cons_succ]
                refine wpAnyH_done (by kernel_rfl) ?_ _
                go_wp2
                go_meet
                refine ⟨ad_hc, cap_hc, rfl, HS7.out.set2 _ _, HC.out.keep ((Keep.setCell (p := ⟨w2.heap.size, 0, none⟩) (by simp; omega) _).trans (Keep.setCell (p := ⟨w2.heap.size, 1, none⟩) (by simp; omega) _)) (fun b hb => by have h1 := hb.1; omega), ((Keep.below Hb_wC.out).trans (Keep.setCell (p := ⟨w2.heap.size, 0, none⟩) (by simp) _)).trans (Keep.setCell (p := ⟨w2.heap.size, 1, none⟩) (by simp) _), fun b' cs T' hne hlt hb => ((hb.belowS Hb_wC.out).setOther (p := ⟨w2.heap.size, 0, none⟩) hne _).setOther (p := ⟨w2.heap.size, 1, none⟩) hne _, by have := Hb_wC.out.size; simp [World.setCell]; omega, ((HB.out.trans (Hb_wC.out.mono HB.out.size)).setCell (by simp; omega) _).setCell (by simp; omega) _⟩
              exact AllReadyH.nil
            exact AllReadyH.nil
          exact AllReadyH.nil
        exact AllReadyH.nil
      case rest =>
        obtain ⟨ad9, cap9, rfl, hX9, hr9, hK9, hF9, hz9, hB9⟩ := hcut
        have BTrn := Lib.hid hX9
        have HC := Lib.hid hr9
        replace HB := Lib.hid hB9
        replace HM := Lib.hid (HM.out.keep hK9 (fun _ h => h))
        replace HD := Lib.hid (HD.out.keep hK9 (fun _ h => h))
        clear hX9 hr9 hK9 hF9 hB9 BTr
        obtain ⟨P, hP0, hP1, hP2, hP3, hP4, hP5, hP6, hP7, hP8, hP9⟩ := HTP.out N (by omega)
        have HP1 := Lib.hid hP1
        have HP2 := Lib.hid hP2
        have HP3 := Lib.hid hP3
        have HP5 := Lib.hid hP5
        have HP6 := Lib.hid hP6
        have HP8 := Lib.hid hP8
        have HP0 := Lib.hid hP0
        obtain ⟨Q, hQ⟩ : ∃ Q, Q = tapeB P := ⟨_, rfl⟩
        rw [← hQ] at HP2 HP3 HP5 hP4
        have HQE := Lib.hid hQ
        clear hP0 hP1 hP2 hP3 hP5 hP6 hP7 hP8 hQ HTP
        have hPk : k ≤ P.length := by
          have h1 := whole_ge ms k N hkm (by rw [← HKE.out]; omega)
          rw [HP0.out, List.length_take]; omega
        have hKQ : KL.length ≤ Q.length := by
          rw [HQE.out, HKE.out, HP0.out]; exact tapeB_mono ms (whole_ge ms k N hkm (by rw [← HKE.out]; omega))
        have t0 := BTrn.out.cell 0 rfl
        have t1 := BTrn.out.cell 1 rfl
        have zBTrn := BTrn.out.lt
        go_wp2_with fail
        refine (trecover_ok _ (T.take N) (N : Int) _ (HC.out.below (by repeat (first | with_reducible exact Below.refl _ _ | with_reducible refine Below.drew ?_ | with_reducible refine Below.setCell ?_ (by first | omega | (simp <;> omega)) _ | with_reducible refine Below.alloc ?_ (by first | omega | (simp <;> omega)) _)) (fun _ h => h)) (by rw [HNL.out]; exact tapeOk_at (by omega) (by omega) (by omega))).mono ?_
        rw [HP1.out]
        rw [HP2.out]
        rw [HP3.out]
        rintro e w5 ⟨v6, v7, rfl, hv6, hv7, hb5⟩
        have hB5 : Below wc.heap.size wc w5 := Below.trans (by repeat (first | with_reducible exact Below.refl _ _ | with_reducible refine Below.drew ?_ | with_reducible refine Below.setCell ?_ (by first | omega | (simp <;> omega)) _ | with_reducible refine Below.alloc ?_ (by first | omega | (simp <;> omega)) _)) (hb5.mono (by first | exact Nat.le_refl _ | (simp; done) | (simp; omega)))
        have z5 := hB5.size
        replace HB := Lib.hid (HB.out.trans (hB5.mono HB.out.size))
        replace HM := Lib.hid (HM.out.below hB5 (fun _ h => h))
        replace HD := Lib.hid (HD.out.below hB5 (fun _ h => h))
        replace BTrn := Lib.hid (BTrn.out.belowS hB5)
        replace HC := Lib.hid (HC.out.below hB5 (fun _ h => h))
        clear t0 t1 zBTrn
        dsimp only at hv6 hv7 ⊢
        rw [show min (N : Int) (Q.length : Int) = (Q.length : Int) by omega]
        obtain ⟨ad_v6, cap_v6, rfl, -, -⟩ := hv6.form
        obtain ⟨ad_v7, cap_v7, rfl, -, -⟩ := hv7.form
        have HG := Lib.hid (hv6.mono (G' := fun b => b ≠ w2.heap.size) (fun b hb => by first | omega | (simp at hb; omega)))
        have HU := Lib.hid (hv7.mono (G' := fun b => b ≠ w2.heap.size) (fun b hb => by first | omega | (simp at hb; omega)))
        clear hb5 hB5 hv6 hv7
        have g1 : (k : Int) ≤ (P.length : Int) := by omega
        have g2 : (KL.length : Int) ≤ (Q.length : Int) := by omega
        go_wp2_with fail
        refine (begins_pre _ _ _ (HG.out.below (by repeat (first | with_reducible exact Below.refl _ _ | with_reducible refine Below.drew ?_ | with_reducible refine Below.setCell ?_ (by first | omega | (simp <;> omega)) _ | with_reducible refine Below.alloc ?_ (by first | omega | (simp <;> omega)) _)) (fun _ h => h)) (HM.out.below (by repeat (first | with_reducible exact Below.refl _ _ | with_reducible refine Below.drew ?_ | with_reducible refine Below.setCell ?_ (by first | omega | (simp <;> omega)) _ | with_reducible refine Below.alloc ?_ (by first | omega | (simp <;> omega)) _)) (fun _ h => h)) HP6.out).mono ?_
        rintro e w6 ⟨rfl, hb6⟩
        have hB6 : Below w5.heap.size w5 w6 := Below.trans (by repeat (first | with_reducible exact Below.refl _ _ | with_reducible refine Below.drew ?_ | with_reducible refine Below.setCell ?_ (by first | omega | (simp <;> omega)) _ | with_reducible refine Below.alloc ?_ (by first | omega | (simp <;> omega)) _)) (hb6.mono (by first | exact Nat.le_refl _ | (simp; done) | (simp; omega)))
        have z6 := hB6.size
        have BU := Lib.hid (BoxAt.belowS (show BoxAt _ (w5.heap.size) [.slice ad_v7 Q.length cap_v7, .int .i64 (Q.length : Int)] 50 from (by repeat (first | with_reducible exact BoxAt.newAt _ _ _ (by first | rfl | simp) | with_reducible refine BoxAt.drew ?_ | with_reducible refine BoxAt.alloc ?_ _ | with_reducible refine BoxAt.setOther ?_ (by first | omega | (simp <;> omega)) _))) hb6)
        replace HB := Lib.hid (HB.out.trans (hB6.mono HB.out.size))
        replace HM := Lib.hid (HM.out.below hB6 (fun _ h => h))
        replace HD := Lib.hid (HD.out.below hB6 (fun _ h => h))
        replace BTrn := Lib.hid (BTrn.out.belowS hB6)
        replace HC := Lib.hid (HC.out.below hB6 (fun _ h => h))
        replace HG := Lib.hid (HG.out.below hB6 (fun _ h => h))
        replace HU := Lib.hid (HU.out.below hB6 (fun _ h => h))
        clear hb6 hB6
        have u0 := BU.out.cell 0 rfl
        have u1 := BU.out.cell 1 rfl
        have zBU := BU.out.lt
        by_cases hk0 : k = 0
        · have hb0 : ((k : Int) == 0) = true := by simp [hk0]
          clear hk0
          go_wp2
          go_ret
          exact ⟨rfl, HB.out⟩
        · have hb0 : ((k : Int) == 0) = false := by simp [hk0]
          have hn0 : (0 : Int) < (KL.length : Int) := by omega
          have hn1 : 0 < KL.length := by omega
          clear hk0
          go_wp2
          go_ret
          exact ⟨rfl, HB.out⟩
end Go.Proofs.Ytegdpjoncjmdeaa
