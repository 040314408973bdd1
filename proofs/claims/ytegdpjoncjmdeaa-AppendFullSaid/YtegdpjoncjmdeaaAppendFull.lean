/- AppendFull: the walk. -/
import Derived.Test.YtegdpjoncjmdeaaRawM
import Derived.Test.YtegdpjoncjmdeaaTapeP
set_option linter.unusedVariables false
set_option linter.unusedSimpArgs false
attribute [local go_sem ↓] Go.wp_at_zero Go.wp_at_succ
namespace Go.Proofs.Ytegdpjoncjmdeaa
open Go Go.RowKit

set_option maxRecDepth 100000 in
set_option maxHeartbeats 8000000 in
theorem appendFull_walk (vt : Value) (r : RawD) (n : Int) (w : World) (hr : RawOk (fun _ => True) w vt r) (n1 : -9223372036854775808 ≤ n) (n2 : n ≤ 9223372036854775807) :
    Calls Try.prog 6 #[.agg #[.int .i64 r.k, .int .i64 r.a, .int .i64 r.b, .int .i64 r.c, vt], .int .i64 n] w fun e w' => e = .returned (.bool true) ∧ Below w.heap.size w w' := by
  obtain ⟨q1, q2⟩ := pickedZ_range n 5 (by omega)
  obtain ⟨q, hq⟩ : ∃ q : Int, pickedZ n 5 = q := ⟨_, rfl⟩
  rw [hq] at q1 q2
  have HQ := Lib.hid hq
  have HRC := Lib.hid (recM_ok r)
  have h0 := (recCode_iff (recM_ok r)).1
  have hel := encL_len h0
  have H0 := Lib.hid h0
  have hfl := frm_len (recM r)
  clear hq h0
  have HB := Lib.hid (Below.refl w.heap.size w)
  have HR := Lib.hid (hr)
  clear hr
  go_enter Try.func6, Try.ntmps6
  go_wp2_with fail
  refine (record_any r vt _ (HR.out.belowS (by repeat (first | with_reducible exact Below.refl _ _ | with_reducible refine Below.drew ?_ | with_reducible refine Below.setCell ?_ (by first | omega | (simp <;> omega)) _ | with_reducible refine Below.alloc ?_ (by first | omega | (simp <;> omega)) _)))).mono ?_
  rintro e w1 ⟨mv, rfl, hM, hb1⟩
  have hB1 : Below w.heap.size w w1 := Below.trans (by repeat (first | with_reducible exact Below.refl _ _ | with_reducible refine Below.drew ?_ | with_reducible refine Below.setCell ?_ (by first | omega | (simp <;> omega)) _ | with_reducible refine Below.alloc ?_ (by first | omega | (simp <;> omega)) _)) (hb1.mono (by first | exact Nat.le_refl _ | (simp; done) | (simp; omega)))
  have z1 := hB1.size
  replace HB := Lib.hid (HB.out.trans (hB1.mono HB.out.size))
  replace HR := Lib.hid (HR.out.belowS hB1)
  have HM := Lib.hid (hM.low.mono (G' := fun b => b ≠ w1.heap.size) (fun b hb => by have := hb.2; omega))
  clear hb1 hB1 hM
  generalize recM r = R at *
  clear HR
  go_upto_region 2 with (refine wpList_store_new rfl 35 _ _ rfl (msgCells R mv) 35 zeroMsg rfl rfl (by kernel_rfl) rfl (msgCells_one HM.out) ?_; intro w2 hb_w2 hB_w2 hs_w2)
  have z2 : w1.heap.size < w2.heap.size := by omega
  replace HB := Lib.hid (HB.out.trans (hB_w2.mono HB.out.size))
  replace HM := Lib.hid (HM.out.below hB_w2 (fun _ h => h))
  have HX := Lib.hid hb_w2
  clear hb_w2 hB_w2 hs_w2
  go_wp2_with (refine wpList_load_box rfl 35 _ rfl w1.heap.size rfl (msgCells R mv) 35 HX.out Try.underlying35 rfl (by kernel_rfl) ?_)
  refine (encodeR_ok R mv _ (HM.out.below (by repeat (first | with_reducible exact Below.refl _ _ | with_reducible refine Below.drew ?_ | with_reducible refine Below.setCell ?_ (by first | omega | (simp <;> omega)) _ | with_reducible refine Below.alloc ?_ (by first | omega | (simp <;> omega)) _)) (fun _ h => h)) H0.out).mono ?_
  rintro e w3 ⟨vb, rfl, hE, hb3⟩
  have hB3 : Below w2.heap.size w2 w3 := Below.trans (by repeat (first | with_reducible exact Below.refl _ _ | with_reducible refine Below.drew ?_ | with_reducible refine Below.setCell ?_ (by first | omega | (simp <;> omega)) _ | with_reducible refine Below.alloc ?_ (by first | omega | (simp <;> omega)) _)) (hb3.mono (by first | exact Nat.le_refl _ | (simp; done) | (simp; omega)))
  have z3 := hB3.size
  replace HB := Lib.hid (HB.out.trans (hB3.mono HB.out.size))
  replace HM := Lib.hid (HM.out.below hB3 (fun _ h => h))
  replace HX := Lib.hid (HX.out.belowS hB3)
  obtain ⟨ad_hE, cap_hE, rfl, -, -⟩ := hE.form
  have HE := Lib.hid (hE.mono (G' := fun _ => True) (fun _ _ => trivial))
  clear hb3 hB3 hE
  obtain ⟨E, hE0⟩ : ∃ E, E = (encL R).length := ⟨_, rfl⟩
  rw [← hE0] at hel hfl ⊢
  clear hE0 HE
  obtain ⟨k, hk⟩ : ∃ k : Nat, (k : Int) = 399998 - (E : Int) + q - 2 := ⟨(399998 - (E : Int) + q - 2).toNat, by omega⟩
  have wr1 : IntKind.i64.wrap (399998 - (E : Int)) = 399998 - (E : Int) := IntWalk.i64_in _ (by omega)
  have wr2 : IntKind.i64.wrap (399998 - (E : Int) + q) = 399998 - (E : Int) + q := IntWalk.i64_in _ (by omega)
  have wr3 : IntKind.i64.wrap (399998 - (E : Int) + q - 2) = (k : Int) := by rw [IntWalk.i64_in _ (by omega)]; omega
  have hmk := fun w => hmake_rule (P := Try.prog) Try.underlying22 (e := 5) (by kernel_rfl) k k rfl (by omega) w
  have hmk2 := fun w => hmake_rule (P := Try.prog) Try.underlying22 (e := 5) (by kernel_rfl) 400001 400001 rfl (by omega) w
  have HKE := Lib.hid hk
  clear hk
  go_upto_region 5 with (go_at_call 19; refine (picked_any n 5 _ n1 n2 (by omega) (by omega)).mono ?_; rintro e w' ⟨rfl, rfl⟩; rw [HQ.out])
  clear wr1 wr2 wr3
  go_cut [10, 11] (fun p e wx => ∃ (X : Nat) (ad : Option Addr) (cap L c : Nat), p = .pointer (some ⟨X, 0, none⟩) ∧ e = .int .i64 (c : Int) ∧ BoxAt wx X [.slice ad L cap, .int .i64 0] 50 ∧ ((q ≤ 2 ∧ c = 0 ∧ L = k + 2 + E) ∨ (2 < q ∧ c = 6 ∧ L = 0)) ∧ Below w3.heap.size w3 wx)
  case first =>
    have hkm : k ≤ 400000 := by have := HKE.out; omega
    by_cases hq2 : q ≤ 2
    · have hk1 : k + 2 + E ≤ 400000 := by have := HKE.out; omega
      have hN : (zeros k ++ frmL R).length = k + 2 + E := by rw [List.length_append, length_zeros]; omega
      have HN := Lib.hid hN
      clear hN
      refine wp_region_held_drew (S := fun w' => Below w3.heap.size w3 w') (by kernel_rfl) (by exact (Below.refl _ _).drew) (fun hHeld => ?_)
      refine wpAnyH_take (i := 0) (v := .int .i64 (k : Int)) rfl (by kernel_rfl) (by kernel_rfl) (by kernel_rfl) (fun _ _ _ h => h) (Or.inl ⟨by rfl, fun w hSw => ?_⟩) hHeld ?_
      · clear hSw; go_simp; all_goals (try first | rfl | omega)
      try simp only [Act.put, List.getElem_toArray, List.getElem_cons_succ, List.getElem_cons_zero, List.setIfInBounds_toArray, List.set_cons_zero, List.set_cons_succ]
      refine wpAnyH_take (i := 3) (v := .agg (msgCells R mv).toArray) rfl (by kernel_rfl) (by kernel_rfl) (by kernel_rfl) (fun _ _ _ h => h) (yieldsIf_load_mid (by rfl) 35 _ rfl w1.heap.size 0 rfl (msgCells R mv) _ (fun w hSw => fun j v hv => by have := (HX.out.belowS hSw).cell j hv; simpa using this) Try.underlying35 rfl (by kernel_rfl)) hHeld ?_
      try simp only [Act.put, List.getElem_toArray, List.getElem_cons_succ, List.getElem_cons_zero, List.setIfInBounds_toArray, List.set_cons_zero, List.set_cons_succ]
      refine wpAnyH_ready (rs := [1, 8]) (by kernel_rfl) (by simp) ?_
      refine AllReadyH.cons rfl (fun K hK => ?_) ?_
      · rw [if_pos (by rfl)]
        go_simp
        have hz := (ZBlock.new (w := w3.drew) (b := w3.heap.size) (n := k) (e := 5) (by first | rfl | simp)).rd (by unfold maxLen; omega)
        have HZ := Lib.hid hz
        clear hz
        show K _ _
        refine hK.out _ _ (by exact Below.alloc hHeld (Below.size hHeld) _) (fun hHeld => ?_)
        clear hK K
        try simp only [Act.put, List.getElem_toArray, List.getElem_cons_succ, List.getElem_cons_zero, List.setIfInBounds_toArray, List.set_cons_zero, List.set_cons_succ]
        refine wpAnyH_take (i := 2) (v := .agg #[.slice (some ⟨w3.heap.size, 0, none⟩) k k, .int .i64 0]) rfl (by kernel_rfl) (by kernel_rfl) (by kernel_rfl) (fun _ _ _ h => h) (Or.inl ⟨by rfl, fun w hSw => ?_⟩) hHeld ?_
        · clear hSw; go_simp; all_goals (try first | rfl | omega)
        try simp only [Act.put, List.getElem_toArray, List.getElem_cons_succ, List.getElem_cons_zero, List.setIfInBounds_toArray, List.set_cons_zero, List.set_cons_succ]
        refine wpAnyH_ready (rs := [4, 8]) (by kernel_rfl) (by simp) ?_
        refine AllReadyH.cons rfl (fun K hK => ?_) ?_
        · rw [if_pos (by rfl)]
          go_simp
          go_at_call 22
          refine (tappend_ok R mv _ (zeros k) 0 _ (HM.out.below hHeld (fun _ h => h)) (HZ.out.below (show Below (w3.drew.alloc (.cells (zcells k) 5)).heap.size (w3.drew.alloc (.cells (zcells k) 5)) ((w3.drew.alloc (.cells (zcells k) 5))) from (by repeat (first | with_reducible exact Below.refl _ _ | with_reducible refine Below.drew ?_ | with_reducible refine Below.setCell ?_ (by first | omega | (simp <;> omega)) _ | with_reducible refine Below.alloc ?_ (by first | omega | (simp <;> omega)) _))) (fun _ h => h)) (tapeOk_zero (by rw [length_zeros]; omega)) HRC.out (by rw [length_zeros]; omega)).mono ?_
          rintro e wR ⟨vN, rfl, hN, hb_wR⟩
          have hf := hN.form
          rw [HN.out] at hf
          obtain ⟨adN, capN, rfl, -, -⟩ := hf
          have zR := hb_wR.size
          have zH := Below.size hHeld
          have hB_wR : Below w3.heap.size w3 wR := Below.trans hHeld (hb_wR.mono (Below.size hHeld))
          have Hb_wR := Lib.hid hB_wR
          clear hb_wR hB_wR
          show K _ _
          refine hK.out _ _ (by exact Hb_wR.out) (fun hHeld => ?_)
          clear hK K
          try simp only [Act.put, List.getElem_toArray, List.getElem_cons_succ, List.getElem_cons_zero, List.setIfInBounds_toArray, List.set_cons_zero, List.set_cons_succ]
          refine wpAnyH_take (i := 5) (v := .tuple #[.agg #[.slice adN (k + 2 + E) capN, .int .i64 0], .int .i64 0]) rfl (by kernel_rfl) (by kernel_rfl) (by kernel_rfl) (fun _ _ _ h => h) (Or.inl ⟨by rfl, fun w hSw => ?_⟩) hHeld ?_
          · clear hSw; go_simp; all_goals (try first | rfl | omega)
          try simp only [Act.put, List.getElem_toArray, List.getElem_cons_succ, List.getElem_cons_zero, List.setIfInBounds_toArray, List.set_cons_zero, List.set_cons_succ]
          refine wpAnyH_take (i := 6) (v := .agg #[.slice adN (k + 2 + E) capN, .int .i64 0]) rfl (by kernel_rfl) (by kernel_rfl) (by kernel_rfl) (fun _ _ _ h => h) (Or.inl ⟨by rfl, fun w hSw => ?_⟩) hHeld ?_
          · clear hSw; go_simp; all_goals (try first | rfl | omega)
          try simp only [Act.put, List.getElem_toArray, List.getElem_cons_succ, List.getElem_cons_zero, List.setIfInBounds_toArray, List.set_cons_zero, List.set_cons_succ]
          refine wpAnyH_take (i := 7) (v := .int .i64 0) rfl (by kernel_rfl) (by kernel_rfl) (by kernel_rfl) (fun _ _ _ h => h) (Or.inl ⟨by rfl, fun w hSw => ?_⟩) hHeld ?_
          · clear hSw; go_simp; all_goals (try first | rfl | omega)
          try simp only [Act.put, List.getElem_toArray, List.getElem_cons_succ, List.getElem_cons_zero, List.setIfInBounds_toArray, List.set_cons_zero, List.set_cons_succ]
          refine wpAnyH_ready (rs := [8]) (by kernel_rfl) (by simp) ?_
          refine AllReadyH.cons rfl (fun K hK => ?_) ?_
          · rw [if_pos (by rfl)]
            go_simp
            have HX80 : BoxAt (wR.alloc (.cells #[.slice none 0 0, .int .i64 0] 50)) (wR.heap.size) [.slice none 0 0, .int .i64 0] 50 := BoxAt.newAt wR [.slice none 0 0, .int .i64 0] 50 (by first | rfl | simp)
            show K _ _
            refine hK.out _ _ (by exact Below.alloc hHeld (Below.size hHeld) _) (fun hHeld => ?_)
            clear hK K
            try simp only [Act.put, List.getElem_toArray, List.getElem_cons_succ, List.getElem_cons_zero, List.setIfInBounds_toArray, List.set_cons_zero, List.set_cons_succ]
            refine wpAnyH_ready (rs := [9]) (by kernel_rfl) (by simp) ?_
            refine AllReadyH.cons rfl (fun K hK => ?_) ?_
            · rw [if_pos (by rfl)]
              go_simp
              show K _ _
              refine hK.out _ _ (by repeat (first | with_reducible exact hHeld | with_reducible refine Below.setCell ?_ (by first | omega | (simp <;> omega)) _ | with_reducible refine Below.alloc ?_ (by first | omega | (simp <;> omega)) _ | with_reducible exact Below.refl _ _ | with_reducible refine Below.drew ?_ | with_reducible exact Hb_wR.out)) (fun hHeld => ?_)
              clear hK K
              try simp only [Act.put, List.getElem_toArray, List.getElem_cons_succ, List.getElem_cons_zero, List.setIfInBounds_toArray, List.set_cons_zero, List.set_cons_succ]
              refine wpAnyH_take (i := 10) (v := .int .i64 0) rfl (by kernel_rfl) (by kernel_rfl) (by kernel_rfl) (fun _ _ _ h => h) (Or.inl ⟨by rfl, fun w hSw => ?_⟩) hHeld ?_
              · clear hSw; go_simp; all_goals (try first | rfl | omega)
              try simp only [Act.put, List.getElem_toArray, List.getElem_cons_succ, List.getElem_cons_zero, List.setIfInBounds_toArray, List.set_cons_zero, List.set_cons_succ]
              refine wpAnyH_done (by kernel_rfl) ?_ _
              go_wp2
              go_meet
              exact ⟨wR.heap.size, adN, capN, (k + 2 + E), 0, rfl, rfl, BoxAt.newAt _ [_, _] _ rfl, .inl ⟨hq2, rfl, rfl⟩, Hb_wR.out.alloc Hb_wR.out.size _⟩
            exact AllReadyH.nil
          exact AllReadyH.nil
        refine AllReadyH.cons rfl (fun K hK => ?_) ?_
        · rw [if_pos (by rfl)]
          go_simp
          have HX80 : BoxAt ((w3.drew.alloc (.cells (zcells k) 5)).alloc (.cells #[.slice none 0 0, .int .i64 0] 50)) (w3.heap.size + 1) [.slice none 0 0, .int .i64 0] 50 := BoxAt.newAt (w3.drew.alloc (.cells (zcells k) 5)) [.slice none 0 0, .int .i64 0] 50 (by first | rfl | simp)
          show K _ _
          refine hK.out _ _ (by exact Below.alloc hHeld (Below.size hHeld) _) (fun hHeld => ?_)
          clear hK K
          try simp only [Act.put, List.getElem_toArray, List.getElem_cons_succ, List.getElem_cons_zero, List.setIfInBounds_toArray, List.set_cons_zero, List.set_cons_succ]
          refine wpAnyH_ready (rs := [4]) (by kernel_rfl) (by simp) ?_
          refine AllReadyH.cons rfl (fun K hK => ?_) ?_
          · rw [if_pos (by rfl)]
            go_simp
            go_at_call 22
            refine (tappend_ok R mv _ (zeros k) 0 _ (HM.out.below hHeld (fun _ h => h)) (HZ.out.below (show Below (w3.drew.alloc (.cells (zcells k) 5)).heap.size (w3.drew.alloc (.cells (zcells k) 5)) (((w3.drew.alloc (.cells (zcells k) 5)).alloc (.cells #[.slice none 0 0, .int .i64 0] 50))) from (by repeat (first | with_reducible exact Below.refl _ _ | with_reducible refine Below.drew ?_ | with_reducible refine Below.setCell ?_ (by first | omega | (simp <;> omega)) _ | with_reducible refine Below.alloc ?_ (by first | omega | (simp <;> omega)) _))) (fun _ h => h)) (tapeOk_zero (by rw [length_zeros]; omega)) HRC.out (by rw [length_zeros]; omega)).mono ?_
            rintro e wR ⟨vN, rfl, hN, hb_wR⟩
            have hf := hN.form
            rw [HN.out] at hf
            obtain ⟨adN, capN, rfl, -, -⟩ := hf
            have zR := hb_wR.size
            have zH := Below.size hHeld
            have hB_wR : Below w3.heap.size w3 wR := Below.trans hHeld (hb_wR.mono (Below.size hHeld))
            have HX8 := Lib.hid (HX80.belowS hb_wR)
            have zl_HX8 := HX80.lt
            have Hb_wR := Lib.hid hB_wR
            clear hb_wR hB_wR
            show K _ _
            refine hK.out _ _ (by exact Hb_wR.out) (fun hHeld => ?_)
            clear hK K
            try simp only [Act.put, List.getElem_toArray, List.getElem_cons_succ, List.getElem_cons_zero, List.setIfInBounds_toArray, List.set_cons_zero, List.set_cons_succ]
            refine wpAnyH_take (i := 5) (v := .tuple #[.agg #[.slice adN (k + 2 + E) capN, .int .i64 0], .int .i64 0]) rfl (by kernel_rfl) (by kernel_rfl) (by kernel_rfl) (fun _ _ _ h => h) (Or.inl ⟨by rfl, fun w hSw => ?_⟩) hHeld ?_
            · clear hSw; go_simp; all_goals (try first | rfl | omega)
            try simp only [Act.put, List.getElem_toArray, List.getElem_cons_succ, List.getElem_cons_zero, List.setIfInBounds_toArray, List.set_cons_zero, List.set_cons_succ]
            refine wpAnyH_take (i := 6) (v := .agg #[.slice adN (k + 2 + E) capN, .int .i64 0]) rfl (by kernel_rfl) (by kernel_rfl) (by kernel_rfl) (fun _ _ _ h => h) (Or.inl ⟨by rfl, fun w hSw => ?_⟩) hHeld ?_
            · clear hSw; go_simp; all_goals (try first | rfl | omega)
            try simp only [Act.put, List.getElem_toArray, List.getElem_cons_succ, List.getElem_cons_zero, List.setIfInBounds_toArray, List.set_cons_zero, List.set_cons_succ]
            refine wpAnyH_take (i := 7) (v := .int .i64 0) rfl (by kernel_rfl) (by kernel_rfl) (by kernel_rfl) (fun _ _ _ h => h) (Or.inl ⟨by rfl, fun w hSw => ?_⟩) hHeld ?_
            · clear hSw; go_simp; all_goals (try first | rfl | omega)
            try simp only [Act.put, List.getElem_toArray, List.getElem_cons_succ, List.getElem_cons_zero, List.setIfInBounds_toArray, List.set_cons_zero, List.set_cons_succ]
            refine wpAnyH_ready (rs := [9]) (by kernel_rfl) (by simp) ?_
            refine AllReadyH.cons rfl (fun K hK => ?_) ?_
            · rw [if_pos (by rfl)]
              have s0 := HX8.out.cell 0 rfl
              have sf0 := HX8.out.free 0
              have s1 := HX8.out.cell 1 rfl
              have sf1 := HX8.out.free 1
              have slt := HX8.out.lt
              go_simp
              show K _ _
              refine hK.out _ _ (by repeat (first | with_reducible exact hHeld | with_reducible refine Below.setCell ?_ (by first | omega | (simp <;> omega)) _ | with_reducible refine Below.alloc ?_ (by first | omega | (simp <;> omega)) _ | with_reducible exact Below.refl _ _ | with_reducible refine Below.drew ?_ | with_reducible exact Hb_wR.out)) (fun hHeld => ?_)
              clear hK K
              try simp only [Act.put, List.getElem_toArray, List.getElem_cons_succ, List.getElem_cons_zero, List.setIfInBounds_toArray, List.set_cons_zero, List.set_cons_succ]
              refine wpAnyH_take (i := 10) (v := .int .i64 0) rfl (by kernel_rfl) (by kernel_rfl) (by kernel_rfl) (fun _ _ _ h => h) (Or.inl ⟨by rfl, fun w hSw => ?_⟩) hHeld ?_
              · clear hSw; go_simp; all_goals (try first | rfl | omega)
              try simp only [Act.put, List.getElem_toArray, List.getElem_cons_succ, List.getElem_cons_zero, List.setIfInBounds_toArray, List.set_cons_zero, List.set_cons_succ]
              refine wpAnyH_done (by kernel_rfl) ?_ _
              go_wp2
              go_meet
              exact ⟨w3.heap.size + 1, adN, capN, (k + 2 + E), 0, rfl, rfl, HX8.out.set2 _ _, .inl ⟨hq2, rfl, rfl⟩, (Hb_wR.out.setCell (by first | omega | (simp; done) | (simp; omega)) _).setCell (by first | omega | (simp; done) | (simp; omega)) _⟩
            exact AllReadyH.nil
          exact AllReadyH.nil
        exact AllReadyH.nil
      refine AllReadyH.cons rfl (fun K hK => ?_) ?_
      · rw [if_pos (by rfl)]
        go_simp
        have HX80 : BoxAt (w3.drew.alloc (.cells #[.slice none 0 0, .int .i64 0] 50)) (w3.heap.size) [.slice none 0 0, .int .i64 0] 50 := BoxAt.newAt w3.drew [.slice none 0 0, .int .i64 0] 50 (by first | rfl | simp)
        show K _ _
        refine hK.out _ _ (by exact Below.alloc hHeld (Below.size hHeld) _) (fun hHeld => ?_)
        clear hK K
        try simp only [Act.put, List.getElem_toArray, List.getElem_cons_succ, List.getElem_cons_zero, List.setIfInBounds_toArray, List.set_cons_zero, List.set_cons_succ]
        refine wpAnyH_ready (rs := [1]) (by kernel_rfl) (by simp) ?_
        refine AllReadyH.cons rfl (fun K hK => ?_) ?_
        · rw [if_pos (by rfl)]
          go_simp
          have hz := (ZBlock.new (w := ((w3.drew.alloc (.cells #[.slice none 0 0, .int .i64 0] 50)))) (b := w3.heap.size + 1) (n := k) (e := 5) (by first | rfl | simp)).rd (by unfold maxLen; omega)
          have zl_HX8 := HX80.lt
          have HX8 := Lib.hid (show BoxAt (((w3.drew.alloc (.cells #[.slice none 0 0, .int .i64 0] 50))).alloc (.cells (zcells k) 5)) (w3.heap.size) [.slice none 0 0, .int .i64 0] 50 from HX80.alloc _)
          have HZ := Lib.hid hz
          clear hz
          show K _ _
          refine hK.out _ _ (by exact Below.alloc hHeld (Below.size hHeld) _) (fun hHeld => ?_)
          clear hK K
          try simp only [Act.put, List.getElem_toArray, List.getElem_cons_succ, List.getElem_cons_zero, List.setIfInBounds_toArray, List.set_cons_zero, List.set_cons_succ]
          refine wpAnyH_take (i := 2) (v := .agg #[.slice (some ⟨w3.heap.size + 1, 0, none⟩) k k, .int .i64 0]) rfl (by kernel_rfl) (by kernel_rfl) (by kernel_rfl) (fun _ _ _ h => h) (Or.inl ⟨by rfl, fun w hSw => ?_⟩) hHeld ?_
          · clear hSw; go_simp; all_goals (try first | rfl | omega)
          try simp only [Act.put, List.getElem_toArray, List.getElem_cons_succ, List.getElem_cons_zero, List.setIfInBounds_toArray, List.set_cons_zero, List.set_cons_succ]
          refine wpAnyH_ready (rs := [4]) (by kernel_rfl) (by simp) ?_
          refine AllReadyH.cons rfl (fun K hK => ?_) ?_
          · rw [if_pos (by rfl)]
            go_simp
            go_at_call 22
            refine (tappend_ok R mv _ (zeros k) 0 _ (HM.out.below hHeld (fun _ h => h)) (HZ.out.below (show Below (((w3.drew.alloc (.cells #[.slice none 0 0, .int .i64 0] 50))).alloc (.cells (zcells k) 5)).heap.size (((w3.drew.alloc (.cells #[.slice none 0 0, .int .i64 0] 50))).alloc (.cells (zcells k) 5)) ((((w3.drew.alloc (.cells #[.slice none 0 0, .int .i64 0] 50))).alloc (.cells (zcells k) 5))) from (by repeat (first | with_reducible exact Below.refl _ _ | with_reducible refine Below.drew ?_ | with_reducible refine Below.setCell ?_ (by first | omega | (simp <;> omega)) _ | with_reducible refine Below.alloc ?_ (by first | omega | (simp <;> omega)) _))) (fun _ h => h)) (tapeOk_zero (by rw [length_zeros]; omega)) HRC.out (by rw [length_zeros]; omega)).mono ?_
            rintro e wR ⟨vN, rfl, hN, hb_wR⟩
            have hf := hN.form
            rw [HN.out] at hf
            obtain ⟨adN, capN, rfl, -, -⟩ := hf
            have zR := hb_wR.size
            have zH := Below.size hHeld
            have hB_wR : Below w3.heap.size w3 wR := Below.trans hHeld (hb_wR.mono (Below.size hHeld))
            have zl_HX8 := HX8.out.lt
            replace HX8 := Lib.hid (HX8.out.belowS hb_wR)
            have Hb_wR := Lib.hid hB_wR
            clear hb_wR hB_wR
            show K _ _
            refine hK.out _ _ (by exact Hb_wR.out) (fun hHeld => ?_)
            clear hK K
            try simp only [Act.put, List.getElem_toArray, List.getElem_cons_succ, List.getElem_cons_zero, List.setIfInBounds_toArray, List.set_cons_zero, List.set_cons_succ]
            refine wpAnyH_take (i := 5) (v := .tuple #[.agg #[.slice adN (k + 2 + E) capN, .int .i64 0], .int .i64 0]) rfl (by kernel_rfl) (by kernel_rfl) (by kernel_rfl) (fun _ _ _ h => h) (Or.inl ⟨by rfl, fun w hSw => ?_⟩) hHeld ?_
            · clear hSw; go_simp; all_goals (try first | rfl | omega)
            try simp only [Act.put, List.getElem_toArray, List.getElem_cons_succ, List.getElem_cons_zero, List.setIfInBounds_toArray, List.set_cons_zero, List.set_cons_succ]
            refine wpAnyH_take (i := 6) (v := .agg #[.slice adN (k + 2 + E) capN, .int .i64 0]) rfl (by kernel_rfl) (by kernel_rfl) (by kernel_rfl) (fun _ _ _ h => h) (Or.inl ⟨by rfl, fun w hSw => ?_⟩) hHeld ?_
            · clear hSw; go_simp; all_goals (try first | rfl | omega)
            try simp only [Act.put, List.getElem_toArray, List.getElem_cons_succ, List.getElem_cons_zero, List.setIfInBounds_toArray, List.set_cons_zero, List.set_cons_succ]
            refine wpAnyH_take (i := 7) (v := .int .i64 0) rfl (by kernel_rfl) (by kernel_rfl) (by kernel_rfl) (fun _ _ _ h => h) (Or.inl ⟨by rfl, fun w hSw => ?_⟩) hHeld ?_
            · clear hSw; go_simp; all_goals (try first | rfl | omega)
            try simp only [Act.put, List.getElem_toArray, List.getElem_cons_succ, List.getElem_cons_zero, List.setIfInBounds_toArray, List.set_cons_zero, List.set_cons_succ]
            refine wpAnyH_ready (rs := [9]) (by kernel_rfl) (by simp) ?_
            refine AllReadyH.cons rfl (fun K hK => ?_) ?_
            · rw [if_pos (by rfl)]
              have s0 := HX8.out.cell 0 rfl
              have sf0 := HX8.out.free 0
              have s1 := HX8.out.cell 1 rfl
              have sf1 := HX8.out.free 1
              have slt := HX8.out.lt
              go_simp
              show K _ _
              refine hK.out _ _ (by repeat (first | with_reducible exact hHeld | with_reducible refine Below.setCell ?_ (by first | omega | (simp <;> omega)) _ | with_reducible refine Below.alloc ?_ (by first | omega | (simp <;> omega)) _ | with_reducible exact Below.refl _ _ | with_reducible refine Below.drew ?_ | with_reducible exact Hb_wR.out)) (fun hHeld => ?_)
              clear hK K
              try simp only [Act.put, List.getElem_toArray, List.getElem_cons_succ, List.getElem_cons_zero, List.setIfInBounds_toArray, List.set_cons_zero, List.set_cons_succ]
              refine wpAnyH_take (i := 10) (v := .int .i64 0) rfl (by kernel_rfl) (by kernel_rfl) (by kernel_rfl) (fun _ _ _ h => h) (Or.inl ⟨by rfl, fun w hSw => ?_⟩) hHeld ?_
              · clear hSw; go_simp; all_goals (try first | rfl | omega)
              try simp only [Act.put, List.getElem_toArray, List.getElem_cons_succ, List.getElem_cons_zero, List.setIfInBounds_toArray, List.set_cons_zero, List.set_cons_succ]
              refine wpAnyH_done (by kernel_rfl) ?_ _
              go_wp2
              go_meet
              exact ⟨w3.heap.size, adN, capN, (k + 2 + E), 0, rfl, rfl, HX8.out.set2 _ _, .inl ⟨hq2, rfl, rfl⟩, (Hb_wR.out.setCell (by first | omega | (simp; done) | (simp; omega)) _).setCell (by first | omega | (simp; done) | (simp; omega)) _⟩
            exact AllReadyH.nil
          exact AllReadyH.nil
        exact AllReadyH.nil
      exact AllReadyH.nil
    · have hk2 : 400000 < k + 2 + E := by have := HKE.out; omega
      have hq3 : 2 < q := by omega
      refine wp_region_held_drew (S := fun w' => Below w3.heap.size w3 w') (by kernel_rfl) (by exact (Below.refl _ _).drew) (fun hHeld => ?_)
      refine wpAnyH_take (i := 0) (v := .int .i64 (k : Int)) rfl (by kernel_rfl) (by kernel_rfl) (by kernel_rfl) (fun _ _ _ h => h) (Or.inl ⟨by rfl, fun w hSw => ?_⟩) hHeld ?_
      · clear hSw; go_simp; all_goals (try first | rfl | omega)
      try simp only [Act.put, List.getElem_toArray, List.getElem_cons_succ, List.getElem_cons_zero, List.setIfInBounds_toArray, List.set_cons_zero, List.set_cons_succ]
      refine wpAnyH_take (i := 3) (v := .agg (msgCells R mv).toArray) rfl (by kernel_rfl) (by kernel_rfl) (by kernel_rfl) (fun _ _ _ h => h) (yieldsIf_load_mid (by rfl) 35 _ rfl w1.heap.size 0 rfl (msgCells R mv) _ (fun w hSw => fun j v hv => by have := (HX.out.belowS hSw).cell j hv; simpa using this) Try.underlying35 rfl (by kernel_rfl)) hHeld ?_
      try simp only [Act.put, List.getElem_toArray, List.getElem_cons_succ, List.getElem_cons_zero, List.setIfInBounds_toArray, List.set_cons_zero, List.set_cons_succ]
      refine wpAnyH_ready (rs := [1, 8]) (by kernel_rfl) (by simp) ?_
      refine AllReadyH.cons rfl (fun K hK => ?_) ?_
      · rw [if_pos (by rfl)]
        go_simp
        have hz := (ZBlock.new (w := w3.drew) (b := w3.heap.size) (n := k) (e := 5) (by first | rfl | simp)).rd (by unfold maxLen; omega)
        have HZ := Lib.hid hz
        clear hz
        show K _ _
        refine hK.out _ _ (by exact Below.alloc hHeld (Below.size hHeld) _) (fun hHeld => ?_)
        clear hK K
        try simp only [Act.put, List.getElem_toArray, List.getElem_cons_succ, List.getElem_cons_zero, List.setIfInBounds_toArray, List.set_cons_zero, List.set_cons_succ]
        refine wpAnyH_take (i := 2) (v := .agg #[.slice (some ⟨w3.heap.size, 0, none⟩) k k, .int .i64 0]) rfl (by kernel_rfl) (by kernel_rfl) (by kernel_rfl) (fun _ _ _ h => h) (Or.inl ⟨by rfl, fun w hSw => ?_⟩) hHeld ?_
        · clear hSw; go_simp; all_goals (try first | rfl | omega)
        try simp only [Act.put, List.getElem_toArray, List.getElem_cons_succ, List.getElem_cons_zero, List.setIfInBounds_toArray, List.set_cons_zero, List.set_cons_succ]
        refine wpAnyH_ready (rs := [4, 8]) (by kernel_rfl) (by simp) ?_
        refine AllReadyH.cons rfl (fun K hK => ?_) ?_
        · rw [if_pos (by rfl)]
          go_simp
          go_at_call 22
          refine (tappend_full R mv _ (zeros k) 0 _ (HM.out.below hHeld (fun _ h => h)) (HZ.out.below (show Below (w3.drew.alloc (.cells (zcells k) 5)).heap.size (w3.drew.alloc (.cells (zcells k) 5)) ((w3.drew.alloc (.cells (zcells k) 5))) from (by repeat (first | with_reducible exact Below.refl _ _ | with_reducible refine Below.drew ?_ | with_reducible refine Below.setCell ?_ (by first | omega | (simp <;> omega)) _ | with_reducible refine Below.alloc ?_ (by first | omega | (simp <;> omega)) _))) (fun _ h => h)) (tapeOk_zero (by rw [length_zeros]; omega)) HRC.out (by rw [length_zeros]; omega)).mono ?_
          rintro e wR ⟨rfl, hb_wR⟩
          have zR := hb_wR.size
          have zH := Below.size hHeld
          have hB_wR : Below w3.heap.size w3 wR := Below.trans hHeld (hb_wR.mono (Below.size hHeld))
          have Hb_wR := Lib.hid hB_wR
          clear hb_wR hB_wR
          show K _ _
          refine hK.out _ _ (by exact Hb_wR.out) (fun hHeld => ?_)
          clear hK K
          try simp only [Act.put, List.getElem_toArray, List.getElem_cons_succ, List.getElem_cons_zero, List.setIfInBounds_toArray, List.set_cons_zero, List.set_cons_succ]
          refine wpAnyH_take (i := 5) (v := .tuple #[.agg #[.slice none 0 0, .int .i64 0], .int .i64 6]) rfl (by kernel_rfl) (by kernel_rfl) (by kernel_rfl) (fun _ _ _ h => h) (Or.inl ⟨by rfl, fun w hSw => ?_⟩) hHeld ?_
          · clear hSw; go_simp; all_goals (try first | rfl | omega)
          try simp only [Act.put, List.getElem_toArray, List.getElem_cons_succ, List.getElem_cons_zero, List.setIfInBounds_toArray, List.set_cons_zero, List.set_cons_succ]
          refine wpAnyH_take (i := 6) (v := .agg #[.slice none 0 0, .int .i64 0]) rfl (by kernel_rfl) (by kernel_rfl) (by kernel_rfl) (fun _ _ _ h => h) (Or.inl ⟨by rfl, fun w hSw => ?_⟩) hHeld ?_
          · clear hSw; go_simp; all_goals (try first | rfl | omega)
          try simp only [Act.put, List.getElem_toArray, List.getElem_cons_succ, List.getElem_cons_zero, List.setIfInBounds_toArray, List.set_cons_zero, List.set_cons_succ]
          refine wpAnyH_take (i := 7) (v := .int .i64 6) rfl (by kernel_rfl) (by kernel_rfl) (by kernel_rfl) (fun _ _ _ h => h) (Or.inl ⟨by rfl, fun w hSw => ?_⟩) hHeld ?_
          · clear hSw; go_simp; all_goals (try first | rfl | omega)
          try simp only [Act.put, List.getElem_toArray, List.getElem_cons_succ, List.getElem_cons_zero, List.setIfInBounds_toArray, List.set_cons_zero, List.set_cons_succ]
          refine wpAnyH_ready (rs := [8]) (by kernel_rfl) (by simp) ?_
          refine AllReadyH.cons rfl (fun K hK => ?_) ?_
          · rw [if_pos (by rfl)]
            go_simp
            have HX80 : BoxAt (wR.alloc (.cells #[.slice none 0 0, .int .i64 0] 50)) (wR.heap.size) [.slice none 0 0, .int .i64 0] 50 := BoxAt.newAt wR [.slice none 0 0, .int .i64 0] 50 (by first | rfl | simp)
            show K _ _
            refine hK.out _ _ (by exact Below.alloc hHeld (Below.size hHeld) _) (fun hHeld => ?_)
            clear hK K
            try simp only [Act.put, List.getElem_toArray, List.getElem_cons_succ, List.getElem_cons_zero, List.setIfInBounds_toArray, List.set_cons_zero, List.set_cons_succ]
            refine wpAnyH_ready (rs := [9]) (by kernel_rfl) (by simp) ?_
            refine AllReadyH.cons rfl (fun K hK => ?_) ?_
            · rw [if_pos (by rfl)]
              go_simp
              show K _ _
              refine hK.out _ _ (by repeat (first | with_reducible exact hHeld | with_reducible refine Below.setCell ?_ (by first | omega | (simp <;> omega)) _ | with_reducible refine Below.alloc ?_ (by first | omega | (simp <;> omega)) _ | with_reducible exact Below.refl _ _ | with_reducible refine Below.drew ?_ | with_reducible exact Hb_wR.out)) (fun hHeld => ?_)
              clear hK K
              try simp only [Act.put, List.getElem_toArray, List.getElem_cons_succ, List.getElem_cons_zero, List.setIfInBounds_toArray, List.set_cons_zero, List.set_cons_succ]
              refine wpAnyH_take (i := 10) (v := .int .i64 6) rfl (by kernel_rfl) (by kernel_rfl) (by kernel_rfl) (fun _ _ _ h => h) (Or.inl ⟨by rfl, fun w hSw => ?_⟩) hHeld ?_
              · clear hSw; go_simp; all_goals (try first | rfl | omega)
              try simp only [Act.put, List.getElem_toArray, List.getElem_cons_succ, List.getElem_cons_zero, List.setIfInBounds_toArray, List.set_cons_zero, List.set_cons_succ]
              refine wpAnyH_done (by kernel_rfl) ?_ _
              go_wp2
              go_meet
              exact ⟨wR.heap.size, none, 0, 0, 6, rfl, rfl, BoxAt.newAt _ [_, _] _ rfl, .inr ⟨hq3, rfl, rfl⟩, Hb_wR.out.alloc Hb_wR.out.size _⟩
            exact AllReadyH.nil
          exact AllReadyH.nil
        refine AllReadyH.cons rfl (fun K hK => ?_) ?_
        · rw [if_pos (by rfl)]
          go_simp
          have HX80 : BoxAt ((w3.drew.alloc (.cells (zcells k) 5)).alloc (.cells #[.slice none 0 0, .int .i64 0] 50)) (w3.heap.size + 1) [.slice none 0 0, .int .i64 0] 50 := BoxAt.newAt (w3.drew.alloc (.cells (zcells k) 5)) [.slice none 0 0, .int .i64 0] 50 (by first | rfl | simp)
          show K _ _
          refine hK.out _ _ (by exact Below.alloc hHeld (Below.size hHeld) _) (fun hHeld => ?_)
          clear hK K
          try simp only [Act.put, List.getElem_toArray, List.getElem_cons_succ, List.getElem_cons_zero, List.setIfInBounds_toArray, List.set_cons_zero, List.set_cons_succ]
          refine wpAnyH_ready (rs := [4]) (by kernel_rfl) (by simp) ?_
          refine AllReadyH.cons rfl (fun K hK => ?_) ?_
          · rw [if_pos (by rfl)]
            go_simp
            go_at_call 22
            refine (tappend_full R mv _ (zeros k) 0 _ (HM.out.below hHeld (fun _ h => h)) (HZ.out.below (show Below (w3.drew.alloc (.cells (zcells k) 5)).heap.size (w3.drew.alloc (.cells (zcells k) 5)) (((w3.drew.alloc (.cells (zcells k) 5)).alloc (.cells #[.slice none 0 0, .int .i64 0] 50))) from (by repeat (first | with_reducible exact Below.refl _ _ | with_reducible refine Below.drew ?_ | with_reducible refine Below.setCell ?_ (by first | omega | (simp <;> omega)) _ | with_reducible refine Below.alloc ?_ (by first | omega | (simp <;> omega)) _))) (fun _ h => h)) (tapeOk_zero (by rw [length_zeros]; omega)) HRC.out (by rw [length_zeros]; omega)).mono ?_
            rintro e wR ⟨rfl, hb_wR⟩
            have zR := hb_wR.size
            have zH := Below.size hHeld
            have hB_wR : Below w3.heap.size w3 wR := Below.trans hHeld (hb_wR.mono (Below.size hHeld))
            have HX8 := Lib.hid (HX80.belowS hb_wR)
            have zl_HX8 := HX80.lt
            have Hb_wR := Lib.hid hB_wR
            clear hb_wR hB_wR
            show K _ _
            refine hK.out _ _ (by exact Hb_wR.out) (fun hHeld => ?_)
            clear hK K
            try simp only [Act.put, List.getElem_toArray, List.getElem_cons_succ, List.getElem_cons_zero, List.setIfInBounds_toArray, List.set_cons_zero, List.set_cons_succ]
            refine wpAnyH_take (i := 5) (v := .tuple #[.agg #[.slice none 0 0, .int .i64 0], .int .i64 6]) rfl (by kernel_rfl) (by kernel_rfl) (by kernel_rfl) (fun _ _ _ h => h) (Or.inl ⟨by rfl, fun w hSw => ?_⟩) hHeld ?_
            · clear hSw; go_simp; all_goals (try first | rfl | omega)
            try simp only [Act.put, List.getElem_toArray, List.getElem_cons_succ, List.getElem_cons_zero, List.setIfInBounds_toArray, List.set_cons_zero, List.set_cons_succ]
            refine wpAnyH_take (i := 6) (v := .agg #[.slice none 0 0, .int .i64 0]) rfl (by kernel_rfl) (by kernel_rfl) (by kernel_rfl) (fun _ _ _ h => h) (Or.inl ⟨by rfl, fun w hSw => ?_⟩) hHeld ?_
            · clear hSw; go_simp; all_goals (try first | rfl | omega)
            try simp only [Act.put, List.getElem_toArray, List.getElem_cons_succ, List.getElem_cons_zero, List.setIfInBounds_toArray, List.set_cons_zero, List.set_cons_succ]
            refine wpAnyH_take (i := 7) (v := .int .i64 6) rfl (by kernel_rfl) (by kernel_rfl) (by kernel_rfl) (fun _ _ _ h => h) (Or.inl ⟨by rfl, fun w hSw => ?_⟩) hHeld ?_
            · clear hSw; go_simp; all_goals (try first | rfl | omega)
            try simp only [Act.put, List.getElem_toArray, List.getElem_cons_succ, List.getElem_cons_zero, List.setIfInBounds_toArray, List.set_cons_zero, List.set_cons_succ]
            refine wpAnyH_ready (rs := [9]) (by kernel_rfl) (by simp) ?_
            refine AllReadyH.cons rfl (fun K hK => ?_) ?_
            · rw [if_pos (by rfl)]
              have s0 := HX8.out.cell 0 rfl
              have sf0 := HX8.out.free 0
              have s1 := HX8.out.cell 1 rfl
              have sf1 := HX8.out.free 1
              have slt := HX8.out.lt
              go_simp
              show K _ _
              refine hK.out _ _ (by repeat (first | with_reducible exact hHeld | with_reducible refine Below.setCell ?_ (by first | omega | (simp <;> omega)) _ | with_reducible refine Below.alloc ?_ (by first | omega | (simp <;> omega)) _ | with_reducible exact Below.refl _ _ | with_reducible refine Below.drew ?_ | with_reducible exact Hb_wR.out)) (fun hHeld => ?_)
              clear hK K
              try simp only [Act.put, List.getElem_toArray, List.getElem_cons_succ, List.getElem_cons_zero, List.setIfInBounds_toArray, List.set_cons_zero, List.set_cons_succ]
              refine wpAnyH_take (i := 10) (v := .int .i64 6) rfl (by kernel_rfl) (by kernel_rfl) (by kernel_rfl) (fun _ _ _ h => h) (Or.inl ⟨by rfl, fun w hSw => ?_⟩) hHeld ?_
              · clear hSw; go_simp; all_goals (try first | rfl | omega)
              try simp only [Act.put, List.getElem_toArray, List.getElem_cons_succ, List.getElem_cons_zero, List.setIfInBounds_toArray, List.set_cons_zero, List.set_cons_succ]
              refine wpAnyH_done (by kernel_rfl) ?_ _
              go_wp2
              go_meet
              exact ⟨w3.heap.size + 1, none, 0, 0, 6, rfl, rfl, HX8.out.set2 _ _, .inr ⟨hq3, rfl, rfl⟩, (Hb_wR.out.setCell (by first | omega | (simp; done) | (simp; omega)) _).setCell (by first | omega | (simp; done) | (simp; omega)) _⟩
            exact AllReadyH.nil
          exact AllReadyH.nil
        exact AllReadyH.nil
      refine AllReadyH.cons rfl (fun K hK => ?_) ?_
      · rw [if_pos (by rfl)]
        go_simp
        have HX80 : BoxAt (w3.drew.alloc (.cells #[.slice none 0 0, .int .i64 0] 50)) (w3.heap.size) [.slice none 0 0, .int .i64 0] 50 := BoxAt.newAt w3.drew [.slice none 0 0, .int .i64 0] 50 (by first | rfl | simp)
        show K _ _
        refine hK.out _ _ (by exact Below.alloc hHeld (Below.size hHeld) _) (fun hHeld => ?_)
        clear hK K
        try simp only [Act.put, List.getElem_toArray, List.getElem_cons_succ, List.getElem_cons_zero, List.setIfInBounds_toArray, List.set_cons_zero, List.set_cons_succ]
        refine wpAnyH_ready (rs := [1]) (by kernel_rfl) (by simp) ?_
        refine AllReadyH.cons rfl (fun K hK => ?_) ?_
        · rw [if_pos (by rfl)]
          go_simp
          have hz := (ZBlock.new (w := ((w3.drew.alloc (.cells #[.slice none 0 0, .int .i64 0] 50)))) (b := w3.heap.size + 1) (n := k) (e := 5) (by first | rfl | simp)).rd (by unfold maxLen; omega)
          have zl_HX8 := HX80.lt
          have HX8 := Lib.hid (show BoxAt (((w3.drew.alloc (.cells #[.slice none 0 0, .int .i64 0] 50))).alloc (.cells (zcells k) 5)) (w3.heap.size) [.slice none 0 0, .int .i64 0] 50 from HX80.alloc _)
          have HZ := Lib.hid hz
          clear hz
          show K _ _
          refine hK.out _ _ (by exact Below.alloc hHeld (Below.size hHeld) _) (fun hHeld => ?_)
          clear hK K
          try simp only [Act.put, List.getElem_toArray, List.getElem_cons_succ, List.getElem_cons_zero, List.setIfInBounds_toArray, List.set_cons_zero, List.set_cons_succ]
          refine wpAnyH_take (i := 2) (v := .agg #[.slice (some ⟨w3.heap.size + 1, 0, none⟩) k k, .int .i64 0]) rfl (by kernel_rfl) (by kernel_rfl) (by kernel_rfl) (fun _ _ _ h => h) (Or.inl ⟨by rfl, fun w hSw => ?_⟩) hHeld ?_
          · clear hSw; go_simp; all_goals (try first | rfl | omega)
          try simp only [Act.put, List.getElem_toArray, List.getElem_cons_succ, List.getElem_cons_zero, List.setIfInBounds_toArray, List.set_cons_zero, List.set_cons_succ]
          refine wpAnyH_ready (rs := [4]) (by kernel_rfl) (by simp) ?_
          refine AllReadyH.cons rfl (fun K hK => ?_) ?_
          · rw [if_pos (by rfl)]
            go_simp
            go_at_call 22
            refine (tappend_full R mv _ (zeros k) 0 _ (HM.out.below hHeld (fun _ h => h)) (HZ.out.below (show Below (((w3.drew.alloc (.cells #[.slice none 0 0, .int .i64 0] 50))).alloc (.cells (zcells k) 5)).heap.size (((w3.drew.alloc (.cells #[.slice none 0 0, .int .i64 0] 50))).alloc (.cells (zcells k) 5)) ((((w3.drew.alloc (.cells #[.slice none 0 0, .int .i64 0] 50))).alloc (.cells (zcells k) 5))) from (by repeat (first | with_reducible exact Below.refl _ _ | with_reducible refine Below.drew ?_ | with_reducible refine Below.setCell ?_ (by first | omega | (simp <;> omega)) _ | with_reducible refine Below.alloc ?_ (by first | omega | (simp <;> omega)) _))) (fun _ h => h)) (tapeOk_zero (by rw [length_zeros]; omega)) HRC.out (by rw [length_zeros]; omega)).mono ?_
            rintro e wR ⟨rfl, hb_wR⟩
            have zR := hb_wR.size
            have zH := Below.size hHeld
            have hB_wR : Below w3.heap.size w3 wR := Below.trans hHeld (hb_wR.mono (Below.size hHeld))
            have zl_HX8 := HX8.out.lt
            replace HX8 := Lib.hid (HX8.out.belowS hb_wR)
            have Hb_wR := Lib.hid hB_wR
            clear hb_wR hB_wR
            show K _ _
            refine hK.out _ _ (by exact Hb_wR.out) (fun hHeld => ?_)
            clear hK K
            try simp only [Act.put, List.getElem_toArray, List.getElem_cons_succ, List.getElem_cons_zero, List.setIfInBounds_toArray, List.set_cons_zero, List.set_cons_succ]
            refine wpAnyH_take (i := 5) (v := .tuple #[.agg #[.slice none 0 0, .int .i64 0], .int .i64 6]) rfl (by kernel_rfl) (by kernel_rfl) (by kernel_rfl) (fun _ _ _ h => h) (Or.inl ⟨by rfl, fun w hSw => ?_⟩) hHeld ?_
            · clear hSw; go_simp; all_goals (try first | rfl | omega)
            try simp only [Act.put, List.getElem_toArray, List.getElem_cons_succ, List.getElem_cons_zero, List.setIfInBounds_toArray, List.set_cons_zero, List.set_cons_succ]
            refine wpAnyH_take (i := 6) (v := .agg #[.slice none 0 0, .int .i64 0]) rfl (by kernel_rfl) (by kernel_rfl) (by kernel_rfl) (fun _ _ _ h => h) (Or.inl ⟨by rfl, fun w hSw => ?_⟩) hHeld ?_
            · clear hSw; go_simp; all_goals (try first | rfl | omega)
            try simp only [Act.put, List.getElem_toArray, List.getElem_cons_succ, List.getElem_cons_zero, List.setIfInBounds_toArray, List.set_cons_zero, List.set_cons_succ]
            refine wpAnyH_take (i := 7) (v := .int .i64 6) rfl (by kernel_rfl) (by kernel_rfl) (by kernel_rfl) (fun _ _ _ h => h) (Or.inl ⟨by rfl, fun w hSw => ?_⟩) hHeld ?_
            · clear hSw; go_simp; all_goals (try first | rfl | omega)
            try simp only [Act.put, List.getElem_toArray, List.getElem_cons_succ, List.getElem_cons_zero, List.setIfInBounds_toArray, List.set_cons_zero, List.set_cons_succ]
            refine wpAnyH_ready (rs := [9]) (by kernel_rfl) (by simp) ?_
            refine AllReadyH.cons rfl (fun K hK => ?_) ?_
            · rw [if_pos (by rfl)]
              have s0 := HX8.out.cell 0 rfl
              have sf0 := HX8.out.free 0
              have s1 := HX8.out.cell 1 rfl
              have sf1 := HX8.out.free 1
              have slt := HX8.out.lt
              go_simp
              show K _ _
              refine hK.out _ _ (by repeat (first | with_reducible exact hHeld | with_reducible refine Below.setCell ?_ (by first | omega | (simp <;> omega)) _ | with_reducible refine Below.alloc ?_ (by first | omega | (simp <;> omega)) _ | with_reducible exact Below.refl _ _ | with_reducible refine Below.drew ?_ | with_reducible exact Hb_wR.out)) (fun hHeld => ?_)
              clear hK K
              try simp only [Act.put, List.getElem_toArray, List.getElem_cons_succ, List.getElem_cons_zero, List.setIfInBounds_toArray, List.set_cons_zero, List.set_cons_succ]
              refine wpAnyH_take (i := 10) (v := .int .i64 6) rfl (by kernel_rfl) (by kernel_rfl) (by kernel_rfl) (fun _ _ _ h => h) (Or.inl ⟨by rfl, fun w hSw => ?_⟩) hHeld ?_
              · clear hSw; go_simp; all_goals (try first | rfl | omega)
              try simp only [Act.put, List.getElem_toArray, List.getElem_cons_succ, List.getElem_cons_zero, List.setIfInBounds_toArray, List.set_cons_zero, List.set_cons_succ]
              refine wpAnyH_done (by kernel_rfl) ?_ _
              go_wp2
              go_meet
              exact ⟨w3.heap.size, none, 0, 0, 6, rfl, rfl, HX8.out.set2 _ _, .inr ⟨hq3, rfl, rfl⟩, (Hb_wR.out.setCell (by first | omega | (simp; done) | (simp; omega)) _).setCell (by first | omega | (simp; done) | (simp; omega)) _⟩
            exact AllReadyH.nil
          exact AllReadyH.nil
        exact AllReadyH.nil
      exact AllReadyH.nil
  case rest =>
    obtain ⟨X, ad9, cap9, L9, c9, rfl, rfl, hX, hor, hB9⟩ := hcut
    replace HB := Lib.hid (HB.out.trans (hB9.mono HB.out.size))
    replace HM := Lib.hid (HM.out.below hB9 (fun _ h => h))
    replace HX := Lib.hid (HX.out.belowS hB9)
    have BX := Lib.hid hX
    clear hX hB9
    go_wp2_with fail
    refine (tsync_no _ 400001 400001 0 _ (by decide)).mono ?_
    rintro e w4 ⟨rfl, hb4⟩
    have hB4 : Below wc.heap.size wc w4 := Below.trans (by repeat (first | with_reducible exact Below.refl _ _ | with_reducible refine Below.drew ?_ | with_reducible refine Below.setCell ?_ (by first | omega | (simp <;> omega)) _ | with_reducible refine Below.alloc ?_ (by first | omega | (simp <;> omega)) _)) (hb4.mono (by first | exact Nat.le_refl _ | (simp; done) | (simp; omega)))
    have z4 := hB4.size
    replace HB := Lib.hid (HB.out.trans (hB4.mono HB.out.size))
    replace HM := Lib.hid (HM.out.below hB4 (fun _ h => h))
    replace HX := Lib.hid (HX.out.belowS hB4)
    replace BX := Lib.hid (BX.out.belowS hB4)
    clear hb4 hB4
    have hkm : k ≤ 400000 := by have := HKE.out; omega
    rcases hor with ⟨g1, rfl, rfl⟩ | ⟨g1, rfl, rfl⟩
    · have hgt : ¬ (399998 - (E : Int)) < (k : Int) := by have := HKE.out; omega
      have wr4 : IntKind.i64.wrap ((k : Int) + 2) = (k : Int) + 2 := IntWalk.i64_in _ (by omega)
      have wr5 : IntKind.i64.wrap ((k : Int) + 2 + (E : Int)) = (k : Int) + 2 + (E : Int) := IntWalk.i64_in _ (by omega)
      have x0 := BX.out.cell 0 rfl
      have zx := BX.out.lt
      clear hmk hmk2
      go_wp2
      go_ret
      exact ⟨rfl, HB.out.alloc HB.out.size _⟩
    · have hgt : (399998 - (E : Int)) < (k : Int) := by have := HKE.out; omega
      have x0 := BX.out.cell 0 rfl
      have zx := BX.out.lt
      clear hmk hmk2
      go_wp2
      go_ret
      exact ⟨rfl, HB.out.alloc HB.out.size _⟩
end Go.Proofs.Ytegdpjoncjmdeaa
