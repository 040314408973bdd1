/- tape.Append at messages; sheaveskeep.taped: what they compute. -/
import Derived.Test.YtegdpjoncjmdeaaTape4
import Derived.Test.YtegdpjoncjmdeaaRecs2
set_option linter.unusedVariables false
set_option linter.unusedSimpArgs false
attribute [local go_sem ↓] Go.wp_at_zero Go.wp_at_succ
namespace Go.Proofs.Ytegdpjoncjmdeaa
open Go Go.RowKit

theorem tappend_ok {G G' : Nat → Prop} (m : Msg) (v : MV) (vt : Value) (l : Bytes) (s : Int) (w : World) (h : RdM G w v m) (hv : RdB G' w vt l) (ht : tapeOk l.length s = true) (hr : recCode m = 0) (hlen : l.length + (frmL m).length ≤ 400000) :
    Calls Try.prog 22 #[.agg #[vt, .int .i64 s], .agg (msgCells m v).toArray] w fun e w' => ∃ v', e = .returned (.tuple #[.agg #[v', .int .i64 s], .int .i64 0]) ∧ RdB (fun b => w.heap.size ≤ b) w' v' (l ++ frmL m) ∧ Below w.heap.size w w' := by
  have h0 := (recCode_iff hr).1
  have ok := msgOk_code h0
  have hC : ∀ w', Below w.heap.size w w' → Calls Try.prog 21 #[.agg (msgCells m v).toArray] w' fun e w'' => e = .returned (.int .i64 0) ∧ Below w'.heap.size w' w'' := fun w' hb => by
    have := tcheck_any m v w' (h.below hb (fun _ h => h)) ok
    rwa [hr] at this
  have hE : ∀ w', Below w.heap.size w w' → Calls Try.prog 16 #[.agg (msgCells m v).toArray] w' fun e w'' => ∃ v', e = .returned (.tuple #[v', .int .i64 0]) ∧ w''.ownsRow w'.heap.size 5 1 v' (encL m).length (byteVs (encL m)) ∧ Below w'.heap.size w' w'' := fun w' hb =>
    wencode_ok m v w' (h.below hb (fun _ h => h)) ok h0
  have hE3 := encL_len h0
  have hF : frmL m = byteZ (((encL m).length : Int) / 256) :: byteZ ((encL m).length : Int) :: encL m := rfl
  have hFl := frm_len m
  rw [hF]
  rw [hFl] at hlen
  generalize encL m = E at *
  obtain ⟨ad, cap, rfl, -, -⟩ := hv.form
  obtain ⟨f, t, k, ⟨ba, bn, txs⟩, ⟨ha, hr', bs, ps⟩, ⟨sa, sr, sd⟩, ⟨⟨ca, cr, cb, cp⟩, vs⟩, r⟩ := m
  obtain ⟨x1, x2, x3, x4, x5, x6, x7⟩ := v
  obtain ⟨h1, h2, h3, h4, h5, h6, h7⟩ := h
  obtain ⟨a1, c1, rfl, -, -⟩ := h1.form
  obtain ⟨a2, c2, rfl, -, -⟩ := h2.form
  obtain ⟨a3, c3, rfl, -, -⟩ := h3.form
  obtain ⟨a4, c4, rfl, -, -⟩ := h4.form
  obtain ⟨a5, c5, rfl, -, -⟩ := h5.form
  obtain ⟨a6, c6, rfl, -, -⟩ := h6.form
  obtain ⟨a7, c7, rfl, -, -⟩ := h7.form
  exact tapp_ok f t k ba bn a1 _ c1 ha hr' a2 _ c2 a3 _ c3 sa sr a4 _ c4 ca cr a5 _ c5 a6 _ c6 a7 _ c7 r ad cap s l E w hv ht (by omega) hE3.2 (by omega) hC hE
theorem tappend_full {G G' : Nat → Prop} (m : Msg) (v : MV) (vt : Value) (l : Bytes) (s : Int) (w : World) (h : RdM G w v m) (hv : RdB G' w vt l) (ht : tapeOk l.length s = true) (hr : recCode m = 0) (hlen : 400000 < l.length + (frmL m).length) :
    Calls Try.prog 22 #[.agg #[vt, .int .i64 s], .agg (msgCells m v).toArray] w fun e w' => e = .returned (.tuple #[.agg #[.slice none 0 0, .int .i64 0], .int .i64 6]) ∧ Below w.heap.size w w' := by
  have h0 := (recCode_iff hr).1
  have ok := msgOk_code h0
  have hC : ∀ w', Below w.heap.size w w' → Calls Try.prog 21 #[.agg (msgCells m v).toArray] w' fun e w'' => e = .returned (.int .i64 0) ∧ Below w'.heap.size w' w'' := fun w' hb => by
    have := tcheck_any m v w' (h.below hb (fun _ h => h)) ok
    rwa [hr] at this
  have hE : ∀ w', Below w.heap.size w w' → Calls Try.prog 16 #[.agg (msgCells m v).toArray] w' fun e w'' => ∃ v', e = .returned (.tuple #[v', .int .i64 0]) ∧ w''.ownsRow w'.heap.size 5 1 v' (encL m).length (byteVs (encL m)) ∧ Below w'.heap.size w' w'' := fun w' hb =>
    wencode_ok m v w' (h.below hb (fun _ h => h)) ok h0
  have hE3 := encL_len h0
  have hF : frmL m = byteZ (((encL m).length : Int) / 256) :: byteZ ((encL m).length : Int) :: encL m := rfl
  have hFl := frm_len m
  rw [hFl] at hlen
  generalize encL m = E at *
  obtain ⟨ad, cap, rfl, -, -⟩ := hv.form
  obtain ⟨f, t, k, ⟨ba, bn, txs⟩, ⟨ha, hr', bs, ps⟩, ⟨sa, sr, sd⟩, ⟨⟨ca, cr, cb, cp⟩, vs⟩, r⟩ := m
  obtain ⟨x1, x2, x3, x4, x5, x6, x7⟩ := v
  obtain ⟨h1, h2, h3, h4, h5, h6, h7⟩ := h
  obtain ⟨a1, c1, rfl, -, -⟩ := h1.form
  obtain ⟨a2, c2, rfl, -, -⟩ := h2.form
  obtain ⟨a3, c3, rfl, -, -⟩ := h3.form
  obtain ⟨a4, c4, rfl, -, -⟩ := h4.form
  obtain ⟨a5, c5, rfl, -, -⟩ := h5.form
  obtain ⟨a6, c6, rfl, -, -⟩ := h6.form
  obtain ⟨a7, c7, rfl, -, -⟩ := h7.form
  exact tapp_full f t k ba bn a1 _ c1 ha hr' a2 _ c2 a3 _ c3 sa sr a4 _ c4 ca cr a5 _ c5 a6 _ c6 a7 _ c7 r ad cap s l E w hv ht (by omega) hE3.2 (by omega) hC hE
theorem tappend_bad {G G' : Nat → Prop} (m : Msg) (v : MV) (vt : Value) (l : Bytes) (s : Int) (w : World) (h : RdM G w v m) (hv : RdB G' w vt l) (ht : tapeOk l.length s = true) (ok : MsgOk m) (hc : recCode m ≠ 0) :
    Calls Try.prog 22 #[.agg #[vt, .int .i64 s], .agg (msgCells m v).toArray] w fun e w' => e = .returned (.tuple #[.agg #[.slice none 0 0, .int .i64 0], .int .i64 (recCode m)]) ∧ Below w.heap.size w w' := by
  have hC : ∀ w', Below w.heap.size w w' → Calls Try.prog 21 #[.agg (msgCells m v).toArray] w' fun e w'' => e = .returned (.int .i64 (recCode m)) ∧ Below w'.heap.size w' w'' := fun w' hb => tcheck_any m v w' (h.below hb (fun _ h => h)) ok
  generalize recCode m = c at *
  obtain ⟨ad, cap, rfl, -, -⟩ := hv.form
  obtain ⟨f, t, k, ⟨ba, bn, txs⟩, ⟨ha, hr', bs, ps⟩, ⟨sa, sr, sd⟩, ⟨⟨ca, cr, cb, cp⟩, vs⟩, r⟩ := m
  obtain ⟨x1, x2, x3, x4, x5, x6, x7⟩ := v
  obtain ⟨h1, h2, h3, h4, h5, h6, h7⟩ := h
  obtain ⟨a1, c1, rfl, -, -⟩ := h1.form
  obtain ⟨a2, c2, rfl, -, -⟩ := h2.form
  obtain ⟨a3, c3, rfl, -, -⟩ := h3.form
  obtain ⟨a4, c4, rfl, -, -⟩ := h4.form
  obtain ⟨a5, c5, rfl, -, -⟩ := h5.form
  obtain ⟨a6, c6, rfl, -, -⟩ := h6.form
  obtain ⟨a7, c7, rfl, -, -⟩ := h7.form
  exact tapp_bad f t k ba bn a1 _ c1 ha hr' a2 _ c2 a3 _ c3 sa sr a4 _ c4 ca cr a5 _ c5 a6 _ c6 a7 _ c7 r ad cap s l c w hv ht hc hC
set_option maxRecDepth 100000 in
set_option maxHeartbeats 8000000 in
theorem taped_any {G : Nat → Prop} {ms : List Msg} (v : Value) (w : World) (h : RdS RMsg G w v ms) (hok : ∀ m ∈ ms, recCode m = 0) (hlen : ms.length ≤ 1000) :
    Calls Try.prog 24 #[v] w fun e w' => ∃ v', e = .returned (.tuple #[.agg #[v', .int .i64 0], .bool true]) ∧ RdB (fun b => w.heap.size ≤ b) w' v' (tapeB ms) ∧ Below w.heap.size w w' := by
  obtain ⟨adv, capv, rfl, hcv, hcm⟩ := h.form
  unfold maxLen at hcm
  have HV := Lib.hid h
  have HOK := Lib.hid hok
  clear h hok
  go_enter Try.func24, Try.ntmps24
  go_wp2_with fail
  go_loopw [5] (fun i wr => ∃ (k : Nat) (vT : Value), k ≤ ms.length ∧ i = .int .i64 k ∧ BoxAt wr w.heap.size [.slice none 0 0, .int .i64 0] 50 ∧ BoxAt wr (w.heap.size + 1) [vT, .int .i64 0] 50 ∧ RdB (fun b => w.heap.size + 2 ≤ b) wr vT (tapeB (ms.take k)) ∧ Below w.heap.size w wr) (fun i _ => ms.length - (intOf i).toNat)
  case atStart => exact ⟨0, .slice none 0 0, Nat.zero_le _, rfl, (BoxAt.new w [_, _] _).alloc _, BoxAt.newAt _ [_, _] _ (by simp), RdS.nil _ _ _, ((Below.refl _ _).alloc (Nat.le_refl _) _).alloc (by simp) _⟩
  case round =>
    obtain ⟨k, vT, hk, rfl, hR, hT, hrd, hB⟩ := hrel
    have hz := hT.lt
    have HBr := Lib.hid hB
    have HR := Lib.hid hR
    have HT := Lib.hid hT
    have HD := Lib.hid hrd
    obtain ⟨adT, capT, rfl, -, -⟩ := hrd.form
    by_cases hlt : k < ms.length
    · have i0 : (0 : Int) ≤ (k : Int) := by omega
      have i1 : (k : Int) < (ms.length : Int) := by omega
      obtain ⟨bm, om, mv, rfl, -, hcm', hrm⟩ := (HV.out.below hB (fun _ h => h)).msg k hlt
      have hrc := HOK.out ms[k] (List.getElem_mem hlt)
      have hTk : tapeB (ms.take (k + 1)) = tapeB (ms.take k) ++ frmL ms[k] := by rw [List.take_succ_eq_append_getElem hlt, tapeB_app, tapeB_one]
      have hl1 := (tapeB_len (ms.take k) (fun m hm => HOK.out m (List.mem_of_mem_take hm))).1
      have hl2 := encL_len (recCode_iff hrc).1
      have hfl := frm_len ms[k]
      have hlk : (ms.take k).length = k := by rw [List.length_take]; omega
      rw [hlk] at hl1
      generalize ms[k] = M at *
      generalize tapeB (ms.take k) = L at *
      obtain ⟨N, hN0⟩ : ∃ N, N = L ++ frmL M := ⟨_, rfl⟩
      rw [← hN0] at hTk
      have lN : N.length = L.length + (frmL M).length := by rw [hN0]; simp
      have lt2 : ¬ (N.length : Int) ≤ (L.length : Int) := by omega
      have HLE := Lib.hid (show L.length + (frmL M).length ≤ 400000 by omega)
      have HNL := Lib.hid hN0
      clear hN0 lN hfl hl2
      have HTK := Lib.hid hTk
      have HRM := Lib.hid hrm
      have HRC := Lib.hid hrc
      have x0 := hT.cell 0 rfl
      have x1 := hT.cell 1 rfl
      have rm : wr.rangeAt bm (om + k * 19) (msgCells M mv) := fun j v hv => by rw [Nat.add_assoc]; exact hcm' j v hv
      clear hcm' hrm hB hR hT hrd hTk hrc
      have zm : bm < wr.heap.size := World.block_lt_of_cell? wr _ (rm 0 _ rfl)
      have HTO := Lib.hid (show tapeOk L.length 0 = true by unfold tapeOk; simp; omega)
      go_upto_region 5 with fail
      refine wp_region_held_drew (S := fun w' => Below wr.heap.size wr w') (by kernel_rfl) (by exact (Below.refl _ _).drew) (fun hHeld => ?_)
      refine wpAnyH_take (i := 0) (v := .agg #[.slice adT L.length capT, .int .i64 0]) rfl (by kernel_rfl) (by kernel_rfl) (by kernel_rfl) (fun _ _ _ h => h) (Or.inl ⟨by rfl, fun w hSw => ?_⟩) hHeld ?_
      · have q := (bcellAt hSw _ hz).1; have q0 := (q 0).trans x0; have q1 := (q 1).trans x1; clear hSw q; go_simp
      try simp only [Act.put, List.getElem_toArray, List.getElem_cons_succ, List.getElem_cons_zero, List.setIfInBounds_toArray, List.set_cons_zero, List.set_cons_succ]
      refine wpAnyH_take (i := 1) (v := .slice (some ⟨bm, om, none⟩) ms.length capv) rfl (by kernel_rfl) (by kernel_rfl) (by kernel_rfl) (fun _ _ _ h => h) (Or.inl ⟨by rfl, fun w hSw => ?_⟩) hHeld ?_
      · (try dsimp only at hSw); go_split_ands; go_simp; all_goals (try first | rfl | omega)
      try simp only [Act.put, List.getElem_toArray, List.getElem_cons_succ, List.getElem_cons_zero, List.setIfInBounds_toArray, List.set_cons_zero, List.set_cons_succ]
      refine wpAnyH_take (i := 2) (v := .int .i64 (k : Int)) rfl (by kernel_rfl) (by kernel_rfl) (by kernel_rfl) (fun _ _ _ h => h) (Or.inl ⟨by rfl, fun w hSw => ?_⟩) hHeld ?_
      · (try dsimp only at hSw); go_split_ands; go_simp; all_goals (try first | rfl | omega)
      try simp only [Act.put, List.getElem_toArray, List.getElem_cons_succ, List.getElem_cons_zero, List.setIfInBounds_toArray, List.set_cons_zero, List.set_cons_succ]
      refine wpAnyH_take (i := 3) (v := .pointer (some ⟨bm, om + k * 19, none⟩)) rfl (by kernel_rfl) (by kernel_rfl) (by kernel_rfl) (fun _ _ _ h => h) (Or.inl ⟨by rfl, fun w hSw => ?_⟩) hHeld ?_
      · (try dsimp only at hSw); go_split_ands; go_simp; all_goals (try first | rfl | omega)
      try simp only [Act.put, List.getElem_toArray, List.getElem_cons_succ, List.getElem_cons_zero, List.setIfInBounds_toArray, List.set_cons_zero, List.set_cons_succ]
      refine wpAnyH_take (i := 4) (v := .agg (msgCells M mv).toArray) rfl (by kernel_rfl) (by kernel_rfl) (by kernel_rfl) (fun _ _ _ h => h) (yieldsIf_load_mid (by rfl) 35 _ rfl bm (om + k * 19) rfl (msgCells M mv) _ (fun w hSw => fun j v hv => by rw [(bcellAt hSw _ zm).1]; exact rm j v hv) Try.underlying35 rfl (by kernel_rfl)) hHeld ?_
      try simp only [Act.put, List.getElem_toArray, List.getElem_cons_succ, List.getElem_cons_zero, List.setIfInBounds_toArray, List.set_cons_zero, List.set_cons_succ]
      refine wpAnyH_ready (rs := [5, 9]) (by kernel_rfl) (by simp) ?_
      refine AllReadyH.cons rfl (fun K hK => ?_) ?_
      · rw [if_pos (by rfl)]
        go_simp
        go_at_call 22
        refine (tappend_ok M mv _ L 0 _ (HRM.out.below (by repeat (first | with_reducible exact Below.refl _ _ | with_reducible refine Below.drew ?_ | with_reducible refine Below.setCell ?_ (by first | omega | (simp <;> omega)) _ | with_reducible refine Below.alloc ?_ (by first | omega | (simp <;> omega)) _)) (fun _ h => h)) (HD.out.below (by repeat (first | with_reducible exact Below.refl _ _ | with_reducible refine Below.drew ?_ | with_reducible refine Below.setCell ?_ (by first | omega | (simp <;> omega)) _ | with_reducible refine Below.alloc ?_ (by first | omega | (simp <;> omega)) _)) (fun _ h => h)) HTO.out HRC.out HLE.out).mono ?_
        rintro e w2 ⟨vN, rfl, hN, hb2⟩
        rw [← HNL.out] at hN
        obtain ⟨adN, capN, rfl, -, -⟩ := hN.form
        have hB2 : Below wr.heap.size wr w2 := Below.trans (by repeat (first | with_reducible exact Below.refl _ _ | with_reducible refine Below.drew ?_ | with_reducible refine Below.setCell ?_ (by first | omega | (simp <;> omega)) _ | with_reducible refine Below.alloc ?_ (by first | omega | (simp <;> omega)) _)) (hb2.mono (by simp))
        have z2 := hB2.size
        (try have HX2 := Lib.hid ((BoxAt.newAt (n := wr.heap.size) wr.drew [.slice none 0 0, .int .i64 0] 50 rfl).belowS hb2))
        (try have x20 := HX2.out.cell 0 rfl)
        (try have x21 := HX2.out.cell 1 rfl)
        (try have fx0 := HX2.out.free 0)
        (try have fx1 := HX2.out.free 1)
        (try have zx2 := HX2.out.lt)
        have HN2 := Lib.hid (hN.low (by decide))
        have HT2 := Lib.hid (HT.out.belowS hB2)
        have HR2 := Lib.hid (HR.out.belowS hB2)
        have t0 := HT2.out.cell 0 rfl
        have t1 := HT2.out.cell 1 rfl
        have f0 := HT2.out.free 0
        have f1 := HT2.out.free 1
        have nX : wr.heap.size ≠ w.heap.size + 1 := by omega
        have zT2 := HT2.out.lt
        have nX2 : w2.heap.size ≠ w.heap.size + 1 := by omega
        have HB2 := Lib.hid hB2
        clear hN hb2 hB2
        show K _ _
        refine hK.out _ _ (by exact HB2.out) (fun hHeld => ?_)
        clear hK K
        try simp only [Act.put, List.getElem_toArray, List.getElem_cons_succ, List.getElem_cons_zero, List.setIfInBounds_toArray, List.set_cons_zero, List.set_cons_succ]
        refine wpAnyH_take (i := 6) (v := .tuple #[.agg #[.slice adN N.length capN, .int .i64 0], .int .i64 0]) rfl (by kernel_rfl) (by kernel_rfl) (by kernel_rfl) (fun _ _ _ h => h) (Or.inl ⟨by rfl, fun w hSw => ?_⟩) hHeld ?_
        · (try dsimp only at hSw); go_split_ands; go_simp; all_goals (try first | rfl | omega)
        try simp only [Act.put, List.getElem_toArray, List.getElem_cons_succ, List.getElem_cons_zero, List.setIfInBounds_toArray, List.set_cons_zero, List.set_cons_succ]
        refine wpAnyH_take (i := 7) (v := .agg #[.slice adN N.length capN, .int .i64 0]) rfl (by kernel_rfl) (by kernel_rfl) (by kernel_rfl) (fun _ _ _ h => h) (Or.inl ⟨by rfl, fun w hSw => ?_⟩) hHeld ?_
        · (try dsimp only at hSw); go_split_ands; go_simp; all_goals (try first | rfl | omega)
        try simp only [Act.put, List.getElem_toArray, List.getElem_cons_succ, List.getElem_cons_zero, List.setIfInBounds_toArray, List.set_cons_zero, List.set_cons_succ]
        refine wpAnyH_take (i := 8) (v := .int .i64 0) rfl (by kernel_rfl) (by kernel_rfl) (by kernel_rfl) (fun _ _ _ h => h) (Or.inl ⟨by rfl, fun w hSw => ?_⟩) hHeld ?_
        · (try dsimp only at hSw); go_split_ands; go_simp; all_goals (try first | rfl | omega)
        try simp only [Act.put, List.getElem_toArray, List.getElem_cons_succ, List.getElem_cons_zero, List.setIfInBounds_toArray, List.set_cons_zero, List.set_cons_succ]
        refine wpAnyH_ready (rs := [9]) (by kernel_rfl) (by simp) ?_
        refine AllReadyH.cons rfl (fun K hK => ?_) ?_
        · rw [if_pos (by rfl)]
          go_simp
          show K _ _
          refine hK.out _ _ (by first | exact (HB2.out.alloc HB2.out.size _) | exact ((Below.refl _ _).drew.alloc (Nat.le_refl _) _)) (fun hHeld => ?_)
          clear hK K
          try simp only [Act.put, List.getElem_toArray, List.getElem_cons_succ, List.getElem_cons_zero, List.setIfInBounds_toArray, List.set_cons_zero, List.set_cons_succ]
          refine wpAnyH_ready (rs := [10]) (by kernel_rfl) (by simp) ?_
          refine AllReadyH.cons rfl (fun K hK => ?_) ?_
          · rw [if_pos (by rfl)]
            go_simp
            show K _ _
            refine hK.out _ _ (by exact (by repeat (first | with_reducible exact HB2.out | with_reducible exact Below.refl _ _ | with_reducible refine Below.drew ?_ | with_reducible refine Below.setCell ?_ (by first | omega | (simp <;> omega)) _ | with_reducible refine Below.alloc ?_ (by first | omega | (simp <;> omega)) _))) (fun hHeld => ?_)
            clear hK K
            try simp only [Act.put, List.getElem_toArray, List.getElem_cons_succ, List.getElem_cons_zero, List.setIfInBounds_toArray, List.set_cons_zero, List.set_cons_succ]
            refine wpAnyH_take (i := 11) (v := .int .i64 0) rfl (by kernel_rfl) (by kernel_rfl) (by kernel_rfl) (fun _ _ _ h => h) (Or.inl ⟨by rfl, fun w hSw => ?_⟩) hHeld ?_
            · (try dsimp only at hSw); go_split_ands; go_simp; all_goals (try first | rfl | omega)
            try simp only [Act.put, List.getElem_toArray, List.getElem_cons_succ, List.getElem_cons_zero, List.setIfInBounds_toArray, List.set_cons_zero, List.set_cons_succ]
            refine wpAnyH_done (by kernel_rfl) ?_ _
            go_wp2
            go_roundw
            case rel =>
              refine ⟨k + 1, .slice adN N.length capN, by omega, by go_num, (by repeat (first | with_reducible exact HR2.out | with_reducible refine BoxAt.drew ?_ | with_reducible refine BoxAt.alloc ?_ _ | with_reducible refine BoxAt.setOther ?_ (by first | omega | (simp <;> omega)) _)), ?_, ?_, ?_⟩
              · first | exact (HT2.out.set2 _ _).alloc _ | exact BoxAt.set2 (by repeat (first | with_reducible exact HT2.out | with_reducible refine BoxAt.drew ?_ | with_reducible refine BoxAt.alloc ?_ _ | with_reducible refine BoxAt.setOther ?_ (by first | omega | (simp <;> omega)) _)) _ _
              · rw [HTK.out]; exact HN2.out.keep (by repeat (first | with_reducible exact Keep.refl _ _ | with_reducible refine Keep.drew' ?_ | with_reducible refine Keep.alloc' ?_ _ | with_reducible refine Keep.setCell' ?_ (by first | (simp; done) | (simp <;> omega) | omega) _)) (fun b hb => by have := hb.1; simp at this; omega)
              · exact (by repeat (first | with_reducible exact (HBr.out.trans (HB2.out.mono HBr.out.size)) | with_reducible exact Below.refl _ _ | with_reducible refine Below.drew ?_ | with_reducible refine Below.setCell ?_ (by first | omega | (simp <;> omega)) _ | with_reducible refine Below.alloc ?_ (by first | omega | (simp <;> omega)) _))
            case measure => simp [intOf]; omega
          exact AllReadyH.nil
        exact AllReadyH.nil
      refine AllReadyH.cons rfl (fun K hK => ?_) ?_
      · rw [if_pos (by rfl)]
        go_simp
        show K _ _
        refine hK.out _ _ (by first | exact (HB2.out.alloc HB2.out.size _) | exact ((Below.refl _ _).drew.alloc (Nat.le_refl _) _)) (fun hHeld => ?_)
        clear hK K
        try simp only [Act.put, List.getElem_toArray, List.getElem_cons_succ, List.getElem_cons_zero, List.setIfInBounds_toArray, List.set_cons_zero, List.set_cons_succ]
        refine wpAnyH_ready (rs := [5]) (by kernel_rfl) (by simp) ?_
        refine AllReadyH.cons rfl (fun K hK => ?_) ?_
        · rw [if_pos (by rfl)]
          go_simp
          go_at_call 22
          refine (tappend_ok M mv _ L 0 _ (HRM.out.below (by repeat (first | with_reducible exact Below.refl _ _ | with_reducible refine Below.drew ?_ | with_reducible refine Below.setCell ?_ (by first | omega | (simp <;> omega)) _ | with_reducible refine Below.alloc ?_ (by first | omega | (simp <;> omega)) _)) (fun _ h => h)) (HD.out.below (by repeat (first | with_reducible exact Below.refl _ _ | with_reducible refine Below.drew ?_ | with_reducible refine Below.setCell ?_ (by first | omega | (simp <;> omega)) _ | with_reducible refine Below.alloc ?_ (by first | omega | (simp <;> omega)) _)) (fun _ h => h)) HTO.out HRC.out HLE.out).mono ?_
          rintro e w2 ⟨vN, rfl, hN, hb2⟩
          rw [← HNL.out] at hN
          obtain ⟨adN, capN, rfl, -, -⟩ := hN.form
          have hB2 : Below wr.heap.size wr w2 := Below.trans (by repeat (first | with_reducible exact Below.refl _ _ | with_reducible refine Below.drew ?_ | with_reducible refine Below.setCell ?_ (by first | omega | (simp <;> omega)) _ | with_reducible refine Below.alloc ?_ (by first | omega | (simp <;> omega)) _)) (hb2.mono (by simp))
          have z2 := hB2.size
          (try have HX2 := Lib.hid ((BoxAt.newAt (n := wr.heap.size) wr.drew [.slice none 0 0, .int .i64 0] 50 rfl).belowS hb2))
          (try have x20 := HX2.out.cell 0 rfl)
          (try have x21 := HX2.out.cell 1 rfl)
          (try have fx0 := HX2.out.free 0)
          (try have fx1 := HX2.out.free 1)
          (try have zx2 := HX2.out.lt)
          have HN2 := Lib.hid (hN.low (by decide))
          have HT2 := Lib.hid (HT.out.belowS hB2)
          have HR2 := Lib.hid (HR.out.belowS hB2)
          have t0 := HT2.out.cell 0 rfl
          have t1 := HT2.out.cell 1 rfl
          have f0 := HT2.out.free 0
          have f1 := HT2.out.free 1
          have nX : wr.heap.size ≠ w.heap.size + 1 := by omega
          have zT2 := HT2.out.lt
          have nX2 : w2.heap.size ≠ w.heap.size + 1 := by omega
          have HB2 := Lib.hid hB2
          clear hN hb2 hB2
          show K _ _
          refine hK.out _ _ (by exact HB2.out) (fun hHeld => ?_)
          clear hK K
          try simp only [Act.put, List.getElem_toArray, List.getElem_cons_succ, List.getElem_cons_zero, List.setIfInBounds_toArray, List.set_cons_zero, List.set_cons_succ]
          refine wpAnyH_take (i := 6) (v := .tuple #[.agg #[.slice adN N.length capN, .int .i64 0], .int .i64 0]) rfl (by kernel_rfl) (by kernel_rfl) (by kernel_rfl) (fun _ _ _ h => h) (Or.inl ⟨by rfl, fun w hSw => ?_⟩) hHeld ?_
          · (try dsimp only at hSw); go_split_ands; go_simp; all_goals (try first | rfl | omega)
          try simp only [Act.put, List.getElem_toArray, List.getElem_cons_succ, List.getElem_cons_zero, List.setIfInBounds_toArray, List.set_cons_zero, List.set_cons_succ]
          refine wpAnyH_take (i := 7) (v := .agg #[.slice adN N.length capN, .int .i64 0]) rfl (by kernel_rfl) (by kernel_rfl) (by kernel_rfl) (fun _ _ _ h => h) (Or.inl ⟨by rfl, fun w hSw => ?_⟩) hHeld ?_
          · (try dsimp only at hSw); go_split_ands; go_simp; all_goals (try first | rfl | omega)
          try simp only [Act.put, List.getElem_toArray, List.getElem_cons_succ, List.getElem_cons_zero, List.setIfInBounds_toArray, List.set_cons_zero, List.set_cons_succ]
          refine wpAnyH_take (i := 8) (v := .int .i64 0) rfl (by kernel_rfl) (by kernel_rfl) (by kernel_rfl) (fun _ _ _ h => h) (Or.inl ⟨by rfl, fun w hSw => ?_⟩) hHeld ?_
          · (try dsimp only at hSw); go_split_ands; go_simp; all_goals (try first | rfl | omega)
          try simp only [Act.put, List.getElem_toArray, List.getElem_cons_succ, List.getElem_cons_zero, List.setIfInBounds_toArray, List.set_cons_zero, List.set_cons_succ]
          refine wpAnyH_ready (rs := [10]) (by kernel_rfl) (by simp) ?_
          refine AllReadyH.cons rfl (fun K hK => ?_) ?_
          · rw [if_pos (by rfl)]
            go_simp
            show K _ _
            refine hK.out _ _ (by exact (by repeat (first | with_reducible exact HB2.out | with_reducible exact Below.refl _ _ | with_reducible refine Below.drew ?_ | with_reducible refine Below.setCell ?_ (by first | omega | (simp <;> omega)) _ | with_reducible refine Below.alloc ?_ (by first | omega | (simp <;> omega)) _))) (fun hHeld => ?_)
            clear hK K
            try simp only [Act.put, List.getElem_toArray, List.getElem_cons_succ, List.getElem_cons_zero, List.setIfInBounds_toArray, List.set_cons_zero, List.set_cons_succ]
            refine wpAnyH_take (i := 11) (v := .int .i64 0) rfl (by kernel_rfl) (by kernel_rfl) (by kernel_rfl) (fun _ _ _ h => h) (Or.inl ⟨by rfl, fun w hSw => ?_⟩) hHeld ?_
            · (try dsimp only at hSw); go_split_ands; go_simp; all_goals (try first | rfl | omega)
            try simp only [Act.put, List.getElem_toArray, List.getElem_cons_succ, List.getElem_cons_zero, List.setIfInBounds_toArray, List.set_cons_zero, List.set_cons_succ]
            refine wpAnyH_done (by kernel_rfl) ?_ _
            go_wp2
            go_roundw
            case rel =>
              refine ⟨k + 1, .slice adN N.length capN, by omega, by go_num, (by repeat (first | with_reducible exact HR2.out | with_reducible refine BoxAt.drew ?_ | with_reducible refine BoxAt.alloc ?_ _ | with_reducible refine BoxAt.setOther ?_ (by first | omega | (simp <;> omega)) _)), ?_, ?_, ?_⟩
              · first | exact (HT2.out.set2 _ _).alloc _ | exact BoxAt.set2 (by repeat (first | with_reducible exact HT2.out | with_reducible refine BoxAt.drew ?_ | with_reducible refine BoxAt.alloc ?_ _ | with_reducible refine BoxAt.setOther ?_ (by first | omega | (simp <;> omega)) _)) _ _
              · rw [HTK.out]; exact HN2.out.keep (by repeat (first | with_reducible exact Keep.refl _ _ | with_reducible refine Keep.drew' ?_ | with_reducible refine Keep.alloc' ?_ _ | with_reducible refine Keep.setCell' ?_ (by first | (simp; done) | (simp <;> omega) | omega) _)) (fun b hb => by have := hb.1; simp at this; omega)
              · exact (by repeat (first | with_reducible exact (HBr.out.trans (HB2.out.mono HBr.out.size)) | with_reducible exact Below.refl _ _ | with_reducible refine Below.drew ?_ | with_reducible refine Below.setCell ?_ (by first | omega | (simp <;> omega)) _ | with_reducible refine Below.alloc ?_ (by first | omega | (simp <;> omega)) _))
            case measure => simp [intOf]; omega
          exact AllReadyH.nil
        exact AllReadyH.nil
      exact AllReadyH.nil
    · have t1 : ¬ (k : Int) < (ms.length : Int) := by omega
      obtain rfl : k = ms.length := by omega
      rw [List.take_length] at HD
      have x0 := hT.cell 0 rfl
      have x1 := hT.cell 1 rfl
      have q0 := hR.cell 0 rfl
      have q1 := hR.cell 1 rfl
      have f0 := hR.free 0
      have f1 := hR.free 1
      rw [List.take_length] at x0 hrd
      have HY := Lib.hid ((hR.set 0 (.slice adT (tapeB ms).length capT)).set 1 (.int .i64 0))
      clear hB hR hT hrd
      go_wp2
      have g0 := HY.out.cell 0 rfl
      have g1 := HY.out.cell 1 rfl
      refine bodyPost_ret (v := .tuple #[.agg #[.slice adT (tapeB ms).length capT, .int .i64 0], .bool true]) (by simp [results, Try.results24, go_sem, g0, g1]) rfl ⟨_, rfl, HD.out.keep (by repeat (first | with_reducible exact Keep.refl _ _ | with_reducible refine Keep.drew' ?_ | with_reducible refine Keep.alloc' ?_ _ | with_reducible refine Keep.setCell' ?_ (by first | (simp; done) | (simp <;> omega) | omega) _)) (fun b hb => by omega), (by repeat (first | with_reducible exact HBr.out | with_reducible exact Below.refl _ _ | with_reducible refine Below.drew ?_ | with_reducible refine Below.setCell ?_ (by first | omega | (simp <;> omega)) _ | with_reducible refine Below.alloc ?_ (by first | omega | (simp <;> omega)) _))⟩
end Go.Proofs.Ytegdpjoncjmdeaa
