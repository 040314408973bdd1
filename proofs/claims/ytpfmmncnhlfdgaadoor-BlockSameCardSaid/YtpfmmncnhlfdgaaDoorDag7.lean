/- dag: Check: what it computes. -/
import Derived.Test.YtpfmmncnhlfdgaaDoorDagM
set_option linter.unusedVariables false
set_option linter.unusedSimpArgs false
attribute [local go_sem ↓] Go.wp_at_zero Go.wp_at_succ
namespace Go.Proofs.YtpfmmncnhlfdgaaDoor
open Go Go.RowKit

theorem cB_true {q : Int} (h : q ≠ 0) : (q != 0) = true := by simp [h]
theorem fits_false1 {l : List Crt} {c : Crt} (h : 0 < (noneL (crtSums l) c.h.ps).length) : fits l c = false := by
  unfold fits
  rw [decide_eq_false (by intro e; rw [e] at h; simp at h)]; rfl
theorem fits_false2 {l : List Crt} {c : Crt} (h : wrongB l (crtSums l) c.h.r c.h.ps = true) : fits l c = false := by unfold fits; simp [h]
theorem fits_false3 {l : List Crt} {c : Crt} (h : takenB l c.h = true) : fits l c = false := by unfold fits; simp [h]
theorem fits_true {l : List Crt} {c : Crt} (h1 : (noneL (crtSums l) c.h.ps).length = 0) (h2 : wrongB l (crtSums l) c.h.r c.h.ps = false) (h3 : takenB l c.h = false) : fits l c = true := by
  unfold fits; simp [h2, h3, List.eq_nil_of_length_eq_zero h1]
theorem crt_ps {c : Crt} (h : crtCode c = 0) : (∀ d ∈ c.h.ps, d.length = 32) ∧ c.h.ps.length ≤ 4 ∧ 1 ≤ c.h.r ∧ c.h.r ≤ 9223372036854775807 := by
  obtain ⟨-, h2, -, h4, -, h6⟩ := hdr_partsD (crt_partsP h).1
  unfold countOk at h2
  simp only [decide_eq_true_eq] at h2
  exact ⟨((digCode_zero _).1 h6).1, h4, h2.1, by omega⟩
set_option maxRecDepth 100000 in
set_option maxHeartbeats 8000000 in
theorem dagCheck_any {G : Nat → Prop} {l : List Crt} (v : Value) (w : World) (h : RdS RCert G w v l) (ht : Tabs w) :
    Calls Tryd.prog 36 #[.agg #[v]] w fun e w' => e = .returned (.int .i64 (dagCode l)) ∧ Below w.heap.size w w' := by
  obtain ⟨ad, cap, rfl, hcap, hm⟩ := h.form
  unfold maxLen at hm
  have hb0 := (Below.refl w.heap.size w).alloc (Nat.le_refl _) (.cells #[.slice ad l.length cap] 30)
  by_cases hlong : 400 < l.length
  · have HR := Lib.hid (dagCode_long hlong)
    have t0 : ¬ (l.length : Int) ≤ 400 := by omega
    have t1 : (400 : Int) < (l.length : Int) := by omega
    clear hlong h ht
    go_enter Tryd.func36, Tryd.ntmps36
    go_wp2
    go_ret
    exact ⟨ret_intH HR.out, hb0⟩
  have t0 : (l.length : Int) ≤ 400 := by omega
  have t1 : ¬ (400 : Int) < (l.length : Int) := by omega
  clear hlong
  have HV := Lib.hid (h.below hb0 (fun _ h => h))
  have HT := Lib.hid (ht.belowS hb0)
  have HX := Lib.hid (BoxAt.new w [.slice ad l.length cap] 30)
  have HB := Lib.hid hb0
  clear h ht hb0
  go_enter Tryd.func36, Tryd.ntmps36
  go_upto_region 1 with fail
  obtain ⟨w0, hw0⟩ : ∃ w0, w0 = w.alloc (.cells #[.slice ad l.length cap] 30) := ⟨_, rfl⟩
  rw [← hw0] at HV HT HX HB ⊢
  have hz0 := HX.out.lt
  clear hw0
  have x0 := HX.out.cell 0 rfl
  go_wp2_with fail
  clear x0
  go_loopw [17] (fun i wr => ∃ (k : Nat), k ≤ l.length ∧ i = .int .i64 k ∧ (∀ c ∈ l.take k, crtCode c = 0) ∧ Below w0.heap.size w0 wr) (fun i _ => l.length - (intOf i).toNat)
  case atStart => exact ⟨0, Nat.zero_le _, rfl, fun c hc => by simp at hc, Below.refl _ _⟩
  case round =>
    obtain ⟨k, hk, rfl, hok, hB⟩ := hrel
    have hz := hB.size
    have HBr := Lib.hid hB
    have HOK := Lib.hid hok
    clear hok
    by_cases hlt : k < l.length
    · have i0 : (0 : Int) ≤ (k : Int) := by omega
      have i1 : (k : Int) < (l.length : Int) := by omega
      obtain ⟨b, o, ub, up, uv, rfl, -, e0, e1, e2, e3, e4, hb', hp', hv'⟩ := (HV.out.below hB (fun _ h => h)).crt k hlt
      have HM := Lib.hid (List.getElem_mem hlt)
      have HS := Lib.hid (List.take_succ_eq_append_getElem hlt)
      generalize l[k] = c at *
      obtain ⟨adb, capb, rfl, -, -⟩ := hb'.form
      obtain ⟨adp, capp, rfl, -, -⟩ := hp'.form
      obtain ⟨adv, capv, rfl, -, -⟩ := hv'.form
      have H1 := Lib.hid hb'
      have H2 := Lib.hid hp'
      have H3 := Lib.hid hv'
      clear hb' hp' hv' hB
      go_wp2_with fail
      refine (ccert_any _ _ _ _ _ _ (H1.out.below (by repeat (first | with_reducible exact Below.refl _ _ | with_reducible refine Below.drew ?_ | with_reducible refine Below.setCell ?_ (by first | omega | (simp <;> omega)) _ | with_reducible refine Below.alloc ?_ (by first | omega | (simp <;> omega)) _)) (fun _ h => h)) (H2.out.below (by repeat (first | with_reducible exact Below.refl _ _ | with_reducible refine Below.drew ?_ | with_reducible refine Below.setCell ?_ (by first | omega | (simp <;> omega)) _ | with_reducible refine Below.alloc ?_ (by first | omega | (simp <;> omega)) _)) (fun _ h => h)) (H3.out.below (by repeat (first | with_reducible exact Below.refl _ _ | with_reducible refine Below.drew ?_ | with_reducible refine Below.setCell ?_ (by first | omega | (simp <;> omega)) _ | with_reducible refine Below.alloc ?_ (by first | omega | (simp <;> omega)) _)) (fun _ h => h))).mono ?_
      rintro e w2 ⟨rfl, hb2⟩
      have hB2 : Below wr.heap.size wr w2 := Below.trans (by repeat (first | with_reducible exact Below.refl _ _ | with_reducible refine Below.drew ?_ | with_reducible refine Below.setCell ?_ (by first | omega | (simp <;> omega)) _ | with_reducible refine Below.alloc ?_ (by first | omega | (simp <;> omega)) _)) (hb2.mono (by simp))
      have HB2 := Lib.hid (HBr.out.trans (hB2.mono hz))
      clear hb2 hB2 e0 e1 e2 e3 e4
      obtain ⟨q, hq0⟩ : ∃ q, q = crtCode c := ⟨_, rfl⟩
      rw [show crtCode ⟨⟨c.h.a, c.h.r, c.h.bs, c.h.ps⟩, c.vs⟩ = q from hq0.symm]
      have HC := Lib.hid hq0.symm
      clear hq0
      by_cases hq : q = 0
      · have HQ := Lib.hid (show crtCode c = 0 by rw [HC.out]; exact hq)
        have n0 : (q != 0) = false := by rw [hq]; rfl
        clear hq
        go_wp2
        go_roundw
        case rel => exact ⟨k + 1, by omega, by go_num, fun x hx => by rw [HS.out] at hx; exact (List.mem_append.1 hx).elim (fun h => HOK.out x h) (fun h => by rw [List.mem_singleton.1 h]; exact HQ.out), HB2.out⟩
        case measure => simp [intOf]; omega
      · have n0 : (q != 0) = true := cB_true hq
        have HR := Lib.hid (dagCode_crt HM.out (by rw [HC.out]; exact hq))
        have HBB := Lib.hid (HB.out.trans (HB2.out.mono HB.out.size))
        clear hq
        go_wp2
        go_ret
        exact ⟨ret_intH HR.out, HBB.out⟩
    · obtain rfl : k = l.length := by omega
      rw [List.take_length] at HOK
      have HOKH := Lib.hid (fun c (hc : c ∈ l) => (crt_partsP (HOK.out c hc)).1)
      have HVr := Lib.hid (HV.out.below hB (fun _ h => h))
      have HTr := Lib.hid (HT.out.belowS hB)
      have HXr := Lib.hid (HX.out.belowS hB)
      have HBBr := Lib.hid (HB.out.trans (hB.mono HB.out.size))
      have x0 := HXr.out.cell 0 rfl
      have t2 : ¬ (l.length : Int) < (l.length : Int) := by omega
      clear hB HV HT HX HBr HB
      go_wp2_with fail
      refine (dall_ok _ _ HVr.out HOKH.out (by omega) HTr.out).mono ?_
      rintro e wa ⟨vds, rfl, hds, hba⟩
      obtain ⟨add, capd, rfl, hcd, hmd⟩ := hds.form
      rw [crtSums_len] at hcd
      rw [crtSums_len]
      have hcl2 := hds.len
      unfold maxLen at hmd
      have HDS := Lib.hid hds
      have HVa := Lib.hid (HVr.out.below hba (fun _ h => h))
      have HXa := Lib.hid (HXr.out.belowS hba)
      have HBa := Lib.hid (HBBr.out.trans (hba.mono HBBr.out.size))
      have hz1 := HXa.out.lt
      clear hds hba HVr HTr HXr HBBr x0 hcl2
      have x0 := HXa.out.cell 0 rfl
      go_wp2_with fail
      clear x0
      go_loopw [31] (fun i wr => ∃ (k : Nat), k ≤ l.length ∧ i = .int .i64 k ∧ (∀ j (hj : j < l.length), j < k → fits (l.take j) l[j] = true) ∧ Below wa.heap.size wa wr) (fun i _ => l.length - (intOf i).toNat)
      case atStart => exact ⟨0, Nat.zero_le _, rfl, fun j hj hlt => by omega, Below.refl _ _⟩
      case round =>
        obtain ⟨k, hk2, rfl, hfit, hB⟩ := hrel
        have hzr := hB.size
        have HFT := Lib.hid hfit
        have HBr := Lib.hid (HBa.out.trans (hB.mono HBa.out.size))
        clear hfit
        by_cases hlt : k < l.length
        · have i0 : (0 : Int) ≤ (k : Int) := by omega
          have i1 : (k : Int) < (l.length : Int) := by omega
          have i2 : (k : Int) ≤ (cap : Int) := by omega
          have i3 : (k : Int) ≤ (capd : Int) := by omega
          obtain ⟨b, o, ub, up, uv, rfl, -, e0, e1, e2, e3, e4, hb', hp', hv'⟩ := (HVa.out.below hB (fun _ h => h)).crt k hlt
          have HC0 := Lib.hid (HOK.out l[k] (List.getElem_mem hlt))
          have HBAD := Lib.hid (fun (h : fits (l.take k) l[k] = false) => dagCode_fits hlt h)
          have HGOOD := Lib.hid (fun (h : fits (l.take k) l[k] = true) => (fun j (hj : j < l.length) (hjk : j < k + 1) => (by
            rcases Nat.lt_or_ge j k with q | q
            · exact HFT.out j hj q
            · obtain rfl : j = k := by omega
              exact h : fits (l.take j) l[j] = true)))
          have HTK := Lib.hid (show (crtSums l).take k = crtSums (l.take k) from crtSums_take l k)
          have HVt := Lib.hid ((HVa.out.below hB (fun _ h => h)).take k hk2)
          have HDt := Lib.hid ((HDS.out.below hB (fun _ h => h)).take k (by rw [crtSums_len]; exact hk2))
          have hlk : (l.take k).length = k := by rw [List.length_take]; omega
          have HLK := Lib.hid hlk
          generalize l[k] = c at *
          rw [HTK.out] at HDt
          obtain ⟨adb, capb, rfl, -, -⟩ := hb'.form
          obtain ⟨adp, capp, rfl, -, -⟩ := hp'.form
          obtain ⟨adv, capv, rfl, -, -⟩ := hv'.form
          obtain ⟨c32, c4, cr1, cr2⟩ := crt_ps HC0.out
          have HC32 := Lib.hid c32
          have H1 := Lib.hid hb'
          have H2 := Lib.hid hp'
          have HX3 := Lib.hid (HXa.out.belowS hB)
          have hBq := hB
          clear hb' hp' hv' hB c32 hlk
          go_upto_region 13 with fail
          obtain ⟨wb, hwb⟩ : ∃ wb, wb = wr.alloc (.cells #[.int .i64 c.h.a, .int .i64 c.h.r, .slice adb c.h.bs.length capb, .slice adp c.h.ps.length capp, .slice adv c.vs.length capv] 45) := ⟨_, rfl⟩
          have hBw : Below wr.heap.size wr wb := by rw [hwb]; exact (Below.refl _ _).alloc (Nat.le_refl _) _
          have X7 := Lib.hid (show BoxAt wb wr.heap.size [.int .i64 c.h.a, .int .i64 c.h.r, .slice adb c.h.bs.length capb, .slice adp c.h.ps.length capp, .slice adv c.vs.length capv] 45 by rw [hwb]; exact BoxAt.new wr [.int .i64 c.h.a, .int .i64 c.h.r, .slice adb c.h.bs.length capb, .slice adp c.h.ps.length capp, .slice adv c.vs.length capv] _)
          rw [← hwb]
          clear hwb e0 e1 e2 e3 e4
          have X1 := Lib.hid (HX3.out.belowS hBw)
          replace H1 := Lib.hid (H1.out.below hBw (fun _ h => h))
          replace H2 := Lib.hid (H2.out.below hBw (fun _ h => h))
          replace HVt := Lib.hid (HVt.out.below hBw (fun _ h => h))
          replace HDt := Lib.hid (HDt.out.below hBw (fun _ h => h))
          have HBw := Lib.hid (HBr.out.trans (hBw.mono HBr.out.size))
          have HBaw2 := Lib.hid (show Below wa.heap.size wa wb from hBq.trans (hBw.mono hBq.size))
          have zb := X7.out.lt
          have zx := X1.out.lt
          clear hBw HX3 hBq
          refine wp_region_held_drew (S := fun w' => Below wb.heap.size wb w') (by kernel_rfl) (by exact (Below.refl _ _).drew) (fun hHeld => ?_)
          refine wpAnyH_take (i := 0) (v := .pointer (some ⟨w.heap.size, 0, none⟩)) rfl (by kernel_rfl) (by kernel_rfl) (by kernel_rfl) (fun _ _ _ h => h) (Or.inl ⟨by rfl, fun w hSw => ?_⟩) hHeld ?_
          · clear hSw; go_simp; all_goals (try first | rfl | omega)
          try simp only [Act.put, List.getElem_toArray, List.getElem_cons_succ, List.getElem_cons_zero, List.setIfInBounds_toArray, List.set_cons_zero, List.set_cons_succ]
          refine wpAnyH_take (i := 1) (v := .slice (some ⟨b, o, none⟩) l.length cap) rfl (by kernel_rfl) (by kernel_rfl) (by kernel_rfl) (fun _ _ _ h => h) (Or.inl ⟨by rfl, fun w hSw => ?_⟩) hHeld ?_
          · have qb := X1.out.belowS hSw; have q0 := qb.cell 0 rfl; clear hSw qb; go_simp
          try simp only [Act.put, List.getElem_toArray, List.getElem_cons_succ, List.getElem_cons_zero, List.setIfInBounds_toArray, List.set_cons_zero, List.set_cons_succ]
          refine wpAnyH_take (i := 2) (v := .int .i64 (k : Int)) rfl (by kernel_rfl) (by kernel_rfl) (by kernel_rfl) (fun _ _ _ h => h) (Or.inl ⟨by rfl, fun w hSw => ?_⟩) hHeld ?_
          · clear hSw; go_simp; all_goals (try first | rfl | omega)
          try simp only [Act.put, List.getElem_toArray, List.getElem_cons_succ, List.getElem_cons_zero, List.setIfInBounds_toArray, List.set_cons_zero, List.set_cons_succ]
          refine wpAnyH_take (i := 3) (v := .slice (some ⟨b, o, none⟩) k cap) rfl (by kernel_rfl) (by kernel_rfl) (by kernel_rfl) (fun _ _ _ h => h) (Or.inl ⟨by rfl, fun w hSw => ?_⟩) hHeld ?_
          · clear hSw; go_simp; all_goals (try first | rfl | omega)
          try simp only [Act.put, List.getElem_toArray, List.getElem_cons_succ, List.getElem_cons_zero, List.setIfInBounds_toArray, List.set_cons_zero, List.set_cons_succ]
          refine wpAnyH_take (i := 4) (v := .slice add l.length capd) rfl (by kernel_rfl) (by kernel_rfl) (by kernel_rfl) (fun _ _ _ h => h) (Or.inl ⟨by rfl, fun w hSw => ?_⟩) hHeld ?_
          · clear hSw; go_simp; all_goals (try first | rfl | omega)
          try simp only [Act.put, List.getElem_toArray, List.getElem_cons_succ, List.getElem_cons_zero, List.setIfInBounds_toArray, List.set_cons_zero, List.set_cons_succ]
          refine wpAnyH_take (i := 5) (v := .int .i64 (k : Int)) rfl (by kernel_rfl) (by kernel_rfl) (by kernel_rfl) (fun _ _ _ h => h) (Or.inl ⟨by rfl, fun w hSw => ?_⟩) hHeld ?_
          · clear hSw; go_simp; all_goals (try first | rfl | omega)
          try simp only [Act.put, List.getElem_toArray, List.getElem_cons_succ, List.getElem_cons_zero, List.setIfInBounds_toArray, List.set_cons_zero, List.set_cons_succ]
          refine wpAnyH_take (i := 6) (v := .slice add k capd) rfl (by kernel_rfl) (by kernel_rfl) (by kernel_rfl) (fun _ _ _ h => h) (Or.inl ⟨by rfl, fun w hSw => ?_⟩) hHeld ?_
          · clear hSw; go_simp; all_goals (try first | rfl | omega)
          try simp only [Act.put, List.getElem_toArray, List.getElem_cons_succ, List.getElem_cons_zero, List.setIfInBounds_toArray, List.set_cons_zero, List.set_cons_succ]
          refine wpAnyH_take (i := 7) (v := .pointer (some ⟨wr.heap.size, 0, none⟩)) rfl (by kernel_rfl) (by kernel_rfl) (by kernel_rfl) (fun _ _ _ h => h) (Or.inl ⟨by rfl, fun w hSw => ?_⟩) hHeld ?_
          · clear hSw; go_simp; all_goals (try first | rfl | omega)
          try simp only [Act.put, List.getElem_toArray, List.getElem_cons_succ, List.getElem_cons_zero, List.setIfInBounds_toArray, List.set_cons_zero, List.set_cons_succ]
          refine wpAnyH_take (i := 8) (v := .agg #[.int .i64 c.h.a, .int .i64 c.h.r, .slice adb c.h.bs.length capb, .slice adp c.h.ps.length capp]) rfl (by kernel_rfl) (by kernel_rfl) (by kernel_rfl) (fun _ _ _ h => h) (Or.inl ⟨by rfl, fun w hSw => ?_⟩) hHeld ?_
          · have qb := X7.out.belowS hSw; have q0 := qb.cell 0 rfl; have q1 := qb.cell 1 rfl; have q2 := qb.cell 2 rfl; have q3 := qb.cell 3 rfl; clear hSw qb; go_simp
          try simp only [Act.put, List.getElem_toArray, List.getElem_cons_succ, List.getElem_cons_zero, List.setIfInBounds_toArray, List.set_cons_zero, List.set_cons_succ]
          refine wpAnyH_ready (rs := [9]) (by kernel_rfl) (by simp) ?_
          refine AllReadyH.cons rfl (fun K hK => ?_) ?_
          · rw [if_pos (by rfl)]
            go_simp
            go_at_call 54
            refine (missing_any c.h _ _ _ _ _ (HVt.out.below hHeld (fun _ h => h)) (HDt.out.below hHeld (fun _ h => h)) (H1.out.below hHeld (fun _ h => h)) (H2.out.below hHeld (fun _ h => h)) (by rw [crtSums_len]; exact Nat.le_refl _) HC32.out c4 cr1 cr2).mono ?_
            rintro e wm ⟨vn, rfl, hn, hb_wm⟩
            obtain ⟨adn, capn, rfl, -, -⟩ := hn.form
            obtain ⟨N, hN0⟩ : ∃ N, N = noneL (crtSums (l.take k)) c.h.ps := ⟨_, rfl⟩
            obtain ⟨W, hW0⟩ : ∃ W, W = wrongB (l.take k) (crtSums (l.take k)) c.h.r c.h.ps := ⟨_, rfl⟩
            obtain ⟨T, hT0⟩ : ∃ T, T = takenB (l.take k) c.h := ⟨_, rfl⟩
            rw [← hN0, ← hW0]
            have HN := Lib.hid hN0.symm
            have HW := Lib.hid hW0.symm
            have HTB := Lib.hid hT0.symm
            clear hN0 hW0 hT0 hn
            have hB_wm : Below wb.heap.size wb wm := Below.trans hHeld (hb_wm.mono (Below.size hHeld))
            have HBk := Lib.hid (HBaw2.out.trans (hB_wm.mono HBaw2.out.size))
            have Hb_wm := Lib.hid hB_wm
            clear hb_wm hB_wm
            show K _ _
            refine hK.out _ _ (by exact Hb_wm.out) (fun hHeld => ?_)
            clear hK K
            try simp only [Act.put, List.getElem_toArray, List.getElem_cons_succ, List.getElem_cons_zero, List.setIfInBounds_toArray, List.set_cons_zero, List.set_cons_succ]
            refine wpAnyH_take (i := 10) (v := .tuple #[.slice adn N.length capn, .bool W]) rfl (by kernel_rfl) (by kernel_rfl) (by kernel_rfl) (fun _ _ _ h => h) (Or.inl ⟨by rfl, fun w hSw => ?_⟩) hHeld ?_
            · clear hSw; go_simp; all_goals (try first | rfl | omega)
            try simp only [Act.put, List.getElem_toArray, List.getElem_cons_succ, List.getElem_cons_zero, List.setIfInBounds_toArray, List.set_cons_zero, List.set_cons_succ]
            refine wpAnyH_take (i := 11) (v := .slice adn N.length capn) rfl (by kernel_rfl) (by kernel_rfl) (by kernel_rfl) (fun _ _ _ h => h) (Or.inl ⟨by rfl, fun w hSw => ?_⟩) hHeld ?_
            · clear hSw; go_simp; all_goals (try first | rfl | omega)
            try simp only [Act.put, List.getElem_toArray, List.getElem_cons_succ, List.getElem_cons_zero, List.setIfInBounds_toArray, List.set_cons_zero, List.set_cons_succ]
            refine wpAnyH_take (i := 12) (v := .bool W) rfl (by kernel_rfl) (by kernel_rfl) (by kernel_rfl) (fun _ _ _ h => h) (Or.inl ⟨by rfl, fun w hSw => ?_⟩) hHeld ?_
            · clear hSw; go_simp; all_goals (try first | rfl | omega)
            try simp only [Act.put, List.getElem_toArray, List.getElem_cons_succ, List.getElem_cons_zero, List.setIfInBounds_toArray, List.set_cons_zero, List.set_cons_succ]
            refine wpAnyH_take (i := 13) (v := .slice adn N.length capn) rfl (by kernel_rfl) (by kernel_rfl) (by kernel_rfl) (fun _ _ _ h => h) (Or.inl ⟨by rfl, fun w hSw => ?_⟩) hHeld ?_
            · clear hSw; go_simp; all_goals (try first | rfl | omega)
            try simp only [Act.put, List.getElem_toArray, List.getElem_cons_succ, List.getElem_cons_zero, List.setIfInBounds_toArray, List.set_cons_zero, List.set_cons_succ]
            refine wpAnyH_take (i := 14) (v := .bool W) rfl (by kernel_rfl) (by kernel_rfl) (by kernel_rfl) (fun _ _ _ h => h) (Or.inl ⟨by rfl, fun w hSw => ?_⟩) hHeld ?_
            · clear hSw; go_simp; all_goals (try first | rfl | omega)
            try simp only [Act.put, List.getElem_toArray, List.getElem_cons_succ, List.getElem_cons_zero, List.setIfInBounds_toArray, List.set_cons_zero, List.set_cons_succ]
            refine wpAnyH_done (by kernel_rfl) ?_ _
            have X1n := Lib.hid (X1.out.belowS Hb_wm.out)
            have X7n := Lib.hid (X7.out.belowS Hb_wm.out)
            have HVn := Lib.hid (HVt.out.below Hb_wm.out (fun _ h => h))
            have H1n := Lib.hid (H1.out.below Hb_wm.out (fun _ h => h))
            have HBn := Lib.hid (HBw.out.trans (Hb_wm.out.mono HBw.out.size))
            have zbn := X7n.out.lt
            have zxn := X1n.out.lt
            have HE1 := Lib.hid (fun (h : 0 < N.length) => HBAD.out (fits_false1 (by rw [HN.out]; exact h)))
            have HE2 := Lib.hid (fun (h : W = true) => HBAD.out (fits_false2 (by rw [HW.out]; exact h)))
            have HE3 := Lib.hid (fun (h : T = true) => HBAD.out (fits_false3 (by rw [HTB.out]; exact h)))
            have HE4 := Lib.hid (fun (h1 : N.length = 0) (h2 : W = false) (h3 : T = false) => HGOOD.out (fits_true (by rw [HN.out]; exact h1) (by rw [HW.out]; exact h2) (by rw [HTB.out]; exact h3)))
            go_upto_region 14 with fail
            rcases Nat.lt_or_ge 0 N.length with hN | hN
            · have HR := Lib.hid (HE1.out hN)
              have HBe := Lib.hid (HBn.out.drew)
              have n1 : (0 : Int) < (N.length : Int) := by omega
              refine wp_region_held_drew (S := fun w' => Below wm.heap.size wm w') (by kernel_rfl) (by exact (Below.refl _ _).drew) (fun hHeld => ?_)
              refine wpAnyH_take (i := 0) (v := .slice adn N.length capn) rfl (by kernel_rfl) (by kernel_rfl) (by kernel_rfl) (fun _ _ _ h => h) (Or.inl ⟨by rfl, fun w hSw => ?_⟩) hHeld ?_
              · clear hSw; go_simp; all_goals (try first | rfl | omega)
              try simp only [Act.put, List.getElem_toArray, List.getElem_cons_succ, List.getElem_cons_zero, List.setIfInBounds_toArray, List.set_cons_zero, List.set_cons_succ]
              refine wpAnyH_take (i := 1) (v := .int .i64 (N.length : Int)) rfl (by kernel_rfl) (by kernel_rfl) (by kernel_rfl) (fun _ _ _ h => h) (Or.inl ⟨by rfl, fun w hSw => ?_⟩) hHeld ?_
              · clear hSw; go_simp; all_goals (try first | rfl | omega)
              try simp only [Act.put, List.getElem_toArray, List.getElem_cons_succ, List.getElem_cons_zero, List.setIfInBounds_toArray, List.set_cons_zero, List.set_cons_succ]
              refine wpAnyH_take (i := 2) (v := .bool true) rfl (by kernel_rfl) (by kernel_rfl) (by kernel_rfl) (fun _ _ _ h => h) (Or.inl ⟨by rfl, fun w hSw => ?_⟩) hHeld ?_
              · clear hSw; go_simp; all_goals (try first | rfl | omega)
              try simp only [Act.put, List.getElem_toArray, List.getElem_cons_succ, List.getElem_cons_zero, List.setIfInBounds_toArray, List.set_cons_zero, List.set_cons_succ]
              refine wpAnyH_take (i := 3) (v := .bool true) rfl (by kernel_rfl) (by kernel_rfl) (by kernel_rfl) (fun _ _ _ h => h) (Or.inl ⟨by rfl, fun w hSw => ?_⟩) hHeld ?_
              · clear hSw; go_simp; all_goals (try first | rfl | omega)
              try simp only [Act.put, List.getElem_toArray, List.getElem_cons_succ, List.getElem_cons_zero, List.setIfInBounds_toArray, List.set_cons_zero, List.set_cons_succ]
              refine wpAnyH_take (i := 4) (v := undef) rfl (by kernel_rfl) (by kernel_rfl) (by kernel_rfl) (fun _ _ _ h => h) (Or.inr ⟨by rfl, rfl⟩) hHeld ?_
              try simp only [Act.put, List.getElem_toArray, List.getElem_cons_succ, List.getElem_cons_zero, List.setIfInBounds_toArray, List.set_cons_zero, List.set_cons_succ]
              refine wpAnyH_take (i := 5) (v := .bool true) rfl (by kernel_rfl) (by kernel_rfl) (by kernel_rfl) (fun _ _ _ h => h) (Or.inl ⟨by rfl, fun w hSw => ?_⟩) hHeld ?_
              · clear hSw; go_simp; all_goals (try first | rfl | omega)
              try simp only [Act.put, List.getElem_toArray, List.getElem_cons_succ, List.getElem_cons_zero, List.setIfInBounds_toArray, List.set_cons_zero, List.set_cons_succ]
              refine wpAnyH_take (i := 6) (v := .bool true) rfl (by kernel_rfl) (by kernel_rfl) (by kernel_rfl) (fun _ _ _ h => h) (Or.inl ⟨by rfl, fun w hSw => ?_⟩) hHeld ?_
              · clear hSw; go_simp; all_goals (try first | rfl | omega)
              try simp only [Act.put, List.getElem_toArray, List.getElem_cons_succ, List.getElem_cons_zero, List.setIfInBounds_toArray, List.set_cons_zero, List.set_cons_succ]
              refine wpAnyH_take (i := 7) (v := undef) rfl (by kernel_rfl) (by kernel_rfl) (by kernel_rfl) (fun _ _ _ h => h) (Or.inr ⟨by rfl, rfl⟩) hHeld ?_
              try simp only [Act.put, List.getElem_toArray, List.getElem_cons_succ, List.getElem_cons_zero, List.setIfInBounds_toArray, List.set_cons_zero, List.set_cons_succ]
              refine wpAnyH_take (i := 8) (v := undef) rfl (by kernel_rfl) (by kernel_rfl) (by kernel_rfl) (fun _ _ _ h => h) (Or.inr ⟨by rfl, rfl⟩) hHeld ?_
              try simp only [Act.put, List.getElem_toArray, List.getElem_cons_succ, List.getElem_cons_zero, List.setIfInBounds_toArray, List.set_cons_zero, List.set_cons_succ]
              refine wpAnyH_take (i := 9) (v := undef) rfl (by kernel_rfl) (by kernel_rfl) (by kernel_rfl) (fun _ _ _ h => h) (Or.inr ⟨by rfl, rfl⟩) hHeld ?_
              try simp only [Act.put, List.getElem_toArray, List.getElem_cons_succ, List.getElem_cons_zero, List.setIfInBounds_toArray, List.set_cons_zero, List.set_cons_succ]
              refine wpAnyH_take (i := 10) (v := undef) rfl (by kernel_rfl) (by kernel_rfl) (by kernel_rfl) (fun _ _ _ h => h) (Or.inr ⟨by rfl, rfl⟩) hHeld ?_
              try simp only [Act.put, List.getElem_toArray, List.getElem_cons_succ, List.getElem_cons_zero, List.setIfInBounds_toArray, List.set_cons_zero, List.set_cons_succ]
              refine wpAnyH_take (i := 11) (v := undef) rfl (by kernel_rfl) (by kernel_rfl) (by kernel_rfl) (fun _ _ _ h => h) (Or.inr ⟨by rfl, rfl⟩) hHeld ?_
              try simp only [Act.put, List.getElem_toArray, List.getElem_cons_succ, List.getElem_cons_zero, List.setIfInBounds_toArray, List.set_cons_zero, List.set_cons_succ]
              refine wpAnyH_take (i := 12) (v := undef) rfl (by kernel_rfl) (by kernel_rfl) (by kernel_rfl) (fun _ _ _ h => h) (Or.inr ⟨by rfl, rfl⟩) hHeld ?_
              try simp only [Act.put, List.getElem_toArray, List.getElem_cons_succ, List.getElem_cons_zero, List.setIfInBounds_toArray, List.set_cons_zero, List.set_cons_succ]
              refine wpAnyH_take (i := 13) (v := undef) rfl (by kernel_rfl) (by kernel_rfl) (by kernel_rfl) (fun _ _ _ h => h) (Or.inr ⟨by rfl, rfl⟩) hHeld ?_
              try simp only [Act.put, List.getElem_toArray, List.getElem_cons_succ, List.getElem_cons_zero, List.setIfInBounds_toArray, List.set_cons_zero, List.set_cons_succ]
              refine wpAnyH_take (i := 14) (v := .bool true) rfl (by kernel_rfl) (by kernel_rfl) (by kernel_rfl) (fun _ _ _ h => h) (Or.inl ⟨by rfl, fun w hSw => ?_⟩) hHeld ?_
              · clear hSw; go_simp; all_goals (try first | rfl | omega)
              try simp only [Act.put, List.getElem_toArray, List.getElem_cons_succ, List.getElem_cons_zero, List.setIfInBounds_toArray, List.set_cons_zero, List.set_cons_succ]
              refine wpAnyH_done (by kernel_rfl) ?_ _
              go_wp2
              go_ret
              exact ⟨ret_intH HR.out, HBe.out⟩
            · rcases hWb : W with _ | _
              · have n1 : ¬ (0 : Int) < (N.length : Int) := by omega
                have hN0 : N.length = 0 := by omega
                refine wp_region_held_drew (S := fun w' => Below wm.heap.size wm w') (by kernel_rfl) (by exact (Below.refl _ _).drew) (fun hHeld => ?_)
                refine wpAnyH_take (i := 0) (v := .slice adn N.length capn) rfl (by kernel_rfl) (by kernel_rfl) (by kernel_rfl) (fun _ _ _ h => h) (Or.inl ⟨by rfl, fun w hSw => ?_⟩) hHeld ?_
                · clear hSw; go_simp; all_goals (try first | rfl | omega)
                try simp only [Act.put, List.getElem_toArray, List.getElem_cons_succ, List.getElem_cons_zero, List.setIfInBounds_toArray, List.set_cons_zero, List.set_cons_succ]
                refine wpAnyH_take (i := 1) (v := .int .i64 (N.length : Int)) rfl (by kernel_rfl) (by kernel_rfl) (by kernel_rfl) (fun _ _ _ h => h) (Or.inl ⟨by rfl, fun w hSw => ?_⟩) hHeld ?_
                · clear hSw; go_simp; all_goals (try first | rfl | omega)
                try simp only [Act.put, List.getElem_toArray, List.getElem_cons_succ, List.getElem_cons_zero, List.setIfInBounds_toArray, List.set_cons_zero, List.set_cons_succ]
                refine wpAnyH_take (i := 2) (v := .bool false) rfl (by kernel_rfl) (by kernel_rfl) (by kernel_rfl) (fun _ _ _ h => h) (Or.inl ⟨by rfl, fun w hSw => ?_⟩) hHeld ?_
                · clear hSw; go_simp; all_goals (try first | rfl | omega)
                try simp only [Act.put, List.getElem_toArray, List.getElem_cons_succ, List.getElem_cons_zero, List.setIfInBounds_toArray, List.set_cons_zero, List.set_cons_succ]
                refine wpAnyH_take (i := 3) (v := .bool false) rfl (by kernel_rfl) (by kernel_rfl) (by kernel_rfl) (fun _ _ _ h => h) (Or.inl ⟨by rfl, fun w hSw => ?_⟩) hHeld ?_
                · clear hSw; go_simp; all_goals (try first | rfl | omega)
                try simp only [Act.put, List.getElem_toArray, List.getElem_cons_succ, List.getElem_cons_zero, List.setIfInBounds_toArray, List.set_cons_zero, List.set_cons_succ]
                refine wpAnyH_take (i := 4) (v := .bool false) rfl (by kernel_rfl) (by kernel_rfl) (by kernel_rfl) (fun _ _ _ h => h) (Or.inl ⟨by rfl, fun w hSw => ?_⟩) hHeld ?_
                · clear hSw; go_simp; all_goals (try first | rfl | omega)
                try simp only [Act.put, List.getElem_toArray, List.getElem_cons_succ, List.getElem_cons_zero, List.setIfInBounds_toArray, List.set_cons_zero, List.set_cons_succ]
                refine wpAnyH_take (i := 5) (v := .bool false) rfl (by kernel_rfl) (by kernel_rfl) (by kernel_rfl) (fun _ _ _ h => h) (Or.inl ⟨by rfl, fun w hSw => ?_⟩) hHeld ?_
                · clear hSw; go_simp; all_goals (try first | rfl | omega)
                try simp only [Act.put, List.getElem_toArray, List.getElem_cons_succ, List.getElem_cons_zero, List.setIfInBounds_toArray, List.set_cons_zero, List.set_cons_succ]
                refine wpAnyH_take (i := 6) (v := .bool false) rfl (by kernel_rfl) (by kernel_rfl) (by kernel_rfl) (fun _ _ _ h => h) (Or.inl ⟨by rfl, fun w hSw => ?_⟩) hHeld ?_
                · clear hSw; go_simp; all_goals (try first | rfl | omega)
                try simp only [Act.put, List.getElem_toArray, List.getElem_cons_succ, List.getElem_cons_zero, List.setIfInBounds_toArray, List.set_cons_zero, List.set_cons_succ]
                refine wpAnyH_take (i := 7) (v := .pointer (some ⟨w.heap.size, 0, none⟩)) rfl (by kernel_rfl) (by kernel_rfl) (by kernel_rfl) (fun _ _ _ h => h) (Or.inl ⟨by rfl, fun w hSw => ?_⟩) hHeld ?_
                · clear hSw; go_simp; all_goals (try first | rfl | omega)
                try simp only [Act.put, List.getElem_toArray, List.getElem_cons_succ, List.getElem_cons_zero, List.setIfInBounds_toArray, List.set_cons_zero, List.set_cons_succ]
                refine wpAnyH_take (i := 8) (v := .slice (some ⟨b, o, none⟩) l.length cap) rfl (by kernel_rfl) (by kernel_rfl) (by kernel_rfl) (fun _ _ _ h => h) (Or.inl ⟨by rfl, fun w hSw => ?_⟩) hHeld ?_
                · have qb := X1n.out.belowS hSw; have q0 := qb.cell 0 rfl; clear hSw qb; go_simp
                try simp only [Act.put, List.getElem_toArray, List.getElem_cons_succ, List.getElem_cons_zero, List.setIfInBounds_toArray, List.set_cons_zero, List.set_cons_succ]
                refine wpAnyH_take (i := 9) (v := .int .i64 (k : Int)) rfl (by kernel_rfl) (by kernel_rfl) (by kernel_rfl) (fun _ _ _ h => h) (Or.inl ⟨by rfl, fun w hSw => ?_⟩) hHeld ?_
                · clear hSw; go_simp; all_goals (try first | rfl | omega)
                try simp only [Act.put, List.getElem_toArray, List.getElem_cons_succ, List.getElem_cons_zero, List.setIfInBounds_toArray, List.set_cons_zero, List.set_cons_succ]
                refine wpAnyH_take (i := 10) (v := .slice (some ⟨b, o, none⟩) k cap) rfl (by kernel_rfl) (by kernel_rfl) (by kernel_rfl) (fun _ _ _ h => h) (Or.inl ⟨by rfl, fun w hSw => ?_⟩) hHeld ?_
                · clear hSw; go_simp; all_goals (try first | rfl | omega)
                try simp only [Act.put, List.getElem_toArray, List.getElem_cons_succ, List.getElem_cons_zero, List.setIfInBounds_toArray, List.set_cons_zero, List.set_cons_succ]
                refine wpAnyH_take (i := 11) (v := .pointer (some ⟨wr.heap.size, 0, none⟩)) rfl (by kernel_rfl) (by kernel_rfl) (by kernel_rfl) (fun _ _ _ h => h) (Or.inl ⟨by rfl, fun w hSw => ?_⟩) hHeld ?_
                · clear hSw; go_simp; all_goals (try first | rfl | omega)
                try simp only [Act.put, List.getElem_toArray, List.getElem_cons_succ, List.getElem_cons_zero, List.setIfInBounds_toArray, List.set_cons_zero, List.set_cons_succ]
                refine wpAnyH_take (i := 12) (v := .agg #[.int .i64 c.h.a, .int .i64 c.h.r, .slice adb c.h.bs.length capb, .slice adp c.h.ps.length capp]) rfl (by kernel_rfl) (by kernel_rfl) (by kernel_rfl) (fun _ _ _ h => h) (Or.inl ⟨by rfl, fun w hSw => ?_⟩) hHeld ?_
                · have qb := X7n.out.belowS hSw; have q0 := qb.cell 0 rfl; have q1 := qb.cell 1 rfl; have q2 := qb.cell 2 rfl; have q3 := qb.cell 3 rfl; clear hSw qb; go_simp
                try simp only [Act.put, List.getElem_toArray, List.getElem_cons_succ, List.getElem_cons_zero, List.setIfInBounds_toArray, List.set_cons_zero, List.set_cons_succ]
                refine wpAnyH_ready (rs := [13]) (by kernel_rfl) (by simp) ?_
                refine AllReadyH.cons rfl (fun K hK => ?_) ?_
                · rw [if_pos (by rfl)]
                  go_simp
                  go_at_call 55
                  refine (taken_any c.h _ _ _ _ (HVn.out.below hHeld (fun _ h => h)) ⟨rfl, rfl⟩).mono ?_
                  rintro e wt ⟨rfl, hb_wt⟩
                  rw [HTB.out]
                  have hB_wt : Below wm.heap.size wm wt := Below.trans hHeld (hb_wt.mono (Below.size hHeld))
                  have Hb_wt := Lib.hid hB_wt
                  clear hb_wt hB_wt
                  show K _ _
                  refine hK.out _ _ (by exact Hb_wt.out) (fun hHeld => ?_)
                  clear hK K
                  try simp only [Act.put, List.getElem_toArray, List.getElem_cons_succ, List.getElem_cons_zero, List.setIfInBounds_toArray, List.set_cons_zero, List.set_cons_succ]
                  refine wpAnyH_take (i := 14) (v := .bool T) rfl (by kernel_rfl) (by kernel_rfl) (by kernel_rfl) (fun _ _ _ h => h) (Or.inl ⟨by rfl, fun w hSw => ?_⟩) hHeld ?_
                  · clear hSw; go_simp; all_goals (try first | rfl | omega)
                  try simp only [Act.put, List.getElem_toArray, List.getElem_cons_succ, List.getElem_cons_zero, List.setIfInBounds_toArray, List.set_cons_zero, List.set_cons_succ]
                  refine wpAnyH_done (by kernel_rfl) ?_ _
                  have HBt := Lib.hid (HBn.out.trans (Hb_wt.out.mono HBn.out.size))
                  rcases hTb : T with _ | _
                  · have HG := Lib.hid (HE4.out hN0 hWb hTb)
                    clear hN0 hWb hTb
                    go_wp2
                    go_roundw
                    case rel => exact ⟨k + 1, by omega, by go_num, HG.out, (HBk.out.trans (Hb_wt.out.mono HBk.out.size))⟩
                    case measure => simp [intOf]; omega
                  · have HR := Lib.hid (HE3.out hTb)
                    clear hN0 hWb hTb
                    go_wp2
                    go_ret
                    exact ⟨ret_intH HR.out, HBt.out⟩
                exact AllReadyH.nil
              · have n1 : ¬ (0 : Int) < (N.length : Int) := by omega
                have HR := Lib.hid (HE2.out hWb)
                have HBe := Lib.hid (HBn.out.drew)
                clear hWb
                refine wp_region_held_drew (S := fun w' => Below wm.heap.size wm w') (by kernel_rfl) (by exact (Below.refl _ _).drew) (fun hHeld => ?_)
                refine wpAnyH_take (i := 0) (v := .slice adn N.length capn) rfl (by kernel_rfl) (by kernel_rfl) (by kernel_rfl) (fun _ _ _ h => h) (Or.inl ⟨by rfl, fun w hSw => ?_⟩) hHeld ?_
                · clear hSw; go_simp; all_goals (try first | rfl | omega)
                try simp only [Act.put, List.getElem_toArray, List.getElem_cons_succ, List.getElem_cons_zero, List.setIfInBounds_toArray, List.set_cons_zero, List.set_cons_succ]
                refine wpAnyH_take (i := 1) (v := .int .i64 (N.length : Int)) rfl (by kernel_rfl) (by kernel_rfl) (by kernel_rfl) (fun _ _ _ h => h) (Or.inl ⟨by rfl, fun w hSw => ?_⟩) hHeld ?_
                · clear hSw; go_simp; all_goals (try first | rfl | omega)
                try simp only [Act.put, List.getElem_toArray, List.getElem_cons_succ, List.getElem_cons_zero, List.setIfInBounds_toArray, List.set_cons_zero, List.set_cons_succ]
                refine wpAnyH_take (i := 2) (v := .bool false) rfl (by kernel_rfl) (by kernel_rfl) (by kernel_rfl) (fun _ _ _ h => h) (Or.inl ⟨by rfl, fun w hSw => ?_⟩) hHeld ?_
                · clear hSw; go_simp; all_goals (try first | rfl | omega)
                try simp only [Act.put, List.getElem_toArray, List.getElem_cons_succ, List.getElem_cons_zero, List.setIfInBounds_toArray, List.set_cons_zero, List.set_cons_succ]
                refine wpAnyH_take (i := 3) (v := .bool false) rfl (by kernel_rfl) (by kernel_rfl) (by kernel_rfl) (fun _ _ _ h => h) (Or.inl ⟨by rfl, fun w hSw => ?_⟩) hHeld ?_
                · clear hSw; go_simp; all_goals (try first | rfl | omega)
                try simp only [Act.put, List.getElem_toArray, List.getElem_cons_succ, List.getElem_cons_zero, List.setIfInBounds_toArray, List.set_cons_zero, List.set_cons_succ]
                refine wpAnyH_take (i := 4) (v := .bool true) rfl (by kernel_rfl) (by kernel_rfl) (by kernel_rfl) (fun _ _ _ h => h) (Or.inl ⟨by rfl, fun w hSw => ?_⟩) hHeld ?_
                · clear hSw; go_simp; all_goals (try first | rfl | omega)
                try simp only [Act.put, List.getElem_toArray, List.getElem_cons_succ, List.getElem_cons_zero, List.setIfInBounds_toArray, List.set_cons_zero, List.set_cons_succ]
                refine wpAnyH_take (i := 5) (v := .bool true) rfl (by kernel_rfl) (by kernel_rfl) (by kernel_rfl) (fun _ _ _ h => h) (Or.inl ⟨by rfl, fun w hSw => ?_⟩) hHeld ?_
                · clear hSw; go_simp; all_goals (try first | rfl | omega)
                try simp only [Act.put, List.getElem_toArray, List.getElem_cons_succ, List.getElem_cons_zero, List.setIfInBounds_toArray, List.set_cons_zero, List.set_cons_succ]
                refine wpAnyH_take (i := 6) (v := .bool true) rfl (by kernel_rfl) (by kernel_rfl) (by kernel_rfl) (fun _ _ _ h => h) (Or.inl ⟨by rfl, fun w hSw => ?_⟩) hHeld ?_
                · clear hSw; go_simp; all_goals (try first | rfl | omega)
                try simp only [Act.put, List.getElem_toArray, List.getElem_cons_succ, List.getElem_cons_zero, List.setIfInBounds_toArray, List.set_cons_zero, List.set_cons_succ]
                refine wpAnyH_take (i := 7) (v := undef) rfl (by kernel_rfl) (by kernel_rfl) (by kernel_rfl) (fun _ _ _ h => h) (Or.inr ⟨by rfl, rfl⟩) hHeld ?_
                try simp only [Act.put, List.getElem_toArray, List.getElem_cons_succ, List.getElem_cons_zero, List.setIfInBounds_toArray, List.set_cons_zero, List.set_cons_succ]
                refine wpAnyH_take (i := 8) (v := undef) rfl (by kernel_rfl) (by kernel_rfl) (by kernel_rfl) (fun _ _ _ h => h) (Or.inr ⟨by rfl, rfl⟩) hHeld ?_
                try simp only [Act.put, List.getElem_toArray, List.getElem_cons_succ, List.getElem_cons_zero, List.setIfInBounds_toArray, List.set_cons_zero, List.set_cons_succ]
                refine wpAnyH_take (i := 9) (v := undef) rfl (by kernel_rfl) (by kernel_rfl) (by kernel_rfl) (fun _ _ _ h => h) (Or.inr ⟨by rfl, rfl⟩) hHeld ?_
                try simp only [Act.put, List.getElem_toArray, List.getElem_cons_succ, List.getElem_cons_zero, List.setIfInBounds_toArray, List.set_cons_zero, List.set_cons_succ]
                refine wpAnyH_take (i := 10) (v := undef) rfl (by kernel_rfl) (by kernel_rfl) (by kernel_rfl) (fun _ _ _ h => h) (Or.inr ⟨by rfl, rfl⟩) hHeld ?_
                try simp only [Act.put, List.getElem_toArray, List.getElem_cons_succ, List.getElem_cons_zero, List.setIfInBounds_toArray, List.set_cons_zero, List.set_cons_succ]
                refine wpAnyH_take (i := 11) (v := undef) rfl (by kernel_rfl) (by kernel_rfl) (by kernel_rfl) (fun _ _ _ h => h) (Or.inr ⟨by rfl, rfl⟩) hHeld ?_
                try simp only [Act.put, List.getElem_toArray, List.getElem_cons_succ, List.getElem_cons_zero, List.setIfInBounds_toArray, List.set_cons_zero, List.set_cons_succ]
                refine wpAnyH_take (i := 12) (v := undef) rfl (by kernel_rfl) (by kernel_rfl) (by kernel_rfl) (fun _ _ _ h => h) (Or.inr ⟨by rfl, rfl⟩) hHeld ?_
                try simp only [Act.put, List.getElem_toArray, List.getElem_cons_succ, List.getElem_cons_zero, List.setIfInBounds_toArray, List.set_cons_zero, List.set_cons_succ]
                refine wpAnyH_take (i := 13) (v := undef) rfl (by kernel_rfl) (by kernel_rfl) (by kernel_rfl) (fun _ _ _ h => h) (Or.inr ⟨by rfl, rfl⟩) hHeld ?_
                try simp only [Act.put, List.getElem_toArray, List.getElem_cons_succ, List.getElem_cons_zero, List.setIfInBounds_toArray, List.set_cons_zero, List.set_cons_succ]
                refine wpAnyH_take (i := 14) (v := .bool true) rfl (by kernel_rfl) (by kernel_rfl) (by kernel_rfl) (fun _ _ _ h => h) (Or.inl ⟨by rfl, fun w hSw => ?_⟩) hHeld ?_
                · clear hSw; go_simp; all_goals (try first | rfl | omega)
                try simp only [Act.put, List.getElem_toArray, List.getElem_cons_succ, List.getElem_cons_zero, List.setIfInBounds_toArray, List.set_cons_zero, List.set_cons_succ]
                refine wpAnyH_done (by kernel_rfl) ?_ _
                go_wp2
                go_ret
                exact ⟨ret_intH HR.out, HBe.out⟩
          exact AllReadyH.nil
        · obtain rfl : k = l.length := by omega
          have HR := Lib.hid (show dagCode l = 0 from dagCode_zero.2 (dagOk_iff.2 ⟨by omega, HOK.out, fun j hj => HFT.out j hj hj⟩))
          clear hB
          go_wp2
          go_ret
          exact ⟨ret_intH HR.out, HBr.out⟩
end Go.Proofs.YtpfmmncnhlfdgaaDoor
