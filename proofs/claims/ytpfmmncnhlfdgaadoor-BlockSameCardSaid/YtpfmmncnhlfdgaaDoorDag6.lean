/- dag: own: what it computes. -/
import Derived.Test.YtpfmmncnhlfdgaaDoorDag5
import Derived.Test.YtpfmmncnhlfdgaaDoorPrv
set_option linter.unusedVariables false
set_option linter.unusedSimpArgs false
attribute [local go_sem ↓] Go.wp_at_zero Go.wp_at_succ
namespace Go.Proofs.YtpfmmncnhlfdgaaDoor
open Go Go.RowKit

set_option maxRecDepth 100000 in
set_option maxHeartbeats 8000000 in
theorem dagOwn_any {G : Nat → Prop} (c : Crt) (vb vp vv : Value) (w : World) (hb : RdBB G w vb c.h.bs) (hp : RdBB G w vp c.h.ps) (hv : RdI G w vv c.vs) (hc : crtCode c = 0) :
    Calls Tryd.prog 43 #[.agg #[.int .i64 c.h.a, .int .i64 c.h.r, vb, vp, vv]] w fun e w' => ∃ vb' vp' vv', e = .returned (.agg #[.int .i64 c.h.a, .int .i64 c.h.r, vb', vp', vv']) ∧ RdBB (fun b => w.heap.size ≤ b) w' vb' c.h.bs ∧ RdBB (fun b => w.heap.size ≤ b) w' vp' c.h.ps ∧ RdI (fun b => w.heap.size ≤ b) w' vv' c.vs ∧ Below w.heap.size w w' := by
  have hh : hdrCode c.h = 0 := by
    unfold crtCode at hc; by_cases q : hdrCode c.h = 0
    · exact q
    · rw [if_pos q] at hc; exact absurd hc q
  obtain ⟨-, -, hl3, hl4, hd1, hd2⟩ := hdr_partsD hh
  have HS1 := Lib.hid (fun d (hd : d ∈ c.h.bs) => (show d.length ≤ 1000 by have := ((digCode_zero _).1 hd1).1 d hd; omega))
  have HS2 := Lib.hid (fun d (hd : d ∈ c.h.ps) => (show d.length ≤ 1000 by have := ((digCode_zero _).1 hd2).1 d hd; omega))
  have hvl : c.vs.length ≤ 4 := by
    unfold crtCode at hc; rw [if_neg (by simp [hh])] at hc
    by_cases q : 4 < c.vs.length
    · rw [if_pos q] at hc; simp at hc
    · omega
  obtain ⟨adb, capb, rfl, -, -⟩ := hb.form
  obtain ⟨adp, capp, rfl, -, -⟩ := hp.form
  obtain ⟨adv, capv, rfl, -, -⟩ := hv.form
  have H1 := Lib.hid hb
  have H2 := Lib.hid hp
  have H3 := Lib.hid hv
  have H30 := Lib.hid hv
  clear hb hp hv hc hh hd1 hd2
  go_enter Tryd.func43, Tryd.ntmps43
  go_upto_region 2 with fail
  obtain ⟨wb, hwb⟩ : ∃ wb, wb = ((w.alloc (.cells #[.int .i64 c.h.a, .int .i64 c.h.r, .slice adb c.h.bs.length capb, .slice adp c.h.ps.length capp, .slice adv c.vs.length capv] 45)).alloc (.cells #[.int .i64 0, .int .i64 0, .slice none 0 0, .slice none 0 0, .slice none 0 0] 45)).alloc (.cells #[.int .i64 c.h.a, .int .i64 c.h.r, .slice adb c.h.bs.length capb, .slice adp c.h.ps.length capp] 42) := ⟨_, rfl⟩
  have hBw : Below w.heap.size w wb := by rw [hwb]; exact (((Below.refl _ _).alloc (Nat.le_refl _) _).alloc (by simp) _).alloc (by simp; omega) _
  have B1 := Lib.hid (show BoxAt wb w.heap.size [.int .i64 c.h.a, .int .i64 c.h.r, .slice adb c.h.bs.length capb, .slice adp c.h.ps.length capp, .slice adv c.vs.length capv] 45 by rw [hwb]; exact ((BoxAt.new w [.int .i64 c.h.a, .int .i64 c.h.r, .slice adb c.h.bs.length capb, .slice adp c.h.ps.length capp, .slice adv c.vs.length capv] _).alloc _).alloc _)
  have B2 := Lib.hid (show BoxAt wb (w.heap.size + 1) [.int .i64 0, .int .i64 0, .slice none 0 0, .slice none 0 0, .slice none 0 0] 45 by rw [hwb]; exact (BoxAt.newAt (w.alloc _) [.int .i64 0, .int .i64 0, .slice none 0 0, .slice none 0 0, .slice none 0 0] _ (by simp)).alloc _)
  have B3 := Lib.hid (show BoxAt wb (w.heap.size + 2) [.int .i64 c.h.a, .int .i64 c.h.r, .slice adb c.h.bs.length capb, .slice adp c.h.ps.length capp] 42 by rw [hwb]; exact BoxAt.newAt _ [.int .i64 c.h.a, .int .i64 c.h.r, .slice adb c.h.bs.length capb, .slice adp c.h.ps.length capp] _ (by simp))
  have zb := B3.out.lt
  rw [← hwb]
  clear hwb
  have HB := Lib.hid hBw
  replace H1 := Lib.hid (H1.out.below hBw (fun _ h => h))
  replace H2 := Lib.hid (H2.out.below hBw (fun _ h => h))
  replace H3 := Lib.hid (H3.out.below hBw (fun _ h => h))
  clear hBw
  go_cut [3] (fun p wx => ∃ (ad1 ad2 : Option Addr) (cap1 cap2 : Nat), p = .pointer (some ⟨w.heap.size + 2, 0, none⟩) ∧ BoxAt wx (w.heap.size + 2) [.int .i64 c.h.a, .int .i64 c.h.r, .slice ad1 c.h.bs.length cap1, .slice ad2 c.h.ps.length cap2] 42 ∧ RdBB (fun b => w.heap.size + 2 < b) wx (.slice ad1 c.h.bs.length cap1) c.h.bs ∧ RdBB (fun b => w.heap.size + 2 < b) wx (.slice ad2 c.h.ps.length cap2) c.h.ps ∧ BoxAt wx w.heap.size [.int .i64 c.h.a, .int .i64 c.h.r, .slice adb c.h.bs.length capb, .slice adp c.h.ps.length capp, .slice adv c.vs.length capv] 45 ∧ BoxAt wx (w.heap.size + 1) [.int .i64 0, .int .i64 0, .slice none 0 0, .slice none 0 0, .slice none 0 0] 45 ∧ Below w.heap.size w wx)
  case first =>
    refine wp_region_held_drew (S := fun _ => True) (by kernel_rfl) (by exact trivial) (fun hHeld => ?_)
    refine wpAnyH_take (i := 0) (v := .pointer (some ⟨w.heap.size + 2, 2, none⟩)) rfl (by kernel_rfl) (by kernel_rfl) (by kernel_rfl) (fun _ _ _ h => h) (Or.inl ⟨by rfl, fun w hSw => ?_⟩) hHeld ?_
    · clear hSw; go_simp; all_goals (try first | rfl | omega)
    try simp only [Act.put, List.getElem_toArray, List.getElem_cons_succ, List.getElem_cons_zero, List.setIfInBounds_toArray, List.set_cons_zero, List.set_cons_succ]
    refine wpAnyH_take (i := 3) (v := .pointer (some ⟨w.heap.size + 2, 3, none⟩)) rfl (by kernel_rfl) (by kernel_rfl) (by kernel_rfl) (fun _ _ _ h => h) (Or.inl ⟨by rfl, fun w hSw => ?_⟩) hHeld ?_
    · clear hSw; go_simp; all_goals (try first | rfl | omega)
    try simp only [Act.put, List.getElem_toArray, List.getElem_cons_succ, List.getElem_cons_zero, List.setIfInBounds_toArray, List.set_cons_zero, List.set_cons_succ]
    refine wpAnyH_ready (rs := [1, 4]) (by kernel_rfl) (by simp) ?_
    refine AllReadyH.cons rfl (fun K hK => ?_) ?_
    · rw [if_pos (by rfl)]
      have q2 := B3.out.cell 2 rfl
      have qz := B3.out.lt
      go_simp
      show K _ _
      refine hK.out _ _ (by exact trivial) (fun hHeld => ?_)
      clear hK K
      try simp only [Act.put, List.getElem_toArray, List.getElem_cons_succ, List.getElem_cons_zero, List.setIfInBounds_toArray, List.set_cons_zero, List.set_cons_succ]
      refine wpAnyH_ready (rs := [2, 4]) (by kernel_rfl) (by simp) ?_
      refine AllReadyH.cons rfl (fun K hK => ?_) ?_
      · rw [if_pos (by rfl)]
        go_simp
        go_at_call 65
        refine (digests_any _ _ (H1.out.below ((Below.refl _ _).drew) (fun _ h => h)) HS1.out (by omega)).mono ?_
        rintro e wA ⟨v1, rfl, h1, hbA⟩
        obtain ⟨ad1, cap1, rfl, -, -⟩ := h1.form
        have hB : Below wb.heap.size wb wA := Below.trans ((Below.refl _ _).drew) (hbA.mono (Nat.le_refl _))
        have zA := hB.size
        have HbA := Lib.hid hB
        have B3A := Lib.hid (B3.out.belowS hB)
        have HD1 := Lib.hid (show RdBB (fun b => w.heap.size + 2 < b) wA (.slice ad1 c.h.bs.length cap1) c.h.bs from h1.mono (fun b hb => by have h0 : wb.heap.size ≤ b := hb; omega))
        clear hbA hB h1
        show K _ _
        refine hK.out _ _ (by exact trivial) (fun hHeld => ?_)
        clear hK K
        try simp only [Act.put, List.getElem_toArray, List.getElem_cons_succ, List.getElem_cons_zero, List.setIfInBounds_toArray, List.set_cons_zero, List.set_cons_succ]
        refine wpAnyH_ready (rs := [4]) (by kernel_rfl) (by simp) ?_
        refine AllReadyH.cons rfl (fun K hK => ?_) ?_
        · rw [if_pos (by rfl)]
          have q3 := B3A.out.cell 3 rfl
          have qz := B3.out.lt
          go_simp
          show K _ _
          refine hK.out _ _ (by exact trivial) (fun hHeld => ?_)
          clear hK K
          try simp only [Act.put, List.getElem_toArray, List.getElem_cons_succ, List.getElem_cons_zero, List.setIfInBounds_toArray, List.set_cons_zero, List.set_cons_succ]
          refine wpAnyH_take (i := 6) (v := .pointer (some ⟨w.heap.size + 2, 2, none⟩)) rfl (by kernel_rfl) (by kernel_rfl) (by kernel_rfl) (fun _ _ _ h => h) (Or.inl ⟨by rfl, fun w hSw => ?_⟩) hHeld ?_
          · clear hSw; go_simp; all_goals (try first | rfl | omega)
          try simp only [Act.put, List.getElem_toArray, List.getElem_cons_succ, List.getElem_cons_zero, List.setIfInBounds_toArray, List.set_cons_zero, List.set_cons_succ]
          refine wpAnyH_ready (rs := [5]) (by kernel_rfl) (by simp) ?_
          refine AllReadyH.cons rfl (fun K hK => ?_) ?_
          · rw [if_pos (by rfl)]
            go_simp
            go_at_call 65
            refine (digests_any _ _ (H2.out.below HbA.out (fun _ h => h)) HS2.out (by omega)).mono ?_
            rintro e wC ⟨v2, rfl, h2, hbC⟩
            obtain ⟨ad2, cap2, rfl, -, -⟩ := h2.form
            have zC := hbC.size
            have HbC := Lib.hid (HbA.out.trans (hbC.mono HbA.out.size))
            have B3C := Lib.hid (B3A.out.belowS hbC)
            have HD1C := Lib.hid (HD1.out.below hbC (fun _ h => h))
            have HD2C := Lib.hid (show RdBB (fun b => w.heap.size + 2 < b) wC (.slice ad2 c.h.ps.length cap2) c.h.ps from h2.mono (fun b hb => by have h0 : wA.heap.size ≤ b := hb; omega))
            clear hbC h2
            have s2 := B3C.out.cell 2 rfl
            have s3 := B3C.out.cell 3 rfl
            have sf2 := B3C.out.free 2
            have sf3 := B3C.out.free 3
            have slt := B3C.out.lt
            show K _ _
            refine hK.out _ _ (by exact trivial) (fun hHeld => ?_)
            clear hK K
            try simp only [Act.put, List.getElem_toArray, List.getElem_cons_succ, List.getElem_cons_zero, List.setIfInBounds_toArray, List.set_cons_zero, List.set_cons_succ]
            refine wpAnyH_ready (rs := [7]) (by kernel_rfl) (by simp) ?_
            refine AllReadyH.cons rfl (fun K hK => ?_) ?_
            · rw [if_pos (by rfl)]
              go_simp
              show K _ _
              refine hK.out _ _ (by exact trivial) (fun hHeld => ?_)
              clear hK K
              try simp only [Act.put, List.getElem_toArray, List.getElem_cons_succ, List.getElem_cons_zero, List.setIfInBounds_toArray, List.set_cons_zero, List.set_cons_succ]
              refine wpAnyH_take (i := 8) (v := .pointer (some ⟨w.heap.size + 2, 3, none⟩)) rfl (by kernel_rfl) (by kernel_rfl) (by kernel_rfl) (fun _ _ _ h => h) (Or.inl ⟨by rfl, fun w hSw => ?_⟩) hHeld ?_
              · clear hSw; go_simp; all_goals (try first | rfl | omega)
              try simp only [Act.put, List.getElem_toArray, List.getElem_cons_succ, List.getElem_cons_zero, List.setIfInBounds_toArray, List.set_cons_zero, List.set_cons_succ]
              refine wpAnyH_ready (rs := [9]) (by kernel_rfl) (by simp) ?_
              refine AllReadyH.cons rfl (fun K hK => ?_) ?_
              · rw [if_pos (by rfl)]
                go_simp
                show K _ _
                refine hK.out _ _ (by exact trivial) (fun hHeld => ?_)
                clear hK K
                try simp only [Act.put, List.getElem_toArray, List.getElem_cons_succ, List.getElem_cons_zero, List.setIfInBounds_toArray, List.set_cons_zero, List.set_cons_succ]
                refine wpAnyH_done (by kernel_rfl) ?_ _
                go_wp2
                go_meet
                exact ⟨ad1, ad2, cap1, cap2, rfl, (B3C.out.set 2 _).set 3 _, HD1C.out.keep ((Keep.setCell (p := ⟨w.heap.size + 2, 2, none⟩) (by simp) _).trans (Keep.setCell (p := ⟨w.heap.size + 2, 3, none⟩) (by simp) _)) (fun _ h => h), HD2C.out.keep ((Keep.setCell (p := ⟨w.heap.size + 2, 2, none⟩) (by simp) _).trans (Keep.setCell (p := ⟨w.heap.size + 2, 3, none⟩) (by simp) _)) (fun _ h => h), (((B1.out.belowS HbC.out).setOther (p := ⟨w.heap.size + 2, 2, none⟩) (by simp) _).setOther (p := ⟨w.heap.size + 2, 3, none⟩) (by simp) _), (((B2.out.belowS HbC.out).setOther (p := ⟨w.heap.size + 2, 2, none⟩) (by simp) _).setOther (p := ⟨w.heap.size + 2, 3, none⟩) (by simp) _), (((HB.out.trans (HbC.out.mono HB.out.size)).setCell (by simp) _).setCell (by simp) _)⟩
              exact AllReadyH.nil
            exact AllReadyH.nil
          exact AllReadyH.nil
        exact AllReadyH.nil
      refine AllReadyH.cons rfl (fun K hK => ?_) ?_
      · rw [if_pos (by rfl)]
        have q3 := B3.out.cell 3 rfl
        have qz := B3.out.lt
        go_simp
        show K _ _
        refine hK.out _ _ (by exact trivial) (fun hHeld => ?_)
        clear hK K
        try simp only [Act.put, List.getElem_toArray, List.getElem_cons_succ, List.getElem_cons_zero, List.setIfInBounds_toArray, List.set_cons_zero, List.set_cons_succ]
        refine wpAnyH_ready (rs := [2]) (by kernel_rfl) (by simp) ?_
        refine AllReadyH.cons rfl (fun K hK => ?_) ?_
        · rw [if_pos (by rfl)]
          go_simp
          go_at_call 65
          refine (digests_any _ _ (H1.out.below ((Below.refl _ _).drew) (fun _ h => h)) HS1.out (by omega)).mono ?_
          rintro e wA ⟨v1, rfl, h1, hbA⟩
          obtain ⟨ad1, cap1, rfl, -, -⟩ := h1.form
          have hB : Below wb.heap.size wb wA := Below.trans ((Below.refl _ _).drew) (hbA.mono (Nat.le_refl _))
          have zA := hB.size
          have HbA := Lib.hid hB
          have B3A := Lib.hid (B3.out.belowS hB)
          have HD1 := Lib.hid (show RdBB (fun b => w.heap.size + 2 < b) wA (.slice ad1 c.h.bs.length cap1) c.h.bs from h1.mono (fun b hb => by have h0 : wb.heap.size ≤ b := hb; omega))
          clear hbA hB h1
          show K _ _
          refine hK.out _ _ (by exact trivial) (fun hHeld => ?_)
          clear hK K
          try simp only [Act.put, List.getElem_toArray, List.getElem_cons_succ, List.getElem_cons_zero, List.setIfInBounds_toArray, List.set_cons_zero, List.set_cons_succ]
          refine wpAnyH_take (i := 6) (v := .pointer (some ⟨w.heap.size + 2, 2, none⟩)) rfl (by kernel_rfl) (by kernel_rfl) (by kernel_rfl) (fun _ _ _ h => h) (Or.inl ⟨by rfl, fun w hSw => ?_⟩) hHeld ?_
          · clear hSw; go_simp; all_goals (try first | rfl | omega)
          try simp only [Act.put, List.getElem_toArray, List.getElem_cons_succ, List.getElem_cons_zero, List.setIfInBounds_toArray, List.set_cons_zero, List.set_cons_succ]
          refine wpAnyH_ready (rs := [5]) (by kernel_rfl) (by simp) ?_
          refine AllReadyH.cons rfl (fun K hK => ?_) ?_
          · rw [if_pos (by rfl)]
            go_simp
            go_at_call 65
            refine (digests_any _ _ (H2.out.below HbA.out (fun _ h => h)) HS2.out (by omega)).mono ?_
            rintro e wC ⟨v2, rfl, h2, hbC⟩
            obtain ⟨ad2, cap2, rfl, -, -⟩ := h2.form
            have zC := hbC.size
            have HbC := Lib.hid (HbA.out.trans (hbC.mono HbA.out.size))
            have B3C := Lib.hid (B3A.out.belowS hbC)
            have HD1C := Lib.hid (HD1.out.below hbC (fun _ h => h))
            have HD2C := Lib.hid (show RdBB (fun b => w.heap.size + 2 < b) wC (.slice ad2 c.h.ps.length cap2) c.h.ps from h2.mono (fun b hb => by have h0 : wA.heap.size ≤ b := hb; omega))
            clear hbC h2
            have s2 := B3C.out.cell 2 rfl
            have s3 := B3C.out.cell 3 rfl
            have sf2 := B3C.out.free 2
            have sf3 := B3C.out.free 3
            have slt := B3C.out.lt
            show K _ _
            refine hK.out _ _ (by exact trivial) (fun hHeld => ?_)
            clear hK K
            try simp only [Act.put, List.getElem_toArray, List.getElem_cons_succ, List.getElem_cons_zero, List.setIfInBounds_toArray, List.set_cons_zero, List.set_cons_succ]
            refine wpAnyH_ready (rs := [7]) (by kernel_rfl) (by simp) ?_
            refine AllReadyH.cons rfl (fun K hK => ?_) ?_
            · rw [if_pos (by rfl)]
              go_simp
              show K _ _
              refine hK.out _ _ (by exact trivial) (fun hHeld => ?_)
              clear hK K
              try simp only [Act.put, List.getElem_toArray, List.getElem_cons_succ, List.getElem_cons_zero, List.setIfInBounds_toArray, List.set_cons_zero, List.set_cons_succ]
              refine wpAnyH_take (i := 8) (v := .pointer (some ⟨w.heap.size + 2, 3, none⟩)) rfl (by kernel_rfl) (by kernel_rfl) (by kernel_rfl) (fun _ _ _ h => h) (Or.inl ⟨by rfl, fun w hSw => ?_⟩) hHeld ?_
              · clear hSw; go_simp; all_goals (try first | rfl | omega)
              try simp only [Act.put, List.getElem_toArray, List.getElem_cons_succ, List.getElem_cons_zero, List.setIfInBounds_toArray, List.set_cons_zero, List.set_cons_succ]
              refine wpAnyH_ready (rs := [9]) (by kernel_rfl) (by simp) ?_
              refine AllReadyH.cons rfl (fun K hK => ?_) ?_
              · rw [if_pos (by rfl)]
                go_simp
                show K _ _
                refine hK.out _ _ (by exact trivial) (fun hHeld => ?_)
                clear hK K
                try simp only [Act.put, List.getElem_toArray, List.getElem_cons_succ, List.getElem_cons_zero, List.setIfInBounds_toArray, List.set_cons_zero, List.set_cons_succ]
                refine wpAnyH_done (by kernel_rfl) ?_ _
                go_wp2
                go_meet
                exact ⟨ad1, ad2, cap1, cap2, rfl, (B3C.out.set 2 _).set 3 _, HD1C.out.keep ((Keep.setCell (p := ⟨w.heap.size + 2, 2, none⟩) (by simp) _).trans (Keep.setCell (p := ⟨w.heap.size + 2, 3, none⟩) (by simp) _)) (fun _ h => h), HD2C.out.keep ((Keep.setCell (p := ⟨w.heap.size + 2, 2, none⟩) (by simp) _).trans (Keep.setCell (p := ⟨w.heap.size + 2, 3, none⟩) (by simp) _)) (fun _ h => h), (((B1.out.belowS HbC.out).setOther (p := ⟨w.heap.size + 2, 2, none⟩) (by simp) _).setOther (p := ⟨w.heap.size + 2, 3, none⟩) (by simp) _), (((B2.out.belowS HbC.out).setOther (p := ⟨w.heap.size + 2, 2, none⟩) (by simp) _).setOther (p := ⟨w.heap.size + 2, 3, none⟩) (by simp) _), (((HB.out.trans (HbC.out.mono HB.out.size)).setCell (by simp) _).setCell (by simp) _)⟩
              exact AllReadyH.nil
            exact AllReadyH.nil
          exact AllReadyH.nil
        exact AllReadyH.nil
      exact AllReadyH.nil
    refine AllReadyH.cons rfl (fun K hK => ?_) ?_
    · rw [if_pos (by rfl)]
      have q3 := B3.out.cell 3 rfl
      have qz := B3.out.lt
      go_simp
      show K _ _
      refine hK.out _ _ (by exact trivial) (fun hHeld => ?_)
      clear hK K
      try simp only [Act.put, List.getElem_toArray, List.getElem_cons_succ, List.getElem_cons_zero, List.setIfInBounds_toArray, List.set_cons_zero, List.set_cons_succ]
      refine wpAnyH_ready (rs := [1]) (by kernel_rfl) (by simp) ?_
      refine AllReadyH.cons rfl (fun K hK => ?_) ?_
      · rw [if_pos (by rfl)]
        have q2 := B3.out.cell 2 rfl
        have qz := B3.out.lt
        go_simp
        show K _ _
        refine hK.out _ _ (by exact trivial) (fun hHeld => ?_)
        clear hK K
        try simp only [Act.put, List.getElem_toArray, List.getElem_cons_succ, List.getElem_cons_zero, List.setIfInBounds_toArray, List.set_cons_zero, List.set_cons_succ]
        refine wpAnyH_ready (rs := [2]) (by kernel_rfl) (by simp) ?_
        refine AllReadyH.cons rfl (fun K hK => ?_) ?_
        · rw [if_pos (by rfl)]
          go_simp
          go_at_call 65
          refine (digests_any _ _ (H1.out.below ((Below.refl _ _).drew) (fun _ h => h)) HS1.out (by omega)).mono ?_
          rintro e wA ⟨v1, rfl, h1, hbA⟩
          obtain ⟨ad1, cap1, rfl, -, -⟩ := h1.form
          have hB : Below wb.heap.size wb wA := Below.trans ((Below.refl _ _).drew) (hbA.mono (Nat.le_refl _))
          have zA := hB.size
          have HbA := Lib.hid hB
          have B3A := Lib.hid (B3.out.belowS hB)
          have HD1 := Lib.hid (show RdBB (fun b => w.heap.size + 2 < b) wA (.slice ad1 c.h.bs.length cap1) c.h.bs from h1.mono (fun b hb => by have h0 : wb.heap.size ≤ b := hb; omega))
          clear hbA hB h1
          show K _ _
          refine hK.out _ _ (by exact trivial) (fun hHeld => ?_)
          clear hK K
          try simp only [Act.put, List.getElem_toArray, List.getElem_cons_succ, List.getElem_cons_zero, List.setIfInBounds_toArray, List.set_cons_zero, List.set_cons_succ]
          refine wpAnyH_take (i := 6) (v := .pointer (some ⟨w.heap.size + 2, 2, none⟩)) rfl (by kernel_rfl) (by kernel_rfl) (by kernel_rfl) (fun _ _ _ h => h) (Or.inl ⟨by rfl, fun w hSw => ?_⟩) hHeld ?_
          · clear hSw; go_simp; all_goals (try first | rfl | omega)
          try simp only [Act.put, List.getElem_toArray, List.getElem_cons_succ, List.getElem_cons_zero, List.setIfInBounds_toArray, List.set_cons_zero, List.set_cons_succ]
          refine wpAnyH_ready (rs := [5]) (by kernel_rfl) (by simp) ?_
          refine AllReadyH.cons rfl (fun K hK => ?_) ?_
          · rw [if_pos (by rfl)]
            go_simp
            go_at_call 65
            refine (digests_any _ _ (H2.out.below HbA.out (fun _ h => h)) HS2.out (by omega)).mono ?_
            rintro e wC ⟨v2, rfl, h2, hbC⟩
            obtain ⟨ad2, cap2, rfl, -, -⟩ := h2.form
            have zC := hbC.size
            have HbC := Lib.hid (HbA.out.trans (hbC.mono HbA.out.size))
            have B3C := Lib.hid (B3A.out.belowS hbC)
            have HD1C := Lib.hid (HD1.out.below hbC (fun _ h => h))
            have HD2C := Lib.hid (show RdBB (fun b => w.heap.size + 2 < b) wC (.slice ad2 c.h.ps.length cap2) c.h.ps from h2.mono (fun b hb => by have h0 : wA.heap.size ≤ b := hb; omega))
            clear hbC h2
            have s2 := B3C.out.cell 2 rfl
            have s3 := B3C.out.cell 3 rfl
            have sf2 := B3C.out.free 2
            have sf3 := B3C.out.free 3
            have slt := B3C.out.lt
            show K _ _
            refine hK.out _ _ (by exact trivial) (fun hHeld => ?_)
            clear hK K
            try simp only [Act.put, List.getElem_toArray, List.getElem_cons_succ, List.getElem_cons_zero, List.setIfInBounds_toArray, List.set_cons_zero, List.set_cons_succ]
            refine wpAnyH_ready (rs := [7]) (by kernel_rfl) (by simp) ?_
            refine AllReadyH.cons rfl (fun K hK => ?_) ?_
            · rw [if_pos (by rfl)]
              go_simp
              show K _ _
              refine hK.out _ _ (by exact trivial) (fun hHeld => ?_)
              clear hK K
              try simp only [Act.put, List.getElem_toArray, List.getElem_cons_succ, List.getElem_cons_zero, List.setIfInBounds_toArray, List.set_cons_zero, List.set_cons_succ]
              refine wpAnyH_take (i := 8) (v := .pointer (some ⟨w.heap.size + 2, 3, none⟩)) rfl (by kernel_rfl) (by kernel_rfl) (by kernel_rfl) (fun _ _ _ h => h) (Or.inl ⟨by rfl, fun w hSw => ?_⟩) hHeld ?_
              · clear hSw; go_simp; all_goals (try first | rfl | omega)
              try simp only [Act.put, List.getElem_toArray, List.getElem_cons_succ, List.getElem_cons_zero, List.setIfInBounds_toArray, List.set_cons_zero, List.set_cons_succ]
              refine wpAnyH_ready (rs := [9]) (by kernel_rfl) (by simp) ?_
              refine AllReadyH.cons rfl (fun K hK => ?_) ?_
              · rw [if_pos (by rfl)]
                go_simp
                show K _ _
                refine hK.out _ _ (by exact trivial) (fun hHeld => ?_)
                clear hK K
                try simp only [Act.put, List.getElem_toArray, List.getElem_cons_succ, List.getElem_cons_zero, List.setIfInBounds_toArray, List.set_cons_zero, List.set_cons_succ]
                refine wpAnyH_done (by kernel_rfl) ?_ _
                go_wp2
                go_meet
                exact ⟨ad1, ad2, cap1, cap2, rfl, (B3C.out.set 2 _).set 3 _, HD1C.out.keep ((Keep.setCell (p := ⟨w.heap.size + 2, 2, none⟩) (by simp) _).trans (Keep.setCell (p := ⟨w.heap.size + 2, 3, none⟩) (by simp) _)) (fun _ h => h), HD2C.out.keep ((Keep.setCell (p := ⟨w.heap.size + 2, 2, none⟩) (by simp) _).trans (Keep.setCell (p := ⟨w.heap.size + 2, 3, none⟩) (by simp) _)) (fun _ h => h), (((B1.out.belowS HbC.out).setOther (p := ⟨w.heap.size + 2, 2, none⟩) (by simp) _).setOther (p := ⟨w.heap.size + 2, 3, none⟩) (by simp) _), (((B2.out.belowS HbC.out).setOther (p := ⟨w.heap.size + 2, 2, none⟩) (by simp) _).setOther (p := ⟨w.heap.size + 2, 3, none⟩) (by simp) _), (((HB.out.trans (HbC.out.mono HB.out.size)).setCell (by simp) _).setCell (by simp) _)⟩
              exact AllReadyH.nil
            exact AllReadyH.nil
          exact AllReadyH.nil
        exact AllReadyH.nil
      exact AllReadyH.nil
    exact AllReadyH.nil
  case rest =>
    obtain ⟨ad1, ad2, cap1, cap2, rfl, hX, hD1, hD2, hY1, hY2, hB9⟩ := hcut
    have HX := Lib.hid hX
    have HD1 := Lib.hid hD1
    have HD2 := Lib.hid hD2
    have HY2 := Lib.hid hY2
    have HB9 := Lib.hid hB9
    have H3' := Lib.hid (show RdI G wc (.slice adv c.vs.length capv) c.vs from H30.out.below HB9.out (fun _ h => h))
    have HY1 := Lib.hid hY1
    clear hX hD1 hD2 hY1 hY2 hB9
    go_upto_region 3 with fail
    refine wp_region_held_drew (S := fun _ => True) (by kernel_rfl) (by exact trivial) (fun hHeld => ?_)
    refine wpAnyH_take (i := 1) (v := .pointer (some ⟨w.heap.size, 4, none⟩)) rfl (by kernel_rfl) (by kernel_rfl) (by kernel_rfl) (fun _ _ _ h => h) (Or.inl ⟨by rfl, fun w hSw => ?_⟩) hHeld ?_
    · clear hSw; go_simp; all_goals (try first | rfl | omega)
    try simp only [Act.put, List.getElem_toArray, List.getElem_cons_succ, List.getElem_cons_zero, List.setIfInBounds_toArray, List.set_cons_zero, List.set_cons_succ]
    refine wpAnyH_ready (rs := [0, 2]) (by kernel_rfl) (by simp) ?_
    refine AllReadyH.cons rfl (fun K hK => ?_) ?_
    · rw [if_pos (by rfl)]
      have x0 := HX.out.cell 0 rfl
      have x1 := HX.out.cell 1 rfl
      have x2 := HX.out.cell 2 rfl
      have x3 := HX.out.cell 3 rfl
      go_simp
      show K _ _
      refine hK.out _ _ (by exact trivial) (fun hHeld => ?_)
      clear hK K
      try simp only [Act.put, List.getElem_toArray, List.getElem_cons_succ, List.getElem_cons_zero, List.setIfInBounds_toArray, List.set_cons_zero, List.set_cons_succ]
      refine wpAnyH_ready (rs := [2]) (by kernel_rfl) (by simp) ?_
      refine AllReadyH.cons rfl (fun K hK => ?_) ?_
      · rw [if_pos (by rfl)]
        have y4 := HY1.out.cell 4 rfl
        go_simp
        show K _ _
        refine hK.out _ _ (by exact trivial) (fun hHeld => ?_)
        clear hK K
        try simp only [Act.put, List.getElem_toArray, List.getElem_cons_succ, List.getElem_cons_zero, List.setIfInBounds_toArray, List.set_cons_zero, List.set_cons_succ]
        refine wpAnyH_ready (rs := [3]) (by kernel_rfl) (by simp) ?_
        refine AllReadyH.cons rfl (fun K hK => ?_) ?_
        · rw [if_pos (by rfl)]
          go_simp
          go_at_call 66
          refine (cloneI_any _ _ (H3'.out.below ((Below.refl _ _).drew) (fun _ h => h)) (by omega)).mono ?_
          rintro e wd ⟨v3, rfl, h3, hbd⟩
          obtain ⟨ad3, cap3, rfl⟩ := ownsRow_form h3
          have hB : Below wc.heap.size wc wd := Below.trans ((Below.refl _ _).drew) (hbd.mono (Nat.le_refl _))
          have HV := Lib.hid (show RdI (fun b => wc.heap.size ≤ b) wd (.slice ad3 c.vs.length cap3) c.vs from RdS.of_owns h3 (fun b hb => hb))
          have HE1 := Lib.hid (HD1.out.below hB (fun _ h => h))
          have HE2 := Lib.hid (HD2.out.below hB (fun _ h => h))
          have HXd := Lib.hid (HX.out.belowS hB)
          have HYd := Lib.hid (HY2.out.belowS hB)
          have HBd := Lib.hid (HB9.out.trans (hB.mono HB9.out.size))
          have zd := hB.size
          have zw := HB9.out.size
          clear h3 hbd hB
          have u0 := HYd.out.cell 0 rfl
          have u1 := HYd.out.cell 1 rfl
          have u2 := HYd.out.cell 2 rfl
          have u3 := HYd.out.cell 3 rfl
          have u4 := HYd.out.cell 4 rfl
          have f0 := HYd.out.free 0
          have f1 := HYd.out.free 1
          have f2 := HYd.out.free 2
          have f3 := HYd.out.free 3
          have f4 := HYd.out.free 4
          have zu := HYd.out.lt
          show K _ _
          refine hK.out _ _ (by exact trivial) (fun hHeld => ?_)
          clear hK K
          try simp only [Act.put, List.getElem_toArray, List.getElem_cons_succ, List.getElem_cons_zero, List.setIfInBounds_toArray, List.set_cons_zero, List.set_cons_succ]
          refine wpAnyH_take (i := 4) (v := .agg #[.int .i64 c.h.a, .int .i64 c.h.r, .slice ad1 c.h.bs.length cap1, .slice ad2 c.h.ps.length cap2, .slice ad3 c.vs.length cap3]) rfl (by kernel_rfl) (by kernel_rfl) (by kernel_rfl) (fun _ _ _ h => h) (Or.inl ⟨by rfl, fun w hSw => ?_⟩) hHeld ?_
          · clear hSw; go_simp; all_goals (try first | rfl | omega)
          try simp only [Act.put, List.getElem_toArray, List.getElem_cons_succ, List.getElem_cons_zero, List.setIfInBounds_toArray, List.set_cons_zero, List.set_cons_succ]
          refine wpAnyH_ready (rs := [5]) (by kernel_rfl) (by simp) ?_
          refine AllReadyH.cons rfl (fun K hK => ?_) ?_
          · rw [if_pos (by rfl)]
            go_simp
            show K _ _
            refine hK.out _ _ (by exact trivial) (fun hHeld => ?_)
            clear hK K
            try simp only [Act.put, List.getElem_toArray, List.getElem_cons_succ, List.getElem_cons_zero, List.setIfInBounds_toArray, List.set_cons_zero, List.set_cons_succ]
            refine wpAnyH_done (by kernel_rfl) ?_ _
            have zx := HX.out.lt
            have HZ := Lib.hid (((((HYd.out.set 0 (.int .i64 c.h.a)).set 1 (.int .i64 c.h.r)).set 2 (.slice ad1 c.h.bs.length cap1)).set 3 (.slice ad2 c.h.ps.length cap2)).set 4 (.slice ad3 c.vs.length cap3))
            have g0 := HZ.out.cell 0 rfl
            have g1 := HZ.out.cell 1 rfl
            have g2 := HZ.out.cell 2 rfl
            have g3 := HZ.out.cell 3 rfl
            have g4 := HZ.out.cell 4 rfl
            go_wp2
            refine bodyPost_ret (v := .agg #[.int .i64 c.h.a, .int .i64 c.h.r, .slice ad1 c.h.bs.length cap1, .slice ad2 c.h.ps.length cap2, .slice ad3 c.vs.length cap3]) (by simp [results, Tryd.results43, go_sem, g0, g1, g2, g3, g4]) rfl ⟨_, _, _, rfl, HE1.out.keep (by repeat (first | with_reducible exact Keep.refl _ _ | with_reducible refine Keep.setCell' ?_ (by first | (simp; done) | (simp; omega)) _)) (fun b hb => by first | omega | exact hb), HE2.out.keep (by repeat (first | with_reducible exact Keep.refl _ _ | with_reducible refine Keep.setCell' ?_ (by first | (simp; done) | (simp; omega)) _)) (fun b hb => by first | omega | exact hb), HV.out.keep (by repeat (first | with_reducible exact Keep.refl _ _ | with_reducible refine Keep.setCell' ?_ (by first | (simp; done) | (simp; omega)) _)) (fun b hb => by first | omega | exact hb), by repeat (first | with_reducible exact HBd.out | with_reducible refine Below.setCell ?_ (by simp) _)⟩
          exact AllReadyH.nil
        exact AllReadyH.nil
      exact AllReadyH.nil
    refine AllReadyH.cons rfl (fun K hK => ?_) ?_
    · rw [if_pos (by rfl)]
      have y4 := HY1.out.cell 4 rfl
      go_simp
      show K _ _
      refine hK.out _ _ (by exact trivial) (fun hHeld => ?_)
      clear hK K
      try simp only [Act.put, List.getElem_toArray, List.getElem_cons_succ, List.getElem_cons_zero, List.setIfInBounds_toArray, List.set_cons_zero, List.set_cons_succ]
      refine wpAnyH_ready (rs := [0, 3]) (by kernel_rfl) (by simp) ?_
      refine AllReadyH.cons rfl (fun K hK => ?_) ?_
      · rw [if_pos (by rfl)]
        have x0 := HX.out.cell 0 rfl
        have x1 := HX.out.cell 1 rfl
        have x2 := HX.out.cell 2 rfl
        have x3 := HX.out.cell 3 rfl
        go_simp
        show K _ _
        refine hK.out _ _ (by exact trivial) (fun hHeld => ?_)
        clear hK K
        try simp only [Act.put, List.getElem_toArray, List.getElem_cons_succ, List.getElem_cons_zero, List.setIfInBounds_toArray, List.set_cons_zero, List.set_cons_succ]
        refine wpAnyH_ready (rs := [3]) (by kernel_rfl) (by simp) ?_
        refine AllReadyH.cons rfl (fun K hK => ?_) ?_
        · rw [if_pos (by rfl)]
          go_simp
          go_at_call 66
          refine (cloneI_any _ _ (H3'.out.below ((Below.refl _ _).drew) (fun _ h => h)) (by omega)).mono ?_
          rintro e wd ⟨v3, rfl, h3, hbd⟩
          obtain ⟨ad3, cap3, rfl⟩ := ownsRow_form h3
          have hB : Below wc.heap.size wc wd := Below.trans ((Below.refl _ _).drew) (hbd.mono (Nat.le_refl _))
          have HV := Lib.hid (show RdI (fun b => wc.heap.size ≤ b) wd (.slice ad3 c.vs.length cap3) c.vs from RdS.of_owns h3 (fun b hb => hb))
          have HE1 := Lib.hid (HD1.out.below hB (fun _ h => h))
          have HE2 := Lib.hid (HD2.out.below hB (fun _ h => h))
          have HXd := Lib.hid (HX.out.belowS hB)
          have HYd := Lib.hid (HY2.out.belowS hB)
          have HBd := Lib.hid (HB9.out.trans (hB.mono HB9.out.size))
          have zd := hB.size
          have zw := HB9.out.size
          clear h3 hbd hB
          have u0 := HYd.out.cell 0 rfl
          have u1 := HYd.out.cell 1 rfl
          have u2 := HYd.out.cell 2 rfl
          have u3 := HYd.out.cell 3 rfl
          have u4 := HYd.out.cell 4 rfl
          have f0 := HYd.out.free 0
          have f1 := HYd.out.free 1
          have f2 := HYd.out.free 2
          have f3 := HYd.out.free 3
          have f4 := HYd.out.free 4
          have zu := HYd.out.lt
          show K _ _
          refine hK.out _ _ (by exact trivial) (fun hHeld => ?_)
          clear hK K
          try simp only [Act.put, List.getElem_toArray, List.getElem_cons_succ, List.getElem_cons_zero, List.setIfInBounds_toArray, List.set_cons_zero, List.set_cons_succ]
          refine wpAnyH_take (i := 4) (v := .agg #[.int .i64 c.h.a, .int .i64 c.h.r, .slice ad1 c.h.bs.length cap1, .slice ad2 c.h.ps.length cap2, .slice ad3 c.vs.length cap3]) rfl (by kernel_rfl) (by kernel_rfl) (by kernel_rfl) (fun _ _ _ h => h) (Or.inl ⟨by rfl, fun w hSw => ?_⟩) hHeld ?_
          · clear hSw; go_simp; all_goals (try first | rfl | omega)
          try simp only [Act.put, List.getElem_toArray, List.getElem_cons_succ, List.getElem_cons_zero, List.setIfInBounds_toArray, List.set_cons_zero, List.set_cons_succ]
          refine wpAnyH_ready (rs := [5]) (by kernel_rfl) (by simp) ?_
          refine AllReadyH.cons rfl (fun K hK => ?_) ?_
          · rw [if_pos (by rfl)]
            go_simp
            show K _ _
            refine hK.out _ _ (by exact trivial) (fun hHeld => ?_)
            clear hK K
            try simp only [Act.put, List.getElem_toArray, List.getElem_cons_succ, List.getElem_cons_zero, List.setIfInBounds_toArray, List.set_cons_zero, List.set_cons_succ]
            refine wpAnyH_done (by kernel_rfl) ?_ _
            have zx := HX.out.lt
            have HZ := Lib.hid (((((HYd.out.set 0 (.int .i64 c.h.a)).set 1 (.int .i64 c.h.r)).set 2 (.slice ad1 c.h.bs.length cap1)).set 3 (.slice ad2 c.h.ps.length cap2)).set 4 (.slice ad3 c.vs.length cap3))
            have g0 := HZ.out.cell 0 rfl
            have g1 := HZ.out.cell 1 rfl
            have g2 := HZ.out.cell 2 rfl
            have g3 := HZ.out.cell 3 rfl
            have g4 := HZ.out.cell 4 rfl
            go_wp2
            refine bodyPost_ret (v := .agg #[.int .i64 c.h.a, .int .i64 c.h.r, .slice ad1 c.h.bs.length cap1, .slice ad2 c.h.ps.length cap2, .slice ad3 c.vs.length cap3]) (by simp [results, Tryd.results43, go_sem, g0, g1, g2, g3, g4]) rfl ⟨_, _, _, rfl, HE1.out.keep (by repeat (first | with_reducible exact Keep.refl _ _ | with_reducible refine Keep.setCell' ?_ (by first | (simp; done) | (simp; omega)) _)) (fun b hb => by first | omega | exact hb), HE2.out.keep (by repeat (first | with_reducible exact Keep.refl _ _ | with_reducible refine Keep.setCell' ?_ (by first | (simp; done) | (simp; omega)) _)) (fun b hb => by first | omega | exact hb), HV.out.keep (by repeat (first | with_reducible exact Keep.refl _ _ | with_reducible refine Keep.setCell' ?_ (by first | (simp; done) | (simp; omega)) _)) (fun b hb => by first | omega | exact hb), by repeat (first | with_reducible exact HBd.out | with_reducible refine Below.setCell ?_ (by simp) _)⟩
          exact AllReadyH.nil
        exact AllReadyH.nil
      refine AllReadyH.cons rfl (fun K hK => ?_) ?_
      · rw [if_pos (by rfl)]
        go_simp
        go_at_call 66
        refine (cloneI_any _ _ (H3'.out.below ((Below.refl _ _).drew) (fun _ h => h)) (by omega)).mono ?_
        rintro e wd ⟨v3, rfl, h3, hbd⟩
        obtain ⟨ad3, cap3, rfl⟩ := ownsRow_form h3
        have hB : Below wc.heap.size wc wd := Below.trans ((Below.refl _ _).drew) (hbd.mono (Nat.le_refl _))
        have HV := Lib.hid (show RdI (fun b => wc.heap.size ≤ b) wd (.slice ad3 c.vs.length cap3) c.vs from RdS.of_owns h3 (fun b hb => hb))
        have HE1 := Lib.hid (HD1.out.below hB (fun _ h => h))
        have HE2 := Lib.hid (HD2.out.below hB (fun _ h => h))
        have HXd := Lib.hid (HX.out.belowS hB)
        have HYd := Lib.hid (HY2.out.belowS hB)
        have HBd := Lib.hid (HB9.out.trans (hB.mono HB9.out.size))
        have zd := hB.size
        have zw := HB9.out.size
        clear h3 hbd hB
        have u0 := HYd.out.cell 0 rfl
        have u1 := HYd.out.cell 1 rfl
        have u2 := HYd.out.cell 2 rfl
        have u3 := HYd.out.cell 3 rfl
        have u4 := HYd.out.cell 4 rfl
        have f0 := HYd.out.free 0
        have f1 := HYd.out.free 1
        have f2 := HYd.out.free 2
        have f3 := HYd.out.free 3
        have f4 := HYd.out.free 4
        have zu := HYd.out.lt
        show K _ _
        refine hK.out _ _ (by exact trivial) (fun hHeld => ?_)
        clear hK K
        try simp only [Act.put, List.getElem_toArray, List.getElem_cons_succ, List.getElem_cons_zero, List.setIfInBounds_toArray, List.set_cons_zero, List.set_cons_succ]
        refine wpAnyH_ready (rs := [0]) (by kernel_rfl) (by simp) ?_
        refine AllReadyH.cons rfl (fun K hK => ?_) ?_
        · rw [if_pos (by rfl)]
          have x0 := HXd.out.cell 0 rfl
          have x1 := HXd.out.cell 1 rfl
          have x2 := HXd.out.cell 2 rfl
          have x3 := HXd.out.cell 3 rfl
          go_simp
          show K _ _
          refine hK.out _ _ (by exact trivial) (fun hHeld => ?_)
          clear hK K
          try simp only [Act.put, List.getElem_toArray, List.getElem_cons_succ, List.getElem_cons_zero, List.setIfInBounds_toArray, List.set_cons_zero, List.set_cons_succ]
          refine wpAnyH_take (i := 4) (v := .agg #[.int .i64 c.h.a, .int .i64 c.h.r, .slice ad1 c.h.bs.length cap1, .slice ad2 c.h.ps.length cap2, .slice ad3 c.vs.length cap3]) rfl (by kernel_rfl) (by kernel_rfl) (by kernel_rfl) (fun _ _ _ h => h) (Or.inl ⟨by rfl, fun w hSw => ?_⟩) hHeld ?_
          · clear hSw; go_simp; all_goals (try first | rfl | omega)
          try simp only [Act.put, List.getElem_toArray, List.getElem_cons_succ, List.getElem_cons_zero, List.setIfInBounds_toArray, List.set_cons_zero, List.set_cons_succ]
          refine wpAnyH_ready (rs := [5]) (by kernel_rfl) (by simp) ?_
          refine AllReadyH.cons rfl (fun K hK => ?_) ?_
          · rw [if_pos (by rfl)]
            go_simp
            show K _ _
            refine hK.out _ _ (by exact trivial) (fun hHeld => ?_)
            clear hK K
            try simp only [Act.put, List.getElem_toArray, List.getElem_cons_succ, List.getElem_cons_zero, List.setIfInBounds_toArray, List.set_cons_zero, List.set_cons_succ]
            refine wpAnyH_done (by kernel_rfl) ?_ _
            have zx := HX.out.lt
            have HZ := Lib.hid (((((HYd.out.set 0 (.int .i64 c.h.a)).set 1 (.int .i64 c.h.r)).set 2 (.slice ad1 c.h.bs.length cap1)).set 3 (.slice ad2 c.h.ps.length cap2)).set 4 (.slice ad3 c.vs.length cap3))
            have g0 := HZ.out.cell 0 rfl
            have g1 := HZ.out.cell 1 rfl
            have g2 := HZ.out.cell 2 rfl
            have g3 := HZ.out.cell 3 rfl
            have g4 := HZ.out.cell 4 rfl
            go_wp2
            refine bodyPost_ret (v := .agg #[.int .i64 c.h.a, .int .i64 c.h.r, .slice ad1 c.h.bs.length cap1, .slice ad2 c.h.ps.length cap2, .slice ad3 c.vs.length cap3]) (by simp [results, Tryd.results43, go_sem, g0, g1, g2, g3, g4]) rfl ⟨_, _, _, rfl, HE1.out.keep (by repeat (first | with_reducible exact Keep.refl _ _ | with_reducible refine Keep.setCell' ?_ (by first | (simp; done) | (simp; omega)) _)) (fun b hb => by first | omega | exact hb), HE2.out.keep (by repeat (first | with_reducible exact Keep.refl _ _ | with_reducible refine Keep.setCell' ?_ (by first | (simp; done) | (simp; omega)) _)) (fun b hb => by first | omega | exact hb), HV.out.keep (by repeat (first | with_reducible exact Keep.refl _ _ | with_reducible refine Keep.setCell' ?_ (by first | (simp; done) | (simp; omega)) _)) (fun b hb => by first | omega | exact hb), by repeat (first | with_reducible exact HBd.out | with_reducible refine Below.setCell ?_ (by simp) _)⟩
          exact AllReadyH.nil
        exact AllReadyH.nil
      exact AllReadyH.nil
    exact AllReadyH.nil
end Go.Proofs.YtpfmmncnhlfdgaaDoor
