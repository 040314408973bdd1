/- InsertBad: the walk. -/
import Derived.Test.YtialhdmdeggenaaDoorInsLaw
import Derived.Test.YtialhdmdeggenaaDoorBas
import Derived.Test.YtialhdmdeggenaaDoorSome
set_option linter.unusedVariables false
set_option linter.unusedSimpArgs false
attribute [local go_sem ↓] Go.wp_at_zero Go.wp_at_succ
namespace Go.Proofs.YtialhdmdeggenaaDoor
open Go Go.RowKit

set_option maxRecDepth 100000 in
set_option maxHeartbeats 8000000 in
theorem insertBad_walk (v : Value) (l : List Stp) (vt : Value) (r : RawD) (w : World) (hv : RdS RStp (fun _ => True) w v l) (hz : l.length * 24 ≤ reachBytes) (hr : RawOk (fun _ => True) w vt r) (ht : Tabs w) :
    Calls Tryd.prog 12 #[v, .agg #[.int .i64 r.k, .int .i64 r.a, .int .i64 r.b, .int .i64 r.c, vt]] w fun e w' => e = .returned (.bool true) ∧ Below w.heap.size w w' := by
  have hone := hr.one
  obtain ⟨⟨k1, k2⟩, ⟨a1, a2⟩, ⟨b1, b2⟩, ⟨c1, c2⟩, -, -⟩ := hr
  have hb0 := (Below.refl w.heap.size w).alloc (Nat.le_refl _) (.cells #[.int .i64 r.k, .int .i64 r.a, .int .i64 r.b, .int .i64 r.c, vt] 24)
  have HT := Lib.hid ht
  have HRW := Lib.hid (BoxAt.new w [.int .i64 r.k, .int .i64 r.a, .int .i64 r.b, .int .i64 r.c, vt] 24)
  have HV0 := Lib.hid (hv.below hb0 (fun _ h => h))
  have HT0 := Lib.hid (ht.belowS hb0)
  have HB0 := Lib.hid hb0
  clear hv ht hb0
  go_enter Tryd.func12, Tryd.ntmps12
  go_wp2_with fail
  refine (grown_any _ _ HV0.out hz HT0.out).mono ?_
  rintro e w1 ⟨vd, vb, rfl, hd, -, hb1⟩
  obtain ⟨add, capd, rfl, -, -⟩ := hd.form
  have HD1 := Lib.hid hd
  have HB1 := Lib.hid (HB0.out.trans (hb1.mono HB0.out.size))
  replace HRW := Lib.hid (HRW.out.belowS hb1)
  clear hd hb1 HV0 HT0 HB0
  go_upto_region 2 with fail
  obtain ⟨w2, hw2⟩ : ∃ w2, w2 = w1.alloc (.cells #[.slice add (grownL l).length capd] 59) := ⟨_, rfl⟩
  have HX := Lib.hid (show BoxAt w2 w1.heap.size [.slice add (grownL l).length capd] 59 by rw [hw2]; exact BoxAt.new w1 [_] _)
  have hB2 : Below w1.heap.size w1 w2 := by rw [hw2]; exact (Below.refl _ _).alloc (Nat.le_refl _) _
  rw [← hw2]
  have HD := Lib.hid ((HD1.out.mono (G' := fun _ => True) (fun _ _ => trivial)).below hB2 (fun _ h => h))
  have HB := Lib.hid (HB1.out.trans (hB2.mono HB1.out.size))
  have HOK := Lib.hid (grown_ok l)
  have hz2 := HX.out.lt
  replace HRW := Lib.hid (HRW.out.belowS hB2)
  have hzr2 := HRW.out.lt
  clear hw2 hB2 HD1 HB1
  have HOKH := Lib.hid (hdrOf_ok r.a r.b r.c)
  obtain ⟨uu, huu1, huu2⟩ := vot_node1 r.c
  have HVT := Lib.hid huu1
  have HVN := Lib.hid huu2
  have hv3 := voters_len3 r.c
  have hv4 := voters_len4 r.c
  clear huu1 huu2
  generalize grownL l = L at *
  obtain ⟨H, hH⟩ : ∃ H, H = hdrOf r.a r.b r.c := ⟨_, rfl⟩
  have HH := Lib.hid hH
  rw [← hH] at HOKH
  clear hH
  generalize hVo : votersL r.c = V at *
  have HVo := Lib.hid hVo
  clear hVo
  go_cut [7] (fun p wx => ∃ (P : Nat) (adb : Option Addr) (capb : Nat) (adp : Option Addr) (capp : Nat) (adv : Option Addr) (capv : Nat), p = .pointer (some ⟨P, 0, none⟩) ∧ w2.heap.size ≤ P ∧ BoxAt wx P [.int .i64 H.a, .int .i64 H.r, .slice adb H.bs.length capb, .slice adp H.ps.length capp, .slice adv V.length capv] 32 ∧ RdBB (fun b => b ≠ P) wx (.slice adb H.bs.length capb) H.bs ∧ RdBB (fun b => b ≠ P) wx (.slice adp H.ps.length capp) H.ps ∧ RdI (fun b => b ≠ P) wx (.slice adv V.length capv) V ∧ Below w2.heap.size w2 wx)
  case first =>
    refine wp_region_held_drew (S := fun w' => Below w2.heap.size w2 w') (by kernel_rfl) (by exact (Below.refl _ _).drew) (fun hHeld => ?_)
    obtain ⟨wd, hwd⟩ : ∃ wd, wd = w2.drew := ⟨_, rfl⟩
    rw [← hwd] at hHeld ⊢
    have HBd := Lib.hid (show Below w2.heap.size w2 wd from hHeld)
    have zwd : w2.heap.size ≤ wd.heap.size := by rw [hwd]; exact Nat.le_refl _
    clear hwd
    refine wpAnyH_take (i := 0) (v := .agg #[.int .i64 r.k, .int .i64 r.a, .int .i64 r.b, .int .i64 r.c, vt]) rfl (by kernel_rfl) (by kernel_rfl) (by kernel_rfl) (fun _ _ _ h => h) (Or.inl ⟨by rfl, fun w hSw => ?_⟩) hHeld ?_
    · have qb := HRW.out.belowS hSw; have q0 := qb.cell 0 rfl; have q1 := qb.cell 1 rfl; have q2 := qb.cell 2 rfl; have q3 := qb.cell 3 rfl; have q4 := qb.cell 4 rfl; clear hSw qb; go_simp
    try simp only [Act.put, List.getElem_toArray, List.getElem_cons_succ, List.getElem_cons_zero, List.setIfInBounds_toArray, List.set_cons_zero, List.set_cons_succ]
    refine wpAnyH_take (i := 2) (v := .pointer (some ⟨w.heap.size, 3, none⟩)) rfl (by kernel_rfl) (by kernel_rfl) (by kernel_rfl) (fun _ _ _ h => h) (Or.inl ⟨by rfl, fun w hSw => ?_⟩) hHeld ?_
    · clear hSw; go_simp; all_goals (try first | rfl | omega)
    try simp only [Act.put, List.getElem_toArray, List.getElem_cons_succ, List.getElem_cons_zero, List.setIfInBounds_toArray, List.set_cons_zero, List.set_cons_succ]
    refine wpAnyH_take (i := 3) (v := .int .i64 r.c) rfl (by kernel_rfl) (by kernel_rfl) (by kernel_rfl) (fun _ _ _ h => h) (Or.inl ⟨by rfl, fun w hSw => ?_⟩) hHeld ?_
    · have q3 := (HRW.out.belowS hSw).cell 3 rfl; clear hSw; go_simp
    try simp only [Act.put, List.getElem_toArray, List.getElem_cons_succ, List.getElem_cons_zero, List.setIfInBounds_toArray, List.set_cons_zero, List.set_cons_succ]
    refine wpAnyH_ready (rs := [1, 6]) (by kernel_rfl) (by simp) ?_
    refine AllReadyH.cons rfl (fun K hK => ?_) ?_
    · rw [if_pos (by rfl)]
      go_simp
      go_at_call 15
      refine (header_any r.k r.a r.b r.c vt _ a1 a2 b1 b2 c1 c2 hone).mono ?_
      rintro e wh ⟨adb, capb, adp, capp, rfl, hbb, hpp, hb_wh⟩
      rw [← HH.out] at hbb hpp ⊢
      have HBwh := Lib.hid (HBd.out.trans (hb_wh.mono (Below.size HBd.out)))
      have RB := Lib.hid (show RdBB (fun b => wd.heap.size ≤ b ∧ b < wh.heap.size) wh (.slice adb H.bs.length capb) H.bs from hbb.low (by decide))
      have RP := Lib.hid (show RdBB (fun b => wd.heap.size ≤ b ∧ b < wh.heap.size) wh (.slice adp H.ps.length capp) H.ps from hpp.low (by decide))
      have zwh := hb_wh.size
      clear hbb hpp hb_wh
      show K _ _
      refine hK.out _ _ (by exact HBwh.out) (fun hHeld => ?_)
      clear hK K
      try simp only [Act.put, List.getElem_toArray, List.getElem_cons_succ, List.getElem_cons_zero, List.setIfInBounds_toArray, List.set_cons_zero, List.set_cons_succ]
      refine wpAnyH_ready (rs := [4, 6]) (by kernel_rfl) (by simp) ?_
      refine AllReadyH.cons rfl (fun K hK => ?_) ?_
      · rw [if_pos (by rfl)]
        go_simp
        go_at_call 16
        refine (voters_any r.c _ c1 c2).mono ?_
        rintro e wv ⟨vv, rfl, hov, hb_wv⟩
        rw [HVo.out] at hov
        obtain ⟨adv, capv, rfl⟩ := ownsRow_form hov
        have hrv : RdI (fun b => wh.heap.size ≤ b ∧ b < wv.heap.size) wv (.slice adv V.length capv) V := (RdS.of_owns (G := fun b => wh.heap.size ≤ b) hov (fun b hb => hb)).low (by decide)
        have HBwv := Lib.hid (HBwh.out.trans (hb_wv.mono (Below.size HBwh.out)))
        replace RB := Lib.hid (RB.out.below hb_wv (fun _ h => h))
        replace RP := Lib.hid (RP.out.below hb_wv (fun _ h => h))
        have RV := Lib.hid hrv
        have zwv := hb_wv.size
        clear hov hrv hb_wv
        show K _ _
        refine hK.out _ _ (by exact HBwv.out) (fun hHeld => ?_)
        clear hK K
        try simp only [Act.put, List.getElem_toArray, List.getElem_cons_succ, List.getElem_cons_zero, List.setIfInBounds_toArray, List.set_cons_zero, List.set_cons_succ]
        refine wpAnyH_take (i := 5) (v := .agg #[.int .i64 H.a, .int .i64 H.r, .slice adb H.bs.length capb, .slice adp H.ps.length capp, .slice adv V.length capv]) rfl (by kernel_rfl) (by kernel_rfl) (by kernel_rfl) (fun _ _ _ h => h) (Or.inl ⟨by rfl, fun w hSw => ?_⟩) hHeld ?_
        · clear hSw; go_simp; all_goals (try first | rfl | omega)
        try simp only [Act.put, List.getElem_toArray, List.getElem_cons_succ, List.getElem_cons_zero, List.setIfInBounds_toArray, List.set_cons_zero, List.set_cons_succ]
        refine wpAnyH_ready (rs := [6]) (by kernel_rfl) (by simp) ?_
        refine AllReadyH.cons rfl (fun K hK => ?_) ?_
        · rw [if_pos (by rfl)]
          go_simp
          show K _ _
          refine hK.out _ _ (by exact (HBwv.out.alloc (Below.size HBwv.out) _)) (fun hHeld => ?_)
          clear hK K
          try simp only [Act.put, List.getElem_toArray, List.getElem_cons_succ, List.getElem_cons_zero, List.setIfInBounds_toArray, List.set_cons_zero, List.set_cons_succ]
          obtain ⟨wa1, hwn⟩ : ∃ wa1, wa1 = wv.alloc (.cells #[.int .i64 0, .int .i64 0, .slice none 0 0, .slice none 0 0, .slice none 0 0] 32) := ⟨_, rfl⟩
          have FA1 := Lib.hid (show BoxAt wa1 (wv.heap.size) [.int .i64 0, .int .i64 0, .slice none 0 0, .slice none 0 0, .slice none 0 0] 32 by rw [hwn]; exact BoxAt.newAt wv [.int .i64 0, .int .i64 0, .slice none 0 0, .slice none 0 0, .slice none 0 0] 32 rfl)
          have hq := RB.out.below ((Below.refl wv.heap.size wv).alloc (Nat.le_refl _) (.cells #[.int .i64 0, .int .i64 0, .slice none 0 0, .slice none 0 0, .slice none 0 0] 32)) (fun _ h => h)
          rw [← hwn] at hq
          replace RB := Lib.hid hq
          clear hq
          have hq := RP.out.below ((Below.refl wv.heap.size wv).alloc (Nat.le_refl _) (.cells #[.int .i64 0, .int .i64 0, .slice none 0 0, .slice none 0 0, .slice none 0 0] 32)) (fun _ h => h)
          rw [← hwn] at hq
          replace RP := Lib.hid hq
          clear hq
          have hq := RV.out.below ((Below.refl wv.heap.size wv).alloc (Nat.le_refl _) (.cells #[.int .i64 0, .int .i64 0, .slice none 0 0, .slice none 0 0, .slice none 0 0] 32)) (fun _ h => h)
          rw [← hwn] at hq
          replace RV := Lib.hid hq
          clear hq
          have HBwa1 := Lib.hid (show Below w2.heap.size w2 wa1 by rw [hwn]; exact HBwv.out.alloc (Below.size HBwv.out) _)
          rw [← hwn] at hHeld ⊢
          clear hwn
          have zwa1 := FA1.out.lt
          refine wpAnyH_ready (rs := [7]) (by kernel_rfl) (by simp) ?_
          refine AllReadyH.cons rfl (fun K hK => ?_) ?_
          · rw [if_pos (by rfl)]
            have q0 := FA1.out.cell 0 rfl
            have q1 := FA1.out.cell 1 rfl
            have q2 := FA1.out.cell 2 rfl
            have q3 := FA1.out.cell 3 rfl
            have q4 := FA1.out.cell 4 rfl
            have qf0 := FA1.out.free 0
            have qf1 := FA1.out.free 1
            have qf2 := FA1.out.free 2
            have qf3 := FA1.out.free 3
            have qf4 := FA1.out.free 4
            have qz := FA1.out.lt
            go_simp
            show K _ _
            refine hK.out _ _ (by exact (((((HBwa1.out.setCell (p := ⟨wv.heap.size, 0, none⟩) (by simp; omega) (.int .i64 H.a)).setCell (p := ⟨wv.heap.size, 1, none⟩) (by simp; omega) (.int .i64 H.r)).setCell (p := ⟨wv.heap.size, 2, none⟩) (by simp; omega) (.slice adb H.bs.length capb)).setCell (p := ⟨wv.heap.size, 3, none⟩) (by simp; omega) (.slice adp H.ps.length capp)).setCell (p := ⟨wv.heap.size, 4, none⟩) (by simp; omega) (.slice adv V.length capv))) (fun hHeld => ?_)
            clear hK K
            try simp only [Act.put, List.getElem_toArray, List.getElem_cons_succ, List.getElem_cons_zero, List.setIfInBounds_toArray, List.set_cons_zero, List.set_cons_succ]
            refine wpAnyH_done (by kernel_rfl) ?_ _
            go_wp2
            go_meet
            have qRB := RB.out.mono (G' := fun b => b ≠ wv.heap.size) (fun b hb => by have h1 := hb.1; have h2 := hb.2; show b ≠ wv.heap.size; omega)
            have qRP := RP.out.mono (G' := fun b => b ≠ wv.heap.size) (fun b hb => by have h1 := hb.1; have h2 := hb.2; show b ≠ wv.heap.size; omega)
            have qRV := RV.out.mono (G' := fun b => b ≠ wv.heap.size) (fun b hb => by have h1 := hb.1; have h2 := hb.2; show b ≠ wv.heap.size; omega)
            have RB2 := Lib.hid qRB
            have RP2 := Lib.hid qRP
            have RV2 := Lib.hid qRV
            exact ⟨wv.heap.size, adb, capb, adp, capp, adv, capv, rfl, by omega, (((((FA1.out.set 0 (.int .i64 H.a)).set 1 (.int .i64 H.r)).set 2 (.slice adb H.bs.length capb)).set 3 (.slice adp H.ps.length capp)).set 4 (.slice adv V.length capv)), (((((RB2.out.keep (G' := fun b => b ≠ wv.heap.size) (Keep.setCell (p := ⟨wv.heap.size, 0, none⟩) (by simp) (.int .i64 H.a)) (fun _ h => h)).keep (G' := fun b => b ≠ wv.heap.size) (Keep.setCell (p := ⟨wv.heap.size, 1, none⟩) (by simp) (.int .i64 H.r)) (fun _ h => h)).keep (G' := fun b => b ≠ wv.heap.size) (Keep.setCell (p := ⟨wv.heap.size, 2, none⟩) (by simp) (.slice adb H.bs.length capb)) (fun _ h => h)).keep (G' := fun b => b ≠ wv.heap.size) (Keep.setCell (p := ⟨wv.heap.size, 3, none⟩) (by simp) (.slice adp H.ps.length capp)) (fun _ h => h)).keep (G' := fun b => b ≠ wv.heap.size) (Keep.setCell (p := ⟨wv.heap.size, 4, none⟩) (by simp) (.slice adv V.length capv)) (fun _ h => h)), (((((RP2.out.keep (G' := fun b => b ≠ wv.heap.size) (Keep.setCell (p := ⟨wv.heap.size, 0, none⟩) (by simp) (.int .i64 H.a)) (fun _ h => h)).keep (G' := fun b => b ≠ wv.heap.size) (Keep.setCell (p := ⟨wv.heap.size, 1, none⟩) (by simp) (.int .i64 H.r)) (fun _ h => h)).keep (G' := fun b => b ≠ wv.heap.size) (Keep.setCell (p := ⟨wv.heap.size, 2, none⟩) (by simp) (.slice adb H.bs.length capb)) (fun _ h => h)).keep (G' := fun b => b ≠ wv.heap.size) (Keep.setCell (p := ⟨wv.heap.size, 3, none⟩) (by simp) (.slice adp H.ps.length capp)) (fun _ h => h)).keep (G' := fun b => b ≠ wv.heap.size) (Keep.setCell (p := ⟨wv.heap.size, 4, none⟩) (by simp) (.slice adv V.length capv)) (fun _ h => h)), (((((RV2.out.keep (G' := fun b => b ≠ wv.heap.size) (Keep.setCell (p := ⟨wv.heap.size, 0, none⟩) (by simp) (.int .i64 H.a)) (fun _ h => h)).keep (G' := fun b => b ≠ wv.heap.size) (Keep.setCell (p := ⟨wv.heap.size, 1, none⟩) (by simp) (.int .i64 H.r)) (fun _ h => h)).keep (G' := fun b => b ≠ wv.heap.size) (Keep.setCell (p := ⟨wv.heap.size, 2, none⟩) (by simp) (.slice adb H.bs.length capb)) (fun _ h => h)).keep (G' := fun b => b ≠ wv.heap.size) (Keep.setCell (p := ⟨wv.heap.size, 3, none⟩) (by simp) (.slice adp H.ps.length capp)) (fun _ h => h)).keep (G' := fun b => b ≠ wv.heap.size) (Keep.setCell (p := ⟨wv.heap.size, 4, none⟩) (by simp) (.slice adv V.length capv)) (fun _ h => h)), (((((HBwa1.out.setCell (p := ⟨wv.heap.size, 0, none⟩) (by simp; omega) (.int .i64 H.a)).setCell (p := ⟨wv.heap.size, 1, none⟩) (by simp; omega) (.int .i64 H.r)).setCell (p := ⟨wv.heap.size, 2, none⟩) (by simp; omega) (.slice adb H.bs.length capb)).setCell (p := ⟨wv.heap.size, 3, none⟩) (by simp; omega) (.slice adp H.ps.length capp)).setCell (p := ⟨wv.heap.size, 4, none⟩) (by simp; omega) (.slice adv V.length capv))⟩
          exact AllReadyH.nil
        exact AllReadyH.nil
      refine AllReadyH.cons rfl (fun K hK => ?_) ?_
      · rw [if_pos (by rfl)]
        go_simp
        show K _ _
        refine hK.out _ _ (by exact (HBwh.out.alloc (Below.size HBwh.out) _)) (fun hHeld => ?_)
        clear hK K
        try simp only [Act.put, List.getElem_toArray, List.getElem_cons_succ, List.getElem_cons_zero, List.setIfInBounds_toArray, List.set_cons_zero, List.set_cons_succ]
        obtain ⟨wa1, hwn⟩ : ∃ wa1, wa1 = wh.alloc (.cells #[.int .i64 0, .int .i64 0, .slice none 0 0, .slice none 0 0, .slice none 0 0] 32) := ⟨_, rfl⟩
        have FA1 := Lib.hid (show BoxAt wa1 (wh.heap.size) [.int .i64 0, .int .i64 0, .slice none 0 0, .slice none 0 0, .slice none 0 0] 32 by rw [hwn]; exact BoxAt.newAt wh [.int .i64 0, .int .i64 0, .slice none 0 0, .slice none 0 0, .slice none 0 0] 32 rfl)
        have hq := RB.out.below ((Below.refl wh.heap.size wh).alloc (Nat.le_refl _) (.cells #[.int .i64 0, .int .i64 0, .slice none 0 0, .slice none 0 0, .slice none 0 0] 32)) (fun _ h => h)
        rw [← hwn] at hq
        replace RB := Lib.hid hq
        clear hq
        have hq := RP.out.below ((Below.refl wh.heap.size wh).alloc (Nat.le_refl _) (.cells #[.int .i64 0, .int .i64 0, .slice none 0 0, .slice none 0 0, .slice none 0 0] 32)) (fun _ h => h)
        rw [← hwn] at hq
        replace RP := Lib.hid hq
        clear hq
        have HBwa1 := Lib.hid (show Below w2.heap.size w2 wa1 by rw [hwn]; exact HBwh.out.alloc (Below.size HBwh.out) _)
        rw [← hwn] at hHeld ⊢
        clear hwn
        have zwa1 := FA1.out.lt
        refine wpAnyH_ready (rs := [4]) (by kernel_rfl) (by simp) ?_
        refine AllReadyH.cons rfl (fun K hK => ?_) ?_
        · rw [if_pos (by rfl)]
          go_simp
          go_at_call 16
          refine (voters_any r.c _ c1 c2).mono ?_
          rintro e wv ⟨vv, rfl, hov, hb_wv⟩
          rw [HVo.out] at hov
          obtain ⟨adv, capv, rfl⟩ := ownsRow_form hov
          have hrv : RdI (fun b => wa1.heap.size ≤ b ∧ b < wv.heap.size) wv (.slice adv V.length capv) V := (RdS.of_owns (G := fun b => wa1.heap.size ≤ b) hov (fun b hb => hb)).low (by decide)
          have HBwv := Lib.hid (HBwa1.out.trans (hb_wv.mono (Below.size HBwa1.out)))
          replace FA1 := Lib.hid (FA1.out.belowS hb_wv)
          replace RB := Lib.hid (RB.out.below hb_wv (fun _ h => h))
          replace RP := Lib.hid (RP.out.below hb_wv (fun _ h => h))
          have RV := Lib.hid hrv
          have zwv := hb_wv.size
          clear hov hrv hb_wv
          show K _ _
          refine hK.out _ _ (by exact HBwv.out) (fun hHeld => ?_)
          clear hK K
          try simp only [Act.put, List.getElem_toArray, List.getElem_cons_succ, List.getElem_cons_zero, List.setIfInBounds_toArray, List.set_cons_zero, List.set_cons_succ]
          refine wpAnyH_take (i := 5) (v := .agg #[.int .i64 H.a, .int .i64 H.r, .slice adb H.bs.length capb, .slice adp H.ps.length capp, .slice adv V.length capv]) rfl (by kernel_rfl) (by kernel_rfl) (by kernel_rfl) (fun _ _ _ h => h) (Or.inl ⟨by rfl, fun w hSw => ?_⟩) hHeld ?_
          · clear hSw; go_simp; all_goals (try first | rfl | omega)
          try simp only [Act.put, List.getElem_toArray, List.getElem_cons_succ, List.getElem_cons_zero, List.setIfInBounds_toArray, List.set_cons_zero, List.set_cons_succ]
          refine wpAnyH_ready (rs := [7]) (by kernel_rfl) (by simp) ?_
          refine AllReadyH.cons rfl (fun K hK => ?_) ?_
          · rw [if_pos (by rfl)]
            have q0 := FA1.out.cell 0 rfl
            have q1 := FA1.out.cell 1 rfl
            have q2 := FA1.out.cell 2 rfl
            have q3 := FA1.out.cell 3 rfl
            have q4 := FA1.out.cell 4 rfl
            have qf0 := FA1.out.free 0
            have qf1 := FA1.out.free 1
            have qf2 := FA1.out.free 2
            have qf3 := FA1.out.free 3
            have qf4 := FA1.out.free 4
            have qz := FA1.out.lt
            go_simp
            show K _ _
            refine hK.out _ _ (by exact (((((HBwv.out.setCell (p := ⟨wh.heap.size, 0, none⟩) (by simp; omega) (.int .i64 H.a)).setCell (p := ⟨wh.heap.size, 1, none⟩) (by simp; omega) (.int .i64 H.r)).setCell (p := ⟨wh.heap.size, 2, none⟩) (by simp; omega) (.slice adb H.bs.length capb)).setCell (p := ⟨wh.heap.size, 3, none⟩) (by simp; omega) (.slice adp H.ps.length capp)).setCell (p := ⟨wh.heap.size, 4, none⟩) (by simp; omega) (.slice adv V.length capv))) (fun hHeld => ?_)
            clear hK K
            try simp only [Act.put, List.getElem_toArray, List.getElem_cons_succ, List.getElem_cons_zero, List.setIfInBounds_toArray, List.set_cons_zero, List.set_cons_succ]
            refine wpAnyH_done (by kernel_rfl) ?_ _
            go_wp2
            go_meet
            have qRB := RB.out.mono (G' := fun b => b ≠ wh.heap.size) (fun b hb => by have h1 := hb.1; have h2 := hb.2; show b ≠ wh.heap.size; omega)
            have qRP := RP.out.mono (G' := fun b => b ≠ wh.heap.size) (fun b hb => by have h1 := hb.1; have h2 := hb.2; show b ≠ wh.heap.size; omega)
            have qRV := RV.out.mono (G' := fun b => b ≠ wh.heap.size) (fun b hb => by have h1 := hb.1; have h2 := hb.2; show b ≠ wh.heap.size; omega)
            have RB2 := Lib.hid qRB
            have RP2 := Lib.hid qRP
            have RV2 := Lib.hid qRV
            exact ⟨wh.heap.size, adb, capb, adp, capp, adv, capv, rfl, by omega, (((((FA1.out.set 0 (.int .i64 H.a)).set 1 (.int .i64 H.r)).set 2 (.slice adb H.bs.length capb)).set 3 (.slice adp H.ps.length capp)).set 4 (.slice adv V.length capv)), (((((RB2.out.keep (G' := fun b => b ≠ wh.heap.size) (Keep.setCell (p := ⟨wh.heap.size, 0, none⟩) (by simp) (.int .i64 H.a)) (fun _ h => h)).keep (G' := fun b => b ≠ wh.heap.size) (Keep.setCell (p := ⟨wh.heap.size, 1, none⟩) (by simp) (.int .i64 H.r)) (fun _ h => h)).keep (G' := fun b => b ≠ wh.heap.size) (Keep.setCell (p := ⟨wh.heap.size, 2, none⟩) (by simp) (.slice adb H.bs.length capb)) (fun _ h => h)).keep (G' := fun b => b ≠ wh.heap.size) (Keep.setCell (p := ⟨wh.heap.size, 3, none⟩) (by simp) (.slice adp H.ps.length capp)) (fun _ h => h)).keep (G' := fun b => b ≠ wh.heap.size) (Keep.setCell (p := ⟨wh.heap.size, 4, none⟩) (by simp) (.slice adv V.length capv)) (fun _ h => h)), (((((RP2.out.keep (G' := fun b => b ≠ wh.heap.size) (Keep.setCell (p := ⟨wh.heap.size, 0, none⟩) (by simp) (.int .i64 H.a)) (fun _ h => h)).keep (G' := fun b => b ≠ wh.heap.size) (Keep.setCell (p := ⟨wh.heap.size, 1, none⟩) (by simp) (.int .i64 H.r)) (fun _ h => h)).keep (G' := fun b => b ≠ wh.heap.size) (Keep.setCell (p := ⟨wh.heap.size, 2, none⟩) (by simp) (.slice adb H.bs.length capb)) (fun _ h => h)).keep (G' := fun b => b ≠ wh.heap.size) (Keep.setCell (p := ⟨wh.heap.size, 3, none⟩) (by simp) (.slice adp H.ps.length capp)) (fun _ h => h)).keep (G' := fun b => b ≠ wh.heap.size) (Keep.setCell (p := ⟨wh.heap.size, 4, none⟩) (by simp) (.slice adv V.length capv)) (fun _ h => h)), (((((RV2.out.keep (G' := fun b => b ≠ wh.heap.size) (Keep.setCell (p := ⟨wh.heap.size, 0, none⟩) (by simp) (.int .i64 H.a)) (fun _ h => h)).keep (G' := fun b => b ≠ wh.heap.size) (Keep.setCell (p := ⟨wh.heap.size, 1, none⟩) (by simp) (.int .i64 H.r)) (fun _ h => h)).keep (G' := fun b => b ≠ wh.heap.size) (Keep.setCell (p := ⟨wh.heap.size, 2, none⟩) (by simp) (.slice adb H.bs.length capb)) (fun _ h => h)).keep (G' := fun b => b ≠ wh.heap.size) (Keep.setCell (p := ⟨wh.heap.size, 3, none⟩) (by simp) (.slice adp H.ps.length capp)) (fun _ h => h)).keep (G' := fun b => b ≠ wh.heap.size) (Keep.setCell (p := ⟨wh.heap.size, 4, none⟩) (by simp) (.slice adv V.length capv)) (fun _ h => h)), (((((HBwv.out.setCell (p := ⟨wh.heap.size, 0, none⟩) (by simp; omega) (.int .i64 H.a)).setCell (p := ⟨wh.heap.size, 1, none⟩) (by simp; omega) (.int .i64 H.r)).setCell (p := ⟨wh.heap.size, 2, none⟩) (by simp; omega) (.slice adb H.bs.length capb)).setCell (p := ⟨wh.heap.size, 3, none⟩) (by simp; omega) (.slice adp H.ps.length capp)).setCell (p := ⟨wh.heap.size, 4, none⟩) (by simp; omega) (.slice adv V.length capv))⟩
          exact AllReadyH.nil
        exact AllReadyH.nil
      exact AllReadyH.nil
    refine AllReadyH.cons rfl (fun K hK => ?_) ?_
    · rw [if_pos (by rfl)]
      go_simp
      show K _ _
      refine hK.out _ _ (by exact (HBd.out.alloc (Below.size HBd.out) _)) (fun hHeld => ?_)
      clear hK K
      try simp only [Act.put, List.getElem_toArray, List.getElem_cons_succ, List.getElem_cons_zero, List.setIfInBounds_toArray, List.set_cons_zero, List.set_cons_succ]
      obtain ⟨wa1, hwn⟩ : ∃ wa1, wa1 = wd.alloc (.cells #[.int .i64 0, .int .i64 0, .slice none 0 0, .slice none 0 0, .slice none 0 0] 32) := ⟨_, rfl⟩
      have FA1 := Lib.hid (show BoxAt wa1 (wd.heap.size) [.int .i64 0, .int .i64 0, .slice none 0 0, .slice none 0 0, .slice none 0 0] 32 by rw [hwn]; exact BoxAt.newAt wd [.int .i64 0, .int .i64 0, .slice none 0 0, .slice none 0 0, .slice none 0 0] 32 rfl)
      have HBwa1 := Lib.hid (show Below w2.heap.size w2 wa1 by rw [hwn]; exact HBd.out.alloc (Below.size HBd.out) _)
      rw [← hwn] at hHeld ⊢
      clear hwn
      have zwa1 := FA1.out.lt
      refine wpAnyH_ready (rs := [1]) (by kernel_rfl) (by simp) ?_
      refine AllReadyH.cons rfl (fun K hK => ?_) ?_
      · rw [if_pos (by rfl)]
        go_simp
        go_at_call 15
        refine (header_any r.k r.a r.b r.c vt _ a1 a2 b1 b2 c1 c2 hone).mono ?_
        rintro e wh ⟨adb, capb, adp, capp, rfl, hbb, hpp, hb_wh⟩
        rw [← HH.out] at hbb hpp ⊢
        have HBwh := Lib.hid (HBwa1.out.trans (hb_wh.mono (Below.size HBwa1.out)))
        replace FA1 := Lib.hid (FA1.out.belowS hb_wh)
        have RB := Lib.hid (show RdBB (fun b => wa1.heap.size ≤ b ∧ b < wh.heap.size) wh (.slice adb H.bs.length capb) H.bs from hbb.low (by decide))
        have RP := Lib.hid (show RdBB (fun b => wa1.heap.size ≤ b ∧ b < wh.heap.size) wh (.slice adp H.ps.length capp) H.ps from hpp.low (by decide))
        have zwh := hb_wh.size
        clear hbb hpp hb_wh
        show K _ _
        refine hK.out _ _ (by exact HBwh.out) (fun hHeld => ?_)
        clear hK K
        try simp only [Act.put, List.getElem_toArray, List.getElem_cons_succ, List.getElem_cons_zero, List.setIfInBounds_toArray, List.set_cons_zero, List.set_cons_succ]
        refine wpAnyH_ready (rs := [4]) (by kernel_rfl) (by simp) ?_
        refine AllReadyH.cons rfl (fun K hK => ?_) ?_
        · rw [if_pos (by rfl)]
          go_simp
          go_at_call 16
          refine (voters_any r.c _ c1 c2).mono ?_
          rintro e wv ⟨vv, rfl, hov, hb_wv⟩
          rw [HVo.out] at hov
          obtain ⟨adv, capv, rfl⟩ := ownsRow_form hov
          have hrv : RdI (fun b => wh.heap.size ≤ b ∧ b < wv.heap.size) wv (.slice adv V.length capv) V := (RdS.of_owns (G := fun b => wh.heap.size ≤ b) hov (fun b hb => hb)).low (by decide)
          have HBwv := Lib.hid (HBwh.out.trans (hb_wv.mono (Below.size HBwh.out)))
          replace FA1 := Lib.hid (FA1.out.belowS hb_wv)
          replace RB := Lib.hid (RB.out.below hb_wv (fun _ h => h))
          replace RP := Lib.hid (RP.out.below hb_wv (fun _ h => h))
          have RV := Lib.hid hrv
          have zwv := hb_wv.size
          clear hov hrv hb_wv
          show K _ _
          refine hK.out _ _ (by exact HBwv.out) (fun hHeld => ?_)
          clear hK K
          try simp only [Act.put, List.getElem_toArray, List.getElem_cons_succ, List.getElem_cons_zero, List.setIfInBounds_toArray, List.set_cons_zero, List.set_cons_succ]
          refine wpAnyH_take (i := 5) (v := .agg #[.int .i64 H.a, .int .i64 H.r, .slice adb H.bs.length capb, .slice adp H.ps.length capp, .slice adv V.length capv]) rfl (by kernel_rfl) (by kernel_rfl) (by kernel_rfl) (fun _ _ _ h => h) (Or.inl ⟨by rfl, fun w hSw => ?_⟩) hHeld ?_
          · clear hSw; go_simp; all_goals (try first | rfl | omega)
          try simp only [Act.put, List.getElem_toArray, List.getElem_cons_succ, List.getElem_cons_zero, List.setIfInBounds_toArray, List.set_cons_zero, List.set_cons_succ]
          refine wpAnyH_ready (rs := [7]) (by kernel_rfl) (by simp) ?_
          refine AllReadyH.cons rfl (fun K hK => ?_) ?_
          · rw [if_pos (by rfl)]
            have q0 := FA1.out.cell 0 rfl
            have q1 := FA1.out.cell 1 rfl
            have q2 := FA1.out.cell 2 rfl
            have q3 := FA1.out.cell 3 rfl
            have q4 := FA1.out.cell 4 rfl
            have qf0 := FA1.out.free 0
            have qf1 := FA1.out.free 1
            have qf2 := FA1.out.free 2
            have qf3 := FA1.out.free 3
            have qf4 := FA1.out.free 4
            have qz := FA1.out.lt
            go_simp
            show K _ _
            refine hK.out _ _ (by exact (((((HBwv.out.setCell (p := ⟨wd.heap.size, 0, none⟩) (by simp; omega) (.int .i64 H.a)).setCell (p := ⟨wd.heap.size, 1, none⟩) (by simp; omega) (.int .i64 H.r)).setCell (p := ⟨wd.heap.size, 2, none⟩) (by simp; omega) (.slice adb H.bs.length capb)).setCell (p := ⟨wd.heap.size, 3, none⟩) (by simp; omega) (.slice adp H.ps.length capp)).setCell (p := ⟨wd.heap.size, 4, none⟩) (by simp; omega) (.slice adv V.length capv))) (fun hHeld => ?_)
            clear hK K
            try simp only [Act.put, List.getElem_toArray, List.getElem_cons_succ, List.getElem_cons_zero, List.setIfInBounds_toArray, List.set_cons_zero, List.set_cons_succ]
            refine wpAnyH_done (by kernel_rfl) ?_ _
            go_wp2
            go_meet
            have qRB := RB.out.mono (G' := fun b => b ≠ wd.heap.size) (fun b hb => by have h1 := hb.1; have h2 := hb.2; show b ≠ wd.heap.size; omega)
            have qRP := RP.out.mono (G' := fun b => b ≠ wd.heap.size) (fun b hb => by have h1 := hb.1; have h2 := hb.2; show b ≠ wd.heap.size; omega)
            have qRV := RV.out.mono (G' := fun b => b ≠ wd.heap.size) (fun b hb => by have h1 := hb.1; have h2 := hb.2; show b ≠ wd.heap.size; omega)
            have RB2 := Lib.hid qRB
            have RP2 := Lib.hid qRP
            have RV2 := Lib.hid qRV
            exact ⟨wd.heap.size, adb, capb, adp, capp, adv, capv, rfl, by omega, (((((FA1.out.set 0 (.int .i64 H.a)).set 1 (.int .i64 H.r)).set 2 (.slice adb H.bs.length capb)).set 3 (.slice adp H.ps.length capp)).set 4 (.slice adv V.length capv)), (((((RB2.out.keep (G' := fun b => b ≠ wd.heap.size) (Keep.setCell (p := ⟨wd.heap.size, 0, none⟩) (by simp) (.int .i64 H.a)) (fun _ h => h)).keep (G' := fun b => b ≠ wd.heap.size) (Keep.setCell (p := ⟨wd.heap.size, 1, none⟩) (by simp) (.int .i64 H.r)) (fun _ h => h)).keep (G' := fun b => b ≠ wd.heap.size) (Keep.setCell (p := ⟨wd.heap.size, 2, none⟩) (by simp) (.slice adb H.bs.length capb)) (fun _ h => h)).keep (G' := fun b => b ≠ wd.heap.size) (Keep.setCell (p := ⟨wd.heap.size, 3, none⟩) (by simp) (.slice adp H.ps.length capp)) (fun _ h => h)).keep (G' := fun b => b ≠ wd.heap.size) (Keep.setCell (p := ⟨wd.heap.size, 4, none⟩) (by simp) (.slice adv V.length capv)) (fun _ h => h)), (((((RP2.out.keep (G' := fun b => b ≠ wd.heap.size) (Keep.setCell (p := ⟨wd.heap.size, 0, none⟩) (by simp) (.int .i64 H.a)) (fun _ h => h)).keep (G' := fun b => b ≠ wd.heap.size) (Keep.setCell (p := ⟨wd.heap.size, 1, none⟩) (by simp) (.int .i64 H.r)) (fun _ h => h)).keep (G' := fun b => b ≠ wd.heap.size) (Keep.setCell (p := ⟨wd.heap.size, 2, none⟩) (by simp) (.slice adb H.bs.length capb)) (fun _ h => h)).keep (G' := fun b => b ≠ wd.heap.size) (Keep.setCell (p := ⟨wd.heap.size, 3, none⟩) (by simp) (.slice adp H.ps.length capp)) (fun _ h => h)).keep (G' := fun b => b ≠ wd.heap.size) (Keep.setCell (p := ⟨wd.heap.size, 4, none⟩) (by simp) (.slice adv V.length capv)) (fun _ h => h)), (((((RV2.out.keep (G' := fun b => b ≠ wd.heap.size) (Keep.setCell (p := ⟨wd.heap.size, 0, none⟩) (by simp) (.int .i64 H.a)) (fun _ h => h)).keep (G' := fun b => b ≠ wd.heap.size) (Keep.setCell (p := ⟨wd.heap.size, 1, none⟩) (by simp) (.int .i64 H.r)) (fun _ h => h)).keep (G' := fun b => b ≠ wd.heap.size) (Keep.setCell (p := ⟨wd.heap.size, 2, none⟩) (by simp) (.slice adb H.bs.length capb)) (fun _ h => h)).keep (G' := fun b => b ≠ wd.heap.size) (Keep.setCell (p := ⟨wd.heap.size, 3, none⟩) (by simp) (.slice adp H.ps.length capp)) (fun _ h => h)).keep (G' := fun b => b ≠ wd.heap.size) (Keep.setCell (p := ⟨wd.heap.size, 4, none⟩) (by simp) (.slice adv V.length capv)) (fun _ h => h)), (((((HBwv.out.setCell (p := ⟨wd.heap.size, 0, none⟩) (by simp; omega) (.int .i64 H.a)).setCell (p := ⟨wd.heap.size, 1, none⟩) (by simp; omega) (.int .i64 H.r)).setCell (p := ⟨wd.heap.size, 2, none⟩) (by simp; omega) (.slice adb H.bs.length capb)).setCell (p := ⟨wd.heap.size, 3, none⟩) (by simp; omega) (.slice adp H.ps.length capp)).setCell (p := ⟨wd.heap.size, 4, none⟩) (by simp; omega) (.slice adv V.length capv))⟩
          exact AllReadyH.nil
        exact AllReadyH.nil
      exact AllReadyH.nil
    exact AllReadyH.nil
  case rest =>
  obtain ⟨P, adb, capb, adp, capp, adv, capv, rfl, hP, hBP, hb', hp', hv', hB3⟩ := hcut
  rename World => w3
  have HC := Lib.hid hBP
  have H1 := Lib.hid hb'
  have H2 := Lib.hid hp'
  have H3 := Lib.hid hv'
  replace HX := Lib.hid (HX.out.belowS hB3)
  replace HRW := Lib.hid (HRW.out.belowS hB3)
  replace HD := Lib.hid (((HD.out.low (by decide)).mono (G' := fun b => b < w2.heap.size) (fun b hb => hb.2)).below hB3 (fun _ h => h))
  replace HB := Lib.hid (HB.out.trans (hB3.mono HB.out.size))
  have hz3 := HX.out.lt
  have hzP := HC.out.lt
  have hcv := hv'.len
  have hzw := HB.out.size
  clear hBP hB3 hb' hp' hv'
  have y4 := HC.out.cell 4 rfl
  have yf4 := HC.out.free 4
  have l1 : (1 : Int) ≤ (V.length : Int) := by omega
  have l2 : (1 : Int) ≤ (capv : Int) := by omega
  have l3 : 1 ≤ capv := by omega
  go_upto_region 4 with fail
  clear y4 yf4
  obtain ⟨w4, hw4⟩ : ∃ w4, w4 = w3.setCell ⟨P, 4, none⟩ (.slice adv 1 capv) := ⟨_, rfl⟩
  rw [← hw4]
  have hK4 : Keep (fun b => b ≠ P) w3 w4 := by rw [hw4]; exact Keep.setCell (by simp) _
  replace HC := Lib.hid (show BoxAt w4 P [.int .i64 H.a, .int .i64 H.r, .slice adb H.bs.length capb, .slice adp H.ps.length capp, .slice adv 1 capv] 32 by rw [hw4]; exact HC.out.set 4 _)
  replace H1 := Lib.hid (H1.out.keep (G' := fun _ => True) hK4 (fun _ _ => trivial))
  replace H2 := Lib.hid (H2.out.keep (G' := fun _ => True) hK4 (fun _ _ => trivial))
  replace H3 := Lib.hid ((H3.out.keep (G' := fun _ => True) hK4 (fun _ _ => trivial)).take 1 (by omega))
  replace HX := Lib.hid (show BoxAt w4 w1.heap.size _ _ by rw [hw4]; exact HX.out.setOther (by simp; omega) _)
  replace HRW := Lib.hid (show BoxAt w4 w.heap.size _ _ by rw [hw4]; exact HRW.out.setOther (by simp; omega) _)
  replace HD := Lib.hid (HD.out.keep (G' := fun _ => True) (hK4.mono (fun b hb => by have h0 : b < w2.heap.size := hb; omega)) (fun _ _ => trivial))
  replace HB := Lib.hid (show Below w.heap.size w w4 by rw [hw4]; exact HB.out.setCell (by simp; omega) _)
  rw [HVT.out] at H3
  clear hw4 hK4
  have x0 := HX.out.cell 0 rfl
  have y0 := HC.out.cell 0 rfl
  have y1 := HC.out.cell 1 rfl
  have y2 := HC.out.cell 2 rfl
  have y3 := HC.out.cell 3 rfl
  have y4 := HC.out.cell 4 rfl
  go_wp2_with fail
  refine (dagInsert_any ⟨H, [uu]⟩ _ _ _ _ _ HD.out H1.out H2.out H3.out (HT.out.belowS HB.out)).mono ?_
  rintro e w5 ⟨v5, rfl, h5, hb5⟩
  have HF := Lib.hid (few_code (l := L) HOK.out HOKH.out HVN.out)
  rw [HF.out]
  rw [insL_no (by rw [HF.out]; decide)] at h5
  obtain ⟨ad5, cap5, rfl, -, -⟩ := h5.form
  replace HX := Lib.hid (HX.out.belowS hb5)
  replace HRW := Lib.hid (HRW.out.belowS hb5)
  replace HD := Lib.hid (HD.out.below hb5 (fun _ h => h))
  replace HB := Lib.hid (HB.out.trans (hb5.mono HB.out.size))
  clear x0 y0 y1 y2 y3 y4 h5 hb5 H1 H2 H3 HC
  go_upto_region 5 with fail
  obtain ⟨w6, hw6⟩ : ∃ w6, w6 = w5.alloc (.cells #[.slice ad5 ([] : List Crt).length cap5] 59) := ⟨_, rfl⟩
  have HX8 := Lib.hid (show BoxAt w6 w5.heap.size [.slice ad5 0 cap5] 59 by rw [hw6]; exact BoxAt.new w5 [_] _)
  have hB6 : Below w5.heap.size w5 w6 := by rw [hw6]; exact (Below.refl _ _).alloc (Nat.le_refl _) _
  simp only [List.length_nil] at hw6 ⊢
  rw [← hw6]
  replace HX := Lib.hid (HX.out.belowS hB6)
  replace HRW := Lib.hid (HRW.out.belowS hB6)
  replace HD := Lib.hid (HD.out.below hB6 (fun _ h => h))
  replace HB := Lib.hid (HB.out.trans (hB6.mono HB.out.size))
  clear hw6 hB6
  have y0 := HRW.out.cell 0 rfl
  have y1 := HRW.out.cell 1 rfl
  have y2 := HRW.out.cell 2 rfl
  have y3 := HRW.out.cell 3 rfl
  have y4 := HRW.out.cell 4 rfl
  go_wp2_with fail
  refine (header_any r.k r.a r.b r.c vt _ a1 a2 b1 b2 c1 c2 hone).mono ?_
  rintro e w7 ⟨adb, capb, adp, capp, rfl, hbb, hpp, hb7⟩
  rw [← HH.out] at hbb hpp ⊢
  have H1 := Lib.hid (show RdBB (fun b => w6.heap.size ≤ b ∧ b < w7.heap.size) w7 (.slice adb H.bs.length capb) H.bs from hbb.low (by decide))
  have H2 := Lib.hid (show RdBB (fun b => w6.heap.size ≤ b ∧ b < w7.heap.size) w7 (.slice adp H.ps.length capp) H.ps from hpp.low (by decide))
  replace HX := Lib.hid (HX.out.belowS hb7)
  replace HX8 := Lib.hid (HX8.out.belowS hb7)
  replace HD := Lib.hid ((HD.out.low (by decide)).below hb7 (fun _ h => h))
  replace HB := Lib.hid (HB.out.trans (hb7.mono HB.out.size))
  have zb7 := hb7.size
  have zx7 := HX.out.lt
  have zx87 := HX8.out.lt
  have zBw := HB.out.size
  clear hbb hpp hb7 y0 y1 y2 y3 y4 HRW
  go_upto_region 7 with fail
  obtain ⟨w8, hw8⟩ : ∃ w8, w8 = w7.alloc (.cells #[.int .i64 (-1), .int .i64 H.r, .slice adb H.bs.length capb, .slice adp H.ps.length capp] 27) := ⟨_, rfl⟩
  have HG := Lib.hid (show BoxAt w8 w7.heap.size [.int .i64 (-1), .int .i64 H.r, .slice adb H.bs.length capb, .slice adp H.ps.length capp] 27 by rw [hw8]; exact BoxAt.new w7 [_, _, _, _] _)
  have hB8 : Below w7.heap.size w7 w8 := by rw [hw8]; exact (Below.refl _ _).alloc (Nat.le_refl _) _
  rw [← hw8]
  replace HX := Lib.hid (HX.out.belowS hB8)
  replace HX8 := Lib.hid (HX8.out.belowS hB8)
  replace HD := Lib.hid (HD.out.below hB8 (fun _ h => h))
  replace H1 := Lib.hid (H1.out.below hB8 (fun _ h => h))
  replace H2 := Lib.hid (H2.out.below hB8 (fun _ h => h))
  replace HB := Lib.hid (HB.out.trans (hB8.mono HB.out.size))
  clear hw8 hB8
  have x0 := HX.out.cell 0 rfl
  have y0 := HG.out.cell 0 rfl
  have y1 := HG.out.cell 1 rfl
  have y2 := HG.out.cell 2 rfl
  have y3 := HG.out.cell 3 rfl
  go_wp2_with fail
  refine (dagMissing_any ⟨-1, H.r, H.bs, H.ps⟩ _ _ _ _ HD.out H1.out H2.out (HT.out.belowS HB.out) HOK.out).mono ?_
  rintro e w9 ⟨v9, rfl, -, hb9⟩
  rw [mis_range]
  replace HX8 := Lib.hid (HX8.out.belowS hb9)
  replace HB := Lib.hid (HB.out.trans (hb9.mono HB.out.size))
  clear x0 y0 y1 y2 y3 hb9
  have x8 := HX8.out.cell 0 rfl
  go_wp2
  go_ret
  exact ⟨rfl, HB.out⟩
end Go.Proofs.YtialhdmdeggenaaDoor
