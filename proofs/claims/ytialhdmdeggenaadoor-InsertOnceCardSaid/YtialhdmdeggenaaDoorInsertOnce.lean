/- InsertOnce: the walk. -/
import Derived.Test.YtialhdmdeggenaaDoorInsLaw
set_option linter.unusedVariables false
set_option linter.unusedSimpArgs false
attribute [local go_sem ↓] Go.wp_at_zero Go.wp_at_succ
namespace Go.Proofs.YtialhdmdeggenaaDoor
open Go Go.RowKit

set_option maxRecDepth 100000 in
set_option maxHeartbeats 8000000 in
theorem insertOnce_walk (v : Value) (l : List Stp) (n : Int) (w : World) (hv : RdS RStp (fun _ => True) w v l) (hz : l.length * 24 ≤ reachBytes) (n1 : -9223372036854775808 ≤ n) (n2 : n ≤ 9223372036854775807) (ht : Tabs w) :
    Calls Tryd.prog 14 #[v, .int .i64 n] w fun e w' => e = .returned (.bool true) ∧ Below w.heap.size w w' := by
  have HT := Lib.hid ht
  go_enter Tryd.func14, Tryd.ntmps14
  go_wp2_with fail
  refine (grown_any _ _ hv hz ht).mono ?_
  rintro e w1 ⟨vd, vb, rfl, hd, -, hb1⟩
  obtain ⟨add, capd, rfl, -, -⟩ := hd.form
  have HD1 := Lib.hid hd
  have HB1 := Lib.hid hb1
  clear hd hb1 ht hv
  go_upto_region 2 with fail
  obtain ⟨w2, hw2⟩ : ∃ w2, w2 = w1.alloc (.cells #[.slice add (grownL l).length capd] 59) := ⟨_, rfl⟩
  have HX := Lib.hid (show BoxAt w2 w1.heap.size [.slice add (grownL l).length capd] 59 by rw [hw2]; exact BoxAt.new w1 [_] _)
  have hB2 : Below w1.heap.size w1 w2 := by rw [hw2]; exact (Below.refl _ _).alloc (Nat.le_refl _) _
  rw [← hw2]
  have HD := Lib.hid ((HD1.out.mono (G' := fun _ => True) (fun _ _ => trivial)).below hB2 (fun _ h => h))
  have HB := Lib.hid (HB1.out.trans (hB2.mono HB1.out.size))
  have HOK := Lib.hid (grown_ok l)
  have hz2 := HX.out.lt
  clear hw2 hB2 HD1 HB1
  have hgp := grown_pos l
  have hg4 := grown_len l
  have HTW := Lib.hid (fun c (hc : c ∈ grownL l) => grown_twice l hc)
  have HTO := Lib.hid (fun c (hc : c ∈ grownL l) => grown_other l (d := someL n 99) hc (someL_length _ _))
  generalize grownL l = L at *
  have x0 := HX.out.cell 0 rfl
  have e0 : ((L.length : Int) == 0) = false := by rw [beq_eq_false_iff_ne]; omega
  have e0' : (L.length == 0) = false := by rw [beq_eq_false_iff_ne]; omega
  go_upto_region 4 with fail
  clear x0 e0 e0'
  obtain ⟨p1, p2⟩ := pickedZ_range n (L.length : Int) (by omega)
  obtain ⟨k, hk⟩ : ∃ k : Nat, pickedZ n (L.length : Int) = (k : Int) := ⟨_, (Int.toNat_of_nonneg p1).symm⟩
  rw [hk] at p1 p2
  have hkl : k < L.length := by omega
  have i0 : (0 : Int) ≤ (k : Int) := by omega
  have i1 : (k : Int) < (L.length : Int) := p2
  have HK := Lib.hid hk
  obtain ⟨bc, oc, xb, xp, xv, rfl, -, e0c, e1c, e2c, e3c, e4c, hxb, hxp, hxv⟩ := HD.out.crt k hkl
  have HM1 := Lib.hid (HTW.out L[k] (List.getElem_mem hkl))
  have HM2 := Lib.hid (HTO.out L[k] (List.getElem_mem hkl))
  generalize L[k] = c at *
  obtain ⟨ub, ubc, rfl, -, -⟩ := hxb.form
  obtain ⟨up, upc, rfl, -, -⟩ := hxp.form
  obtain ⟨uv, uvc, rfl, -, -⟩ := hxv.form
  have H1 := Lib.hid hxb
  have H2 := Lib.hid hxp
  have H3 := Lib.hid hxv
  have HE := Lib.hid (And.intro e0c (And.intro e1c (And.intro e2c (And.intro e3c e4c))))
  have hbl : bc < w2.heap.size := World.block_lt_of_cell? w2 _ e0c
  clear hk e0c e1c e2c e3c e4c hxb hxp hxv HTW HTO
  go_cut [7] (fun p wx => ∃ P : Nat, p = .pointer (some ⟨P, 0, none⟩) ∧ w2.heap.size ≤ P ∧ BoxAt wx P [.int .i64 c.h.a, .int .i64 c.h.r, .slice ub c.h.bs.length ubc, .slice up c.h.ps.length upc, .slice uv c.vs.length uvc] 32 ∧ Below w2.heap.size w2 wx)
  case first =>
    refine wp_region_held_drew (S := fun w' => Below w2.heap.size w2 w') (by kernel_rfl) (by exact (Below.refl _ _).drew) (fun hHeld => ?_)
    obtain ⟨wd, hwd⟩ : ∃ wd, wd = w2.drew := ⟨_, rfl⟩
    rw [← hwd] at hHeld ⊢
    have HBd := Lib.hid (show Below w2.heap.size w2 wd from hHeld)
    have zwd : w2.heap.size ≤ wd.heap.size := by rw [hwd]; exact Nat.le_refl _
    clear hwd
    refine wpAnyH_take (i := 0) (v := .pointer (some ⟨w1.heap.size, 0, none⟩)) rfl (by kernel_rfl) (by kernel_rfl) (by kernel_rfl) (fun _ _ _ h => h) (Or.inl ⟨by rfl, fun w hSw => ?_⟩) hHeld ?_
    · clear hSw; go_simp; all_goals (try first | rfl | omega)
    try simp only [Act.put, List.getElem_toArray, List.getElem_cons_succ, List.getElem_cons_zero, List.setIfInBounds_toArray, List.set_cons_zero, List.set_cons_succ]
    refine wpAnyH_take (i := 1) (v := .slice (some ⟨bc, oc, none⟩) L.length capd) rfl (by kernel_rfl) (by kernel_rfl) (by kernel_rfl) (fun _ _ _ h => h) (Or.inl ⟨by rfl, fun w hSw => ?_⟩) hHeld ?_
    · have qb := HX.out.belowS hSw; have q0 := qb.cell 0 rfl; clear hSw qb; go_simp
    try simp only [Act.put, List.getElem_toArray, List.getElem_cons_succ, List.getElem_cons_zero, List.setIfInBounds_toArray, List.set_cons_zero, List.set_cons_succ]
    refine wpAnyH_take (i := 2) (v := .int .i64 n) rfl (by kernel_rfl) (by kernel_rfl) (by kernel_rfl) (fun _ _ _ h => h) (Or.inl ⟨by rfl, fun w hSw => ?_⟩) hHeld ?_
    · clear hSw; go_simp; all_goals (try first | rfl | omega)
    try simp only [Act.put, List.getElem_toArray, List.getElem_cons_succ, List.getElem_cons_zero, List.setIfInBounds_toArray, List.set_cons_zero, List.set_cons_succ]
    refine wpAnyH_take (i := 3) (v := .pointer (some ⟨w1.heap.size, 0, none⟩)) rfl (by kernel_rfl) (by kernel_rfl) (by kernel_rfl) (fun _ _ _ h => h) (Or.inl ⟨by rfl, fun w hSw => ?_⟩) hHeld ?_
    · clear hSw; go_simp; all_goals (try first | rfl | omega)
    try simp only [Act.put, List.getElem_toArray, List.getElem_cons_succ, List.getElem_cons_zero, List.setIfInBounds_toArray, List.set_cons_zero, List.set_cons_succ]
    refine wpAnyH_take (i := 4) (v := .slice (some ⟨bc, oc, none⟩) L.length capd) rfl (by kernel_rfl) (by kernel_rfl) (by kernel_rfl) (fun _ _ _ h => h) (Or.inl ⟨by rfl, fun w hSw => ?_⟩) hHeld ?_
    · have qb := HX.out.belowS hSw; have q0 := qb.cell 0 rfl; clear hSw qb; go_simp
    try simp only [Act.put, List.getElem_toArray, List.getElem_cons_succ, List.getElem_cons_zero, List.setIfInBounds_toArray, List.set_cons_zero, List.set_cons_succ]
    refine wpAnyH_take (i := 5) (v := .int .i64 (L.length : Int)) rfl (by kernel_rfl) (by kernel_rfl) (by kernel_rfl) (fun _ _ _ h => h) (Or.inl ⟨by rfl, fun w hSw => ?_⟩) hHeld ?_
    · clear hSw; go_simp; all_goals (try first | rfl | omega)
    try simp only [Act.put, List.getElem_toArray, List.getElem_cons_succ, List.getElem_cons_zero, List.setIfInBounds_toArray, List.set_cons_zero, List.set_cons_succ]
    refine wpAnyH_ready (rs := [6, 9]) (by kernel_rfl) (by simp) ?_
    refine AllReadyH.cons rfl (fun K hK => ?_) ?_
    · rw [if_pos (by rfl)]
      go_simp
      go_at_call 19
      refine (picked_any n (L.length : Int) _ n1 n2 (by omega) (by omega)).mono ?_
      rintro e w' ⟨rfl, rfl⟩
      rw [HK.out]
      show K _ _
      refine hK.out _ _ (by exact hHeld) (fun hHeld => ?_)
      clear hK K
      try simp only [Act.put, List.getElem_toArray, List.getElem_cons_succ, List.getElem_cons_zero, List.setIfInBounds_toArray, List.set_cons_zero, List.set_cons_succ]
      refine wpAnyH_take (i := 7) (v := .pointer (some ⟨bc, oc + k * 5, none⟩)) rfl (by kernel_rfl) (by kernel_rfl) (by kernel_rfl) (fun _ _ _ h => h) (Or.inl ⟨by rfl, fun w hSw => ?_⟩) hHeld ?_
      · clear hSw; go_simp; all_goals (try first | rfl | omega)
      try simp only [Act.put, List.getElem_toArray, List.getElem_cons_succ, List.getElem_cons_zero, List.setIfInBounds_toArray, List.set_cons_zero, List.set_cons_succ]
      refine wpAnyH_take (i := 8) (v := .agg #[.int .i64 c.h.a, .int .i64 c.h.r, .slice ub c.h.bs.length ubc, .slice up c.h.ps.length upc, .slice uv c.vs.length uvc]) rfl (by kernel_rfl) (by kernel_rfl) (by kernel_rfl) (fun _ _ _ h => h) (Or.inl ⟨by rfl, fun w hSw => ?_⟩) hHeld ?_
      · have q0 := hSw.cell (p := ⟨bc, oc + k * 5, none⟩) hbl; have q1 := hSw.cell (p := ⟨bc, oc + k * 5 + 1, none⟩) hbl; have q2 := hSw.cell (p := ⟨bc, oc + k * 5 + 2, none⟩) hbl; have q3 := hSw.cell (p := ⟨bc, oc + k * 5 + 3, none⟩) hbl; have q4 := hSw.cell (p := ⟨bc, oc + k * 5 + 4, none⟩) hbl; rw [HE.out.1] at q0; rw [HE.out.2.1] at q1; rw [HE.out.2.2.1] at q2; rw [HE.out.2.2.2.1] at q3; rw [HE.out.2.2.2.2] at q4; clear hSw; go_simp
      try simp only [Act.put, List.getElem_toArray, List.getElem_cons_succ, List.getElem_cons_zero, List.setIfInBounds_toArray, List.set_cons_zero, List.set_cons_succ]
      refine wpAnyH_ready (rs := [9]) (by kernel_rfl) (by simp) ?_
      refine AllReadyH.cons rfl (fun K hK => ?_) ?_
      · rw [if_pos (by rfl)]
        go_simp
        show K _ _
        refine hK.out _ _ (by exact (HBd.out.alloc (Below.size HBd.out) _)) (fun hHeld => ?_)
        clear hK K
        try simp only [Act.put, List.getElem_toArray, List.getElem_cons_succ, List.getElem_cons_zero, List.setIfInBounds_toArray, List.set_cons_zero, List.set_cons_succ]
        obtain ⟨wa1, hwn⟩ : ∃ wa1, wa1 = wd.alloc (.cells #[.int .i64 0, .int .i64 0, .slice none 0 0, .slice none 0 0, .slice none 0 0] 32) := ⟨_, rfl⟩
        have FA1 := Lib.hid (show BoxAt wa1 (wd.heap.size) [.int .i64 0, .int .i64 0, .slice none 0 0, .slice none 0 0, .slice none 0 0] 32 by rw [hwn]; exact BoxAt.newAt wd [.int .i64 0, .int .i64 0, .slice none 0 0, .slice none 0 0, .slice none 0 0] 32 rfl)
        have HBwa1 := Lib.hid (show Below w2.heap.size w2 wa1 by rw [hwn]; exact HBd.out.alloc (Below.size HBd.out) _)
        rw [← hwn] at hHeld ⊢
        clear hwn
        have zwa1 := FA1.out.lt
        refine wpAnyH_ready (rs := [10]) (by kernel_rfl) (by simp) ?_
        refine AllReadyH.cons rfl (fun K hK => ?_) ?_
        · rw [if_pos (by rfl)]
          have q0 := FA1.out.cell 0 rfl
          have q1 := FA1.out.cell 1 rfl
          have q2 := FA1.out.cell 2 rfl
          have q3 := FA1.out.cell 3 rfl
          have q4 := FA1.out.cell 4 rfl
          have qf0 := FA1.out.free 0
          have qf1 := FA1.out.free 1
          have qf2 := FA1.out.free 2
          have qf3 := FA1.out.free 3
          have qf4 := FA1.out.free 4
          have qz := FA1.out.lt
          go_simp
          show K _ _
          refine hK.out _ _ (by exact (((((HBwa1.out.setCell (p := ⟨wd.heap.size, 0, none⟩) (by simp; omega) (.int .i64 c.h.a)).setCell (p := ⟨wd.heap.size, 1, none⟩) (by simp; omega) (.int .i64 c.h.r)).setCell (p := ⟨wd.heap.size, 2, none⟩) (by simp; omega) (.slice ub c.h.bs.length ubc)).setCell (p := ⟨wd.heap.size, 3, none⟩) (by simp; omega) (.slice up c.h.ps.length upc)).setCell (p := ⟨wd.heap.size, 4, none⟩) (by simp; omega) (.slice uv c.vs.length uvc))) (fun hHeld => ?_)
          clear hK K
          try simp only [Act.put, List.getElem_toArray, List.getElem_cons_succ, List.getElem_cons_zero, List.setIfInBounds_toArray, List.set_cons_zero, List.set_cons_succ]
          refine wpAnyH_done (by kernel_rfl) ?_ _
          go_wp2
          go_meet
          exact ⟨wd.heap.size, rfl, by omega, (((((FA1.out.set 0 (.int .i64 c.h.a)).set 1 (.int .i64 c.h.r)).set 2 (.slice ub c.h.bs.length ubc)).set 3 (.slice up c.h.ps.length upc)).set 4 (.slice uv c.vs.length uvc)), (((((HBwa1.out.setCell (p := ⟨wd.heap.size, 0, none⟩) (by simp; omega) (.int .i64 c.h.a)).setCell (p := ⟨wd.heap.size, 1, none⟩) (by simp; omega) (.int .i64 c.h.r)).setCell (p := ⟨wd.heap.size, 2, none⟩) (by simp; omega) (.slice ub c.h.bs.length ubc)).setCell (p := ⟨wd.heap.size, 3, none⟩) (by simp; omega) (.slice up c.h.ps.length upc)).setCell (p := ⟨wd.heap.size, 4, none⟩) (by simp; omega) (.slice uv c.vs.length uvc))⟩
        exact AllReadyH.nil
      exact AllReadyH.nil
    refine AllReadyH.cons rfl (fun K hK => ?_) ?_
    · rw [if_pos (by rfl)]
      go_simp
      show K _ _
      refine hK.out _ _ (by exact (HBd.out.alloc (Below.size HBd.out) _)) (fun hHeld => ?_)
      clear hK K
      try simp only [Act.put, List.getElem_toArray, List.getElem_cons_succ, List.getElem_cons_zero, List.setIfInBounds_toArray, List.set_cons_zero, List.set_cons_succ]
      obtain ⟨wa1, hwn⟩ : ∃ wa1, wa1 = wd.alloc (.cells #[.int .i64 0, .int .i64 0, .slice none 0 0, .slice none 0 0, .slice none 0 0] 32) := ⟨_, rfl⟩
      have FA1 := Lib.hid (show BoxAt wa1 (wd.heap.size) [.int .i64 0, .int .i64 0, .slice none 0 0, .slice none 0 0, .slice none 0 0] 32 by rw [hwn]; exact BoxAt.newAt wd [.int .i64 0, .int .i64 0, .slice none 0 0, .slice none 0 0, .slice none 0 0] 32 rfl)
      have HBwa1 := Lib.hid (show Below w2.heap.size w2 wa1 by rw [hwn]; exact HBd.out.alloc (Below.size HBd.out) _)
      rw [← hwn] at hHeld ⊢
      clear hwn
      have zwa1 := FA1.out.lt
      refine wpAnyH_ready (rs := [6]) (by kernel_rfl) (by simp) ?_
      refine AllReadyH.cons rfl (fun K hK => ?_) ?_
      · rw [if_pos (by rfl)]
        go_simp
        go_at_call 19
        refine (picked_any n (L.length : Int) _ n1 n2 (by omega) (by omega)).mono ?_
        rintro e w' ⟨rfl, rfl⟩
        rw [HK.out]
        show K _ _
        refine hK.out _ _ (by exact hHeld) (fun hHeld => ?_)
        clear hK K
        try simp only [Act.put, List.getElem_toArray, List.getElem_cons_succ, List.getElem_cons_zero, List.setIfInBounds_toArray, List.set_cons_zero, List.set_cons_succ]
        refine wpAnyH_take (i := 7) (v := .pointer (some ⟨bc, oc + k * 5, none⟩)) rfl (by kernel_rfl) (by kernel_rfl) (by kernel_rfl) (fun _ _ _ h => h) (Or.inl ⟨by rfl, fun w hSw => ?_⟩) hHeld ?_
        · clear hSw; go_simp; all_goals (try first | rfl | omega)
        try simp only [Act.put, List.getElem_toArray, List.getElem_cons_succ, List.getElem_cons_zero, List.setIfInBounds_toArray, List.set_cons_zero, List.set_cons_succ]
        refine wpAnyH_take (i := 8) (v := .agg #[.int .i64 c.h.a, .int .i64 c.h.r, .slice ub c.h.bs.length ubc, .slice up c.h.ps.length upc, .slice uv c.vs.length uvc]) rfl (by kernel_rfl) (by kernel_rfl) (by kernel_rfl) (fun _ _ _ h => h) (Or.inl ⟨by rfl, fun w hSw => ?_⟩) hHeld ?_
        · have q0 := hSw.cell (p := ⟨bc, oc + k * 5, none⟩) hbl; have q1 := hSw.cell (p := ⟨bc, oc + k * 5 + 1, none⟩) hbl; have q2 := hSw.cell (p := ⟨bc, oc + k * 5 + 2, none⟩) hbl; have q3 := hSw.cell (p := ⟨bc, oc + k * 5 + 3, none⟩) hbl; have q4 := hSw.cell (p := ⟨bc, oc + k * 5 + 4, none⟩) hbl; rw [HE.out.1] at q0; rw [HE.out.2.1] at q1; rw [HE.out.2.2.1] at q2; rw [HE.out.2.2.2.1] at q3; rw [HE.out.2.2.2.2] at q4; clear hSw; go_simp
        try simp only [Act.put, List.getElem_toArray, List.getElem_cons_succ, List.getElem_cons_zero, List.setIfInBounds_toArray, List.set_cons_zero, List.set_cons_succ]
        refine wpAnyH_ready (rs := [10]) (by kernel_rfl) (by simp) ?_
        refine AllReadyH.cons rfl (fun K hK => ?_) ?_
        · rw [if_pos (by rfl)]
          have q0 := FA1.out.cell 0 rfl
          have q1 := FA1.out.cell 1 rfl
          have q2 := FA1.out.cell 2 rfl
          have q3 := FA1.out.cell 3 rfl
          have q4 := FA1.out.cell 4 rfl
          have qf0 := FA1.out.free 0
          have qf1 := FA1.out.free 1
          have qf2 := FA1.out.free 2
          have qf3 := FA1.out.free 3
          have qf4 := FA1.out.free 4
          have qz := FA1.out.lt
          go_simp
          show K _ _
          refine hK.out _ _ (by exact (((((HBwa1.out.setCell (p := ⟨wd.heap.size, 0, none⟩) (by simp; omega) (.int .i64 c.h.a)).setCell (p := ⟨wd.heap.size, 1, none⟩) (by simp; omega) (.int .i64 c.h.r)).setCell (p := ⟨wd.heap.size, 2, none⟩) (by simp; omega) (.slice ub c.h.bs.length ubc)).setCell (p := ⟨wd.heap.size, 3, none⟩) (by simp; omega) (.slice up c.h.ps.length upc)).setCell (p := ⟨wd.heap.size, 4, none⟩) (by simp; omega) (.slice uv c.vs.length uvc))) (fun hHeld => ?_)
          clear hK K
          try simp only [Act.put, List.getElem_toArray, List.getElem_cons_succ, List.getElem_cons_zero, List.setIfInBounds_toArray, List.set_cons_zero, List.set_cons_succ]
          refine wpAnyH_done (by kernel_rfl) ?_ _
          go_wp2
          go_meet
          exact ⟨wd.heap.size, rfl, by omega, (((((FA1.out.set 0 (.int .i64 c.h.a)).set 1 (.int .i64 c.h.r)).set 2 (.slice ub c.h.bs.length ubc)).set 3 (.slice up c.h.ps.length upc)).set 4 (.slice uv c.vs.length uvc)), (((((HBwa1.out.setCell (p := ⟨wd.heap.size, 0, none⟩) (by simp; omega) (.int .i64 c.h.a)).setCell (p := ⟨wd.heap.size, 1, none⟩) (by simp; omega) (.int .i64 c.h.r)).setCell (p := ⟨wd.heap.size, 2, none⟩) (by simp; omega) (.slice ub c.h.bs.length ubc)).setCell (p := ⟨wd.heap.size, 3, none⟩) (by simp; omega) (.slice up c.h.ps.length upc)).setCell (p := ⟨wd.heap.size, 4, none⟩) (by simp; omega) (.slice uv c.vs.length uvc))⟩
        exact AllReadyH.nil
      exact AllReadyH.nil
    exact AllReadyH.nil
  case rest =>
  obtain ⟨P, rfl, hP, hBP, hB3⟩ := hcut
  rename World => w3
  have HC := Lib.hid hBP
  replace HX := Lib.hid (HX.out.belowS hB3)
  replace HD := Lib.hid (HD.out.below hB3 (fun _ h => h))
  replace H1 := Lib.hid (H1.out.below hB3 (fun _ h => h))
  replace H2 := Lib.hid (H2.out.below hB3 (fun _ h => h))
  replace H3 := Lib.hid (H3.out.below hB3 (fun _ h => h))
  replace HB := Lib.hid (HB.out.trans (hB3.mono HB.out.size))
  have hz3 := HX.out.lt
  have hzP := HC.out.lt
  clear hBP hB3 HE
  have x0 := HX.out.cell 0 rfl
  have y0 := HC.out.cell 0 rfl
  have y1 := HC.out.cell 1 rfl
  have y2 := HC.out.cell 2 rfl
  have y3 := HC.out.cell 3 rfl
  have y4 := HC.out.cell 4 rfl
  go_wp2_with fail
  refine (dagInsert_any c _ _ _ _ _ HD.out H1.out H2.out H3.out (HT.out.belowS HB.out)).mono ?_
  rintro e w4 ⟨v4, rfl, h4, hb4⟩
  obtain ⟨ad4, cap4, rfl, -, -⟩ := h4.form
  rw [HM1.out]
  replace HX := Lib.hid (HX.out.belowS hb4)
  replace HC := Lib.hid (HC.out.belowS hb4)
  replace HD := Lib.hid (HD.out.below hb4 (fun _ h => h))
  replace H2 := Lib.hid (H2.out.below hb4 (fun _ h => h))
  replace H3 := Lib.hid (H3.out.below hb4 (fun _ h => h))
  replace HB := Lib.hid (HB.out.trans (hb4.mono HB.out.size))
  obtain ⟨IL, hIL⟩ : ∃ IL, IL = insL L c := ⟨_, rfl⟩
  rw [← hIL] at h4 ⊢
  clear x0 y0 y1 y2 y3 y4 h4 hb4 H1 hIL
  have hz4 := HC.out.lt
  have hz4x := HX.out.lt
  go_upto_region 6 with fail
  obtain ⟨w5, hw5⟩ : ∃ w5, w5 = w4.alloc (.cells #[.slice ad4 IL.length cap4] 59) := ⟨_, rfl⟩
  have hB5 : Below w4.heap.size w4 w5 := by rw [hw5]; exact (Below.refl _ _).alloc (Nat.le_refl _) _
  rw [← hw5]
  replace HX := Lib.hid (HX.out.belowS hB5)
  replace HC := Lib.hid (HC.out.belowS hB5)
  replace HD := Lib.hid (HD.out.below hB5 (fun _ h => h))
  replace H2 := Lib.hid (H2.out.below hB5 (fun _ h => h))
  replace H3 := Lib.hid (H3.out.below hB5 (fun _ h => h))
  replace HB := Lib.hid (HB.out.trans (hB5.mono HB.out.size))
  clear hw5 hB5
  have hzw5 := HB.out.size
  have hz5 := HC.out.lt
  have y0 := HC.out.cell 0 rfl
  have y1 := HC.out.cell 1 rfl
  have y2 := HC.out.cell 2 rfl
  have y3 := HC.out.cell 3 rfl
  have y4 := HC.out.cell 4 rfl
  go_upto_region 7 with fail
  clear y0 y1 y2 y3 y4
  obtain ⟨w6, hw6⟩ : ∃ w6, w6 = w5.alloc (.cells #[.int .i64 c.h.a, .int .i64 c.h.r, .slice ub c.h.bs.length ubc, .slice up c.h.ps.length upc, .slice uv c.vs.length uvc] 32) := ⟨_, rfl⟩
  have HO := Lib.hid (show BoxAt w6 w5.heap.size [.int .i64 c.h.a, .int .i64 c.h.r, .slice ub c.h.bs.length ubc, .slice up c.h.ps.length upc, .slice uv c.vs.length uvc] 32 by rw [hw6]; exact BoxAt.new w5 [.int .i64 c.h.a, .int .i64 c.h.r, .slice ub c.h.bs.length ubc, .slice up c.h.ps.length upc, .slice uv c.vs.length uvc] _)
  have hB6 : Below w5.heap.size w5 w6 := by rw [hw6]; exact (Below.refl _ _).alloc (Nat.le_refl _) _
  rw [← hw6]
  replace HX := Lib.hid (HX.out.belowS hB6)
  replace HD := Lib.hid (((HD.out.low (by decide)).mono (G' := fun b => b < w5.heap.size) (fun b hb => hb.2)).below hB6 (fun _ h => h))
  replace H2 := Lib.hid ((H2.out.low (by decide)).below hB6 (fun _ h => h))
  replace H3 := Lib.hid ((H3.out.low (by decide)).below hB6 (fun _ h => h))
  replace HB := Lib.hid (HB.out.trans (hB6.mono HB.out.size))
  have hz6 := HO.out.lt
  have hz6x := HX.out.lt
  clear hw6 hB6
  go_wp2_with fail
  refine (some_any n 99 _ n1 n2).mono ?_
  rintro e w7 ⟨rfl, hbs, hb7⟩
  have HSB := Lib.hid (show RdB (fun b => w6.heap.size ≤ b) w7 (.slice (some ⟨w6.heap.size, 0, none⟩) 32 32) (someL n 99) from RdS.of_box (l := someL n 99) (cap := 32) hbs (Nat.le_refl _) (by simp [someL_length]) (by unfold maxLen; simp))
  replace HX := Lib.hid (HX.out.belowS hb7)
  replace HO := Lib.hid (HO.out.belowS hb7)
  replace HD := Lib.hid (HD.out.below hb7 (fun _ h => h))
  replace H2 := Lib.hid (H2.out.below hb7 (fun _ h => h))
  replace H3 := Lib.hid (H3.out.below hb7 (fun _ h => h))
  replace HB := Lib.hid (HB.out.trans (hb7.mono HB.out.size))
  have zb7 := hb7.size
  clear hbs hb7
  have s2 := HO.out.cell 2 rfl
  have sf2 := HO.out.free 2
  have sl2 := HO.out.lt
  go_upto_region 8 with fail
  clear s2 sf2
  obtain ⟨w8, hw8⟩ : ∃ w8, w8 = (w7.setCell ⟨w5.heap.size, 2, none⟩ (.slice (some ⟨w7.heap.size, 0, none⟩) 1 1)).alloc (.cells #[.slice (some ⟨w6.heap.size, 0, none⟩) 32 32] 39) := ⟨_, rfl⟩
  rw [← hw8]
  have hsz8 : (w7.setCell ⟨w5.heap.size, 2, none⟩ (.slice (some ⟨w7.heap.size, 0, none⟩) 1 1)).heap.size = w7.heap.size := by simp [World.setCell]
  have HO8 := Lib.hid (show BoxAt w8 w5.heap.size [.int .i64 c.h.a, .int .i64 c.h.r, .slice (some ⟨w7.heap.size, 0, none⟩) 1 1, .slice up c.h.ps.length upc, .slice uv c.vs.length uvc] 32 by rw [hw8]; exact (HO.out.set 2 _).alloc _)
  have HN8 := Lib.hid (show BoxAt w8 w7.heap.size [.slice (some ⟨w6.heap.size, 0, none⟩) 32 32] 39 by rw [hw8]; exact BoxAt.newAt _ [_] _ hsz8.symm)
  have hK8 : Keep (fun b => b ≠ w5.heap.size) w7 w8 := by rw [hw8]; exact (Keep.setCell (by simp) _).alloc' _
  have HX8 := Lib.hid (show BoxAt w8 w1.heap.size [.slice (some ⟨bc, oc, none⟩) L.length capd] 59 by rw [hw8]; exact (HX.out.setOther (by simp; omega) _).alloc _)
  have HB8 := Lib.hid (show Below w.heap.size w w8 by rw [hw8]; exact (HB.out.setCell (by simp; omega) _).alloc (by rw [hsz8]; exact HB.out.size) _)
  have HSB8 : RdB (fun _ => True) w8 (.slice (some ⟨w6.heap.size, 0, none⟩) 32 32) (someL n 99) := HSB.out.keep (hK8.mono (fun b hb => by have h0 : w6.heap.size ≤ b := hb; omega)) (fun _ _ => trivial)
  have HS8 := Lib.hid (show RdBB (fun _ => True) w8 (.slice (some ⟨w7.heap.size, 0, none⟩) 1 1) [someL n 99] from rdBB_one HN8.out trivial HSB8)
  have HD8 := Lib.hid (HD.out.keep (G' := fun _ => True) (hK8.mono (fun b hb => by have h0 : b < w5.heap.size := hb; omega)) (fun _ _ => trivial))
  have H28 := Lib.hid (H2.out.keep (G' := fun _ => True) (hK8.mono (fun b hb => by have h0 : b < w5.heap.size := hb.2; omega)) (fun _ _ => trivial))
  have H38 := Lib.hid (H3.out.keep (G' := fun _ => True) (hK8.mono (fun b hb => by have h0 : b < w5.heap.size := hb.2; omega)) (fun _ _ => trivial))
  clear hw8 hsz8 hK8 HX HO HSB HD H2 H3 HB HC
  have x0 := HX8.out.cell 0 rfl
  have y0 := HO8.out.cell 0 rfl
  have y1 := HO8.out.cell 1 rfl
  have y2 := HO8.out.cell 2 rfl
  have y3 := HO8.out.cell 3 rfl
  have y4 := HO8.out.cell 4 rfl
  go_wp2_with fail
  refine (dagInsert_any ⟨⟨c.h.a, c.h.r, [someL n 99], c.h.ps⟩, c.vs⟩ _ _ _ _ _ HD8.out HS8.out H28.out H38.out (HT.out.belowS HB8.out)).mono ?_
  rintro e w9 ⟨v9, rfl, h9, hb9⟩
  obtain ⟨ad9, cap9, rfl, -, -⟩ := h9.form
  rw [HM2.out]
  have HB9 := Lib.hid (HB8.out.trans (hb9.mono HB8.out.size))
  clear x0 y0 y1 y2 y3 y4 h9 hb9
  go_wp2
  go_ret
  exact ⟨rfl, HB9.out.alloc HB9.out.size _⟩
end Go.Proofs.YtialhdmdeggenaaDoor
