/- ActBare: the walk. -/
import Derived.Test.YtodcebhfkmlmgaaDoorActLaw
set_option linter.unusedVariables false
set_option linter.unusedSimpArgs false
namespace Go.Proofs.YtodcebhfkmlmgaaDoor
open Go Go.RowKit

set_option maxRecDepth 100000 in
set_option maxHeartbeats 8000000 in
theorem actBare_walk (f : FeatD) (n : Int) (w : World) (hf : FeatOk f) (n1 : -9223372036854775808 ≤ n) (n2 : n ≤ 9223372036854775807) (ht : TabL w) :
    Calls Tryd.prog 3 #[.agg #[.int .i64 f.k, .int .i64 f.a, .int .i64 f.b, strV f.t], .int .i64 n] w fun e w' => e = .returned (.bool true) ∧ Below w.heap.size w w' := by
  have HT := Lib.hid ht
  clear ht
  go_enter Tryd.func3, Tryd.ntmps3
  go_wp2_with fail
  refine (act_any f _ hf).mono ?_
  rintro e w1 ⟨rfl, hb1⟩
  have HOK := Lib.hid (featA_ok f)
  generalize featA f = a at *
  have HB := Lib.hid (((Below.refl w.heap.size w).alloc (Nat.le_refl _) (.cells #[.int .i64 f.k, .int .i64 f.a, .int .i64 f.b, strV f.t] 23)).trans (hb1.mono (by simp)))
  clear hb1
  go_upto_region 2 with fail
  obtain ⟨w2, hwl⟩ : ∃ w2, w2 = (w1.alloc (.cells #[.int .i64 a.k, .int .i64 a.n, .int .i64 a.p, strV a.t] 25)) := ⟨_, rfl⟩
  have hBl : Below w1.heap.size w1 w2 := by rw [hwl]; exact ((Below.refl _ _).alloc (by first | exact Nat.le_refl _ | (simp; done) | (simp; omega)) _)
  have H5 := Lib.hid (show BoxAt w2 w1.heap.size [.int .i64 a.k, .int .i64 a.n, .int .i64 a.p, strV a.t] 25 by rw [hwl]; exact BoxAt.new w1 [.int .i64 a.k, .int .i64 a.n, .int .i64 a.p, strV a.t] _)
  rw [← hwl]
  replace HB := Lib.hid (HB.out.trans (hBl.mono HB.out.size))
  clear hwl hBl
  have HCE := Lib.hid (check_eq a)
  have x0 := H5.out.cell 0 rfl
  have x1 := H5.out.cell 1 rfl
  have x2 := H5.out.cell 2 rfl
  have x3 := H5.out.cell 3 rfl
  have zx := H5.out.lt
  go_wp2_with fail
  refine (lcheck_any a.k a.n a.p ⟨a.t.toArray⟩ _).mono ?_
  rintro e w3 ⟨rfl, hb3⟩
  rw [HCE.out, HOK.out]
  replace H5 := Lib.hid (H5.out.belowS hb3)
  replace HB := Lib.hid (HB.out.trans (hb3.mono HB.out.size))
  clear hb3 x0 x1 x2 x3 zx
  have x0 := H5.out.cell 0 rfl
  have x1 := H5.out.cell 1 rfl
  have x2 := H5.out.cell 2 rfl
  have x3 := H5.out.cell 3 rfl
  have zx := H5.out.lt
  go_upto_region 6 with fail
  obtain ⟨w4, hwl⟩ : ∃ w4, w4 = (w3.alloc (.cells #[.int .i64 11, .int .i64 a.n, .int .i64 a.p, strV a.t] 25)) := ⟨_, rfl⟩
  have hBl : Below w3.heap.size w3 w4 := by rw [hwl]; exact ((Below.refl _ _).alloc (by first | exact Nat.le_refl _ | (simp; done) | (simp; omega)) _)
  have H6 := Lib.hid (show BoxAt w4 w3.heap.size [.int .i64 11, .int .i64 a.n, .int .i64 a.p, strV a.t] 25 by rw [hwl]; exact BoxAt.new w3 [.int .i64 11, .int .i64 a.n, .int .i64 a.p, strV a.t] _)
  rw [← hwl]
  replace H5 := Lib.hid (H5.out.belowS hBl)
  replace HB := Lib.hid (HB.out.trans (hBl.mono HB.out.size))
  clear hwl hBl
  clear x0 x1 x2 x3 zx
  have x0 := H6.out.cell 0 rfl
  have x1 := H6.out.cell 1 rfl
  have x2 := H6.out.cell 2 rfl
  have x3 := H6.out.cell 3 rfl
  have zx := H6.out.lt
  have HC3 := Lib.hid (show actCheck 11 a.n a.p ⟨a.t.toArray⟩ = 3 from (check_eq ⟨11, a.n, a.p, a.t⟩).trans (code_kind _ _ _))
  go_wp2_with fail
  refine (lcheck_any 11 a.n a.p ⟨a.t.toArray⟩ _).mono ?_
  rintro e w5 ⟨rfl, hb5⟩
  rw [HC3.out]
  replace H5 := Lib.hid (H5.out.belowS hb5)
  replace H6 := Lib.hid (H6.out.belowS hb5)
  replace HB := Lib.hid (HB.out.trans (hb5.mono HB.out.size))
  clear hb5 x0 x1 x2 x3 zx
  have x0 := H5.out.cell 0 rfl
  have x1 := H5.out.cell 1 rfl
  have x2 := H5.out.cell 2 rfl
  have x3 := H5.out.cell 3 rfl
  have zx := H5.out.lt
  obtain ⟨r1, r2⟩ := pickedZ_range n 3 (by omega)
  obtain ⟨r, hr⟩ : ∃ r, r = pickedZ n 3 := ⟨_, rfl⟩
  rw [← hr] at r1 r2
  have HR := Lib.hid hr.symm
  clear hr
  have hc : r = 0 ∨ r = 1 ∨ r = 2 := by omega
  rcases hc with rfl | rfl | rfl
  · go_upto_region 15 with (go_at_call 13; refine (picked_any n 3 _ n1 n2 (by omega) (by omega)).mono ?_; rintro e w' ⟨rfl, rfl⟩; rw [HR.out])
    obtain ⟨w6, hwl⟩ : ∃ w6, w6 = (w5.alloc (.cells #[.int .i64 a.k, .int .i64 1, .int .i64 a.p, strV a.t] 25)) := ⟨_, rfl⟩
    have hBl : Below w5.heap.size w5 w6 := by rw [hwl]; exact ((Below.refl _ _).alloc (by first | exact Nat.le_refl _ | (simp; done) | (simp; omega)) _)
    have H7 := Lib.hid (show BoxAt w6 w5.heap.size [.int .i64 a.k, .int .i64 1, .int .i64 a.p, strV a.t] 25 by rw [hwl]; exact BoxAt.new w5 [.int .i64 a.k, .int .i64 1, .int .i64 a.p, strV a.t] _)
    rw [← hwl]
    replace H5 := Lib.hid (H5.out.belowS hBl)
    replace H6 := Lib.hid (H6.out.belowS hBl)
    replace HB := Lib.hid (HB.out.trans (hBl.mono HB.out.size))
    clear hwl hBl
    clear x0 x1 x2 x3 zx
    have x0 := H7.out.cell 0 rfl
    have x1 := H7.out.cell 1 rfl
    have x2 := H7.out.cell 2 rfl
    have x3 := H7.out.cell 3 rfl
    have zx := H7.out.lt
    go_upto_region 16 with fail
    obtain ⟨w7, hwl⟩ : ∃ w7, w7 = (w6.alloc (.cells #[.int .i64 10, .int .i64 1, .int .i64 a.p, strV a.t] 25)) := ⟨_, rfl⟩
    have hBl : Below w6.heap.size w6 w7 := by rw [hwl]; exact ((Below.refl _ _).alloc (by first | exact Nat.le_refl _ | (simp; done) | (simp; omega)) _)
    have H8 := Lib.hid (show BoxAt w7 w6.heap.size [.int .i64 10, .int .i64 1, .int .i64 a.p, strV a.t] 25 by rw [hwl]; exact BoxAt.new w6 [.int .i64 10, .int .i64 1, .int .i64 a.p, strV a.t] _)
    rw [← hwl]
    replace H5 := Lib.hid (H5.out.belowS hBl)
    replace H6 := Lib.hid (H6.out.belowS hBl)
    replace HB := Lib.hid (HB.out.trans (hBl.mono HB.out.size))
    clear hwl hBl
    clear x0 x1 x2 x3 zx
    have x0 := H5.out.cell 0 rfl
    have y0 := H6.out.cell 0 rfl
    have x1 := H5.out.cell 1 rfl
    have y1 := H6.out.cell 1 rfl
    have x2 := H5.out.cell 2 rfl
    have y2 := H6.out.cell 2 rfl
    have x3 := H5.out.cell 3 rfl
    have y3 := H6.out.cell 3 rfl
    have zx := H5.out.lt
    have zy := H6.out.lt
    have hB8 : Below w7.heap.size w7 (w7.alloc (.cells #[.int .i64 a.k, .int .i64 a.n, .int .i64 a.p, strV a.t, .int .i64 11, .int .i64 a.n, .int .i64 a.p, strV a.t] 25)) := (Below.refl _ _).alloc (Nat.le_refl _) _
    have HRD := Lib.hid (show RdS RAct (fun _ => True) (w7.alloc (.cells #[.int .i64 a.k, .int .i64 a.n, .int .i64 a.p, strV a.t, .int .i64 11, .int .i64 a.n, .int .i64 a.p, strV a.t] 25)) (.slice (some ⟨w7.heap.size, 0, none⟩) 2 2) [a, ⟨11, a.n, a.p, a.t⟩] from rdActs (l := [a, ⟨11, a.n, a.p, a.t⟩]) (BoxAt.new w7 [.int .i64 a.k, .int .i64 a.n, .int .i64 a.p, strV a.t, .int .i64 11, .int .i64 a.n, .int .i64 a.p, strV a.t] _) trivial (by unfold maxLen; simp))
    have HT8 := Lib.hid (HT.out.belowS (HB.out.trans (hB8.mono HB.out.size)))
    have HS := Lib.hid (show_two HOK.out (code_kind a.n a.p a.t))
    go_wp2_with fail
    refine (lshow_any _ _ HRD.out HT8.out).mono ?_
    rintro e w8 ⟨rfl, hb8⟩
    rw [HS.out]
    have hb78 := hB8.trans (hb8.mono hB8.size)
    replace H8 := Lib.hid (H8.out.belowS hb78)
    replace HB := Lib.hid (HB.out.trans (hb78.mono HB.out.size))
    clear hb8 hB8 hb78 x0 x1 x2 x3 y0 y1 y2 y3 zx zy HRD HT8
    go_upto_region 19 with fail
    have HCD := Lib.hid (show actCheck 10 (1) (a.p) ⟨(a.t : List UInt8).toArray⟩ = 4 from (check_eq ⟨10, 1, a.p, a.t⟩).trans (by rw [code_flow, if_neg (by simp)]))
    refine wp_region_held_drew (S := fun w' => Below w8.heap.size w8 w') (by kernel_rfl) (by exact (Below.refl _ _).drew) (fun hHeld => ?_)
    obtain ⟨wd, hwd⟩ : ∃ wd, wd = w8.drew := ⟨_, rfl⟩
    rw [← hwd] at hHeld ⊢
    have HBd := Lib.hid (show Below w8.heap.size w8 wd from hHeld)
    have zwd : w8.heap.size ≤ wd.heap.size := by rw [hwd]; exact Nat.le_refl _
    clear hwd
    refine wpAnyH_take (i := 0) (v := .agg #[.int .i64 10, .int .i64 1, .int .i64 a.p, strV a.t]) rfl (by kernel_rfl) (by kernel_rfl) (by kernel_rfl) (fun _ _ _ h => h) (Or.inl ⟨by rfl, fun w hSw => ?_⟩) hHeld ?_
    · have q0 := (H8.out.belowS hSw).cell 0 rfl; have q1 := (H8.out.belowS hSw).cell 1 rfl; have q2 := (H8.out.belowS hSw).cell 2 rfl; have q3 := (H8.out.belowS hSw).cell 3 rfl; clear hSw; go_simp
    try simp only [Act.put, List.getElem_toArray, List.getElem_cons_succ, List.getElem_cons_zero, List.setIfInBounds_toArray, List.set_cons_zero, List.set_cons_succ]
    refine wpAnyH_take (i := 3) (v := .pointer (some ⟨w6.heap.size, 1, none⟩)) rfl (by kernel_rfl) (by kernel_rfl) (by kernel_rfl) (fun _ _ _ h => h) (Or.inl ⟨by rfl, fun w hSw => ?_⟩) hHeld ?_
    · clear hSw; go_simp; all_goals (try first | rfl | omega)
    try simp only [Act.put, List.getElem_toArray, List.getElem_cons_succ, List.getElem_cons_zero, List.setIfInBounds_toArray, List.set_cons_zero, List.set_cons_succ]
    refine wpAnyH_take (i := 4) (v := .int .i64 1) rfl (by kernel_rfl) (by kernel_rfl) (by kernel_rfl) (fun _ _ _ h => h) (Or.inl ⟨by rfl, fun w hSw => ?_⟩) hHeld ?_
    · have q0 := (H8.out.belowS hSw).cell 1 rfl; clear hSw; go_simp
    try simp only [Act.put, List.getElem_toArray, List.getElem_cons_succ, List.getElem_cons_zero, List.setIfInBounds_toArray, List.set_cons_zero, List.set_cons_succ]
    refine wpAnyH_take (i := 5) (v := .bool false) rfl (by kernel_rfl) (by kernel_rfl) (by kernel_rfl) (fun _ _ _ h => h) (Or.inl ⟨by rfl, fun w hSw => ?_⟩) hHeld ?_
    · clear hSw; go_simp; all_goals (try first | rfl | omega)
    try simp only [Act.put, List.getElem_toArray, List.getElem_cons_succ, List.getElem_cons_zero, List.setIfInBounds_toArray, List.set_cons_zero, List.set_cons_succ]
    refine wpAnyH_ready (rs := [1]) (by kernel_rfl) (by simp) ?_
    refine AllReadyH.cons rfl (fun K hK => ?_) ?_
    · rw [if_pos (by rfl)]
      go_simp
      go_at_call 12
      refine (lcheck_any 10 (1) (a.p) ⟨(a.t : List UInt8).toArray⟩ _).mono ?_
      rintro e wf ⟨rfl, hb_wf⟩
      rw [HCD.out]
      have HBwf := Lib.hid (HBd.out.trans (hb_wf.mono (Below.size HBd.out)))
      have zwf := hb_wf.size
      clear hb_wf
      show K _ _
      refine hK.out _ _ (by exact HBwf.out) (fun hHeld => ?_)
      clear hK K
      try simp only [Act.put, List.getElem_toArray, List.getElem_cons_succ, List.getElem_cons_zero, List.setIfInBounds_toArray, List.set_cons_zero, List.set_cons_succ]
      refine wpAnyH_take (i := 2) (v := .bool false) rfl (by kernel_rfl) (by kernel_rfl) (by kernel_rfl) (fun _ _ _ h => h) (Or.inl ⟨by rfl, fun w hSw => ?_⟩) hHeld ?_
      · clear hSw; go_simp; all_goals (try first | rfl | omega)
      try simp only [Act.put, List.getElem_toArray, List.getElem_cons_succ, List.getElem_cons_zero, List.setIfInBounds_toArray, List.set_cons_zero, List.set_cons_succ]
      refine wpAnyH_take (i := 6) (v := .bool false) rfl (by kernel_rfl) (by kernel_rfl) (by kernel_rfl) (fun _ _ _ h => h) (Or.inl ⟨by rfl, fun w hSw => ?_⟩) hHeld ?_
      · clear hSw; go_simp; all_goals (try first | rfl | omega)
      try simp only [Act.put, List.getElem_toArray, List.getElem_cons_succ, List.getElem_cons_zero, List.setIfInBounds_toArray, List.set_cons_zero, List.set_cons_succ]
      refine wpAnyH_take (i := 7) (v := undef) rfl (by kernel_rfl) (by kernel_rfl) (by kernel_rfl) (fun _ _ _ h => h) (Or.inr ⟨by rfl, rfl⟩) hHeld ?_
      try simp only [Act.put, List.getElem_toArray, List.getElem_cons_succ, List.getElem_cons_zero, List.setIfInBounds_toArray, List.set_cons_zero, List.set_cons_succ]
      refine wpAnyH_take (i := 8) (v := undef) rfl (by kernel_rfl) (by kernel_rfl) (by kernel_rfl) (fun _ _ _ h => h) (Or.inr ⟨by rfl, rfl⟩) hHeld ?_
      try simp only [Act.put, List.getElem_toArray, List.getElem_cons_succ, List.getElem_cons_zero, List.setIfInBounds_toArray, List.set_cons_zero, List.set_cons_succ]
      refine wpAnyH_take (i := 9) (v := undef) rfl (by kernel_rfl) (by kernel_rfl) (by kernel_rfl) (fun _ _ _ h => h) (Or.inr ⟨by rfl, rfl⟩) hHeld ?_
      try simp only [Act.put, List.getElem_toArray, List.getElem_cons_succ, List.getElem_cons_zero, List.setIfInBounds_toArray, List.set_cons_zero, List.set_cons_succ]
      refine wpAnyH_take (i := 10) (v := .bool false) rfl (by kernel_rfl) (by kernel_rfl) (by kernel_rfl) (fun _ _ _ h => h) (Or.inl ⟨by rfl, fun w hSw => ?_⟩) hHeld ?_
      · clear hSw; go_simp; all_goals (try first | rfl | omega)
      try simp only [Act.put, List.getElem_toArray, List.getElem_cons_succ, List.getElem_cons_zero, List.setIfInBounds_toArray, List.set_cons_zero, List.set_cons_succ]
      refine wpAnyH_take (i := 11) (v := .bool false) rfl (by kernel_rfl) (by kernel_rfl) (by kernel_rfl) (fun _ _ _ h => h) (Or.inl ⟨by rfl, fun w hSw => ?_⟩) hHeld ?_
      · clear hSw; go_simp; all_goals (try first | rfl | omega)
      try simp only [Act.put, List.getElem_toArray, List.getElem_cons_succ, List.getElem_cons_zero, List.setIfInBounds_toArray, List.set_cons_zero, List.set_cons_succ]
      refine wpAnyH_take (i := 12) (v := undef) rfl (by kernel_rfl) (by kernel_rfl) (by kernel_rfl) (fun _ _ _ h => h) (Or.inr ⟨by rfl, rfl⟩) hHeld ?_
      try simp only [Act.put, List.getElem_toArray, List.getElem_cons_succ, List.getElem_cons_zero, List.setIfInBounds_toArray, List.set_cons_zero, List.set_cons_succ]
      refine wpAnyH_take (i := 13) (v := undef) rfl (by kernel_rfl) (by kernel_rfl) (by kernel_rfl) (fun _ _ _ h => h) (Or.inr ⟨by rfl, rfl⟩) hHeld ?_
      try simp only [Act.put, List.getElem_toArray, List.getElem_cons_succ, List.getElem_cons_zero, List.setIfInBounds_toArray, List.set_cons_zero, List.set_cons_succ]
      refine wpAnyH_take (i := 14) (v := undef) rfl (by kernel_rfl) (by kernel_rfl) (by kernel_rfl) (fun _ _ _ h => h) (Or.inr ⟨by rfl, rfl⟩) hHeld ?_
      try simp only [Act.put, List.getElem_toArray, List.getElem_cons_succ, List.getElem_cons_zero, List.setIfInBounds_toArray, List.set_cons_zero, List.set_cons_succ]
      refine wpAnyH_take (i := 15) (v := .bool false) rfl (by kernel_rfl) (by kernel_rfl) (by kernel_rfl) (fun _ _ _ h => h) (Or.inl ⟨by rfl, fun w hSw => ?_⟩) hHeld ?_
      · clear hSw; go_simp; all_goals (try first | rfl | omega)
      try simp only [Act.put, List.getElem_toArray, List.getElem_cons_succ, List.getElem_cons_zero, List.setIfInBounds_toArray, List.set_cons_zero, List.set_cons_succ]
      refine wpAnyH_take (i := 16) (v := .bool true) rfl (by kernel_rfl) (by kernel_rfl) (by kernel_rfl) (fun _ _ _ h => h) (Or.inl ⟨by rfl, fun w hSw => ?_⟩) hHeld ?_
      · clear hSw; go_simp; all_goals (try first | rfl | omega)
      try simp only [Act.put, List.getElem_toArray, List.getElem_cons_succ, List.getElem_cons_zero, List.setIfInBounds_toArray, List.set_cons_zero, List.set_cons_succ]
      refine wpAnyH_take (i := 17) (v := .bool true) rfl (by kernel_rfl) (by kernel_rfl) (by kernel_rfl) (fun _ _ _ h => h) (Or.inl ⟨by rfl, fun w hSw => ?_⟩) hHeld ?_
      · clear hSw; go_simp; all_goals (try first | rfl | omega)
      try simp only [Act.put, List.getElem_toArray, List.getElem_cons_succ, List.getElem_cons_zero, List.setIfInBounds_toArray, List.set_cons_zero, List.set_cons_succ]
      refine wpAnyH_done (by kernel_rfl) ?_ _
      have HBE := Lib.hid (HB.out.trans (HBwf.out.mono HB.out.size))
      go_wp2
      go_ret
      exact ⟨rfl, HBE.out⟩
    exact AllReadyH.nil
  · go_upto_region 15 with (go_at_call 13; refine (picked_any n 3 _ n1 n2 (by omega) (by omega)).mono ?_; rintro e w' ⟨rfl, rfl⟩; rw [HR.out])
    obtain ⟨w6, hwl⟩ : ∃ w6, w6 = (w5.alloc (.cells #[.int .i64 a.k, .int .i64 a.n, .int .i64 1, strV a.t] 25)) := ⟨_, rfl⟩
    have hBl : Below w5.heap.size w5 w6 := by rw [hwl]; exact ((Below.refl _ _).alloc (by first | exact Nat.le_refl _ | (simp; done) | (simp; omega)) _)
    have H7 := Lib.hid (show BoxAt w6 w5.heap.size [.int .i64 a.k, .int .i64 a.n, .int .i64 1, strV a.t] 25 by rw [hwl]; exact BoxAt.new w5 [.int .i64 a.k, .int .i64 a.n, .int .i64 1, strV a.t] _)
    rw [← hwl]
    replace H5 := Lib.hid (H5.out.belowS hBl)
    replace H6 := Lib.hid (H6.out.belowS hBl)
    replace HB := Lib.hid (HB.out.trans (hBl.mono HB.out.size))
    clear hwl hBl
    clear x0 x1 x2 x3 zx
    have x0 := H7.out.cell 0 rfl
    have x1 := H7.out.cell 1 rfl
    have x2 := H7.out.cell 2 rfl
    have x3 := H7.out.cell 3 rfl
    have zx := H7.out.lt
    go_upto_region 16 with fail
    obtain ⟨w7, hwl⟩ : ∃ w7, w7 = (w6.alloc (.cells #[.int .i64 10, .int .i64 a.n, .int .i64 1, strV a.t] 25)) := ⟨_, rfl⟩
    have hBl : Below w6.heap.size w6 w7 := by rw [hwl]; exact ((Below.refl _ _).alloc (by first | exact Nat.le_refl _ | (simp; done) | (simp; omega)) _)
    have H8 := Lib.hid (show BoxAt w7 w6.heap.size [.int .i64 10, .int .i64 a.n, .int .i64 1, strV a.t] 25 by rw [hwl]; exact BoxAt.new w6 [.int .i64 10, .int .i64 a.n, .int .i64 1, strV a.t] _)
    rw [← hwl]
    replace H5 := Lib.hid (H5.out.belowS hBl)
    replace H6 := Lib.hid (H6.out.belowS hBl)
    replace HB := Lib.hid (HB.out.trans (hBl.mono HB.out.size))
    clear hwl hBl
    clear x0 x1 x2 x3 zx
    have x0 := H5.out.cell 0 rfl
    have y0 := H6.out.cell 0 rfl
    have x1 := H5.out.cell 1 rfl
    have y1 := H6.out.cell 1 rfl
    have x2 := H5.out.cell 2 rfl
    have y2 := H6.out.cell 2 rfl
    have x3 := H5.out.cell 3 rfl
    have y3 := H6.out.cell 3 rfl
    have zx := H5.out.lt
    have zy := H6.out.lt
    have hB8 : Below w7.heap.size w7 (w7.alloc (.cells #[.int .i64 a.k, .int .i64 a.n, .int .i64 a.p, strV a.t, .int .i64 11, .int .i64 a.n, .int .i64 a.p, strV a.t] 25)) := (Below.refl _ _).alloc (Nat.le_refl _) _
    have HRD := Lib.hid (show RdS RAct (fun _ => True) (w7.alloc (.cells #[.int .i64 a.k, .int .i64 a.n, .int .i64 a.p, strV a.t, .int .i64 11, .int .i64 a.n, .int .i64 a.p, strV a.t] 25)) (.slice (some ⟨w7.heap.size, 0, none⟩) 2 2) [a, ⟨11, a.n, a.p, a.t⟩] from rdActs (l := [a, ⟨11, a.n, a.p, a.t⟩]) (BoxAt.new w7 [.int .i64 a.k, .int .i64 a.n, .int .i64 a.p, strV a.t, .int .i64 11, .int .i64 a.n, .int .i64 a.p, strV a.t] _) trivial (by unfold maxLen; simp))
    have HT8 := Lib.hid (HT.out.belowS (HB.out.trans (hB8.mono HB.out.size)))
    have HS := Lib.hid (show_two HOK.out (code_kind a.n a.p a.t))
    go_wp2_with fail
    refine (lshow_any _ _ HRD.out HT8.out).mono ?_
    rintro e w8 ⟨rfl, hb8⟩
    rw [HS.out]
    have hb78 := hB8.trans (hb8.mono hB8.size)
    replace H8 := Lib.hid (H8.out.belowS hb78)
    replace HB := Lib.hid (HB.out.trans (hb78.mono HB.out.size))
    clear hb8 hB8 hb78 x0 x1 x2 x3 y0 y1 y2 y3 zx zy HRD HT8
    go_upto_region 19 with fail
    have HCD := Lib.hid (show actCheck 10 (a.n) (1) ⟨(a.t : List UInt8).toArray⟩ = 4 from (check_eq ⟨10, a.n, 1, a.t⟩).trans (by rw [code_flow, if_neg (by simp)]))
    by_cases hn0 : a.n = 0
    · have hn1 : (a.n == 0) = true := by simp [hn0]
      clear hn0
      refine wp_region_held_drew (S := fun w' => Below w8.heap.size w8 w') (by kernel_rfl) (by exact (Below.refl _ _).drew) (fun hHeld => ?_)
      obtain ⟨wd, hwd⟩ : ∃ wd, wd = w8.drew := ⟨_, rfl⟩
      rw [← hwd] at hHeld ⊢
      have HBd := Lib.hid (show Below w8.heap.size w8 wd from hHeld)
      have zwd : w8.heap.size ≤ wd.heap.size := by rw [hwd]; exact Nat.le_refl _
      clear hwd
      refine wpAnyH_take (i := 0) (v := .agg #[.int .i64 10, .int .i64 a.n, .int .i64 1, strV a.t]) rfl (by kernel_rfl) (by kernel_rfl) (by kernel_rfl) (fun _ _ _ h => h) (Or.inl ⟨by rfl, fun w hSw => ?_⟩) hHeld ?_
      · have q0 := (H8.out.belowS hSw).cell 0 rfl; have q1 := (H8.out.belowS hSw).cell 1 rfl; have q2 := (H8.out.belowS hSw).cell 2 rfl; have q3 := (H8.out.belowS hSw).cell 3 rfl; clear hSw; go_simp
      try simp only [Act.put, List.getElem_toArray, List.getElem_cons_succ, List.getElem_cons_zero, List.setIfInBounds_toArray, List.set_cons_zero, List.set_cons_succ]
      refine wpAnyH_take (i := 3) (v := .pointer (some ⟨w6.heap.size, 1, none⟩)) rfl (by kernel_rfl) (by kernel_rfl) (by kernel_rfl) (fun _ _ _ h => h) (Or.inl ⟨by rfl, fun w hSw => ?_⟩) hHeld ?_
      · clear hSw; go_simp; all_goals (try first | rfl | omega)
      try simp only [Act.put, List.getElem_toArray, List.getElem_cons_succ, List.getElem_cons_zero, List.setIfInBounds_toArray, List.set_cons_zero, List.set_cons_succ]
      refine wpAnyH_take (i := 4) (v := .int .i64 a.n) rfl (by kernel_rfl) (by kernel_rfl) (by kernel_rfl) (fun _ _ _ h => h) (Or.inl ⟨by rfl, fun w hSw => ?_⟩) hHeld ?_
      · have q0 := (H8.out.belowS hSw).cell 1 rfl; clear hSw; go_simp
      try simp only [Act.put, List.getElem_toArray, List.getElem_cons_succ, List.getElem_cons_zero, List.setIfInBounds_toArray, List.set_cons_zero, List.set_cons_succ]
      refine wpAnyH_take (i := 5) (v := .bool true) rfl (by kernel_rfl) (by kernel_rfl) (by kernel_rfl) (fun _ _ _ h => h) (Or.inl ⟨by rfl, fun w hSw => ?_⟩) hHeld ?_
      · clear hSw; go_simp; all_goals (try first | rfl | omega)
      try simp only [Act.put, List.getElem_toArray, List.getElem_cons_succ, List.getElem_cons_zero, List.setIfInBounds_toArray, List.set_cons_zero, List.set_cons_succ]
      refine wpAnyH_ready (rs := [1]) (by kernel_rfl) (by simp) ?_
      refine AllReadyH.cons rfl (fun K hK => ?_) ?_
      · rw [if_pos (by rfl)]
        go_simp
        go_at_call 12
        refine (lcheck_any 10 (a.n) (1) ⟨(a.t : List UInt8).toArray⟩ _).mono ?_
        rintro e wf ⟨rfl, hb_wf⟩
        rw [HCD.out]
        have HBwf := Lib.hid (HBd.out.trans (hb_wf.mono (Below.size HBd.out)))
        have zwf := hb_wf.size
        clear hb_wf
        show K _ _
        refine hK.out _ _ (by exact HBwf.out) (fun hHeld => ?_)
        clear hK K
        try simp only [Act.put, List.getElem_toArray, List.getElem_cons_succ, List.getElem_cons_zero, List.setIfInBounds_toArray, List.set_cons_zero, List.set_cons_succ]
        refine wpAnyH_take (i := 2) (v := .bool false) rfl (by kernel_rfl) (by kernel_rfl) (by kernel_rfl) (fun _ _ _ h => h) (Or.inl ⟨by rfl, fun w hSw => ?_⟩) hHeld ?_
        · clear hSw; go_simp; all_goals (try first | rfl | omega)
        try simp only [Act.put, List.getElem_toArray, List.getElem_cons_succ, List.getElem_cons_zero, List.setIfInBounds_toArray, List.set_cons_zero, List.set_cons_succ]
        refine wpAnyH_take (i := 6) (v := .bool true) rfl (by kernel_rfl) (by kernel_rfl) (by kernel_rfl) (fun _ _ _ h => h) (Or.inl ⟨by rfl, fun w hSw => ?_⟩) hHeld ?_
        · clear hSw; go_simp; all_goals (try first | rfl | omega)
        try simp only [Act.put, List.getElem_toArray, List.getElem_cons_succ, List.getElem_cons_zero, List.setIfInBounds_toArray, List.set_cons_zero, List.set_cons_succ]
        refine wpAnyH_take (i := 7) (v := .pointer (some ⟨w6.heap.size, 2, none⟩)) rfl (by kernel_rfl) (by kernel_rfl) (by kernel_rfl) (fun _ _ _ h => h) (Or.inl ⟨by rfl, fun w hSw => ?_⟩) hHeld ?_
        · clear hSw; go_simp; all_goals (try first | rfl | omega)
        try simp only [Act.put, List.getElem_toArray, List.getElem_cons_succ, List.getElem_cons_zero, List.setIfInBounds_toArray, List.set_cons_zero, List.set_cons_succ]
        refine wpAnyH_take (i := 8) (v := .int .i64 1) rfl (by kernel_rfl) (by kernel_rfl) (by kernel_rfl) (fun _ _ _ h => h) (Or.inl ⟨by rfl, fun w hSw => ?_⟩) hHeld ?_
        · have q0 := (H8.out.belowS hSw).cell 2 rfl; clear hSw; go_simp
        try simp only [Act.put, List.getElem_toArray, List.getElem_cons_succ, List.getElem_cons_zero, List.setIfInBounds_toArray, List.set_cons_zero, List.set_cons_succ]
        refine wpAnyH_take (i := 9) (v := .bool false) rfl (by kernel_rfl) (by kernel_rfl) (by kernel_rfl) (fun _ _ _ h => h) (Or.inl ⟨by rfl, fun w hSw => ?_⟩) hHeld ?_
        · clear hSw; go_simp; all_goals (try first | rfl | omega)
        try simp only [Act.put, List.getElem_toArray, List.getElem_cons_succ, List.getElem_cons_zero, List.setIfInBounds_toArray, List.set_cons_zero, List.set_cons_succ]
        refine wpAnyH_take (i := 10) (v := .bool false) rfl (by kernel_rfl) (by kernel_rfl) (by kernel_rfl) (fun _ _ _ h => h) (Or.inl ⟨by rfl, fun w hSw => ?_⟩) hHeld ?_
        · clear hSw; go_simp; all_goals (try first | rfl | omega)
        try simp only [Act.put, List.getElem_toArray, List.getElem_cons_succ, List.getElem_cons_zero, List.setIfInBounds_toArray, List.set_cons_zero, List.set_cons_succ]
        refine wpAnyH_take (i := 11) (v := .bool false) rfl (by kernel_rfl) (by kernel_rfl) (by kernel_rfl) (fun _ _ _ h => h) (Or.inl ⟨by rfl, fun w hSw => ?_⟩) hHeld ?_
        · clear hSw; go_simp; all_goals (try first | rfl | omega)
        try simp only [Act.put, List.getElem_toArray, List.getElem_cons_succ, List.getElem_cons_zero, List.setIfInBounds_toArray, List.set_cons_zero, List.set_cons_succ]
        refine wpAnyH_take (i := 12) (v := undef) rfl (by kernel_rfl) (by kernel_rfl) (by kernel_rfl) (fun _ _ _ h => h) (Or.inr ⟨by rfl, rfl⟩) hHeld ?_
        try simp only [Act.put, List.getElem_toArray, List.getElem_cons_succ, List.getElem_cons_zero, List.setIfInBounds_toArray, List.set_cons_zero, List.set_cons_succ]
        refine wpAnyH_take (i := 13) (v := undef) rfl (by kernel_rfl) (by kernel_rfl) (by kernel_rfl) (fun _ _ _ h => h) (Or.inr ⟨by rfl, rfl⟩) hHeld ?_
        try simp only [Act.put, List.getElem_toArray, List.getElem_cons_succ, List.getElem_cons_zero, List.setIfInBounds_toArray, List.set_cons_zero, List.set_cons_succ]
        refine wpAnyH_take (i := 14) (v := undef) rfl (by kernel_rfl) (by kernel_rfl) (by kernel_rfl) (fun _ _ _ h => h) (Or.inr ⟨by rfl, rfl⟩) hHeld ?_
        try simp only [Act.put, List.getElem_toArray, List.getElem_cons_succ, List.getElem_cons_zero, List.setIfInBounds_toArray, List.set_cons_zero, List.set_cons_succ]
        refine wpAnyH_take (i := 15) (v := .bool false) rfl (by kernel_rfl) (by kernel_rfl) (by kernel_rfl) (fun _ _ _ h => h) (Or.inl ⟨by rfl, fun w hSw => ?_⟩) hHeld ?_
        · clear hSw; go_simp; all_goals (try first | rfl | omega)
        try simp only [Act.put, List.getElem_toArray, List.getElem_cons_succ, List.getElem_cons_zero, List.setIfInBounds_toArray, List.set_cons_zero, List.set_cons_succ]
        refine wpAnyH_take (i := 16) (v := .bool true) rfl (by kernel_rfl) (by kernel_rfl) (by kernel_rfl) (fun _ _ _ h => h) (Or.inl ⟨by rfl, fun w hSw => ?_⟩) hHeld ?_
        · clear hSw; go_simp; all_goals (try first | rfl | omega)
        try simp only [Act.put, List.getElem_toArray, List.getElem_cons_succ, List.getElem_cons_zero, List.setIfInBounds_toArray, List.set_cons_zero, List.set_cons_succ]
        refine wpAnyH_take (i := 17) (v := .bool true) rfl (by kernel_rfl) (by kernel_rfl) (by kernel_rfl) (fun _ _ _ h => h) (Or.inl ⟨by rfl, fun w hSw => ?_⟩) hHeld ?_
        · clear hSw; go_simp; all_goals (try first | rfl | omega)
        try simp only [Act.put, List.getElem_toArray, List.getElem_cons_succ, List.getElem_cons_zero, List.setIfInBounds_toArray, List.set_cons_zero, List.set_cons_succ]
        refine wpAnyH_done (by kernel_rfl) ?_ _
        have HBE := Lib.hid (HB.out.trans (HBwf.out.mono HB.out.size))
        go_wp2
        go_ret
        exact ⟨rfl, HBE.out⟩
      exact AllReadyH.nil
    · have hn1 : (a.n == 0) = false := by simpa using hn0
      clear hn0
      refine wp_region_held_drew (S := fun w' => Below w8.heap.size w8 w') (by kernel_rfl) (by exact (Below.refl _ _).drew) (fun hHeld => ?_)
      obtain ⟨wd, hwd⟩ : ∃ wd, wd = w8.drew := ⟨_, rfl⟩
      rw [← hwd] at hHeld ⊢
      have HBd := Lib.hid (show Below w8.heap.size w8 wd from hHeld)
      have zwd : w8.heap.size ≤ wd.heap.size := by rw [hwd]; exact Nat.le_refl _
      clear hwd
      refine wpAnyH_take (i := 0) (v := .agg #[.int .i64 10, .int .i64 a.n, .int .i64 1, strV a.t]) rfl (by kernel_rfl) (by kernel_rfl) (by kernel_rfl) (fun _ _ _ h => h) (Or.inl ⟨by rfl, fun w hSw => ?_⟩) hHeld ?_
      · have q0 := (H8.out.belowS hSw).cell 0 rfl; have q1 := (H8.out.belowS hSw).cell 1 rfl; have q2 := (H8.out.belowS hSw).cell 2 rfl; have q3 := (H8.out.belowS hSw).cell 3 rfl; clear hSw; go_simp
      try simp only [Act.put, List.getElem_toArray, List.getElem_cons_succ, List.getElem_cons_zero, List.setIfInBounds_toArray, List.set_cons_zero, List.set_cons_succ]
      refine wpAnyH_take (i := 3) (v := .pointer (some ⟨w6.heap.size, 1, none⟩)) rfl (by kernel_rfl) (by kernel_rfl) (by kernel_rfl) (fun _ _ _ h => h) (Or.inl ⟨by rfl, fun w hSw => ?_⟩) hHeld ?_
      · clear hSw; go_simp; all_goals (try first | rfl | omega)
      try simp only [Act.put, List.getElem_toArray, List.getElem_cons_succ, List.getElem_cons_zero, List.setIfInBounds_toArray, List.set_cons_zero, List.set_cons_succ]
      refine wpAnyH_take (i := 4) (v := .int .i64 a.n) rfl (by kernel_rfl) (by kernel_rfl) (by kernel_rfl) (fun _ _ _ h => h) (Or.inl ⟨by rfl, fun w hSw => ?_⟩) hHeld ?_
      · have q0 := (H8.out.belowS hSw).cell 1 rfl; clear hSw; go_simp
      try simp only [Act.put, List.getElem_toArray, List.getElem_cons_succ, List.getElem_cons_zero, List.setIfInBounds_toArray, List.set_cons_zero, List.set_cons_succ]
      refine wpAnyH_take (i := 5) (v := .bool false) rfl (by kernel_rfl) (by kernel_rfl) (by kernel_rfl) (fun _ _ _ h => h) (Or.inl ⟨by rfl, fun w hSw => ?_⟩) hHeld ?_
      · clear hSw; go_simp; all_goals (try first | rfl | omega)
      try simp only [Act.put, List.getElem_toArray, List.getElem_cons_succ, List.getElem_cons_zero, List.setIfInBounds_toArray, List.set_cons_zero, List.set_cons_succ]
      refine wpAnyH_ready (rs := [1]) (by kernel_rfl) (by simp) ?_
      refine AllReadyH.cons rfl (fun K hK => ?_) ?_
      · rw [if_pos (by rfl)]
        go_simp
        go_at_call 12
        refine (lcheck_any 10 (a.n) (1) ⟨(a.t : List UInt8).toArray⟩ _).mono ?_
        rintro e wf ⟨rfl, hb_wf⟩
        rw [HCD.out]
        have HBwf := Lib.hid (HBd.out.trans (hb_wf.mono (Below.size HBd.out)))
        have zwf := hb_wf.size
        clear hb_wf
        show K _ _
        refine hK.out _ _ (by exact HBwf.out) (fun hHeld => ?_)
        clear hK K
        try simp only [Act.put, List.getElem_toArray, List.getElem_cons_succ, List.getElem_cons_zero, List.setIfInBounds_toArray, List.set_cons_zero, List.set_cons_succ]
        refine wpAnyH_take (i := 2) (v := .bool false) rfl (by kernel_rfl) (by kernel_rfl) (by kernel_rfl) (fun _ _ _ h => h) (Or.inl ⟨by rfl, fun w hSw => ?_⟩) hHeld ?_
        · clear hSw; go_simp; all_goals (try first | rfl | omega)
        try simp only [Act.put, List.getElem_toArray, List.getElem_cons_succ, List.getElem_cons_zero, List.setIfInBounds_toArray, List.set_cons_zero, List.set_cons_succ]
        refine wpAnyH_take (i := 6) (v := .bool false) rfl (by kernel_rfl) (by kernel_rfl) (by kernel_rfl) (fun _ _ _ h => h) (Or.inl ⟨by rfl, fun w hSw => ?_⟩) hHeld ?_
        · clear hSw; go_simp; all_goals (try first | rfl | omega)
        try simp only [Act.put, List.getElem_toArray, List.getElem_cons_succ, List.getElem_cons_zero, List.setIfInBounds_toArray, List.set_cons_zero, List.set_cons_succ]
        refine wpAnyH_take (i := 7) (v := undef) rfl (by kernel_rfl) (by kernel_rfl) (by kernel_rfl) (fun _ _ _ h => h) (Or.inr ⟨by rfl, rfl⟩) hHeld ?_
        try simp only [Act.put, List.getElem_toArray, List.getElem_cons_succ, List.getElem_cons_zero, List.setIfInBounds_toArray, List.set_cons_zero, List.set_cons_succ]
        refine wpAnyH_take (i := 8) (v := undef) rfl (by kernel_rfl) (by kernel_rfl) (by kernel_rfl) (fun _ _ _ h => h) (Or.inr ⟨by rfl, rfl⟩) hHeld ?_
        try simp only [Act.put, List.getElem_toArray, List.getElem_cons_succ, List.getElem_cons_zero, List.setIfInBounds_toArray, List.set_cons_zero, List.set_cons_succ]
        refine wpAnyH_take (i := 9) (v := undef) rfl (by kernel_rfl) (by kernel_rfl) (by kernel_rfl) (fun _ _ _ h => h) (Or.inr ⟨by rfl, rfl⟩) hHeld ?_
        try simp only [Act.put, List.getElem_toArray, List.getElem_cons_succ, List.getElem_cons_zero, List.setIfInBounds_toArray, List.set_cons_zero, List.set_cons_succ]
        refine wpAnyH_take (i := 10) (v := .bool false) rfl (by kernel_rfl) (by kernel_rfl) (by kernel_rfl) (fun _ _ _ h => h) (Or.inl ⟨by rfl, fun w hSw => ?_⟩) hHeld ?_
        · clear hSw; go_simp; all_goals (try first | rfl | omega)
        try simp only [Act.put, List.getElem_toArray, List.getElem_cons_succ, List.getElem_cons_zero, List.setIfInBounds_toArray, List.set_cons_zero, List.set_cons_succ]
        refine wpAnyH_take (i := 11) (v := .bool false) rfl (by kernel_rfl) (by kernel_rfl) (by kernel_rfl) (fun _ _ _ h => h) (Or.inl ⟨by rfl, fun w hSw => ?_⟩) hHeld ?_
        · clear hSw; go_simp; all_goals (try first | rfl | omega)
        try simp only [Act.put, List.getElem_toArray, List.getElem_cons_succ, List.getElem_cons_zero, List.setIfInBounds_toArray, List.set_cons_zero, List.set_cons_succ]
        refine wpAnyH_take (i := 12) (v := undef) rfl (by kernel_rfl) (by kernel_rfl) (by kernel_rfl) (fun _ _ _ h => h) (Or.inr ⟨by rfl, rfl⟩) hHeld ?_
        try simp only [Act.put, List.getElem_toArray, List.getElem_cons_succ, List.getElem_cons_zero, List.setIfInBounds_toArray, List.set_cons_zero, List.set_cons_succ]
        refine wpAnyH_take (i := 13) (v := undef) rfl (by kernel_rfl) (by kernel_rfl) (by kernel_rfl) (fun _ _ _ h => h) (Or.inr ⟨by rfl, rfl⟩) hHeld ?_
        try simp only [Act.put, List.getElem_toArray, List.getElem_cons_succ, List.getElem_cons_zero, List.setIfInBounds_toArray, List.set_cons_zero, List.set_cons_succ]
        refine wpAnyH_take (i := 14) (v := undef) rfl (by kernel_rfl) (by kernel_rfl) (by kernel_rfl) (fun _ _ _ h => h) (Or.inr ⟨by rfl, rfl⟩) hHeld ?_
        try simp only [Act.put, List.getElem_toArray, List.getElem_cons_succ, List.getElem_cons_zero, List.setIfInBounds_toArray, List.set_cons_zero, List.set_cons_succ]
        refine wpAnyH_take (i := 15) (v := .bool false) rfl (by kernel_rfl) (by kernel_rfl) (by kernel_rfl) (fun _ _ _ h => h) (Or.inl ⟨by rfl, fun w hSw => ?_⟩) hHeld ?_
        · clear hSw; go_simp; all_goals (try first | rfl | omega)
        try simp only [Act.put, List.getElem_toArray, List.getElem_cons_succ, List.getElem_cons_zero, List.setIfInBounds_toArray, List.set_cons_zero, List.set_cons_succ]
        refine wpAnyH_take (i := 16) (v := .bool true) rfl (by kernel_rfl) (by kernel_rfl) (by kernel_rfl) (fun _ _ _ h => h) (Or.inl ⟨by rfl, fun w hSw => ?_⟩) hHeld ?_
        · clear hSw; go_simp; all_goals (try first | rfl | omega)
        try simp only [Act.put, List.getElem_toArray, List.getElem_cons_succ, List.getElem_cons_zero, List.setIfInBounds_toArray, List.set_cons_zero, List.set_cons_succ]
        refine wpAnyH_take (i := 17) (v := .bool true) rfl (by kernel_rfl) (by kernel_rfl) (by kernel_rfl) (fun _ _ _ h => h) (Or.inl ⟨by rfl, fun w hSw => ?_⟩) hHeld ?_
        · clear hSw; go_simp; all_goals (try first | rfl | omega)
        try simp only [Act.put, List.getElem_toArray, List.getElem_cons_succ, List.getElem_cons_zero, List.setIfInBounds_toArray, List.set_cons_zero, List.set_cons_succ]
        refine wpAnyH_done (by kernel_rfl) ?_ _
        have HBE := Lib.hid (HB.out.trans (HBwf.out.mono HB.out.size))
        go_wp2
        go_ret
        exact ⟨rfl, HBE.out⟩
      exact AllReadyH.nil
  · go_upto_region 15 with (go_at_call 13; refine (picked_any n 3 _ n1 n2 (by omega) (by omega)).mono ?_; rintro e w' ⟨rfl, rfl⟩; rw [HR.out])
    obtain ⟨w6, hwl⟩ : ∃ w6, w6 = (w5.alloc (.cells #[.int .i64 a.k, .int .i64 a.n, .int .i64 a.p, .string ⟨#[97]⟩] 25)) := ⟨_, rfl⟩
    have hBl : Below w5.heap.size w5 w6 := by rw [hwl]; exact ((Below.refl _ _).alloc (by first | exact Nat.le_refl _ | (simp; done) | (simp; omega)) _)
    have H7 := Lib.hid (show BoxAt w6 w5.heap.size [.int .i64 a.k, .int .i64 a.n, .int .i64 a.p, .string ⟨#[97]⟩] 25 by rw [hwl]; exact BoxAt.new w5 [.int .i64 a.k, .int .i64 a.n, .int .i64 a.p, .string ⟨#[97]⟩] _)
    rw [← hwl]
    replace H5 := Lib.hid (H5.out.belowS hBl)
    replace H6 := Lib.hid (H6.out.belowS hBl)
    replace HB := Lib.hid (HB.out.trans (hBl.mono HB.out.size))
    clear hwl hBl
    clear x0 x1 x2 x3 zx
    have x0 := H7.out.cell 0 rfl
    have x1 := H7.out.cell 1 rfl
    have x2 := H7.out.cell 2 rfl
    have x3 := H7.out.cell 3 rfl
    have zx := H7.out.lt
    go_upto_region 16 with fail
    obtain ⟨w7, hwl⟩ : ∃ w7, w7 = (w6.alloc (.cells #[.int .i64 10, .int .i64 a.n, .int .i64 a.p, .string ⟨#[97]⟩] 25)) := ⟨_, rfl⟩
    have hBl : Below w6.heap.size w6 w7 := by rw [hwl]; exact ((Below.refl _ _).alloc (by first | exact Nat.le_refl _ | (simp; done) | (simp; omega)) _)
    have H8 := Lib.hid (show BoxAt w7 w6.heap.size [.int .i64 10, .int .i64 a.n, .int .i64 a.p, .string ⟨#[97]⟩] 25 by rw [hwl]; exact BoxAt.new w6 [.int .i64 10, .int .i64 a.n, .int .i64 a.p, .string ⟨#[97]⟩] _)
    rw [← hwl]
    replace H5 := Lib.hid (H5.out.belowS hBl)
    replace H6 := Lib.hid (H6.out.belowS hBl)
    replace HB := Lib.hid (HB.out.trans (hBl.mono HB.out.size))
    clear hwl hBl
    clear x0 x1 x2 x3 zx
    have x0 := H5.out.cell 0 rfl
    have y0 := H6.out.cell 0 rfl
    have x1 := H5.out.cell 1 rfl
    have y1 := H6.out.cell 1 rfl
    have x2 := H5.out.cell 2 rfl
    have y2 := H6.out.cell 2 rfl
    have x3 := H5.out.cell 3 rfl
    have y3 := H6.out.cell 3 rfl
    have zx := H5.out.lt
    have zy := H6.out.lt
    have hB8 : Below w7.heap.size w7 (w7.alloc (.cells #[.int .i64 a.k, .int .i64 a.n, .int .i64 a.p, strV a.t, .int .i64 11, .int .i64 a.n, .int .i64 a.p, strV a.t] 25)) := (Below.refl _ _).alloc (Nat.le_refl _) _
    have HRD := Lib.hid (show RdS RAct (fun _ => True) (w7.alloc (.cells #[.int .i64 a.k, .int .i64 a.n, .int .i64 a.p, strV a.t, .int .i64 11, .int .i64 a.n, .int .i64 a.p, strV a.t] 25)) (.slice (some ⟨w7.heap.size, 0, none⟩) 2 2) [a, ⟨11, a.n, a.p, a.t⟩] from rdActs (l := [a, ⟨11, a.n, a.p, a.t⟩]) (BoxAt.new w7 [.int .i64 a.k, .int .i64 a.n, .int .i64 a.p, strV a.t, .int .i64 11, .int .i64 a.n, .int .i64 a.p, strV a.t] _) trivial (by unfold maxLen; simp))
    have HT8 := Lib.hid (HT.out.belowS (HB.out.trans (hB8.mono HB.out.size)))
    have HS := Lib.hid (show_two HOK.out (code_kind a.n a.p a.t))
    go_wp2_with fail
    refine (lshow_any _ _ HRD.out HT8.out).mono ?_
    rintro e w8 ⟨rfl, hb8⟩
    rw [HS.out]
    have hb78 := hB8.trans (hb8.mono hB8.size)
    replace H8 := Lib.hid (H8.out.belowS hb78)
    replace HB := Lib.hid (HB.out.trans (hb78.mono HB.out.size))
    clear hb8 hB8 hb78 x0 x1 x2 x3 y0 y1 y2 y3 zx zy HRD HT8
    go_upto_region 19 with fail
    have HCD := Lib.hid (show actCheck 10 (a.n) (a.p) ⟨([97] : List UInt8).toArray⟩ = 4 from (check_eq ⟨10, a.n, a.p, [97]⟩).trans (by rw [code_flow, if_neg (by simp)]))
    by_cases hn0 : a.n = 0
    · have hn1 : (a.n == 0) = true := by simp [hn0]
      clear hn0
      by_cases hp0 : a.p = 0
      · have hp1 : (a.p == 0) = true := by simp [hp0]
        clear hp0
        refine wp_region_held_drew (S := fun w' => Below w8.heap.size w8 w') (by kernel_rfl) (by exact (Below.refl _ _).drew) (fun hHeld => ?_)
        obtain ⟨wd, hwd⟩ : ∃ wd, wd = w8.drew := ⟨_, rfl⟩
        rw [← hwd] at hHeld ⊢
        have HBd := Lib.hid (show Below w8.heap.size w8 wd from hHeld)
        have zwd : w8.heap.size ≤ wd.heap.size := by rw [hwd]; exact Nat.le_refl _
        clear hwd
        refine wpAnyH_take (i := 0) (v := .agg #[.int .i64 10, .int .i64 a.n, .int .i64 a.p, .string ⟨#[97]⟩]) rfl (by kernel_rfl) (by kernel_rfl) (by kernel_rfl) (fun _ _ _ h => h) (Or.inl ⟨by rfl, fun w hSw => ?_⟩) hHeld ?_
        · have q0 := (H8.out.belowS hSw).cell 0 rfl; have q1 := (H8.out.belowS hSw).cell 1 rfl; have q2 := (H8.out.belowS hSw).cell 2 rfl; have q3 := (H8.out.belowS hSw).cell 3 rfl; clear hSw; go_simp
        try simp only [Act.put, List.getElem_toArray, List.getElem_cons_succ, List.getElem_cons_zero, List.setIfInBounds_toArray, List.set_cons_zero, List.set_cons_succ]
        refine wpAnyH_take (i := 3) (v := .pointer (some ⟨w6.heap.size, 1, none⟩)) rfl (by kernel_rfl) (by kernel_rfl) (by kernel_rfl) (fun _ _ _ h => h) (Or.inl ⟨by rfl, fun w hSw => ?_⟩) hHeld ?_
        · clear hSw; go_simp; all_goals (try first | rfl | omega)
        try simp only [Act.put, List.getElem_toArray, List.getElem_cons_succ, List.getElem_cons_zero, List.setIfInBounds_toArray, List.set_cons_zero, List.set_cons_succ]
        refine wpAnyH_take (i := 4) (v := .int .i64 a.n) rfl (by kernel_rfl) (by kernel_rfl) (by kernel_rfl) (fun _ _ _ h => h) (Or.inl ⟨by rfl, fun w hSw => ?_⟩) hHeld ?_
        · have q0 := (H8.out.belowS hSw).cell 1 rfl; clear hSw; go_simp
        try simp only [Act.put, List.getElem_toArray, List.getElem_cons_succ, List.getElem_cons_zero, List.setIfInBounds_toArray, List.set_cons_zero, List.set_cons_succ]
        refine wpAnyH_take (i := 5) (v := .bool true) rfl (by kernel_rfl) (by kernel_rfl) (by kernel_rfl) (fun _ _ _ h => h) (Or.inl ⟨by rfl, fun w hSw => ?_⟩) hHeld ?_
        · clear hSw; go_simp; all_goals (try first | rfl | omega)
        try simp only [Act.put, List.getElem_toArray, List.getElem_cons_succ, List.getElem_cons_zero, List.setIfInBounds_toArray, List.set_cons_zero, List.set_cons_succ]
        refine wpAnyH_ready (rs := [1]) (by kernel_rfl) (by simp) ?_
        refine AllReadyH.cons rfl (fun K hK => ?_) ?_
        · rw [if_pos (by rfl)]
          go_simp
          go_at_call 12
          refine (lcheck_any 10 (a.n) (a.p) ⟨([97] : List UInt8).toArray⟩ _).mono ?_
          rintro e wf ⟨rfl, hb_wf⟩
          rw [HCD.out]
          have HBwf := Lib.hid (HBd.out.trans (hb_wf.mono (Below.size HBd.out)))
          have zwf := hb_wf.size
          clear hb_wf
          show K _ _
          refine hK.out _ _ (by exact HBwf.out) (fun hHeld => ?_)
          clear hK K
          try simp only [Act.put, List.getElem_toArray, List.getElem_cons_succ, List.getElem_cons_zero, List.setIfInBounds_toArray, List.set_cons_zero, List.set_cons_succ]
          refine wpAnyH_take (i := 2) (v := .bool false) rfl (by kernel_rfl) (by kernel_rfl) (by kernel_rfl) (fun _ _ _ h => h) (Or.inl ⟨by rfl, fun w hSw => ?_⟩) hHeld ?_
          · clear hSw; go_simp; all_goals (try first | rfl | omega)
          try simp only [Act.put, List.getElem_toArray, List.getElem_cons_succ, List.getElem_cons_zero, List.setIfInBounds_toArray, List.set_cons_zero, List.set_cons_succ]
          refine wpAnyH_take (i := 6) (v := .bool true) rfl (by kernel_rfl) (by kernel_rfl) (by kernel_rfl) (fun _ _ _ h => h) (Or.inl ⟨by rfl, fun w hSw => ?_⟩) hHeld ?_
          · clear hSw; go_simp; all_goals (try first | rfl | omega)
          try simp only [Act.put, List.getElem_toArray, List.getElem_cons_succ, List.getElem_cons_zero, List.setIfInBounds_toArray, List.set_cons_zero, List.set_cons_succ]
          refine wpAnyH_take (i := 7) (v := .pointer (some ⟨w6.heap.size, 2, none⟩)) rfl (by kernel_rfl) (by kernel_rfl) (by kernel_rfl) (fun _ _ _ h => h) (Or.inl ⟨by rfl, fun w hSw => ?_⟩) hHeld ?_
          · clear hSw; go_simp; all_goals (try first | rfl | omega)
          try simp only [Act.put, List.getElem_toArray, List.getElem_cons_succ, List.getElem_cons_zero, List.setIfInBounds_toArray, List.set_cons_zero, List.set_cons_succ]
          refine wpAnyH_take (i := 8) (v := .int .i64 a.p) rfl (by kernel_rfl) (by kernel_rfl) (by kernel_rfl) (fun _ _ _ h => h) (Or.inl ⟨by rfl, fun w hSw => ?_⟩) hHeld ?_
          · have q0 := (H8.out.belowS hSw).cell 2 rfl; clear hSw; go_simp
          try simp only [Act.put, List.getElem_toArray, List.getElem_cons_succ, List.getElem_cons_zero, List.setIfInBounds_toArray, List.set_cons_zero, List.set_cons_succ]
          refine wpAnyH_take (i := 9) (v := .bool true) rfl (by kernel_rfl) (by kernel_rfl) (by kernel_rfl) (fun _ _ _ h => h) (Or.inl ⟨by rfl, fun w hSw => ?_⟩) hHeld ?_
          · clear hSw; go_simp; all_goals (try first | rfl | omega)
          try simp only [Act.put, List.getElem_toArray, List.getElem_cons_succ, List.getElem_cons_zero, List.setIfInBounds_toArray, List.set_cons_zero, List.set_cons_succ]
          refine wpAnyH_take (i := 10) (v := .bool true) rfl (by kernel_rfl) (by kernel_rfl) (by kernel_rfl) (fun _ _ _ h => h) (Or.inl ⟨by rfl, fun w hSw => ?_⟩) hHeld ?_
          · clear hSw; go_simp; all_goals (try first | rfl | omega)
          try simp only [Act.put, List.getElem_toArray, List.getElem_cons_succ, List.getElem_cons_zero, List.setIfInBounds_toArray, List.set_cons_zero, List.set_cons_succ]
          refine wpAnyH_take (i := 11) (v := .bool true) rfl (by kernel_rfl) (by kernel_rfl) (by kernel_rfl) (fun _ _ _ h => h) (Or.inl ⟨by rfl, fun w hSw => ?_⟩) hHeld ?_
          · clear hSw; go_simp; all_goals (try first | rfl | omega)
          try simp only [Act.put, List.getElem_toArray, List.getElem_cons_succ, List.getElem_cons_zero, List.setIfInBounds_toArray, List.set_cons_zero, List.set_cons_succ]
          refine wpAnyH_take (i := 12) (v := .pointer (some ⟨w6.heap.size, 3, none⟩)) rfl (by kernel_rfl) (by kernel_rfl) (by kernel_rfl) (fun _ _ _ h => h) (Or.inl ⟨by rfl, fun w hSw => ?_⟩) hHeld ?_
          · clear hSw; go_simp; all_goals (try first | rfl | omega)
          try simp only [Act.put, List.getElem_toArray, List.getElem_cons_succ, List.getElem_cons_zero, List.setIfInBounds_toArray, List.set_cons_zero, List.set_cons_succ]
          refine wpAnyH_take (i := 13) (v := .string ⟨([97] : List UInt8).toArray⟩) rfl (by kernel_rfl) (by kernel_rfl) (by kernel_rfl) (fun _ _ _ h => h) (Or.inl ⟨by rfl, fun w hSw => ?_⟩) hHeld ?_
          · have q0 := (H8.out.belowS hSw).cell 3 rfl; clear hSw; go_simp
          try simp only [Act.put, List.getElem_toArray, List.getElem_cons_succ, List.getElem_cons_zero, List.setIfInBounds_toArray, List.set_cons_zero, List.set_cons_succ]
          refine wpAnyH_take (i := 14) (v := .bool false) rfl (by kernel_rfl) (by kernel_rfl) (by kernel_rfl) (fun _ _ _ h => h) (Or.inl ⟨by rfl, fun w hSw => ?_⟩) hHeld ?_
          · clear hSw; go_simp; all_goals (try first | rfl | omega)
          try simp only [Act.put, List.getElem_toArray, List.getElem_cons_succ, List.getElem_cons_zero, List.setIfInBounds_toArray, List.set_cons_zero, List.set_cons_succ]
          refine wpAnyH_take (i := 15) (v := .bool false) rfl (by kernel_rfl) (by kernel_rfl) (by kernel_rfl) (fun _ _ _ h => h) (Or.inl ⟨by rfl, fun w hSw => ?_⟩) hHeld ?_
          · clear hSw; go_simp; all_goals (try first | rfl | omega)
          try simp only [Act.put, List.getElem_toArray, List.getElem_cons_succ, List.getElem_cons_zero, List.setIfInBounds_toArray, List.set_cons_zero, List.set_cons_succ]
          refine wpAnyH_take (i := 16) (v := .bool true) rfl (by kernel_rfl) (by kernel_rfl) (by kernel_rfl) (fun _ _ _ h => h) (Or.inl ⟨by rfl, fun w hSw => ?_⟩) hHeld ?_
          · clear hSw; go_simp; all_goals (try first | rfl | omega)
          try simp only [Act.put, List.getElem_toArray, List.getElem_cons_succ, List.getElem_cons_zero, List.setIfInBounds_toArray, List.set_cons_zero, List.set_cons_succ]
          refine wpAnyH_take (i := 17) (v := .bool true) rfl (by kernel_rfl) (by kernel_rfl) (by kernel_rfl) (fun _ _ _ h => h) (Or.inl ⟨by rfl, fun w hSw => ?_⟩) hHeld ?_
          · clear hSw; go_simp; all_goals (try first | rfl | omega)
          try simp only [Act.put, List.getElem_toArray, List.getElem_cons_succ, List.getElem_cons_zero, List.setIfInBounds_toArray, List.set_cons_zero, List.set_cons_succ]
          refine wpAnyH_done (by kernel_rfl) ?_ _
          have HBE := Lib.hid (HB.out.trans (HBwf.out.mono HB.out.size))
          go_wp2
          go_ret
          exact ⟨rfl, HBE.out⟩
        exact AllReadyH.nil
      · have hp1 : (a.p == 0) = false := by simpa using hp0
        clear hp0
        refine wp_region_held_drew (S := fun w' => Below w8.heap.size w8 w') (by kernel_rfl) (by exact (Below.refl _ _).drew) (fun hHeld => ?_)
        obtain ⟨wd, hwd⟩ : ∃ wd, wd = w8.drew := ⟨_, rfl⟩
        rw [← hwd] at hHeld ⊢
        have HBd := Lib.hid (show Below w8.heap.size w8 wd from hHeld)
        have zwd : w8.heap.size ≤ wd.heap.size := by rw [hwd]; exact Nat.le_refl _
        clear hwd
        refine wpAnyH_take (i := 0) (v := .agg #[.int .i64 10, .int .i64 a.n, .int .i64 a.p, .string ⟨#[97]⟩]) rfl (by kernel_rfl) (by kernel_rfl) (by kernel_rfl) (fun _ _ _ h => h) (Or.inl ⟨by rfl, fun w hSw => ?_⟩) hHeld ?_
        · have q0 := (H8.out.belowS hSw).cell 0 rfl; have q1 := (H8.out.belowS hSw).cell 1 rfl; have q2 := (H8.out.belowS hSw).cell 2 rfl; have q3 := (H8.out.belowS hSw).cell 3 rfl; clear hSw; go_simp
        try simp only [Act.put, List.getElem_toArray, List.getElem_cons_succ, List.getElem_cons_zero, List.setIfInBounds_toArray, List.set_cons_zero, List.set_cons_succ]
        refine wpAnyH_take (i := 3) (v := .pointer (some ⟨w6.heap.size, 1, none⟩)) rfl (by kernel_rfl) (by kernel_rfl) (by kernel_rfl) (fun _ _ _ h => h) (Or.inl ⟨by rfl, fun w hSw => ?_⟩) hHeld ?_
        · clear hSw; go_simp; all_goals (try first | rfl | omega)
        try simp only [Act.put, List.getElem_toArray, List.getElem_cons_succ, List.getElem_cons_zero, List.setIfInBounds_toArray, List.set_cons_zero, List.set_cons_succ]
        refine wpAnyH_take (i := 4) (v := .int .i64 a.n) rfl (by kernel_rfl) (by kernel_rfl) (by kernel_rfl) (fun _ _ _ h => h) (Or.inl ⟨by rfl, fun w hSw => ?_⟩) hHeld ?_
        · have q0 := (H8.out.belowS hSw).cell 1 rfl; clear hSw; go_simp
        try simp only [Act.put, List.getElem_toArray, List.getElem_cons_succ, List.getElem_cons_zero, List.setIfInBounds_toArray, List.set_cons_zero, List.set_cons_succ]
        refine wpAnyH_take (i := 5) (v := .bool true) rfl (by kernel_rfl) (by kernel_rfl) (by kernel_rfl) (fun _ _ _ h => h) (Or.inl ⟨by rfl, fun w hSw => ?_⟩) hHeld ?_
        · clear hSw; go_simp; all_goals (try first | rfl | omega)
        try simp only [Act.put, List.getElem_toArray, List.getElem_cons_succ, List.getElem_cons_zero, List.setIfInBounds_toArray, List.set_cons_zero, List.set_cons_succ]
        refine wpAnyH_ready (rs := [1]) (by kernel_rfl) (by simp) ?_
        refine AllReadyH.cons rfl (fun K hK => ?_) ?_
        · rw [if_pos (by rfl)]
          go_simp
          go_at_call 12
          refine (lcheck_any 10 (a.n) (a.p) ⟨([97] : List UInt8).toArray⟩ _).mono ?_
          rintro e wf ⟨rfl, hb_wf⟩
          rw [HCD.out]
          have HBwf := Lib.hid (HBd.out.trans (hb_wf.mono (Below.size HBd.out)))
          have zwf := hb_wf.size
          clear hb_wf
          show K _ _
          refine hK.out _ _ (by exact HBwf.out) (fun hHeld => ?_)
          clear hK K
          try simp only [Act.put, List.getElem_toArray, List.getElem_cons_succ, List.getElem_cons_zero, List.setIfInBounds_toArray, List.set_cons_zero, List.set_cons_succ]
          refine wpAnyH_take (i := 2) (v := .bool false) rfl (by kernel_rfl) (by kernel_rfl) (by kernel_rfl) (fun _ _ _ h => h) (Or.inl ⟨by rfl, fun w hSw => ?_⟩) hHeld ?_
          · clear hSw; go_simp; all_goals (try first | rfl | omega)
          try simp only [Act.put, List.getElem_toArray, List.getElem_cons_succ, List.getElem_cons_zero, List.setIfInBounds_toArray, List.set_cons_zero, List.set_cons_succ]
          refine wpAnyH_take (i := 6) (v := .bool true) rfl (by kernel_rfl) (by kernel_rfl) (by kernel_rfl) (fun _ _ _ h => h) (Or.inl ⟨by rfl, fun w hSw => ?_⟩) hHeld ?_
          · clear hSw; go_simp; all_goals (try first | rfl | omega)
          try simp only [Act.put, List.getElem_toArray, List.getElem_cons_succ, List.getElem_cons_zero, List.setIfInBounds_toArray, List.set_cons_zero, List.set_cons_succ]
          refine wpAnyH_take (i := 7) (v := .pointer (some ⟨w6.heap.size, 2, none⟩)) rfl (by kernel_rfl) (by kernel_rfl) (by kernel_rfl) (fun _ _ _ h => h) (Or.inl ⟨by rfl, fun w hSw => ?_⟩) hHeld ?_
          · clear hSw; go_simp; all_goals (try first | rfl | omega)
          try simp only [Act.put, List.getElem_toArray, List.getElem_cons_succ, List.getElem_cons_zero, List.setIfInBounds_toArray, List.set_cons_zero, List.set_cons_succ]
          refine wpAnyH_take (i := 8) (v := .int .i64 a.p) rfl (by kernel_rfl) (by kernel_rfl) (by kernel_rfl) (fun _ _ _ h => h) (Or.inl ⟨by rfl, fun w hSw => ?_⟩) hHeld ?_
          · have q0 := (H8.out.belowS hSw).cell 2 rfl; clear hSw; go_simp
          try simp only [Act.put, List.getElem_toArray, List.getElem_cons_succ, List.getElem_cons_zero, List.setIfInBounds_toArray, List.set_cons_zero, List.set_cons_succ]
          refine wpAnyH_take (i := 9) (v := .bool false) rfl (by kernel_rfl) (by kernel_rfl) (by kernel_rfl) (fun _ _ _ h => h) (Or.inl ⟨by rfl, fun w hSw => ?_⟩) hHeld ?_
          · clear hSw; go_simp; all_goals (try first | rfl | omega)
          try simp only [Act.put, List.getElem_toArray, List.getElem_cons_succ, List.getElem_cons_zero, List.setIfInBounds_toArray, List.set_cons_zero, List.set_cons_succ]
          refine wpAnyH_take (i := 10) (v := .bool false) rfl (by kernel_rfl) (by kernel_rfl) (by kernel_rfl) (fun _ _ _ h => h) (Or.inl ⟨by rfl, fun w hSw => ?_⟩) hHeld ?_
          · clear hSw; go_simp; all_goals (try first | rfl | omega)
          try simp only [Act.put, List.getElem_toArray, List.getElem_cons_succ, List.getElem_cons_zero, List.setIfInBounds_toArray, List.set_cons_zero, List.set_cons_succ]
          refine wpAnyH_take (i := 11) (v := .bool false) rfl (by kernel_rfl) (by kernel_rfl) (by kernel_rfl) (fun _ _ _ h => h) (Or.inl ⟨by rfl, fun w hSw => ?_⟩) hHeld ?_
          · clear hSw; go_simp; all_goals (try first | rfl | omega)
          try simp only [Act.put, List.getElem_toArray, List.getElem_cons_succ, List.getElem_cons_zero, List.setIfInBounds_toArray, List.set_cons_zero, List.set_cons_succ]
          refine wpAnyH_take (i := 12) (v := undef) rfl (by kernel_rfl) (by kernel_rfl) (by kernel_rfl) (fun _ _ _ h => h) (Or.inr ⟨by rfl, rfl⟩) hHeld ?_
          try simp only [Act.put, List.getElem_toArray, List.getElem_cons_succ, List.getElem_cons_zero, List.setIfInBounds_toArray, List.set_cons_zero, List.set_cons_succ]
          refine wpAnyH_take (i := 13) (v := undef) rfl (by kernel_rfl) (by kernel_rfl) (by kernel_rfl) (fun _ _ _ h => h) (Or.inr ⟨by rfl, rfl⟩) hHeld ?_
          try simp only [Act.put, List.getElem_toArray, List.getElem_cons_succ, List.getElem_cons_zero, List.setIfInBounds_toArray, List.set_cons_zero, List.set_cons_succ]
          refine wpAnyH_take (i := 14) (v := undef) rfl (by kernel_rfl) (by kernel_rfl) (by kernel_rfl) (fun _ _ _ h => h) (Or.inr ⟨by rfl, rfl⟩) hHeld ?_
          try simp only [Act.put, List.getElem_toArray, List.getElem_cons_succ, List.getElem_cons_zero, List.setIfInBounds_toArray, List.set_cons_zero, List.set_cons_succ]
          refine wpAnyH_take (i := 15) (v := .bool false) rfl (by kernel_rfl) (by kernel_rfl) (by kernel_rfl) (fun _ _ _ h => h) (Or.inl ⟨by rfl, fun w hSw => ?_⟩) hHeld ?_
          · clear hSw; go_simp; all_goals (try first | rfl | omega)
          try simp only [Act.put, List.getElem_toArray, List.getElem_cons_succ, List.getElem_cons_zero, List.setIfInBounds_toArray, List.set_cons_zero, List.set_cons_succ]
          refine wpAnyH_take (i := 16) (v := .bool true) rfl (by kernel_rfl) (by kernel_rfl) (by kernel_rfl) (fun _ _ _ h => h) (Or.inl ⟨by rfl, fun w hSw => ?_⟩) hHeld ?_
          · clear hSw; go_simp; all_goals (try first | rfl | omega)
          try simp only [Act.put, List.getElem_toArray, List.getElem_cons_succ, List.getElem_cons_zero, List.setIfInBounds_toArray, List.set_cons_zero, List.set_cons_succ]
          refine wpAnyH_take (i := 17) (v := .bool true) rfl (by kernel_rfl) (by kernel_rfl) (by kernel_rfl) (fun _ _ _ h => h) (Or.inl ⟨by rfl, fun w hSw => ?_⟩) hHeld ?_
          · clear hSw; go_simp; all_goals (try first | rfl | omega)
          try simp only [Act.put, List.getElem_toArray, List.getElem_cons_succ, List.getElem_cons_zero, List.setIfInBounds_toArray, List.set_cons_zero, List.set_cons_succ]
          refine wpAnyH_done (by kernel_rfl) ?_ _
          have HBE := Lib.hid (HB.out.trans (HBwf.out.mono HB.out.size))
          go_wp2
          go_ret
          exact ⟨rfl, HBE.out⟩
        exact AllReadyH.nil
    · have hn1 : (a.n == 0) = false := by simpa using hn0
      clear hn0
      refine wp_region_held_drew (S := fun w' => Below w8.heap.size w8 w') (by kernel_rfl) (by exact (Below.refl _ _).drew) (fun hHeld => ?_)
      obtain ⟨wd, hwd⟩ : ∃ wd, wd = w8.drew := ⟨_, rfl⟩
      rw [← hwd] at hHeld ⊢
      have HBd := Lib.hid (show Below w8.heap.size w8 wd from hHeld)
      have zwd : w8.heap.size ≤ wd.heap.size := by rw [hwd]; exact Nat.le_refl _
      clear hwd
      refine wpAnyH_take (i := 0) (v := .agg #[.int .i64 10, .int .i64 a.n, .int .i64 a.p, .string ⟨#[97]⟩]) rfl (by kernel_rfl) (by kernel_rfl) (by kernel_rfl) (fun _ _ _ h => h) (Or.inl ⟨by rfl, fun w hSw => ?_⟩) hHeld ?_
      · have q0 := (H8.out.belowS hSw).cell 0 rfl; have q1 := (H8.out.belowS hSw).cell 1 rfl; have q2 := (H8.out.belowS hSw).cell 2 rfl; have q3 := (H8.out.belowS hSw).cell 3 rfl; clear hSw; go_simp
      try simp only [Act.put, List.getElem_toArray, List.getElem_cons_succ, List.getElem_cons_zero, List.setIfInBounds_toArray, List.set_cons_zero, List.set_cons_succ]
      refine wpAnyH_take (i := 3) (v := .pointer (some ⟨w6.heap.size, 1, none⟩)) rfl (by kernel_rfl) (by kernel_rfl) (by kernel_rfl) (fun _ _ _ h => h) (Or.inl ⟨by rfl, fun w hSw => ?_⟩) hHeld ?_
      · clear hSw; go_simp; all_goals (try first | rfl | omega)
      try simp only [Act.put, List.getElem_toArray, List.getElem_cons_succ, List.getElem_cons_zero, List.setIfInBounds_toArray, List.set_cons_zero, List.set_cons_succ]
      refine wpAnyH_take (i := 4) (v := .int .i64 a.n) rfl (by kernel_rfl) (by kernel_rfl) (by kernel_rfl) (fun _ _ _ h => h) (Or.inl ⟨by rfl, fun w hSw => ?_⟩) hHeld ?_
      · have q0 := (H8.out.belowS hSw).cell 1 rfl; clear hSw; go_simp
      try simp only [Act.put, List.getElem_toArray, List.getElem_cons_succ, List.getElem_cons_zero, List.setIfInBounds_toArray, List.set_cons_zero, List.set_cons_succ]
      refine wpAnyH_take (i := 5) (v := .bool false) rfl (by kernel_rfl) (by kernel_rfl) (by kernel_rfl) (fun _ _ _ h => h) (Or.inl ⟨by rfl, fun w hSw => ?_⟩) hHeld ?_
      · clear hSw; go_simp; all_goals (try first | rfl | omega)
      try simp only [Act.put, List.getElem_toArray, List.getElem_cons_succ, List.getElem_cons_zero, List.setIfInBounds_toArray, List.set_cons_zero, List.set_cons_succ]
      refine wpAnyH_ready (rs := [1]) (by kernel_rfl) (by simp) ?_
      refine AllReadyH.cons rfl (fun K hK => ?_) ?_
      · rw [if_pos (by rfl)]
        go_simp
        go_at_call 12
        refine (lcheck_any 10 (a.n) (a.p) ⟨([97] : List UInt8).toArray⟩ _).mono ?_
        rintro e wf ⟨rfl, hb_wf⟩
        rw [HCD.out]
        have HBwf := Lib.hid (HBd.out.trans (hb_wf.mono (Below.size HBd.out)))
        have zwf := hb_wf.size
        clear hb_wf
        show K _ _
        refine hK.out _ _ (by exact HBwf.out) (fun hHeld => ?_)
        clear hK K
        try simp only [Act.put, List.getElem_toArray, List.getElem_cons_succ, List.getElem_cons_zero, List.setIfInBounds_toArray, List.set_cons_zero, List.set_cons_succ]
        refine wpAnyH_take (i := 2) (v := .bool false) rfl (by kernel_rfl) (by kernel_rfl) (by kernel_rfl) (fun _ _ _ h => h) (Or.inl ⟨by rfl, fun w hSw => ?_⟩) hHeld ?_
        · clear hSw; go_simp; all_goals (try first | rfl | omega)
        try simp only [Act.put, List.getElem_toArray, List.getElem_cons_succ, List.getElem_cons_zero, List.setIfInBounds_toArray, List.set_cons_zero, List.set_cons_succ]
        refine wpAnyH_take (i := 6) (v := .bool false) rfl (by kernel_rfl) (by kernel_rfl) (by kernel_rfl) (fun _ _ _ h => h) (Or.inl ⟨by rfl, fun w hSw => ?_⟩) hHeld ?_
        · clear hSw; go_simp; all_goals (try first | rfl | omega)
        try simp only [Act.put, List.getElem_toArray, List.getElem_cons_succ, List.getElem_cons_zero, List.setIfInBounds_toArray, List.set_cons_zero, List.set_cons_succ]
        refine wpAnyH_take (i := 7) (v := undef) rfl (by kernel_rfl) (by kernel_rfl) (by kernel_rfl) (fun _ _ _ h => h) (Or.inr ⟨by rfl, rfl⟩) hHeld ?_
        try simp only [Act.put, List.getElem_toArray, List.getElem_cons_succ, List.getElem_cons_zero, List.setIfInBounds_toArray, List.set_cons_zero, List.set_cons_succ]
        refine wpAnyH_take (i := 8) (v := undef) rfl (by kernel_rfl) (by kernel_rfl) (by kernel_rfl) (fun _ _ _ h => h) (Or.inr ⟨by rfl, rfl⟩) hHeld ?_
        try simp only [Act.put, List.getElem_toArray, List.getElem_cons_succ, List.getElem_cons_zero, List.setIfInBounds_toArray, List.set_cons_zero, List.set_cons_succ]
        refine wpAnyH_take (i := 9) (v := undef) rfl (by kernel_rfl) (by kernel_rfl) (by kernel_rfl) (fun _ _ _ h => h) (Or.inr ⟨by rfl, rfl⟩) hHeld ?_
        try simp only [Act.put, List.getElem_toArray, List.getElem_cons_succ, List.getElem_cons_zero, List.setIfInBounds_toArray, List.set_cons_zero, List.set_cons_succ]
        refine wpAnyH_take (i := 10) (v := .bool false) rfl (by kernel_rfl) (by kernel_rfl) (by kernel_rfl) (fun _ _ _ h => h) (Or.inl ⟨by rfl, fun w hSw => ?_⟩) hHeld ?_
        · clear hSw; go_simp; all_goals (try first | rfl | omega)
        try simp only [Act.put, List.getElem_toArray, List.getElem_cons_succ, List.getElem_cons_zero, List.setIfInBounds_toArray, List.set_cons_zero, List.set_cons_succ]
        refine wpAnyH_take (i := 11) (v := .bool false) rfl (by kernel_rfl) (by kernel_rfl) (by kernel_rfl) (fun _ _ _ h => h) (Or.inl ⟨by rfl, fun w hSw => ?_⟩) hHeld ?_
        · clear hSw; go_simp; all_goals (try first | rfl | omega)
        try simp only [Act.put, List.getElem_toArray, List.getElem_cons_succ, List.getElem_cons_zero, List.setIfInBounds_toArray, List.set_cons_zero, List.set_cons_succ]
        refine wpAnyH_take (i := 12) (v := undef) rfl (by kernel_rfl) (by kernel_rfl) (by kernel_rfl) (fun _ _ _ h => h) (Or.inr ⟨by rfl, rfl⟩) hHeld ?_
        try simp only [Act.put, List.getElem_toArray, List.getElem_cons_succ, List.getElem_cons_zero, List.setIfInBounds_toArray, List.set_cons_zero, List.set_cons_succ]
        refine wpAnyH_take (i := 13) (v := undef) rfl (by kernel_rfl) (by kernel_rfl) (by kernel_rfl) (fun _ _ _ h => h) (Or.inr ⟨by rfl, rfl⟩) hHeld ?_
        try simp only [Act.put, List.getElem_toArray, List.getElem_cons_succ, List.getElem_cons_zero, List.setIfInBounds_toArray, List.set_cons_zero, List.set_cons_succ]
        refine wpAnyH_take (i := 14) (v := undef) rfl (by kernel_rfl) (by kernel_rfl) (by kernel_rfl) (fun _ _ _ h => h) (Or.inr ⟨by rfl, rfl⟩) hHeld ?_
        try simp only [Act.put, List.getElem_toArray, List.getElem_cons_succ, List.getElem_cons_zero, List.setIfInBounds_toArray, List.set_cons_zero, List.set_cons_succ]
        refine wpAnyH_take (i := 15) (v := .bool false) rfl (by kernel_rfl) (by kernel_rfl) (by kernel_rfl) (fun _ _ _ h => h) (Or.inl ⟨by rfl, fun w hSw => ?_⟩) hHeld ?_
        · clear hSw; go_simp; all_goals (try first | rfl | omega)
        try simp only [Act.put, List.getElem_toArray, List.getElem_cons_succ, List.getElem_cons_zero, List.setIfInBounds_toArray, List.set_cons_zero, List.set_cons_succ]
        refine wpAnyH_take (i := 16) (v := .bool true) rfl (by kernel_rfl) (by kernel_rfl) (by kernel_rfl) (fun _ _ _ h => h) (Or.inl ⟨by rfl, fun w hSw => ?_⟩) hHeld ?_
        · clear hSw; go_simp; all_goals (try first | rfl | omega)
        try simp only [Act.put, List.getElem_toArray, List.getElem_cons_succ, List.getElem_cons_zero, List.setIfInBounds_toArray, List.set_cons_zero, List.set_cons_succ]
        refine wpAnyH_take (i := 17) (v := .bool true) rfl (by kernel_rfl) (by kernel_rfl) (by kernel_rfl) (fun _ _ _ h => h) (Or.inl ⟨by rfl, fun w hSw => ?_⟩) hHeld ?_
        · clear hSw; go_simp; all_goals (try first | rfl | omega)
        try simp only [Act.put, List.getElem_toArray, List.getElem_cons_succ, List.getElem_cons_zero, List.setIfInBounds_toArray, List.set_cons_zero, List.set_cons_succ]
        refine wpAnyH_done (by kernel_rfl) ?_ _
        have HBE := Lib.hid (HB.out.trans (HBwf.out.mono HB.out.size))
        go_wp2
        go_ret
        exact ⟨rfl, HBE.out⟩
      exact AllReadyH.nil
end Go.Proofs.YtodcebhfkmlmgaaDoor
