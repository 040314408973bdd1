/- HistoryOrder: the walk. -/
import Derived.Test.YtpfmmncnhlfdgaaDoorHistAll
/- historyOrder: the walk. -/
set_option linter.unusedVariables false
set_option linter.unusedSimpArgs false
attribute [local go_sem ↓] Go.wp_at_zero Go.wp_at_succ
namespace Go.Proofs.YtpfmmncnhlfdgaaDoor
open Go Go.RowKit

set_option maxRecDepth 100000 in
set_option maxHeartbeats 8000000 in
theorem historyOrder_any (v : Value) (l : List Stp) (n : Int) (m : Int) (w : World) (hv : RdS RStp (fun _ => True) w v l) (hz : l.length * 24 ≤ reachBytes) (n1 : -9223372036854775808 ≤ n) (n2 : n ≤ 9223372036854775807) (m1 : -9223372036854775808 ≤ m) (m2 : m ≤ 9223372036854775807) (ht : Tabs w) :
    Calls Tryd.prog 15 #[v, .int .i64 n, .int .i64 m] w fun e w' => ∃ b, e = .returned (.bool b) ∧ ((crtSums (grownL l)).Nodup → b = true) ∧ Below w.heap.size w w' := by
  have HT := Lib.hid ht
  go_enter Tryd.func15, Tryd.ntmps15
  go_wp2_with fail
  refine (grown_any _ _ hv hz ht).mono ?_
  rintro e w1 ⟨vd, vb, rfl, hd, -, hb1⟩
  obtain ⟨add, capd, rfl, -, -⟩ := hd.form
  have HD1 := Lib.hid hd
  have HB1 := Lib.hid hb1
  clear hd hb1 ht hv
  go_upto_region 2 with fail
  obtain ⟨w2, hw2⟩ : ∃ w2, w2 = w1.alloc (.cells #[.slice add (grownL l).length capd] 30) := ⟨_, rfl⟩
  have HX := Lib.hid (show BoxAt w2 w1.heap.size [.slice add (grownL l).length capd] 30 by rw [hw2]; exact BoxAt.new w1 [_] _)
  have hB2 : Below w1.heap.size w1 w2 := by rw [hw2]; exact (Below.refl _ _).alloc (Nat.le_refl _) _
  rw [← hw2]
  have HD := Lib.hid ((HD1.out.mono (G' := fun _ => True) (fun _ _ => trivial)).below hB2 (fun _ h => h))
  have HB := Lib.hid (HB1.out.trans (hB2.mono HB1.out.size))
  have HOK := Lib.hid (grown_ok l)
  have hz2 := HX.out.lt
  have hzw2 := HB.out.size
  clear hw2 hB2 HD1 HB1
  have hg4 := grown_len l
  have hgp := grown_pos l
  generalize hLL : grownL l = L at *
  have HLL := Lib.hid hLL
  clear hLL
  have HH := Lib.hid (fun c (hc : c ∈ L) => (crt_partsP ((dagOk_iff.1 HOK.out).2.1 c hc)).1)
  replace HD := Lib.hid ((HD.out.low (by decide)).mono (G' := fun b => b < w2.heap.size) (fun b hb => hb.2))
  have x0 := HX.out.cell 0 rfl
  go_wp2_with fail
  refine (digestsOf_any _ _ HD.out HH.out (by omega) (HT.out.belowS HB.out)).mono ?_
  rintro e w3 ⟨vs, rfl, hS, hb3⟩
  obtain ⟨ads, caps, rfl, hcs, hms⟩ := hS.form
  unfold maxLen at hms
  have hSL := crtSums_len L
  have HS := Lib.hid (hS.mono (G' := fun _ => True) (fun _ _ => trivial))
  replace HX := Lib.hid (HX.out.belowS hb3)
  replace HD := Lib.hid (HD.out.below hb3 (fun _ h => h))
  replace HB := Lib.hid (HB.out.trans (hb3.mono HB.out.size))
  replace HD := Lib.hid (HD.out.mono (G' := fun _ => True) (fun _ _ => trivial))
  clear x0 hS hb3
  obtain ⟨DS, hDS⟩ : ∃ DS, DS = crtSums L := ⟨_, rfl⟩
  rw [← hDS] at HS hSL ⊢
  have HDS := Lib.hid hDS
  have hSL1 : DS.length ≤ L.length := by omega
  have hSL2 : L.length ≤ DS.length := by omega
  clear hDS hSL hcs
  have hzw3 := HB.out.size
  have hl0 : (0 : Int) < (DS.length : Int) := by omega
  have hl1 : DS.length ≤ 9223372036854775807 := by omega
  have q0 : ((DS.length : Int) == 0) = false := by rw [beq_eq_false_iff_ne]; omega
  obtain ⟨p0A, p1A⟩ := pickedZ_range n (DS.length : Int) (by omega)
  have HPA := Lib.hid (show ((pickedZ n (DS.length : Int)).toNat : Int) = pickedZ n (DS.length : Int) by omega)
  obtain ⟨pa, hpa⟩ : ∃ pa, pa = (pickedZ n (DS.length : Int)).toNat := ⟨_, rfl⟩
  rw [← hpa] at HPA
  have pal : pa < DS.length := by omega
  have paL : pa < L.length := by omega
  clear hpa p0A p1A
  have pa0 : (0 : Int) ≤ (pa : Int) := by omega
  have pa1 : (pa : Int) < (DS.length : Int) := by omega
  have HFA := Lib.hid (show (0 : Int) ≤ idxP (isB DS[pa]) (crtSums L) by have := HDS.out; subst this; exact idx_self (by omega))
  obtain ⟨bA, oA, vA, rsA, -, esA, hsA⟩ := HS.out.cellS pa pal
  subst rsA
  obtain ⟨adA, capA, rfl, -, -⟩ := hsA.form
  have HDKA := Lib.hid hsA
  have HEA := Lib.hid esA
  have hbkA : bA < _ := World.block_lt_of_cell? _ _ esA
  clear hsA esA
  obtain ⟨p0B, p1B⟩ := pickedZ_range m (DS.length : Int) (by omega)
  have HPB := Lib.hid (show ((pickedZ m (DS.length : Int)).toNat : Int) = pickedZ m (DS.length : Int) by omega)
  obtain ⟨pb, hpb⟩ : ∃ pb, pb = (pickedZ m (DS.length : Int)).toNat := ⟨_, rfl⟩
  rw [← hpb] at HPB
  have pbl : pb < DS.length := by omega
  have pbL : pb < L.length := by omega
  clear hpb p0B p1B
  have pb0 : (0 : Int) ≤ (pb : Int) := by omega
  have pb1 : (pb : Int) < (DS.length : Int) := by omega
  have HFB := Lib.hid (show (0 : Int) ≤ idxP (isB DS[pb]) (crtSums L) by have := HDS.out; subst this; exact idx_self (by omega))
  obtain ⟨bB, oB, vB, rsB, -, esB, hsB⟩ := HS.out.cellS pb pbl
  simp only [Option.some.injEq, Addr.mk.injEq, and_true] at rsB
  obtain ⟨ebB, eoB⟩ := rsB
  subst ebB eoB
  obtain ⟨adB, capB, rfl, -, -⟩ := hsB.form
  have HDKB := Lib.hid hsB
  have HEB := Lib.hid esB
  have hbkB : bA < _ := World.block_lt_of_cell? _ _ esB
  clear hsB esB
  go_upto_region 5 with fail
  refine wp_region_held_drew (S := fun w' => Below w3.heap.size w3 w') (by kernel_rfl) (by exact (Below.refl _ _).drew) (fun hHeld => ?_)
  obtain ⟨wd, hwd⟩ : ∃ wd, wd = w3.drew := ⟨_, rfl⟩
  rw [← hwd] at hHeld ⊢
  have HBd := Lib.hid (show Below w3.heap.size w3 wd from hHeld)
  have zwd : w3.heap.size ≤ wd.heap.size := by rw [hwd]; exact Nat.le_refl _
  clear hwd
  refine wpAnyH_take (i := 0) (v := .agg #[.slice add L.length capd]) rfl (by kernel_rfl) (by kernel_rfl) (by kernel_rfl) (fun _ _ _ h => h) (Or.inl ⟨by rfl, fun w hSw => ?_⟩) hHeld ?_
  · have q0 := (HX.out.belowS hSw).cell 0 rfl; clear hSw; go_simp
  try simp only [Act.put, List.getElem_toArray, List.getElem_cons_succ, List.getElem_cons_zero, List.setIfInBounds_toArray, List.set_cons_zero, List.set_cons_succ]
  refine wpAnyH_take (i := 1) (v := .slice (some ⟨bA, oA, none⟩) DS.length caps) rfl (by kernel_rfl) (by kernel_rfl) (by kernel_rfl) (fun _ _ _ h => h) (Or.inl ⟨by rfl, fun w hSw => ?_⟩) hHeld ?_
  · clear hSw; go_simp; all_goals (try first | rfl | omega)
  try simp only [Act.put, List.getElem_toArray, List.getElem_cons_succ, List.getElem_cons_zero, List.setIfInBounds_toArray, List.set_cons_zero, List.set_cons_succ]
  refine wpAnyH_take (i := 2) (v := .int .i64 n) rfl (by kernel_rfl) (by kernel_rfl) (by kernel_rfl) (fun _ _ _ h => h) (Or.inl ⟨by rfl, fun w hSw => ?_⟩) hHeld ?_
  · clear hSw; go_simp; all_goals (try first | rfl | omega)
  try simp only [Act.put, List.getElem_toArray, List.getElem_cons_succ, List.getElem_cons_zero, List.setIfInBounds_toArray, List.set_cons_zero, List.set_cons_succ]
  refine wpAnyH_take (i := 3) (v := .slice (some ⟨bA, oA, none⟩) DS.length caps) rfl (by kernel_rfl) (by kernel_rfl) (by kernel_rfl) (fun _ _ _ h => h) (Or.inl ⟨by rfl, fun w hSw => ?_⟩) hHeld ?_
  · clear hSw; go_simp; all_goals (try first | rfl | omega)
  try simp only [Act.put, List.getElem_toArray, List.getElem_cons_succ, List.getElem_cons_zero, List.setIfInBounds_toArray, List.set_cons_zero, List.set_cons_succ]
  refine wpAnyH_take (i := 4) (v := .int .i64 (DS.length : Int)) rfl (by kernel_rfl) (by kernel_rfl) (by kernel_rfl) (fun _ _ _ h => h) (Or.inl ⟨by rfl, fun w hSw => ?_⟩) hHeld ?_
  · clear hSw; go_simp; all_goals (try first | rfl | omega)
  try simp only [Act.put, List.getElem_toArray, List.getElem_cons_succ, List.getElem_cons_zero, List.setIfInBounds_toArray, List.set_cons_zero, List.set_cons_succ]
  refine wpAnyH_ready (rs := [5]) (by kernel_rfl) (by simp) ?_
  refine AllReadyH.cons rfl (fun K hK => ?_) ?_
  · rw [if_pos (by rfl)]
    go_simp
    go_at_call 29
    refine (picked_any n (DS.length : Int) _ n1 n2 (by omega) (by omega)).mono ?_
    rintro e w' ⟨rfl, rfl⟩
    rw [← HPA.out]
    show K _ _
    refine hK.out _ _ (by exact hHeld) (fun hHeld => ?_)
    clear hK K
    try simp only [Act.put, List.getElem_toArray, List.getElem_cons_succ, List.getElem_cons_zero, List.setIfInBounds_toArray, List.set_cons_zero, List.set_cons_succ]
    refine wpAnyH_take (i := 6) (v := .pointer (some ⟨bA, oA + pa, none⟩)) rfl (by kernel_rfl) (by kernel_rfl) (by kernel_rfl) (fun _ _ _ h => h) (Or.inl ⟨by rfl, fun w hSw => ?_⟩) hHeld ?_
    · clear hSw; go_simp; all_goals (try first | rfl | omega)
    try simp only [Act.put, List.getElem_toArray, List.getElem_cons_succ, List.getElem_cons_zero, List.setIfInBounds_toArray, List.set_cons_zero, List.set_cons_succ]
    refine wpAnyH_take (i := 7) (v := .slice adA DS[pa].length capA) rfl (by kernel_rfl) (by kernel_rfl) (by kernel_rfl) (fun _ _ _ h => h) (Or.inl ⟨by rfl, fun w hSw => ?_⟩) hHeld ?_
    · have q3 := (Below.cell hSw (p := ⟨bA, oA + pa, none⟩) hbkA).trans HEA.out; clear hSw; go_simp
    try simp only [Act.put, List.getElem_toArray, List.getElem_cons_succ, List.getElem_cons_zero, List.setIfInBounds_toArray, List.set_cons_zero, List.set_cons_succ]
    refine wpAnyH_ready (rs := [8]) (by kernel_rfl) (by simp) ?_
    refine AllReadyH.cons rfl (fun K hK => ?_) ?_
    · rw [if_pos (by rfl)]
      go_simp
      go_at_call 22
      refine (oHistory_any _ _ _ (HD.out.below HBd.out (fun _ h => h)) (HDKA.out.below HBd.out (fun _ h => h)) (HT.out.belowS (HB.out.trans (HBd.out.mono HB.out.size))) HOK.out).mono ?_
      rintro e wf ⟨vh, MA, rfl, hM1, hM2, hR, hb_wf⟩
      have hyy := findCode_yes (HFA.out)
      rw [hyy.1]
      have HMA := Lib.hid (hM1 HFA.out)
      obtain ⟨ah, ch, rfl, hch, hmh⟩ := hR.form
      rw [histD_len] at hch hR ⊢
      have HRA := Lib.hid (hR.mono (G' := fun _ => True) (fun _ _ => trivial))
      clear hM1 hM2 hR hyy
      have HBwf := Lib.hid (HBd.out.trans (hb_wf.mono (Below.size HBd.out)))
      have zwf := hb_wf.size
      clear hb_wf
      show K _ _
      refine hK.out _ _ (by exact HBwf.out) (fun hHeld => ?_)
      clear hK K
      try simp only [Act.put, List.getElem_toArray, List.getElem_cons_succ, List.getElem_cons_zero, List.setIfInBounds_toArray, List.set_cons_zero, List.set_cons_succ]
      refine wpAnyH_take (i := 9) (v := .tuple #[.slice ah MA.length ch, .int .i64 0]) rfl (by kernel_rfl) (by kernel_rfl) (by kernel_rfl) (fun _ _ _ h => h) (Or.inl ⟨by rfl, fun w hSw => ?_⟩) hHeld ?_
      · clear hSw; go_simp; all_goals (try first | rfl | omega)
      try simp only [Act.put, List.getElem_toArray, List.getElem_cons_succ, List.getElem_cons_zero, List.setIfInBounds_toArray, List.set_cons_zero, List.set_cons_succ]
      refine wpAnyH_take (i := 10) (v := .slice ah MA.length ch) rfl (by kernel_rfl) (by kernel_rfl) (by kernel_rfl) (fun _ _ _ h => h) (Or.inl ⟨by rfl, fun w hSw => ?_⟩) hHeld ?_
      · clear hSw; go_simp; all_goals (try first | rfl | omega)
      try simp only [Act.put, List.getElem_toArray, List.getElem_cons_succ, List.getElem_cons_zero, List.setIfInBounds_toArray, List.set_cons_zero, List.set_cons_succ]
      refine wpAnyH_take (i := 11) (v := .int .i64 0) rfl (by kernel_rfl) (by kernel_rfl) (by kernel_rfl) (fun _ _ _ h => h) (Or.inl ⟨by rfl, fun w hSw => ?_⟩) hHeld ?_
      · clear hSw; go_simp; all_goals (try first | rfl | omega)
      try simp only [Act.put, List.getElem_toArray, List.getElem_cons_succ, List.getElem_cons_zero, List.setIfInBounds_toArray, List.set_cons_zero, List.set_cons_succ]
      refine wpAnyH_take (i := 12) (v := .slice ah MA.length ch) rfl (by kernel_rfl) (by kernel_rfl) (by kernel_rfl) (fun _ _ _ h => h) (Or.inl ⟨by rfl, fun w hSw => ?_⟩) hHeld ?_
      · clear hSw; go_simp; all_goals (try first | rfl | omega)
      try simp only [Act.put, List.getElem_toArray, List.getElem_cons_succ, List.getElem_cons_zero, List.setIfInBounds_toArray, List.set_cons_zero, List.set_cons_succ]
      refine wpAnyH_take (i := 13) (v := .int .i64 0) rfl (by kernel_rfl) (by kernel_rfl) (by kernel_rfl) (fun _ _ _ h => h) (Or.inl ⟨by rfl, fun w hSw => ?_⟩) hHeld ?_
      · clear hSw; go_simp; all_goals (try first | rfl | omega)
      try simp only [Act.put, List.getElem_toArray, List.getElem_cons_succ, List.getElem_cons_zero, List.setIfInBounds_toArray, List.set_cons_zero, List.set_cons_succ]
      refine wpAnyH_done (by kernel_rfl) ?_ _
      obtain ⟨w5, hw5⟩ : ∃ w5, w5 = wf := ⟨_, rfl⟩
      rw [← hw5] at HRA HBwf ⊢
      replace HX := Lib.hid (HX.out.belowS HBwf.out)
      replace HD := Lib.hid (HD.out.below HBwf.out (fun _ h => h))
      replace HS := Lib.hid (HS.out.below HBwf.out (fun _ h => h))
      replace HDKB := Lib.hid (HDKB.out.below HBwf.out (fun _ h => h))
      replace HB := Lib.hid (HB.out.trans (HBwf.out.mono HB.out.size))
      have hEBn := (HBwf.out.cell (p := ⟨bA, oA + pb, none⟩) hbkB).trans HEB.out
      replace HEB := Lib.hid hEBn
      replace hbkB : bA < w5.heap.size := World.block_lt_of_cell? w5 _ hEBn
      clear hHeld HDKA HEA hEBn hw5 HBwf HBd zwd zwf
      have hX5 := HX.out.lt
      go_upto_region 6 with fail
      refine wp_region_held_drew (S := fun w' => Below w5.heap.size w5 w') (by kernel_rfl) (by exact (Below.refl _ _).drew) (fun hHeld => ?_)
      obtain ⟨wd, hwd⟩ : ∃ wd, wd = w5.drew := ⟨_, rfl⟩
      rw [← hwd] at hHeld ⊢
      have HBd := Lib.hid (show Below w5.heap.size w5 wd from hHeld)
      have zwd : w5.heap.size ≤ wd.heap.size := by rw [hwd]; exact Nat.le_refl _
      clear hwd
      refine wpAnyH_take (i := 0) (v := .agg #[.slice add L.length capd]) rfl (by kernel_rfl) (by kernel_rfl) (by kernel_rfl) (fun _ _ _ h => h) (Or.inl ⟨by rfl, fun w hSw => ?_⟩) hHeld ?_
      · have q0 := (HX.out.belowS hSw).cell 0 rfl; clear hSw; go_simp
      try simp only [Act.put, List.getElem_toArray, List.getElem_cons_succ, List.getElem_cons_zero, List.setIfInBounds_toArray, List.set_cons_zero, List.set_cons_succ]
      refine wpAnyH_take (i := 1) (v := .slice (some ⟨bA, oA, none⟩) DS.length caps) rfl (by kernel_rfl) (by kernel_rfl) (by kernel_rfl) (fun _ _ _ h => h) (Or.inl ⟨by rfl, fun w hSw => ?_⟩) hHeld ?_
      · clear hSw; go_simp; all_goals (try first | rfl | omega)
      try simp only [Act.put, List.getElem_toArray, List.getElem_cons_succ, List.getElem_cons_zero, List.setIfInBounds_toArray, List.set_cons_zero, List.set_cons_succ]
      refine wpAnyH_take (i := 2) (v := .int .i64 m) rfl (by kernel_rfl) (by kernel_rfl) (by kernel_rfl) (fun _ _ _ h => h) (Or.inl ⟨by rfl, fun w hSw => ?_⟩) hHeld ?_
      · clear hSw; go_simp; all_goals (try first | rfl | omega)
      try simp only [Act.put, List.getElem_toArray, List.getElem_cons_succ, List.getElem_cons_zero, List.setIfInBounds_toArray, List.set_cons_zero, List.set_cons_succ]
      refine wpAnyH_take (i := 3) (v := .slice (some ⟨bA, oA, none⟩) DS.length caps) rfl (by kernel_rfl) (by kernel_rfl) (by kernel_rfl) (fun _ _ _ h => h) (Or.inl ⟨by rfl, fun w hSw => ?_⟩) hHeld ?_
      · clear hSw; go_simp; all_goals (try first | rfl | omega)
      try simp only [Act.put, List.getElem_toArray, List.getElem_cons_succ, List.getElem_cons_zero, List.setIfInBounds_toArray, List.set_cons_zero, List.set_cons_succ]
      refine wpAnyH_take (i := 4) (v := .int .i64 (DS.length : Int)) rfl (by kernel_rfl) (by kernel_rfl) (by kernel_rfl) (fun _ _ _ h => h) (Or.inl ⟨by rfl, fun w hSw => ?_⟩) hHeld ?_
      · clear hSw; go_simp; all_goals (try first | rfl | omega)
      try simp only [Act.put, List.getElem_toArray, List.getElem_cons_succ, List.getElem_cons_zero, List.setIfInBounds_toArray, List.set_cons_zero, List.set_cons_succ]
      refine wpAnyH_ready (rs := [5]) (by kernel_rfl) (by simp) ?_
      refine AllReadyH.cons rfl (fun K hK => ?_) ?_
      · rw [if_pos (by rfl)]
        go_simp
        go_at_call 29
        refine (picked_any m (DS.length : Int) _ m1 m2 (by omega) (by omega)).mono ?_
        rintro e w' ⟨rfl, rfl⟩
        rw [← HPB.out]
        show K _ _
        refine hK.out _ _ (by exact hHeld) (fun hHeld => ?_)
        clear hK K
        try simp only [Act.put, List.getElem_toArray, List.getElem_cons_succ, List.getElem_cons_zero, List.setIfInBounds_toArray, List.set_cons_zero, List.set_cons_succ]
        refine wpAnyH_take (i := 6) (v := .pointer (some ⟨bA, oA + pb, none⟩)) rfl (by kernel_rfl) (by kernel_rfl) (by kernel_rfl) (fun _ _ _ h => h) (Or.inl ⟨by rfl, fun w hSw => ?_⟩) hHeld ?_
        · clear hSw; go_simp; all_goals (try first | rfl | omega)
        try simp only [Act.put, List.getElem_toArray, List.getElem_cons_succ, List.getElem_cons_zero, List.setIfInBounds_toArray, List.set_cons_zero, List.set_cons_succ]
        refine wpAnyH_take (i := 7) (v := .slice adB DS[pb].length capB) rfl (by kernel_rfl) (by kernel_rfl) (by kernel_rfl) (fun _ _ _ h => h) (Or.inl ⟨by rfl, fun w hSw => ?_⟩) hHeld ?_
        · have q3 := (Below.cell hSw (p := ⟨bA, oA + pb, none⟩) hbkB).trans HEB.out; clear hSw; go_simp
        try simp only [Act.put, List.getElem_toArray, List.getElem_cons_succ, List.getElem_cons_zero, List.setIfInBounds_toArray, List.set_cons_zero, List.set_cons_succ]
        refine wpAnyH_ready (rs := [8]) (by kernel_rfl) (by simp) ?_
        refine AllReadyH.cons rfl (fun K hK => ?_) ?_
        · rw [if_pos (by rfl)]
          go_simp
          go_at_call 22
          refine (oHistory_any _ _ _ (HD.out.below HBd.out (fun _ h => h)) (HDKB.out.below HBd.out (fun _ h => h)) (HT.out.belowS (HB.out.trans (HBd.out.mono HB.out.size))) HOK.out).mono ?_
          rintro e wf ⟨vh, MB, rfl, hM1, hM2, hR, hb_wf⟩
          have hyy := findCode_yes (HFB.out)
          rw [hyy.1]
          have HMB := Lib.hid (hM1 HFB.out)
          obtain ⟨ah, ch, rfl, hch, hmh⟩ := hR.form
          rw [histD_len] at hch hR ⊢
          have HRB := Lib.hid (hR.mono (G' := fun _ => True) (fun _ _ => trivial))
          clear hM1 hM2 hR hyy
          have HBwf := Lib.hid (HBd.out.trans (hb_wf.mono (Below.size HBd.out)))
          have zwf := hb_wf.size
          clear hb_wf
          show K _ _
          refine hK.out _ _ (by exact HBwf.out) (fun hHeld => ?_)
          clear hK K
          try simp only [Act.put, List.getElem_toArray, List.getElem_cons_succ, List.getElem_cons_zero, List.setIfInBounds_toArray, List.set_cons_zero, List.set_cons_succ]
          refine wpAnyH_take (i := 9) (v := .tuple #[.slice ah MB.length ch, .int .i64 0]) rfl (by kernel_rfl) (by kernel_rfl) (by kernel_rfl) (fun _ _ _ h => h) (Or.inl ⟨by rfl, fun w hSw => ?_⟩) hHeld ?_
          · clear hSw; go_simp; all_goals (try first | rfl | omega)
          try simp only [Act.put, List.getElem_toArray, List.getElem_cons_succ, List.getElem_cons_zero, List.setIfInBounds_toArray, List.set_cons_zero, List.set_cons_succ]
          refine wpAnyH_take (i := 10) (v := .slice ah MB.length ch) rfl (by kernel_rfl) (by kernel_rfl) (by kernel_rfl) (fun _ _ _ h => h) (Or.inl ⟨by rfl, fun w hSw => ?_⟩) hHeld ?_
          · clear hSw; go_simp; all_goals (try first | rfl | omega)
          try simp only [Act.put, List.getElem_toArray, List.getElem_cons_succ, List.getElem_cons_zero, List.setIfInBounds_toArray, List.set_cons_zero, List.set_cons_succ]
          refine wpAnyH_take (i := 11) (v := .int .i64 0) rfl (by kernel_rfl) (by kernel_rfl) (by kernel_rfl) (fun _ _ _ h => h) (Or.inl ⟨by rfl, fun w hSw => ?_⟩) hHeld ?_
          · clear hSw; go_simp; all_goals (try first | rfl | omega)
          try simp only [Act.put, List.getElem_toArray, List.getElem_cons_succ, List.getElem_cons_zero, List.setIfInBounds_toArray, List.set_cons_zero, List.set_cons_succ]
          refine wpAnyH_take (i := 12) (v := .slice ah MB.length ch) rfl (by kernel_rfl) (by kernel_rfl) (by kernel_rfl) (fun _ _ _ h => h) (Or.inl ⟨by rfl, fun w hSw => ?_⟩) hHeld ?_
          · clear hSw; go_simp; all_goals (try first | rfl | omega)
          try simp only [Act.put, List.getElem_toArray, List.getElem_cons_succ, List.getElem_cons_zero, List.setIfInBounds_toArray, List.set_cons_zero, List.set_cons_succ]
          refine wpAnyH_take (i := 13) (v := .int .i64 0) rfl (by kernel_rfl) (by kernel_rfl) (by kernel_rfl) (fun _ _ _ h => h) (Or.inl ⟨by rfl, fun w hSw => ?_⟩) hHeld ?_
          · clear hSw; go_simp; all_goals (try first | rfl | omega)
          try simp only [Act.put, List.getElem_toArray, List.getElem_cons_succ, List.getElem_cons_zero, List.setIfInBounds_toArray, List.set_cons_zero, List.set_cons_succ]
          refine wpAnyH_done (by kernel_rfl) ?_ _
          replace HX := Lib.hid (HX.out.belowS HBwf.out)
          replace HRA := Lib.hid (HRA.out.below HBwf.out (fun _ h => h))
          replace HB := Lib.hid (HB.out.trans (HBwf.out.mono HB.out.size))
          clear hHeld HDKB HEB HBwf
          have hpa := HMA.out.pos
          have hpb := HMB.out.pos
          have hla := HMA.out.len
          have hlb := HMB.out.len
          have a1 : (0 : Int) < (MA.length : Int) := by omega
          have a2 : ((MA.length : Int) == 0) = false := by rw [beq_eq_false_iff_ne]; omega
          have a3 : ((MB.length : Int) == 0) = false := by rw [beq_eq_false_iff_ne]; omega
          generalize hAA : histD L MA = QA at *
          generalize hBB : histD L MB = QB at *
          have HAA := Lib.hid hAA
          have HBB := Lib.hid hBB
          have lAA : QA.length = MA.length := by rw [← hAA, histD_len]
          have lBB : QB.length = MB.length := by rw [← hBB, histD_len]
          have lA1 : QA.length ≤ MA.length := by omega
          have lA2 : MA.length ≤ QA.length := by omega
          clear hAA hBB lAA lBB
          go_wp2_with fail
          go_loopw [14, 15] (fun la u wr => ∃ (i : Nat) (last : Int), i ≤ MA.length ∧ u = .int .i64 i ∧ la = .int .i64 last ∧ ((crtSums L).Nodup → ordTo L MA MB i last) ∧ Below wf.heap.size wf wr) (fun _ u _ => MA.length - (intOf u).toNat)
          case atStart => exact ⟨0, -1, Nat.zero_le _, rfl, rfl, fun _ => ordTo_zero L MA MB, Below.refl _ _⟩
          case round =>
            obtain ⟨i, last, hi, rfl, rfl, hord, hBr⟩ := hrel
            have HORD := Lib.hid hord
            have HBr := Lib.hid hBr
            have HRAr := Lib.hid (HRA.out.below hBr (fun _ h => h))
            have HRBr := Lib.hid (HRB.out.below hBr (fun _ h => h))
            clear hord hBr
            by_cases hlt : i < MA.length
            · have i0 : (0 : Int) ≤ (i : Int) := by omega
              have i1 : (i : Int) < (MA.length : Int) := by omega
              have wi : IntKind.i64.wrap ((i : Int) + 1) = (i : Int) + 1 := IntWalk.i64_in _ (by omega)
              obtain ⟨bq, oq, vq, rfl, -, eq, hq⟩ := HRAr.out.cellS i (by omega)
              obtain ⟨adq, capq, rfl, -, -⟩ := hq.form
              have HQ := Lib.hid hq
              have HQD := Lib.hid (show QA[i]'(by omega) = digP L MA[i] by have := HAA.out; subst this; simp [histD])
              have HML := Lib.hid (HMA.out.lt _ (List.getElem_mem hlt))
              have HKI := Lib.hid (fun (hn : (crtSums L).Nodup) (k : Nat) (hk : idxP (isB (digP L MA[i])) (histD L MB) = (k : Int)) => hist_idx HMB.out hn HML.out hk)
              rw [HBB.out, ← HQD.out] at HKI
              have HSK := Lib.hid (fun hn => ordTo_skip (HORD.out hn))
              have HNX := Lib.hid (fun k hk e => ordTo_next (k := k) HMA.out HMB.out hlt hk e)
              clear hq
              generalize QA[i]'(by omega) = dk at *
              go_wp2_with fail
              refine (sat_any _ _ _ HRBr.out HQ.out).mono ?_
              rintro e w' ⟨rfl, rfl⟩
              have HBE := Lib.hid (HB.out.trans (HBr.out.mono HB.out.size))
              by_cases hneg : idxP (isB dk) QB < 0
              · clear HNX HKI
                generalize idxP (isB dk) QB = kz at *
                go_wp2
                go_roundw
                case rel => exact ⟨i + 1, last, by omega, by go_num, rfl, HSK.out, HBr.out⟩
                case measure => simp [intOf]; omega
              · obtain ⟨k, hk⟩ : ∃ k : Nat, idxP (isB dk) QB = (k : Int) := ⟨(idxP (isB dk) QB).toNat, by omega⟩
                have HKK := Lib.hid (fun hn => HKI.out hn k hk)
                rw [hk]
                clear hneg hk HKI
                by_cases hle : (k : Int) ≤ last
                · go_wp2
                  go_ret
                  refine ⟨false, rfl, fun hn => ?_, HBE.out⟩
                  rw [HLL.out] at hn
                  obtain ⟨hkm, e⟩ := HKK.out hn
                  have := HORD.out hn i hlt k hkm (Nat.le_refl _) e
                  omega
                · have HNN := Lib.hid (fun hn => by obtain ⟨hkm, e⟩ := HKK.out hn; exact HNX.out k hkm e)
                  clear HNX HKK HSK
                  have kn : ¬ (k : Int) < 0 := by omega
                  go_wp2
                  go_roundw
                  case rel => exact ⟨i + 1, (k : Int), by omega, by go_num, rfl, HNN.out, HBr.out⟩
                  case measure => simp [intOf]; omega
            · obtain rfl : i = MA.length := by omega
              have HBE := Lib.hid (HB.out.trans (HBr.out.mono HB.out.size))
              have t1 : ¬ (MA.length : Int) < (MA.length : Int) := by omega
              go_wp2
              go_ret
              exact .inr ⟨rfl, HBE.out⟩
        exact AllReadyH.nil
      exact AllReadyH.nil
    exact AllReadyH.nil
  exact AllReadyH.nil
end Go.Proofs.YtpfmmncnhlfdgaaDoor
namespace Go.Proofs.YtpfmmncnhlfdgaaDoor
open Go Go.RowKit
theorem gsum_nodup {l : List Stp} (h : gsumB l = false) : (crtSums (grownL l)).Nodup := clear_of (grown_ok l) h
set_option maxRecDepth 100000 in
set_option maxHeartbeats 8000000 in
theorem historyOrder_walk (v : Value) (l : List Stp) (n : Int) (m : Int) (w : World) (hv : RdS RStp (fun _ => True) w v l) (hz : l.length * 24 ≤ reachBytes) (n1 : -9223372036854775808 ≤ n) (n2 : n ≤ 9223372036854775807) (m1 : -9223372036854775808 ≤ m) (m2 : m ≤ 9223372036854775807) (ht : Tabs w) :
    Calls Tryd.prog 6 #[v, .int .i64 n, .int .i64 m] w fun e w' => e = .returned (.bool true) ∧ Below w.heap.size w w' := by
  go_enter Tryd.func6, Tryd.ntmps6
  go_wp2_with fail
  refine (historyOrder_any _ l n m _ hv hz n1 n2 m1 m2 ht).mono ?_
  rintro e w1 ⟨b, rfl, hn, hb1⟩
  have HN := Lib.hid hn
  clear hn
  cases b with
  | true =>
    go_wp2
    go_ret
    exact ⟨rfl, hb1⟩
  | false =>
    have hg : gsumB l = true := by
      by_cases q : gsumB l = true
      · exact q
      · have := HN.out (gsum_nodup (by simpa using q)); cases this
    go_wp2_with fail
    refine (grownSum_any _ _ (hv.below hb1 (fun _ h => h)) hz (ht.belowS hb1)).mono ?_
    rintro e w2 ⟨rfl, hb2⟩
    rw [hg]
    go_wp2
    go_ret
    exact ⟨rfl, hb1.trans (hb2.mono hb1.size)⟩
end Go.Proofs.YtpfmmncnhlfdgaaDoor
