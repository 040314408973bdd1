/- insertNone: the walk. -/
import Derived.Test.YtlailhhffejbbaaDoorNoneLaw
set_option linter.unusedVariables false
set_option linter.unusedSimpArgs false
attribute [local go_sem ↓] Go.wp_at_zero Go.wp_at_succ
namespace Go.Proofs.YtlailhhffejbbaaDoor
open Go Go.RowKit

set_option maxRecDepth 100000 in
set_option maxHeartbeats 8000000 in
theorem insertNone_any (v : Value) (l : List Stp) (n : Int) (w : World) (hv : RdS RStp (fun _ => True) w v l) (hz : l.length * 24 ≤ reachBytes) (n1 : -9223372036854775808 ≤ n) (n2 : n ≤ 9223372036854775807) (ht : Tabs w) :
    Calls Tryd.prog 26 #[v, .int .i64 n] w fun e w' => e = .returned (.bool true) ∧ Below w.heap.size w w' := by
  have HT := Lib.hid ht
  go_enter Tryd.func26, Tryd.ntmps26
  go_wp2_with fail
  refine (grown_any _ _ hv hz ht).mono ?_
  rintro e w1 ⟨vd, vb, rfl, hd, -, hb1⟩
  obtain ⟨add, capd, rfl, -, -⟩ := hd.form
  have HD1 := Lib.hid hd
  have HB1 := Lib.hid hb1
  clear hd hb1 ht hv
  go_upto_region 2 with fail
  obtain ⟨w2, hw2⟩ : ∃ w2, w2 = w1.alloc (.cells #[.slice add (grownL l).length capd] 27) := ⟨_, rfl⟩
  have HX := Lib.hid (show BoxAt w2 w1.heap.size [.slice add (grownL l).length capd] 27 by rw [hw2]; exact BoxAt.new w1 [_] _)
  have hB2 : Below w1.heap.size w1 w2 := by rw [hw2]; exact (Below.refl _ _).alloc (Nat.le_refl _) _
  rw [← hw2]
  have HD := Lib.hid ((HD1.out.mono (G' := fun _ => True) (fun _ _ => trivial)).below hB2 (fun _ h => h))
  have HB := Lib.hid (HB1.out.trans (hB2.mono HB1.out.size))
  have HOK := Lib.hid (grown_ok l)
  have hz2 := HX.out.lt
  clear hw2 hB2 HD1 HB1
  have HL1 := Lib.hid (fun h1 h2 h3 => @none_all l n h1 h2 h3)
  have HL2 := Lib.hid (fun (k : Nat) (hk : k < (crtSums (grownL l)).length) h2 h3 => @none_wrong l n k hk h2 h3)
  have hgp := grown_pos l
  have hg4 := grown_len l
  obtain ⟨p1, p2⟩ := pickedZ_range n 4 (by omega)
  have HCH := Lib.hid (fun c (hc : c ∈ grownL l) => (crt_partsP ((dagOk_iff.1 HOK.out).2.1 c hc)).1)
  have HNH := Lib.hid (show noneH n = ⟨pickedZ n 4, 1000, [], [someL 1 1, someL 1 2, someL 1 3]⟩ from rfl)
  have HNH2 := Lib.hid (fun d => (show noneH2 n d = ⟨pickedZ n 4, 1000, [], [d, someL 1 2, someL 1 3]⟩ from rfl))
  generalize grownL l = L at *
  replace HD := Lib.hid ((HD.out.low (by decide)).mono (G' := fun b => b < w2.heap.size) (fun b hb => hb.2))
  have hzw := HB.out.size
  go_wp2_with (go_at_call 19; refine (picked_any n 4 _ n1 n2 (by omega) (by omega)).mono ?_; rintro e w' ⟨rfl, rfl⟩)
  refine (some_any 1 1 _ (by omega) (by omega)).mono ?_
  rintro e wa ⟨rfl, hs1, hba⟩
  have S1 := Lib.hid hs1
  replace HX := Lib.hid (HX.out.belowS hba)
  replace HD := Lib.hid (HD.out.below hba (fun _ h => h))
  replace HB := Lib.hid (HB.out.trans (hba.mono HB.out.size))
  have za := hba.size
  clear hs1 hba
  go_wp2_with fail
  refine (some_any 1 2 _ (by omega) (by omega)).mono ?_
  rintro e wb ⟨rfl, hs2, hbb⟩
  have S2 := Lib.hid hs2
  replace HX := Lib.hid (HX.out.belowS hbb)
  replace HD := Lib.hid (HD.out.below hbb (fun _ h => h))
  replace HB := Lib.hid (HB.out.trans (hbb.mono HB.out.size))
  replace S1 := Lib.hid (S1.out.belowS hbb)
  have zb := hbb.size
  have zs1 := S1.out.lt
  clear hs2 hbb
  go_wp2_with fail
  refine (some_any 1 3 _ (by omega) (by omega)).mono ?_
  rintro e wc ⟨rfl, hs3, hbc⟩
  have S3 := Lib.hid hs3
  replace HX := Lib.hid (HX.out.belowS hbc)
  replace HD := Lib.hid (HD.out.below hbc (fun _ h => h))
  replace HB := Lib.hid (HB.out.trans (hbc.mono HB.out.size))
  replace S1 := Lib.hid (S1.out.belowS hbc)
  replace S2 := Lib.hid (S2.out.belowS hbc)
  have zc := hbc.size
  have zs2 := S2.out.lt
  have zs3 := S3.out.lt
  clear hs3 hbc
  go_upto_region 3 with fail
  obtain ⟨wd, hwl⟩ : ∃ wd, wd = (wc.alloc (.cells #[.slice (some ⟨w2.heap.size, 0, none⟩) 32 32, .slice (some ⟨wa.heap.size, 0, none⟩) 32 32, .slice (some ⟨wb.heap.size, 0, none⟩) 32 32] 46)).alloc (.cells #[.int .i64 (pickedZ n 4), .int .i64 1000, .slice none 0 0, .slice (some ⟨wc.heap.size, 0, none⟩) 3 3] 36) := ⟨_, rfl⟩
  have hBl : Below wc.heap.size wc wd := by rw [hwl]; exact ((Below.refl _ _).alloc (Nat.le_refl _) _).alloc (by simp) _
  have BP := Lib.hid (show BoxAt wd wc.heap.size [.slice (some ⟨w2.heap.size, 0, none⟩) 32 32, .slice (some ⟨wa.heap.size, 0, none⟩) 32 32, .slice (some ⟨wb.heap.size, 0, none⟩) 32 32] 46 by rw [hwl]; exact (BoxAt.new wc [.slice (some ⟨w2.heap.size, 0, none⟩) 32 32, .slice (some ⟨wa.heap.size, 0, none⟩) 32 32, .slice (some ⟨wb.heap.size, 0, none⟩) 32 32] _).alloc _)
  have BH := Lib.hid (show BoxAt wd (wc.heap.size + 1) [.int .i64 (pickedZ n 4), .int .i64 1000, .slice none 0 0, .slice (some ⟨wc.heap.size, 0, none⟩) 3 3] 36 by rw [hwl]; exact BoxAt.newAt (wc.alloc _) [.int .i64 (pickedZ n 4), .int .i64 1000, .slice none 0 0, .slice (some ⟨wc.heap.size, 0, none⟩) 3 3] _ (by simp))
  rw [← hwl]
  replace HX := Lib.hid (HX.out.belowS hBl)
  replace HD := Lib.hid (HD.out.below hBl (fun _ h => h))
  replace HB := Lib.hid (HB.out.trans (hBl.mono HB.out.size))
  replace S1 := Lib.hid (S1.out.belowS hBl)
  replace S2 := Lib.hid (S2.out.belowS hBl)
  replace S3 := Lib.hid (S3.out.belowS hBl)
  clear hwl hBl
  have zh := BH.out.lt
  have HPS := Lib.hid (show RdBB (fun b => b ≠ wc.heap.size + 1) wd (.slice (some ⟨wc.heap.size, 0, none⟩) 3 3) [someL 1 1, someL 1 2, someL 1 3] from rdBB_three BP.out (by omega) (RdS.of_box (l := someL 1 1) (cap := 32) S1.out (by omega) (by simp [someL_length]) (by unfold maxLen; simp)) (RdS.of_box (l := someL 1 2) (cap := 32) S2.out (by omega) (by simp [someL_length]) (by unfold maxLen; simp)) (RdS.of_box (l := someL 1 3) (cap := 32) S3.out (by omega) (by simp [someL_length]) (by unfold maxLen; simp)))
  have zxd := HX.out.lt
  have x0 := HX.out.cell 0 rfl
  have y0 := BH.out.cell 0 rfl
  have y1 := BH.out.cell 1 rfl
  have y2 := BH.out.cell 2 rfl
  have y3 := BH.out.cell 3 rfl
  have hBv : Below wd.heap.size wd (wd.alloc (.cells #[.int .i64 0, .int .i64 1, .int .i64 2] 3)) := (Below.refl _ _).alloc (Nat.le_refl _) _
  have HVo := Lib.hid (show RdI (fun _ => True) (wd.alloc (.cells #[.int .i64 0, .int .i64 1, .int .i64 2] 3)) (.slice (some ⟨wd.heap.size, 0, none⟩) 3 3) [0, 1, 2] from RdS.of_box (f := Value.int .i64) (l := [0, 1, 2]) (cap := 3) (BoxAt.new wd [.int .i64 0, .int .i64 1, .int .i64 2] 3) trivial (by simp) (by unfold maxLen; simp))
  have HDo := Lib.hid (HD.out.below hBv (fun _ h => h))
  have HPo := Lib.hid ((HPS.out.mono (G' := fun _ => True) (fun _ _ => trivial)).below hBv (fun _ h => h))
  have HTo := Lib.hid (show Tabs (wd.alloc (.cells #[.int .i64 0, .int .i64 1, .int .i64 2] 3)) from HT.out.belowS (HB.out.trans (hBv.mono HB.out.size)))
  go_wp2_with fail
  refine (dagInsert_any ⟨⟨pickedZ n 4, 1000, [], [someL 1 1, someL 1 2, someL 1 3]⟩, [0, 1, 2]⟩ _ _ _ _ _ HDo.out (RdS.nil _ (fun _ => True) _) HPo.out HVo.out HTo.out).mono ?_
  rintro e we ⟨ve, rfl, hI, hbI⟩
  have hBv3 := hBv.trans (hbI.mono hBv.size)
  obtain ⟨ade, cape, rfl, -, -⟩ := hI.form
  obtain ⟨q1, hq1⟩ : ∃ q1, q1 = insCode L ⟨⟨pickedZ n 4, 1000, [], [someL 1 1, someL 1 2, someL 1 3]⟩, [0, 1, 2]⟩ := ⟨_, rfl⟩
  rw [← hq1]
  have HQ1 := Lib.hid hq1
  obtain ⟨IL, hIL⟩ : ∃ IL, IL = insL L ⟨⟨pickedZ n 4, 1000, [], [someL 1 1, someL 1 2, someL 1 3]⟩, [0, 1, 2]⟩ := ⟨_, rfl⟩
  rw [← hIL]
  replace HX := Lib.hid (HX.out.belowS hBv3)
  replace HD := Lib.hid (HD.out.below hBv3 (fun _ h => h))
  replace HB := Lib.hid (HB.out.trans (hBv3.mono HB.out.size))
  replace BP := Lib.hid (BP.out.belowS hBv3)
  replace BH := Lib.hid (BH.out.belowS hBv3)
  replace S1 := Lib.hid (S1.out.belowS hBv3)
  replace S2 := Lib.hid (S2.out.belowS hBv3)
  replace S3 := Lib.hid (S3.out.belowS hBv3)
  replace HPS := Lib.hid (HPS.out.below hBv3 (fun _ h => h))
  clear x0 y0 y1 y2 y3 hBv HVo HDo HPo HTo hI hbI hBv3 hq1 hIL
  go_upto_region 4 with fail
  obtain ⟨wf, hwl⟩ : ∃ wf, wf = we.alloc (.cells #[.slice ade IL.length cape] 27) := ⟨_, rfl⟩
  have hBl : Below we.heap.size we wf := by rw [hwl]; exact (Below.refl _ _).alloc (Nat.le_refl _) _
  rw [← hwl]
  replace HX := Lib.hid (HX.out.belowS hBl)
  replace HD := Lib.hid (HD.out.below hBl (fun _ h => h))
  replace HB := Lib.hid (HB.out.trans (hBl.mono HB.out.size))
  replace BP := Lib.hid (BP.out.belowS hBl)
  replace BH := Lib.hid (BH.out.belowS hBl)
  replace S1 := Lib.hid (S1.out.belowS hBl)
  replace S2 := Lib.hid (S2.out.belowS hBl)
  replace S3 := Lib.hid (S3.out.belowS hBl)
  replace HPS := Lib.hid (HPS.out.below hBl (fun _ h => h))
  clear hwl hBl
  have zhf := BH.out.lt
  have zxf := HX.out.lt
  have x0 := HX.out.cell 0 rfl
  have y0 := BH.out.cell 0 rfl
  have y1 := BH.out.cell 1 rfl
  have y2 := BH.out.cell 2 rfl
  have y3 := BH.out.cell 3 rfl
  go_wp2_with fail
  refine (dagMissing_any ⟨pickedZ n 4, 1000, [], [someL 1 1, someL 1 2, someL 1 3]⟩ _ _ _ _ HD.out (RdS.nil _ (fun _ => True) _) (HPS.out.mono (fun _ _ => trivial)) (HT.out.belowS HB.out) HOK.out).mono ?_
  rintro e wg ⟨vg, rfl, hM, hbg⟩
  obtain ⟨adg, capg, rfl, -, -⟩ := hM.form
  obtain ⟨q2, hq2⟩ : ∃ q2, q2 = misCode L ⟨pickedZ n 4, 1000, [], [someL 1 1, someL 1 2, someL 1 3]⟩ := ⟨_, rfl⟩
  rw [← hq2]
  have HQ2 := Lib.hid hq2
  obtain ⟨ML, hML⟩ : ∃ ML, ML = misL L ⟨pickedZ n 4, 1000, [], [someL 1 1, someL 1 2, someL 1 3]⟩ := ⟨_, rfl⟩
  rw [← hML]
  have HML := Lib.hid hML
  replace HX := Lib.hid (HX.out.belowS hbg)
  replace HD := Lib.hid (HD.out.below hbg (fun _ h => h))
  replace HB := Lib.hid (HB.out.trans (hbg.mono HB.out.size))
  replace BP := Lib.hid (BP.out.belowS hbg)
  replace BH := Lib.hid (BH.out.belowS hbg)
  replace S1 := Lib.hid (S1.out.belowS hbg)
  replace S2 := Lib.hid (S2.out.belowS hbg)
  replace S3 := Lib.hid (S3.out.belowS hbg)
  replace HPS := Lib.hid (HPS.out.below hbg (fun _ h => h))
  have zg := hbg.size
  clear x0 y0 y1 y2 y3 hM hbg hq2 hML
  have x0 := HX.out.cell 0 rfl
  go_wp2_with fail
  refine (digestsOf_any _ _ HD.out HCH.out (by omega) (HT.out.belowS HB.out)).mono ?_
  rintro e wh ⟨vh, rfl, hS, hbh⟩
  obtain ⟨adh, caph, rfl, -, -⟩ := hS.form
  have HS := Lib.hid hS
  replace HX := Lib.hid (HX.out.belowS hbh)
  replace HD := Lib.hid (HD.out.below hbh (fun _ h => h))
  replace HB := Lib.hid (HB.out.trans (hbh.mono HB.out.size))
  replace BP := Lib.hid (BP.out.belowS hbh)
  replace BH := Lib.hid (BH.out.belowS hbh)
  replace S1 := Lib.hid (S1.out.belowS hbh)
  replace S2 := Lib.hid (S2.out.belowS hbh)
  replace S3 := Lib.hid (S3.out.belowS hbh)
  replace HPS := Lib.hid (HPS.out.below hbh (fun _ h => h))
  have hSL := crtSums_len L
  have zSz := hbh.size
  clear x0 hS hbh
  obtain ⟨DS, hDS⟩ : ∃ DS, DS = crtSums L := ⟨_, rfl⟩
  rw [← hDS] at HS HL1 HL2 hSL ⊢
  have hSL1 : DS.length ≤ L.length := by omega
  have hSL2 : L.length ≤ DS.length := by omega
  clear hDS hSL
  have e0 : ((DS.length : Int) == 0) = false := by rw [beq_eq_false_iff_ne]; omega
  have e0' : (DS.length == 0) = false := by rw [beq_eq_false_iff_ne]; omega
  go_upto_region 8 with fail
  clear e0 e0'
  rw [HNH.out] at HL1
  have HSome := Lib.hid (fun (W : World) (m : Int) (h : Below wg.heap.size wg W) => (trivial : True))
  go_wp2_with fail
  refine (some_any 1 1 _ (by omega) (by omega)).mono ?_
  rintro e wi ⟨rfl, hs, hbwi⟩
  replace HX := Lib.hid (HX.out.belowS hbwi)
  replace HD := Lib.hid (HD.out.below hbwi (fun _ h => h))
  replace HB := Lib.hid (HB.out.trans (hbwi.mono HB.out.size))
  replace BP := Lib.hid (BP.out.belowS hbwi)
  replace BH := Lib.hid (BH.out.belowS hbwi)
  replace S1 := Lib.hid (S1.out.belowS hbwi)
  replace S2 := Lib.hid (S2.out.belowS hbwi)
  replace S3 := Lib.hid (S3.out.belowS hbwi)
  replace HPS := Lib.hid (HPS.out.below hbwi (fun _ h => h))
  replace HS := Lib.hid (HS.out.below hbwi (fun _ h => h))
  have HSK := Lib.hid (show RdB (fun _ => True) wi (.slice (some ⟨wh.heap.size, 0, none⟩) 32 32) (someL 1 1) from RdS.of_box (l := someL 1 1) (cap := 32) hs trivial (by simp [someL_length]) (by unfold maxLen; simp))
  clear hs hbwi
  go_wp2_with fail
  refine (sat_any _ _ _ HS.out HSK.out).mono ?_
  rintro e w' ⟨rfl, rfl⟩
  clear HSK
  obtain ⟨i1, hi1⟩ : ∃ i1, i1 = idxP (isB (someL 1 1)) DS := ⟨_, rfl⟩
  rw [← hi1] at HL1 ⊢
  clear hi1
  by_cases g1 : 0 ≤ i1
  · go_wp2
    go_ret
    exact ⟨rfl, HB.out⟩
  go_wp2_with fail
  refine (some_any 1 2 _ (by omega) (by omega)).mono ?_
  rintro e wj ⟨rfl, hs, hbwj⟩
  replace HX := Lib.hid (HX.out.belowS hbwj)
  replace HD := Lib.hid (HD.out.below hbwj (fun _ h => h))
  replace HB := Lib.hid (HB.out.trans (hbwj.mono HB.out.size))
  replace BP := Lib.hid (BP.out.belowS hbwj)
  replace BH := Lib.hid (BH.out.belowS hbwj)
  replace S1 := Lib.hid (S1.out.belowS hbwj)
  replace S2 := Lib.hid (S2.out.belowS hbwj)
  replace S3 := Lib.hid (S3.out.belowS hbwj)
  replace HPS := Lib.hid (HPS.out.below hbwj (fun _ h => h))
  replace HS := Lib.hid (HS.out.below hbwj (fun _ h => h))
  have HSK := Lib.hid (show RdB (fun _ => True) wj (.slice (some ⟨wi.heap.size, 0, none⟩) 32 32) (someL 1 2) from RdS.of_box (l := someL 1 2) (cap := 32) hs trivial (by simp [someL_length]) (by unfold maxLen; simp))
  clear hs hbwj
  go_wp2_with fail
  refine (sat_any _ _ _ HS.out HSK.out).mono ?_
  rintro e w' ⟨rfl, rfl⟩
  clear HSK
  obtain ⟨i2, hi2⟩ : ∃ i2, i2 = idxP (isB (someL 1 2)) DS := ⟨_, rfl⟩
  rw [← hi2] at HL1 HL2 ⊢
  clear hi2
  by_cases g2 : 0 ≤ i2
  · go_wp2
    go_ret
    exact ⟨rfl, HB.out⟩
  go_wp2_with fail
  refine (some_any 1 3 _ (by omega) (by omega)).mono ?_
  rintro e wk ⟨rfl, hs, hbwk⟩
  replace HX := Lib.hid (HX.out.belowS hbwk)
  replace HD := Lib.hid (HD.out.below hbwk (fun _ h => h))
  replace HB := Lib.hid (HB.out.trans (hbwk.mono HB.out.size))
  replace BP := Lib.hid (BP.out.belowS hbwk)
  replace BH := Lib.hid (BH.out.belowS hbwk)
  replace S1 := Lib.hid (S1.out.belowS hbwk)
  replace S2 := Lib.hid (S2.out.belowS hbwk)
  replace S3 := Lib.hid (S3.out.belowS hbwk)
  replace HPS := Lib.hid (HPS.out.below hbwk (fun _ h => h))
  replace HS := Lib.hid (HS.out.below hbwk (fun _ h => h))
  have HSK := Lib.hid (show RdB (fun _ => True) wk (.slice (some ⟨wj.heap.size, 0, none⟩) 32 32) (someL 1 3) from RdS.of_box (l := someL 1 3) (cap := 32) hs trivial (by simp [someL_length]) (by unfold maxLen; simp))
  clear hs hbwk
  go_wp2_with fail
  refine (sat_any _ _ _ HS.out HSK.out).mono ?_
  rintro e w' ⟨rfl, rfl⟩
  clear HSK
  obtain ⟨i3, hi3⟩ : ∃ i3, i3 = idxP (isB (someL 1 3)) DS := ⟨_, rfl⟩
  rw [← hi3] at HL1 HL2 ⊢
  clear hi3
  by_cases g3 : 0 ≤ i3
  · go_wp2
    go_ret
    exact ⟨rfl, HB.out⟩
  have HA := Lib.hid (HL1.out (by omega) (by omega) (by omega))
  have HW := Lib.hid (fun (k : Nat) (hk : k < DS.length) => HL2.out k hk (by omega) (by omega))
  have hq1 : q1 = 8 := by rw [HQ1.out]; exact HA.out.1
  have hq2 : q2 = 0 := by rw [HQ2.out]; exact HA.out.2.1
  have hml : ML.length = 3 := by rw [HML.out]; exact HA.out.2.2
  subst hq1 hq2
  have HML3 := Lib.hid hml
  clear hml HL1 HL2 HA HQ1 HQ2 HML HNH
  obtain ⟨r1, r2⟩ := pickedZ_range n (DS.length : Int) (by omega)
  obtain ⟨k, hk⟩ : ∃ k : Nat, pickedZ n (DS.length : Int) = (k : Int) := ⟨_, (Int.toNat_of_nonneg r1).symm⟩
  rw [hk] at r1 r2
  have HK := Lib.hid hk
  have hkl : k < DS.length := by omega
  have HW2 := Lib.hid (HW.out k hkl)
  rw [HNH2.out] at HW2
  have hsp : DS.length ≤ 9223372036854775807 := by omega
  clear hk HW
  obtain ⟨bs, os, vs, rfl, hGs, es, hs⟩ := HS.out.cellS k hkl
  obtain ⟨ads, caps, rfl, -, -⟩ := hs.form
  have HDK := Lib.hid hs
  have hbs := World.block_lt_of_cell? wk _ es
  simp only at hbs
  have HES := Lib.hid es
  clear hs es
  generalize DS[k] = dk at *
  have zP := BP.out.lt
  have zHh := BH.out.lt
  have HDK2 := Lib.hid (show RdB (fun b => wg.heap.size ≤ b) wk (.slice ads dk.length caps) dk from HDK.out)
  have hGs' : wg.heap.size ≤ bs := hGs
  have HPB := Lib.hid (show wc.heap.size < wg.heap.size by omega)
  have hPB := HPB.out
  clear HDK hGs HSome
  go_upto_region 10 with fail
  refine wp_region_held_drew (S := fun w' => Keep (fun b => b ≠ wc.heap.size) wk w') (by kernel_rfl) (by exact Keep.drew _ _) (fun hHeld => ?_)
  obtain ⟨wd', hwd⟩ : ∃ wd', wd' = wk.drew := ⟨_, rfl⟩
  have HBd := Lib.hid (show Below wk.heap.size wk wd' by rw [hwd]; exact (Below.refl _ _).drew)
  rw [← hwd] at hHeld ⊢
  clear hwd
  refine wpAnyH_take (i := 0) (v := .pointer (some ⟨wc.heap.size + 1, 3, none⟩)) rfl (by kernel_rfl) (by kernel_rfl) (by kernel_rfl) (fun _ _ _ h => h) (Or.inl ⟨by rfl, fun w hSw => ?_⟩) hHeld ?_
  · clear hSw; go_simp; all_goals (try first | rfl | omega)
  try simp only [Act.put, List.getElem_toArray, List.getElem_cons_succ, List.getElem_cons_zero, List.setIfInBounds_toArray, List.set_cons_zero, List.set_cons_succ]
  refine wpAnyH_take (i := 1) (v := .slice (some ⟨wc.heap.size, 0, none⟩) 3 3) rfl (by kernel_rfl) (by kernel_rfl) (by kernel_rfl) (fun _ _ _ h => h) (Or.inl ⟨by rfl, fun w hSw => ?_⟩) hHeld ?_
  · have q3 := hSw _ _ _ (by simp) (BH.out.cell 3 rfl); clear hSw; go_simp
  try simp only [Act.put, List.getElem_toArray, List.getElem_cons_succ, List.getElem_cons_zero, List.setIfInBounds_toArray, List.set_cons_zero, List.set_cons_succ]
  refine wpAnyH_take (i := 2) (v := .slice (some ⟨bs, os, none⟩) DS.length caph) rfl (by kernel_rfl) (by kernel_rfl) (by kernel_rfl) (fun _ _ _ h => h) (Or.inl ⟨by rfl, fun w hSw => ?_⟩) hHeld ?_
  · clear hSw; go_simp; all_goals (try first | rfl | omega)
  try simp only [Act.put, List.getElem_toArray, List.getElem_cons_succ, List.getElem_cons_zero, List.setIfInBounds_toArray, List.set_cons_zero, List.set_cons_succ]
  refine wpAnyH_take (i := 3) (v := .int .i64 n) rfl (by kernel_rfl) (by kernel_rfl) (by kernel_rfl) (fun _ _ _ h => h) (Or.inl ⟨by rfl, fun w hSw => ?_⟩) hHeld ?_
  · clear hSw; go_simp; all_goals (try first | rfl | omega)
  try simp only [Act.put, List.getElem_toArray, List.getElem_cons_succ, List.getElem_cons_zero, List.setIfInBounds_toArray, List.set_cons_zero, List.set_cons_succ]
  refine wpAnyH_take (i := 4) (v := .slice (some ⟨bs, os, none⟩) DS.length caph) rfl (by kernel_rfl) (by kernel_rfl) (by kernel_rfl) (fun _ _ _ h => h) (Or.inl ⟨by rfl, fun w hSw => ?_⟩) hHeld ?_
  · clear hSw; go_simp; all_goals (try first | rfl | omega)
  try simp only [Act.put, List.getElem_toArray, List.getElem_cons_succ, List.getElem_cons_zero, List.setIfInBounds_toArray, List.set_cons_zero, List.set_cons_succ]
  refine wpAnyH_take (i := 5) (v := .int .i64 (DS.length : Int)) rfl (by kernel_rfl) (by kernel_rfl) (by kernel_rfl) (fun _ _ _ h => h) (Or.inl ⟨by rfl, fun w hSw => ?_⟩) hHeld ?_
  · clear hSw; go_simp; all_goals (try first | rfl | omega)
  try simp only [Act.put, List.getElem_toArray, List.getElem_cons_succ, List.getElem_cons_zero, List.setIfInBounds_toArray, List.set_cons_zero, List.set_cons_succ]
  refine wpAnyH_ready (rs := [6]) (by kernel_rfl) (by simp) ?_
  refine AllReadyH.cons rfl (fun K hK => ?_) ?_
  · rw [if_pos (by rfl)]
    go_simp
    go_at_call 19
    refine (picked_any n (DS.length : Int) _ n1 n2 (by omega) (by omega)).mono ?_
    rintro e w' ⟨rfl, rfl⟩
    rw [HK.out]
    show K _ _
    refine hK.out _ _ (by exact hHeld) (fun hHeld => ?_)
    clear hK K
    try simp only [Act.put, List.getElem_toArray, List.getElem_cons_succ, List.getElem_cons_zero, List.setIfInBounds_toArray, List.set_cons_zero, List.set_cons_succ]
    refine wpAnyH_take (i := 7) (v := .pointer (some ⟨bs, os + k, none⟩)) rfl (by kernel_rfl) (by kernel_rfl) (by kernel_rfl) (fun _ _ _ h => h) (Or.inl ⟨by rfl, fun w hSw => ?_⟩) hHeld ?_
    · clear hSw; go_simp; all_goals (try first | rfl | omega)
    try simp only [Act.put, List.getElem_toArray, List.getElem_cons_succ, List.getElem_cons_zero, List.setIfInBounds_toArray, List.set_cons_zero, List.set_cons_succ]
    refine wpAnyH_take (i := 8) (v := .slice ads dk.length caps) rfl (by kernel_rfl) (by kernel_rfl) (by kernel_rfl) (fun _ _ _ h => h) (Or.inl ⟨by rfl, fun w hSw => ?_⟩) hHeld ?_
    · have q3 := hSw _ _ _ (by omega) HES.out; clear hSw; go_simp
    try simp only [Act.put, List.getElem_toArray, List.getElem_cons_succ, List.getElem_cons_zero, List.setIfInBounds_toArray, List.set_cons_zero, List.set_cons_succ]
    refine wpAnyH_take (i := 9) (v := .pointer (some ⟨wc.heap.size, 0, none⟩)) rfl (by kernel_rfl) (by kernel_rfl) (by kernel_rfl) (fun _ _ _ h => h) (Or.inl ⟨by rfl, fun w hSw => ?_⟩) hHeld ?_
    · clear hSw; go_simp; all_goals (try first | rfl | omega)
    try simp only [Act.put, List.getElem_toArray, List.getElem_cons_succ, List.getElem_cons_zero, List.setIfInBounds_toArray, List.set_cons_zero, List.set_cons_succ]
    refine wpAnyH_ready (rs := [10]) (by kernel_rfl) (by simp) ?_
    refine AllReadyH.cons rfl (fun K hK => ?_) ?_
    · rw [if_pos (by rfl)]
      have hbp := BP.out.belowS HBd.out
      have q0 := hbp.cell 0 rfl
      have qf0 := hbp.free 0
      have qz := hbp.lt
      clear hbp
      go_simp
      show K _ _
      refine hK.out _ _ (by exact hHeld.setCell' (by simp) _) (fun hHeld => ?_)
      clear hK K
      try simp only [Act.put, List.getElem_toArray, List.getElem_cons_succ, List.getElem_cons_zero, List.setIfInBounds_toArray, List.set_cons_zero, List.set_cons_succ]
      refine wpAnyH_done (by kernel_rfl) ?_ _
      go_upto_region 11 with fail
      replace HX := Lib.hid (HX.out.belowS HBd.out)
      replace HD := Lib.hid (HD.out.below HBd.out (fun _ h => h))
      replace HB := Lib.hid (HB.out.trans (HBd.out.mono HB.out.size))
      replace BP := Lib.hid (BP.out.belowS HBd.out)
      replace BH := Lib.hid (BH.out.belowS HBd.out)
      replace S1 := Lib.hid (S1.out.belowS HBd.out)
      replace S2 := Lib.hid (S2.out.belowS HBd.out)
      replace S3 := Lib.hid (S3.out.belowS HBd.out)
      replace HPS := Lib.hid (HPS.out.below HBd.out (fun _ h => h))
      replace HS := Lib.hid (HS.out.below HBd.out (fun _ h => h))
      obtain ⟨wm, hwl⟩ : ∃ wm, wm = wd'.setCell ⟨wc.heap.size, 0, none⟩ (.slice ads dk.length caps) := ⟨_, rfl⟩
      have hK : Keep (fun b => b ≠ wc.heap.size) wd' wm := by rw [hwl]; exact Keep.setCell (by simp) _
      replace BP := Lib.hid (show BoxAt wm wc.heap.size [.slice ads dk.length caps, .slice (some ⟨wa.heap.size, 0, none⟩) 32 32, .slice (some ⟨wb.heap.size, 0, none⟩) 32 32] 46 by rw [hwl]; exact BP.out.set 0 _)
      replace BH := Lib.hid (show BoxAt wm (wc.heap.size + 1) [.int .i64 (pickedZ n 4), .int .i64 1000, .slice none 0 0, .slice (some ⟨wc.heap.size, 0, none⟩) 3 3] 36 by rw [hwl]; exact BH.out.setOther (by simp) _)
      replace HX := Lib.hid (show BoxAt wm w1.heap.size _ _ by rw [hwl]; exact HX.out.setOther (by simp; omega) _)
      replace S2 := Lib.hid (show BoxAt wm wa.heap.size _ _ by rw [hwl]; exact S2.out.setOther (by simp; omega) _)
      replace S3 := Lib.hid (show BoxAt wm wb.heap.size _ _ by rw [hwl]; exact S3.out.setOther (by simp; omega) _)
      replace HB := Lib.hid (show Below w.heap.size w wm by rw [hwl]; exact HB.out.setCell (by simp; omega) _)
      replace HD := Lib.hid (HD.out.keep (G' := fun _ => True) (hK.mono (fun b hb => by have h0 : b < w2.heap.size := hb; show b ≠ wc.heap.size; omega)) (fun _ _ => trivial))
      have HDK3 := Lib.hid ((HDK2.out.below HBd.out (fun _ h => h)).keep (G' := fun _ => True) (hK.mono (fun b hb => by have h0 : wg.heap.size ≤ b := hb; show b ≠ wc.heap.size; omega)) (fun _ _ => trivial))
      rw [← hwl]
      clear hwl hK HBd hHeld HDK2 S1 HS HPS HES
      have HPN := Lib.hid (show RdBB (fun _ => True) wm (.slice (some ⟨wc.heap.size, 0, none⟩) 3 3) [dk, someL 1 2, someL 1 3] from rdBB_three BP.out trivial HDK3.out (RdS.of_box (l := someL 1 2) (cap := 32) S2.out trivial (by simp [someL_length]) (by unfold maxLen; simp)) (RdS.of_box (l := someL 1 3) (cap := 32) S3.out trivial (by simp [someL_length]) (by unfold maxLen; simp)))
      have zxm := HX.out.lt
      have zhm := BH.out.lt
      have x0 := HX.out.cell 0 rfl
      have y0 := BH.out.cell 0 rfl
      have y1 := BH.out.cell 1 rfl
      have y2 := BH.out.cell 2 rfl
      have y3 := BH.out.cell 3 rfl
      have hBv : Below wm.heap.size wm (wm.alloc (.cells #[.int .i64 0, .int .i64 1, .int .i64 2] 3)) := (Below.refl _ _).alloc (Nat.le_refl _) _
      have HVo := Lib.hid (show RdI (fun _ => True) (wm.alloc (.cells #[.int .i64 0, .int .i64 1, .int .i64 2] 3)) (.slice (some ⟨wm.heap.size, 0, none⟩) 3 3) [0, 1, 2] from RdS.of_box (f := Value.int .i64) (l := [0, 1, 2]) (cap := 3) (BoxAt.new wm [.int .i64 0, .int .i64 1, .int .i64 2] 3) trivial (by simp) (by unfold maxLen; simp))
      have HDo := Lib.hid (HD.out.below hBv (fun _ h => h))
      have HPo := Lib.hid ((HPN.out.mono (G' := fun _ => True) (fun _ _ => trivial)).below hBv (fun _ h => h))
      have HTo := Lib.hid (show Tabs (wm.alloc (.cells #[.int .i64 0, .int .i64 1, .int .i64 2] 3)) from HT.out.belowS (HB.out.trans (hBv.mono HB.out.size)))
      go_wp2_with fail
      refine (dagInsert_any ⟨⟨pickedZ n 4, 1000, [], [dk, someL 1 2, someL 1 3]⟩, [0, 1, 2]⟩ _ _ _ _ _ HDo.out (RdS.nil _ (fun _ => True) _) HPo.out HVo.out HTo.out).mono ?_
      rintro e wo ⟨vo, rfl, hI, hbI⟩
      have hBv3 := hBv.trans (hbI.mono hBv.size)
      obtain ⟨ado, capo, rfl, -, -⟩ := hI.form
      rw [HW2.out.1]
      obtain ⟨IL2, hIL⟩ : ∃ IL2, IL2 = insL L ⟨⟨pickedZ n 4, 1000, [], [dk, someL 1 2, someL 1 3]⟩, [0, 1, 2]⟩ := ⟨_, rfl⟩
      rw [← hIL]
      replace HX := Lib.hid (HX.out.belowS hBv3)
      replace HD := Lib.hid (HD.out.below hBv3 (fun _ h => h))
      replace HB := Lib.hid (HB.out.trans (hBv3.mono HB.out.size))
      replace BH := Lib.hid (BH.out.belowS hBv3)
      replace HPN := Lib.hid (HPN.out.below hBv3 (fun _ h => h))
      clear x0 y0 y1 y2 y3 hBv HVo HDo HPo HTo hI hbI hBv3 hIL
      go_upto_region 12 with fail
      obtain ⟨wp, hwl⟩ : ∃ wp, wp = wo.alloc (.cells #[.slice ado IL2.length capo] 27) := ⟨_, rfl⟩
      have hBl : Below wo.heap.size wo wp := by rw [hwl]; exact (Below.refl _ _).alloc (Nat.le_refl _) _
      rw [← hwl]
      replace HX := Lib.hid (HX.out.belowS hBl)
      replace HD := Lib.hid (HD.out.below hBl (fun _ h => h))
      replace HB := Lib.hid (HB.out.trans (hBl.mono HB.out.size))
      replace BH := Lib.hid (BH.out.belowS hBl)
      replace HPN := Lib.hid (HPN.out.below hBl (fun _ h => h))
      clear hwl hBl
      have zxp := HX.out.lt
      have zhp := BH.out.lt
      have x0 := HX.out.cell 0 rfl
      have y0 := BH.out.cell 0 rfl
      have y1 := BH.out.cell 1 rfl
      have y2 := BH.out.cell 2 rfl
      have y3 := BH.out.cell 3 rfl
      go_wp2_with fail
      refine (dagMissing_any ⟨pickedZ n 4, 1000, [], [dk, someL 1 2, someL 1 3]⟩ _ _ _ _ HD.out (RdS.nil _ (fun _ => True) _) HPN.out (HT.out.belowS HB.out) HOK.out).mono ?_
      rintro e wq ⟨vq, rfl, -, hbq⟩
      rw [HW2.out.2]
      have HBE := Lib.hid (HB.out.trans (hbq.mono HB.out.size))
      clear x0 y0 y1 y2 y3 hbq
      have hml := HML3.out
      go_wp2
      go_ret
      exact ⟨rfl, HBE.out⟩
    exact AllReadyH.nil
  exact AllReadyH.nil
end Go.Proofs.YtlailhhffejbbaaDoor
