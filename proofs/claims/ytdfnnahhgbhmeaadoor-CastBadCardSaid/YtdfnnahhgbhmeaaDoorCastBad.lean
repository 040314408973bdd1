/- CastBad: the walk. -/
import Derived.Test.YtdfnnahhgbhmeaaDoorTable
set_option linter.unusedVariables false
set_option linter.unusedSimpArgs false
attribute [local go_sem ↓] Go.wp_at_zero Go.wp_at_succ
namespace Go.Proofs.YtdfnnahhgbhmeaaDoor
open Go Go.RowKit

theorem hdrCode_round0 (h : Hdr) : hdrCode ⟨h.a, 0, h.bs, h.ps⟩ = 2 := by
  unfold hdrCode; rw [if_pos (.inr (by show countOk 0 = false; decide))]
theorem hdrCode_short {h : Hdr} (hc : hdrCode h = 0) : hdrCode ⟨h.a, h.r, [[1]], h.ps⟩ = 4 := by
  obtain ⟨h1, h2, h3, h4, h5, h6⟩ := hdr_partsD hc
  unfold hdrCode
  rw [if_neg (by simp [h1, h2]), if_neg (by simp; omega), if_pos (by show digCode [[1]] ≠ 0; decide)]
  rfl
set_option maxRecDepth 100000 in
set_option maxHeartbeats 4000000 in
theorem castBad_case {G : Nat → Prop} (K A B C : Int) (vt : Value) (v : Value) (l : List RawD) (w : World) (a1 : -9223372036854775808 ≤ A) (a2 : A ≤ 9223372036854775807) (b1 : -9223372036854775808 ≤ B) (b2 : B ≤ 9223372036854775807) (c1 : -9223372036854775808 ≤ C) (c2 : C ≤ 9223372036854775807) (hone : vt.oneCell' = true)
    (hv : RdS RRaw G w v l) (ht : Tabs w) :
    Calls Tryd.prog 12 #[v, .agg #[.int .i64 K, .int .i64 A, .int .i64 B, .int .i64 C, vt]] w fun e w' => e = .returned (.bool true) ∧ Below w.heap.size w w' := by
  obtain ⟨adv, capv, rfl, -, -⟩ := hv.form
  have hb1 := (Below.refl w.heap.size w).alloc (Nat.le_refl _) (.cells #[.int .i64 K, .int .i64 A, .int .i64 B, .int .i64 C, vt] 40)
  have HX := Lib.hid (BoxAt.new w [.int .i64 K, .int .i64 A, .int .i64 B, .int .i64 C, vt] 40)
  have HV := Lib.hid (hv.below hb1 (fun _ h => h))
  have HT := Lib.hid (ht.belowS hb1)
  have HB := Lib.hid hb1
  have HOK := Lib.hid (hdrOf_ok A B C)
  have HTO := Lib.hid (tableL_ok l)
  clear hb1 hv ht
  go_enter Tryd.func12, Tryd.ntmps12
  go_wp2_with fail
  refine (table_any _ _ HV.out HT.out).mono ?_
  rintro e w1 ⟨vt1, rfl, h1, hb1⟩
  obtain ⟨ad1, cap1, rfl, -, -⟩ := h1.form
  have HL1 := Lib.hid (h1.low (by decide))
  have HX1 := Lib.hid (HX.out.belowS hb1)
  have HT1 := Lib.hid (HT.out.belowS hb1)
  have HB1 := Lib.hid (HB.out.trans (hb1.mono HB.out.size))
  have hz0 := HX.out.lt
  have hz1 := HX1.out.lt
  have bx := HX1.out
  have x0 := bx.cell 0 rfl
  have x1 := bx.cell 1 rfl
  have x2 := bx.cell 2 rfl
  have x3 := bx.cell 3 rfl
  have x4 := bx.cell 4 rfl
  generalize tableL l = t at *
  clear h1 hb1 bx HX HV HT HB
  go_wp2_with fail
  refine (header_any K A B C vt w1 a1 a2 b1 b2 c1 c2 hone).mono ?_
  rintro e w2 ⟨adb, capb, adp, capp, rfl, hbb, hpp, hb2⟩
  generalize hh : hdrOf A B C = h at *
  have HH := Lib.hid hh
  have HC2 := Lib.hid (show castCode t ⟨h.a, 0, h.bs, h.ps⟩ = 2 by unfold castCode; rw [if_neg (by simp [HTO.out]), if_pos (by rw [hdrCode_round0]; simp), hdrCode_round0])
  have HC4 := Lib.hid (show castCode t ⟨h.a, h.r, [[1]], h.ps⟩ = 4 by unfold castCode; rw [if_neg (by simp [HTO.out]), if_pos (by rw [hdrCode_short HOK.out]; simp), hdrCode_short HOK.out])
  have HL2 := Lib.hid (HL1.out.below hb2 (fun _ h => h))
  have HX2 := Lib.hid (HX1.out.belowS hb2)
  have HT2 := Lib.hid (HT1.out.belowS hb2)
  have HB2 := Lib.hid (HB1.out.trans (hb2.mono HB1.out.size))
  have HBB2 := Lib.hid hbb
  have HPP2 := Lib.hid hpp
  have hz2 := HB2.out.size
  have hz2' := hb2.size
  have hbs := (Below.refl w2.heap.size w2).alloc (Nat.le_refl _) (.cells #[.int .i64 h.a, .int .i64 0, .slice adb h.bs.length capb, .slice adp h.ps.length capp] 48)
  have HYs := Lib.hid (BoxAt.new w2 [.int .i64 h.a, .int .i64 0, .slice adb h.bs.length capb, .slice adp h.ps.length capp] 48)
  have HLs := Lib.hid (HL2.out.below hbs (fun _ h => h))
  have HXs := Lib.hid (HX2.out.belowS hbs)
  have HTs := Lib.hid (HT2.out.belowS hbs)
  have HBs := Lib.hid (HB2.out.trans (hbs.mono hz2))
  have HBBs := Lib.hid (HBB2.out.below hbs (fun _ h => h))
  have HPPs := Lib.hid (HPP2.out.below hbs (fun _ h => h))
  have hzs := hbs.size
  clear hbb hpp hb2 hbs x0 x1 x2 x3 x4 hh HL1 HX1 HT1 HB1 HL2 HX2 HT2 HBB2 HPP2
  go_upto_region 4 with (fail)
  generalize w2.alloc (.cells #[.int .i64 h.a, .int .i64 0, .slice adb h.bs.length capb, .slice adp h.ps.length capp] 48) = w3 at *
  have by3 := HYs.out
  have y0 := by3.cell 0 rfl
  have y1 := by3.cell 1 rfl
  have y2 := by3.cell 2 rfl
  have y3 := by3.cell 3 rfl
  clear by3
  go_wp2_with fail
  refine (cast_any ⟨h.a, 0, h.bs, h.ps⟩ _ _ _ w3 HLs.out HBBs.out HPPs.out HTs.out).mono ?_
  rintro e w4 ⟨v4, vd4, rfl, h4, hd4, hb4⟩
  have hct : castTab t ⟨h.a, 0, h.bs, h.ps⟩ = [] := by unfold castTab; rw [if_neg (by rw [HC2.out]; simp)]
  have hcs : castSlt t ⟨h.a, 0, h.bs, h.ps⟩ = ⟨0, 0, []⟩ := by unfold castSlt; rw [if_neg (by rw [HC2.out]; simp)]
  rw [HC2.out, hcs]
  rw [hct] at h4
  rw [hcs] at hd4
  obtain ⟨ad4, cap4, rfl, -, -⟩ := h4.form
  obtain ⟨add4, capd4, rfl, -, -⟩ := hd4.form
  have HX4 := Lib.hid (HXs.out.belowS hb4)
  have HT4 := Lib.hid (HTs.out.belowS hb4)
  have HL4 := Lib.hid (HLs.out.below hb4 (fun _ h => h))
  have HB4 := Lib.hid (HBs.out.trans (hb4.mono HBs.out.size))
  have hz4 := HB4.out.size
  have hba := (Below.refl w4.heap.size w4).alloc (Nat.le_refl _) (.cells #[.int .i64 0, .int .i64 0, .slice add4 0 capd4] 61)
  have HSa := Lib.hid (BoxAt.new w4 [.int .i64 0, .int .i64 0, .slice add4 0 capd4] 61)
  have HXa := Lib.hid (HX4.out.belowS hba)
  have HTa := Lib.hid (HT4.out.belowS hba)
  have HLa := Lib.hid (HL4.out.below hba (fun _ h => h))
  have HBa := Lib.hid (HB4.out.trans (hba.mono hz4))
  clear h4 hd4 hb4 hct hcs hba y0 y1 y2 y3 HYs HLs HXs HTs HBBs HPPs HX4 HT4 HL4
  go_upto_region 5 with (fail)
  try simp only [List.length_nil]
  generalize w4.alloc (.cells #[.int .i64 0, .int .i64 0, .slice add4 0 capd4] 61) = w5 at *
  have bx := HXa.out
  have x0 := bx.cell 0 rfl
  have x1 := bx.cell 1 rfl
  have x2 := bx.cell 2 rfl
  have x3 := bx.cell 3 rfl
  have x4 := bx.cell 4 rfl
  clear bx
  go_wp2_with fail
  refine (header_any K A B C vt w5 a1 a2 b1 b2 c1 c2 hone).mono ?_
  rw [HH.out]
  rintro e w6 ⟨adb6, capb6, adp6, capp6, rfl, hbb, hpp, hb6⟩
  have HX6 := Lib.hid (HXa.out.belowS hb6)
  have HT6 := Lib.hid (HTa.out.belowS hb6)
  have HL6 := Lib.hid (HLa.out.below hb6 (fun _ h => h))
  have HS6 := Lib.hid (HSa.out.belowS hb6)
  have HB6 := Lib.hid (HBa.out.trans (hb6.mono HBa.out.size))
  have hz6 := HB6.out.size
  have hz6' := HS6.out.lt
  have hq1 := (Below.refl w6.heap.size w6).alloc (Nat.le_refl _) (.cells #[.int .i64 h.a, .int .i64 h.r, .slice (some ⟨w6.heap.size + 1 + 1, 0, none⟩) 1 1, .slice adp6 h.ps.length capp6] 48)
  have hq2 := hq1.alloc (by simp) (.cells #[.int .u8 1] 5)
  have hq3 := hq2.alloc (by simp; omega) (.cells #[.slice (some ⟨w6.heap.size + 1, 0, none⟩) 1 1] 22)
  have HZ := Lib.hid (((BoxAt.new w6 [.int .i64 h.a, .int .i64 h.r, .slice (some ⟨w6.heap.size + 1 + 1, 0, none⟩) 1 1, .slice adp6 h.ps.length capp6] 48).alloc (.cells #[.int .u8 1] 5)).alloc (.cells #[.slice (some ⟨w6.heap.size + 1, 0, none⟩) 1 1] 22))
  have hr1 := RdS.of_box (f := fun c : UInt8 => Value.int .u8 c.toNat) (G := fun _ => True) (cap := 1) (l := [1]) ((BoxAt.newAt (w6.alloc (.cells #[.int .i64 h.a, .int .i64 h.r, .slice (some ⟨w6.heap.size + 1 + 1, 0, none⟩) 1 1, .slice adp6 h.ps.length capp6] 48)) [.int .u8 1] 5 (n := w6.heap.size + 1) (by simp)).alloc (.cells #[.slice (some ⟨w6.heap.size + 1, 0, none⟩) 1 1] 22)) trivial (Nat.le_refl _) (by unfold maxLen; omega)
  have HRR := Lib.hid (rdBB_one (G := fun _ => True) (BoxAt.newAt ((w6.alloc (.cells #[.int .i64 h.a, .int .i64 h.r, .slice (some ⟨w6.heap.size + 1 + 1, 0, none⟩) 1 1, .slice adp6 h.ps.length capp6] 48)).alloc (.cells #[.int .u8 1] 5)) [.slice (some ⟨w6.heap.size + 1, 0, none⟩) 1 1] 22 (n := w6.heap.size + 1 + 1) (by simp)) trivial hr1)
  have HPZ := Lib.hid (show RdBB (fun _ => True) _ _ h.ps from hpp.below hq3 (fun _ _ => trivial))
  have HLZ := Lib.hid (HL6.out.below hq3 (fun _ h => h))
  have HSZ := Lib.hid (HS6.out.belowS hq3)
  have HTZ := Lib.hid (HT6.out.belowS hq3)
  have HBZ := Lib.hid (HB6.out.trans (hq3.mono hz6))
  clear hbb hpp hb6 x0 x1 x2 x3 x4 HXa HTa HLa HSa hq1 hq2 hq3 hr1 HX6 HT6 HL6 HS6
  go_upto_region 7 with (fail)
  generalize ((w6.alloc (.cells #[.int .i64 h.a, .int .i64 h.r, .slice (some ⟨w6.heap.size + 1 + 1, 0, none⟩) 1 1, .slice adp6 h.ps.length capp6] 48)).alloc (.cells #[.int .u8 1] 5)).alloc (.cells #[.slice (some ⟨w6.heap.size + 1, 0, none⟩) 1 1] 22) = w7 at *
  have by7 := HZ.out
  have y0 := by7.cell 0 rfl
  have y1 := by7.cell 1 rfl
  have y2 := by7.cell 2 rfl
  have y3 := by7.cell 3 rfl
  clear by7
  go_wp2_with fail
  refine (cast_any (G' := fun _ => True) ⟨h.a, h.r, [[1]], h.ps⟩ _ _ _ w7 HLZ.out HRR.out HPZ.out HTZ.out).mono ?_
  rw [HC4.out]
  rintro e w8 ⟨v8, vd8, rfl, h8, hd8, hb8⟩
  have bs8 := HSZ.out.belowS hb8
  have s1 := bs8.cell 1 rfl
  have HB8 := Lib.hid (HBZ.out.trans (hb8.mono HBZ.out.size))
  have hcs : castSlt t ⟨h.a, h.r, [[1]], h.ps⟩ = ⟨0, 0, []⟩ := by unfold castSlt; rw [if_neg (by rw [HC4.out]; simp)]
  rw [hcs]
  rw [hcs] at hd8
  obtain ⟨ad8, cap8, rfl, -, -⟩ := h8.form
  obtain ⟨add8, capd8, rfl, -, -⟩ := hd8.form
  have hz8 := bs8.lt
  have hz8' := HB8.out.size
  clear h8 hd8 hb8 bs8 hcs
  go_wp2
  go_ret
  exact ⟨rfl, HB8.out.alloc hz8' _⟩
theorem castBad_walk (v : Value) (l : List RawD) (vt : Value) (r : RawD) (w : World) (hv : RdS RRaw (fun _ => True) w v l) (hr : RawOk (fun _ => True) w vt r) (ht : Tabs w) :
    Calls Tryd.prog 12 #[v, .agg #[.int .i64 r.k, .int .i64 r.a, .int .i64 r.b, .int .i64 r.c, vt]] w fun e w' => e = .returned (.bool true) ∧ Below w.heap.size w w' :=
  castBad_case r.k r.a r.b r.c vt v l w hr.2.1.1 hr.2.1.2 hr.2.2.1.1 hr.2.2.1.2 hr.2.2.2.1.1 hr.2.2.2.1.2 hr.one hv ht
end Go.Proofs.YtdfnnahhgbhmeaaDoor
