/- CastApart: the walk. -/
import Derived.Test.YtialhdmdeggenaaDoorBalLaw
import Derived.Test.YtialhdmdeggenaaDoorSameB
set_option linter.unusedVariables false
set_option linter.unusedSimpArgs false
attribute [local go_sem ↓] Go.wp_at_zero Go.wp_at_succ
namespace Go.Proofs.YtialhdmdeggenaaDoor
open Go Go.RowKit

/-- A header of raw numbers, the raw's facts in one. -/
theorem headerR_any {G : Nat → Prop} (r : RawD) (vt : Value) (w : World) (h : RawOk G w vt r) :
    Calls Tryd.prog 15 #[.agg #[.int .i64 r.k, .int .i64 r.a, .int .i64 r.b, .int .i64 r.c, vt]] w fun e w' => ∃ adb capb adp capp,
      e = .returned (.agg #[.int .i64 (hdrR r).a, .int .i64 (hdrR r).r, .slice adb (hdrR r).bs.length capb, .slice adp (hdrR r).ps.length capp]) ∧
      RdBB (fun b => w.heap.size ≤ b) w' (.slice adb (hdrR r).bs.length capb) (hdrR r).bs ∧ RdBB (fun b => w.heap.size ≤ b) w' (.slice adp (hdrR r).ps.length capp) (hdrR r).ps ∧ Below w.heap.size w w' := by
  have ho := h.one
  obtain ⟨h0, h1, h2, h3, -⟩ := h
  exact header_any r.k r.a r.b r.c vt w h1.1 h1.2 h2.1 h2.2 h3.1 h3.2 ho
set_option maxRecDepth 100000 in
set_option maxHeartbeats 4000000 in
theorem castApart_walk (v : Value) (l : List RawD) (vt : Value) (r : RawD) (vu : Value) (q : RawD) (w : World) (hv : RdS RRaw (fun _ => True) w v l) (hr : RawOk (fun _ => True) w vt r) (hq : RawOk (fun _ => True) w vu q) (ht : Tabs w) :
    Calls Tryd.prog 7 #[v, .agg #[.int .i64 r.k, .int .i64 r.a, .int .i64 r.b, .int .i64 r.c, vt], .agg #[.int .i64 q.k, .int .i64 q.a, .int .i64 q.b, .int .i64 q.c, vu]] w fun e w' => e = .returned (.bool true) ∧ Below w.heap.size w w' := by
  obtain ⟨adv, capv, rfl, -, -⟩ := hv.form
  have hb1 := (Below.refl w.heap.size w).alloc (Nat.le_refl _) (.cells #[.int .i64 r.k, .int .i64 r.a, .int .i64 r.b, .int .i64 r.c, vt] 24)
  have hb2 := hb1.alloc (by simp) (.cells #[.int .i64 q.k, .int .i64 q.a, .int .i64 q.b, .int .i64 q.c, vu] 24)
  have HX := Lib.hid ((BoxAt.new w [.int .i64 r.k, .int .i64 r.a, .int .i64 r.b, .int .i64 r.c, vt] 24).alloc (.cells #[.int .i64 q.k, .int .i64 q.a, .int .i64 q.b, .int .i64 q.c, vu] 24))
  have HY := Lib.hid (BoxAt.newAt (w.alloc (.cells #[.int .i64 r.k, .int .i64 r.a, .int .i64 r.b, .int .i64 r.c, vt] 24)) [.int .i64 q.k, .int .i64 q.a, .int .i64 q.b, .int .i64 q.c, vu] 24 (n := w.heap.size + 1) (by simp))
  have HV := Lib.hid (hv.below hb2 (fun _ h => h))
  have HR := Lib.hid (hr.keep (Keep.below hb2) (fun _ h => h))
  have HQ := Lib.hid (hq.keep (Keep.below hb2) (fun _ h => h))
  have HT := Lib.hid (ht.belowS hb2)
  have HB := Lib.hid hb2
  have HOX := Lib.hid (castCode_table l r)
  have HCO := Lib.hid (castC_or l r)
  have HN8 := Lib.hid (voted_nil (hdrR r).a (hdrR r).r)
  have HAP := Lib.hid (fun (h0 : castCode (tableL l) (hdrR r) = 0) (hne : ¬ ((hdrR r).a = (hdrR q).a ∧ (hdrR r).r = (hdrR q).r)) => voted_apart h0 hne)
  clear hb1 hb2 hv hr hq ht
  go_enter Tryd.func7, Tryd.ntmps7
  go_wp2_with fail
  refine (table_any _ _ HV.out HT.out).mono ?_
  rintro e w1 ⟨v1, rfl, h1, hb1⟩
  obtain ⟨ad1, cap1, rfl, -, -⟩ := h1.form
  generalize tableL l = t at *
  have HL1 := Lib.hid (h1.low (by decide))
  have HB1 := Lib.hid (HB.out.trans (hb1.mono HB.out.size))
  have HX1 := Lib.hid (HX.out.belowS hb1)
  have HY1 := Lib.hid (HY.out.belowS hb1)
  have HR1 := Lib.hid (HR.out.keep (Keep.below hb1) (fun _ h => h))
  have HQ1 := Lib.hid (HQ.out.keep (Keep.below hb1) (fun _ h => h))
  have HT1 := Lib.hid (HT.out.belowS hb1)
  have bx := HX1.out
  have x0 := bx.cell 0 rfl
  have x1 := bx.cell 1 rfl
  have x2 := bx.cell 2 rfl
  have x3 := bx.cell 3 rfl
  have x4 := bx.cell 4 rfl
  clear h1 hb1 bx HV HX HY HR HQ HT HB
  go_wp2_with fail
  refine (headerR_any r vt w1 HR1.out).mono ?_
  rintro e w2 ⟨adb, capb, adp, capp, rfl, hbb, hpp, hb2⟩
  generalize hdrR r = x at *
  have hba := (Below.refl w2.heap.size w2).alloc (Nat.le_refl _) (.cells #[.int .i64 x.a, .int .i64 x.r, .slice adb x.bs.length capb, .slice adp x.ps.length capp] 27)
  have hb2a := hb2.trans (hba.mono hb2.size)
  have HZ2 := Lib.hid (BoxAt.new w2 [.int .i64 x.a, .int .i64 x.r, .slice adb x.bs.length capb, .slice adp x.ps.length capp] 27)
  have HBB2 := Lib.hid (hbb.below hba (fun _ h => h))
  have HPP2 := Lib.hid (hpp.below hba (fun _ h => h))
  have HL2 := Lib.hid (HL1.out.below hb2a (fun _ h => h))
  have HY2 := Lib.hid (HY1.out.belowS hb2a)
  have HQ2 := Lib.hid (HQ1.out.keep (Keep.below hb2a) (fun _ h => h))
  have HT2 := Lib.hid (HT1.out.belowS hb2a)
  have HB2 := Lib.hid (HB1.out.trans (hb2a.mono HB1.out.size))
  clear hbb hpp hb2 hba hb2a x0 x1 x2 x3 x4 HL1 HY1 HQ1 HT1 HR1 HX1
  go_upto_region 3 with (fail)
  generalize w2.alloc (.cells #[.int .i64 x.a, .int .i64 x.r, .slice adb x.bs.length capb, .slice adp x.ps.length capp] 27) = w3 at *
  have bx := HY2.out
  have x0 := bx.cell 0 rfl
  have x1 := bx.cell 1 rfl
  have x2 := bx.cell 2 rfl
  have x3 := bx.cell 3 rfl
  have x4 := bx.cell 4 rfl
  clear bx
  go_wp2_with fail
  refine (headerR_any q vu w3 HQ2.out).mono ?_
  rintro e w4 ⟨aeb, caeb, aep, caep, rfl, hbb, hpp, hb4⟩
  generalize hdrR q = y at *
  have hba := (Below.refl w4.heap.size w4).alloc (Nat.le_refl _) (.cells #[.int .i64 y.a, .int .i64 y.r, .slice aeb y.bs.length caeb, .slice aep y.ps.length caep] 27)
  have hb4a := hb4.trans (hba.mono hb4.size)
  have HW4 := Lib.hid (BoxAt.new w4 [.int .i64 y.a, .int .i64 y.r, .slice aeb y.bs.length caeb, .slice aep y.ps.length caep] 27)
  have HZ4 := Lib.hid (HZ2.out.belowS hb4a)
  have HBB4 := Lib.hid (HBB2.out.below hb4a (fun _ h => h))
  have HPP4 := Lib.hid (HPP2.out.below hb4a (fun _ h => h))
  have HL4 := Lib.hid (HL2.out.below hb4a (fun _ h => h))
  have HT4 := Lib.hid (HT2.out.belowS hb4a)
  have HB4 := Lib.hid (HB2.out.trans (hb4a.mono HB2.out.size))
  clear hbb hpp hb4 hba hb4a x0 x1 x2 x3 x4 HL2 HY2 HQ2 HT2 HZ2 HBB2 HPP2
  go_upto_region 4 with (fail)
  generalize w4.alloc (.cells #[.int .i64 y.a, .int .i64 y.r, .slice aeb y.bs.length caeb, .slice aep y.ps.length caep] 27) = w5 at *
  have bz := HZ4.out
  have z0 := bz.cell 0 rfl
  have z1 := bz.cell 1 rfl
  have z2 := bz.cell 2 rfl
  have z3 := bz.cell 3 rfl
  have bw := HW4.out
  have y0 := bw.cell 0 rfl
  have y1 := bw.cell 1 rfl
  clear bz bw
  by_cases hsame : x.a = y.a ∧ x.r = y.r
  · have e1 : (x.a == y.a) = true := by simp [hsame.1]
    have e2 : (x.r == y.r) = true := by simp [hsame.2]
    clear hsame
    go_wp2_with fail
    refine (voted_any (G := fun _ => True) (l := []) x.a x.r _ w5 (RdS.nil _ _ _)).mono ?_
    rw [HN8.out]
    rintro e w6 ⟨v6, rfl, h6, hb6⟩
    have HB6 := Lib.hid (HB4.out.trans (hb6.mono HB4.out.size))
    clear h6 hb6
    go_wp2
    go_ret
    exact ⟨rfl, HB6.out⟩
  · have HNE := Lib.hid hsame
    have hg : (x.a == y.a) = false ∨ ((x.a == y.a) = true ∧ (x.r == y.r) = false) := by
      by_cases h : x.a = y.a
      · exact .inr ⟨by simp [h], by rw [beq_eq_false_iff_ne]; exact fun h' => hsame ⟨h, h'⟩⟩
      · exact .inl (by simp [h])
    clear hsame
    have HPOS := Lib.hid (fun (h0 : castCode t x = 0) => castTab_pos h0)
    rcases hg with e1 | ⟨e1, e2⟩
    all_goals
      go_wp2_with fail
      refine (voted_any y.a y.r _ w5 HL4.out).mono ?_
      rintro e w6 ⟨v6, rfl, h6, hb6⟩
      obtain ⟨ad6, cap6, rfl, -, -⟩ := h6.form
      have HD6 := Lib.hid (h6.mono (G' := fun _ => True) (fun _ _ => trivial))
      have HZ6 := Lib.hid (HZ4.out.belowS hb6)
      have HW6 := Lib.hid (HW4.out.belowS hb6)
      have HBB6 := Lib.hid (HBB4.out.below hb6 (fun _ h => h))
      have HPP6 := Lib.hid (HPP4.out.below hb6 (fun _ h => h))
      have HL6 := Lib.hid (HL4.out.below hb6 (fun _ h => h))
      have HT6 := Lib.hid (HT4.out.belowS hb6)
      have HB6 := Lib.hid (HB4.out.trans (hb6.mono HB4.out.size))
      generalize hvc : votedC t y.a y.r = vc at *
      generalize hvd : votedD t y.a y.r = vdd at *
      have HVC := Lib.hid hvc
      have HVD := Lib.hid hvd
      clear h6 hb6 z0 z1 z2 z3 y0 y1 hvc hvd
      have bz := HZ6.out
      have z0 := bz.cell 0 rfl
      have z1 := bz.cell 1 rfl
      have z2 := bz.cell 2 rfl
      have z3 := bz.cell 3 rfl
      clear bz
      go_wp2_with fail
      refine (cast_any x _ _ _ w6 HL6.out HBB6.out HPP6.out HT6.out).mono ?_
      rintro e w7 ⟨v7, vd7, rfl, h7, hd7, hb7⟩
      obtain ⟨ad7, cap7, rfl, -, -⟩ := h7.form
      obtain ⟨ads, caps, rfl, -, -⟩ := hd7.form
      generalize castSlt t x = sl at *
      have hba := (Below.refl w7.heap.size w7).alloc (Nat.le_refl _) (.cells #[.int .i64 sl.a, .int .i64 sl.r, .slice ads sl.d.length caps] 47)
      have hb7a := hb7.trans (hba.mono hb7.size)
      have HU7 := Lib.hid (h7.below hba (fun _ h => h))
      have HW7 := Lib.hid (HW6.out.belowS hb7a)
      have HD7 := Lib.hid (HD6.out.below hb7a (fun _ h => h))
      have HB7 := Lib.hid (HB6.out.trans (hb7a.mono HB6.out.size))
      clear h7 hd7 hb7 hba hb7a z0 z1 z2 z3
      by_cases hc : castCode t x = 0
      · have HPO := HPOS.out hc
        obtain ⟨ha1, ha2⟩ := HAP.out hc HNE.out
        have HA1 := Lib.hid (show votedC (castTab t x) y.a y.r = vc by rw [ha1])
        have HA2 := Lib.hid (show votedD (castTab t x) y.a y.r = vdd by rw [ha2])
        rw [hc]
        clear hc ha1 ha2
        generalize castTab t x = u at *
        go_upto_region 11 with (fail)
        generalize w7.alloc (.cells #[.int .i64 sl.a, .int .i64 sl.r, .slice ads sl.d.length caps] 47) = w8 at *
        have bw := HW7.out
        have y0 := bw.cell 0 rfl
        have y1 := bw.cell 1 rfl
        clear bw
        go_wp2_with fail
        refine (voted_any y.a y.r _ w8 HU7.out).mono ?_
        rw [HA1.out, HA2.out]
        rintro e w9 ⟨v9, rfl, h9, hb9⟩
        obtain ⟨ad9, cap9, rfl, -, -⟩ := h9.form
        have HX9 := Lib.hid h9
        have HD9 := Lib.hid (HD7.out.below hb9 (fun _ h => h))
        have HB9 := Lib.hid (HB7.out.trans (hb9.mono HB7.out.size))
        have hp : (0 : Int) < (u.length : Int) := by omega
        clear h9 hb9 y0 y1
        go_wp2_with fail
        refine (same_any (l := vdd) (m := vdd) _ _ w9 HD9.out HX9.out).mono ?_
        rintro e w' ⟨rfl, rfl⟩
        rw [decide_eq_true (rfl : vdd = vdd)]
        go_wp2
        go_ret
        exact ⟨rfl, HB9.out⟩
      · have h7 : castCode t x = 7 := by
          rcases HCO.out with h | h
          · rw [← HOX.out] at h; exact absurd h hc
          · rw [HOX.out]; exact h
        rw [h7]
        clear hc h7
        go_wp2
        go_ret
        exact ⟨rfl, HB7.out⟩
end Go.Proofs.YtialhdmdeggenaaDoor
