/- castOnce: the walk. -/
import Derived.Test.YtialhdmdeggenaaDoorCastOL
import Derived.Test.YtialhdmdeggenaaDoorSameSlot
set_option linter.unusedVariables false
set_option linter.unusedSimpArgs false
attribute [local go_sem ↓] Go.wp_at_zero Go.wp_at_succ
namespace Go.Proofs.YtialhdmdeggenaaDoor
open Go Go.RowKit

set_option maxRecDepth 100000 in
set_option maxHeartbeats 8000000 in
theorem castOnce_any (v : Value) (l : List RawD) (vt : Value) (r : RawD) (n : Int) (w : World) (hv : RdS RRaw (fun _ => True) w v l) (hr : RawOk (fun _ => True) w vt r) (n1 : -9223372036854775808 ≤ n) (n2 : n ≤ 9223372036854775807) (ht : Tabs w) :
    Calls Tryd.prog 27 #[v, .agg #[.int .i64 r.k, .int .i64 r.a, .int .i64 r.b, .int .i64 r.c, vt], .int .i64 n] w fun e w' => ∃ b, e = .returned (.bool b) ∧ (b = false → hdrSum (hdrOther r n) = hdrSum (hdrR r)) ∧ Below w.heap.size w w' := by
  have HB := Lib.hid (Below.refl w.heap.size w)
  have HV := Lib.hid (hv)
  have HR := Lib.hid (hr)
  have HT := Lib.hid (ht)
  obtain ⟨adv, capv, rfl, -, -⟩ := hv.form
  have hbl := tableL_ok l
  have htl := tableL_len l
  have HCC := Lib.hid (cast_cases hbl (by omega) (hdrR_ok r))
  have HBAL := Lib.hid hbl
  have hoc : hdrCode (⟨(hdrR r).a, (hdrR r).r, [someL n 200], (hdrR r).ps⟩ : Hdr) = 0 := hdrOther_ok r n
  have HOC := Lib.hid hoc
  have HXC := Lib.hid (hdrR_ok r)
  rw [show hdrOther r n = (⟨(hdrR r).a, (hdrR r).r, [someL n 200], (hdrR r).ps⟩ : Hdr) from rfl]
  clear hv hr ht hbl hoc
  go_enter Tryd.func27, Tryd.ntmps27
  go_wp2_with fail
  refine (table_any _ _ (HV.out.below (by repeat (first | with_reducible exact Below.refl _ _ | with_reducible refine Below.drew ?_ | with_reducible refine Below.setCell ?_ (by first | omega | (simp <;> omega)) _ | with_reducible refine Below.alloc ?_ (by first | omega | (simp <;> omega)) _)) (fun _ h => h)) (HT.out.belowS (by repeat (first | with_reducible exact Below.refl _ _ | with_reducible refine Below.drew ?_ | with_reducible refine Below.setCell ?_ (by first | omega | (simp <;> omega)) _ | with_reducible refine Below.alloc ?_ (by first | omega | (simp <;> omega)) _)))).mono ?_
  rintro e w1 ⟨v1, rfl, h1, hb1⟩
  have hB1 : Below w.heap.size w w1 := Below.trans (by repeat (first | with_reducible exact Below.refl _ _ | with_reducible refine Below.drew ?_ | with_reducible refine Below.setCell ?_ (by first | omega | (simp <;> omega)) _ | with_reducible refine Below.alloc ?_ (by first | omega | (simp <;> omega)) _)) (hb1.mono (by first | exact Nat.le_refl _ | (simp; done) | (simp; omega)))
  have z1 := hB1.size
  have BR := Lib.hid (BoxAt.belowS (show BoxAt _ (w.heap.size) [.int .i64 r.k, .int .i64 r.a, .int .i64 r.b, .int .i64 r.c, vt] 24 from (by repeat (first | with_reducible exact BoxAt.newAt _ _ _ (by first | rfl | simp) | with_reducible refine BoxAt.drew ?_ | with_reducible refine BoxAt.alloc ?_ _ | with_reducible refine BoxAt.setOther ?_ (by first | omega | (simp <;> omega)) _))) hb1)
  replace HB := Lib.hid (HB.out.trans (hB1.mono HB.out.size))
  replace HV := Lib.hid (HV.out.below hB1 (fun _ h => h))
  replace HR := Lib.hid (HR.out.keep (Keep.below hB1) (fun _ h => h))
  replace HT := Lib.hid (HT.out.belowS hB1)
  obtain ⟨ad_h1, cap_h1, rfl, -, -⟩ := h1.form
  have HL := Lib.hid (h1.mono (G' := fun _ => True) (fun _ _ => trivial))
  clear hb1 hB1 h1
  clear HV
  generalize tableL l = t at *
  have x0 := BR.out.cell 0 rfl
  have x1 := BR.out.cell 1 rfl
  have x2 := BR.out.cell 2 rfl
  have x3 := BR.out.cell 3 rfl
  have x4 := BR.out.cell 4 rfl
  have zBR := BR.out.lt
  go_wp2_with fail
  refine (headerR_any r vt _ (HR.out.keep (Keep.below (by repeat (first | with_reducible exact Below.refl _ _ | with_reducible refine Below.drew ?_ | with_reducible refine Below.setCell ?_ (by first | omega | (simp <;> omega)) _ | with_reducible refine Below.alloc ?_ (by first | omega | (simp <;> omega)) _))) (fun _ h => h))).mono ?_
  rintro e w2 ⟨adb, capb, adp, capp, rfl, hbb, hpp, hb2⟩
  have hB2 : Below w1.heap.size w1 w2 := Below.trans (by repeat (first | with_reducible exact Below.refl _ _ | with_reducible refine Below.drew ?_ | with_reducible refine Below.setCell ?_ (by first | omega | (simp <;> omega)) _ | with_reducible refine Below.alloc ?_ (by first | omega | (simp <;> omega)) _)) (hb2.mono (by first | exact Nat.le_refl _ | (simp; done) | (simp; omega)))
  have z2 := hB2.size
  replace HB := Lib.hid (HB.out.trans (hB2.mono HB.out.size))
  replace HR := Lib.hid (HR.out.keep (Keep.below hB2) (fun _ h => h))
  replace HT := Lib.hid (HT.out.belowS hB2)
  replace BR := Lib.hid (BR.out.belowS hB2)
  replace HL := Lib.hid (HL.out.below hB2 (fun _ h => h))
  have HBB := Lib.hid (hbb.mono (G' := fun _ => True) (fun _ _ => trivial))
  have HPP := Lib.hid (hpp.mono (G' := fun _ => True) (fun _ _ => trivial))
  clear x0 x1 x2 x3 x4 zBR
  clear hb2 hB2 hbb hpp
  clear HR BR
  generalize hxx : hdrR r = x at *
  have HXE := Lib.hid hxx
  clear hxx
  go_wp2_with fail
  refine (headerDigest_ok x _ _ _ (HBB.out.below (by repeat (first | with_reducible exact Below.refl _ _ | with_reducible refine Below.drew ?_ | with_reducible refine Below.setCell ?_ (by first | omega | (simp <;> omega)) _ | with_reducible refine Below.alloc ?_ (by first | omega | (simp <;> omega)) _)) (fun _ h => h)) (HPP.out.below (by repeat (first | with_reducible exact Below.refl _ _ | with_reducible refine Below.drew ?_ | with_reducible refine Below.setCell ?_ (by first | omega | (simp <;> omega)) _ | with_reducible refine Below.alloc ?_ (by first | omega | (simp <;> omega)) _)) (fun _ h => h)) HXC.out (HT.out.belowS (by repeat (first | with_reducible exact Below.refl _ _ | with_reducible refine Below.drew ?_ | with_reducible refine Below.setCell ?_ (by first | omega | (simp <;> omega)) _ | with_reducible refine Below.alloc ?_ (by first | omega | (simp <;> omega)) _)))).mono ?_
  rintro e w3 ⟨vd, rfl, hd, hb3⟩
  have hB3 : Below w2.heap.size w2 w3 := Below.trans (by repeat (first | with_reducible exact Below.refl _ _ | with_reducible refine Below.drew ?_ | with_reducible refine Below.setCell ?_ (by first | omega | (simp <;> omega)) _ | with_reducible refine Below.alloc ?_ (by first | omega | (simp <;> omega)) _)) (hb3.mono (by first | exact Nat.le_refl _ | (simp; done) | (simp; omega)))
  have z3 := hB3.size
  have BH := Lib.hid (BoxAt.belowS (show BoxAt _ (w2.heap.size) [.int .i64 x.a, .int .i64 x.r, .slice adb x.bs.length capb, .slice adp x.ps.length capp] 27 from (by repeat (first | with_reducible exact BoxAt.newAt _ _ _ (by first | rfl | simp) | with_reducible refine BoxAt.drew ?_ | with_reducible refine BoxAt.alloc ?_ _ | with_reducible refine BoxAt.setOther ?_ (by first | omega | (simp <;> omega)) _))) hb3)
  replace HB := Lib.hid (HB.out.trans (hB3.mono HB.out.size))
  replace HT := Lib.hid (HT.out.belowS hB3)
  replace HL := Lib.hid (HL.out.below hB3 (fun _ h => h))
  replace HBB := Lib.hid (HBB.out.below hB3 (fun _ h => h))
  replace HPP := Lib.hid (HPP.out.below hB3 (fun _ h => h))
  obtain ⟨ad_hd, cap_hd, rfl, -, -⟩ := hd.form
  have HD := Lib.hid (hd.mono (G' := fun _ => True) (fun _ _ => trivial))
  clear hb3 hB3 hd
  have h0 := BH.out.cell 0 rfl
  have h1 := BH.out.cell 1 rfl
  have zBH := BH.out.lt
  go_wp2_with fail
  refine (voted_any x.a x.r _ _ (HL.out.below (by repeat (first | with_reducible exact Below.refl _ _ | with_reducible refine Below.drew ?_ | with_reducible refine Below.setCell ?_ (by first | omega | (simp <;> omega)) _ | with_reducible refine Below.alloc ?_ (by first | omega | (simp <;> omega)) _)) (fun _ h => h))).mono ?_
  rintro e w4 ⟨v4, rfl, h4, hb4⟩
  have hB4 : Below w3.heap.size w3 w4 := Below.trans (by repeat (first | with_reducible exact Below.refl _ _ | with_reducible refine Below.drew ?_ | with_reducible refine Below.setCell ?_ (by first | omega | (simp <;> omega)) _ | with_reducible refine Below.alloc ?_ (by first | omega | (simp <;> omega)) _)) (hb4.mono (by first | exact Nat.le_refl _ | (simp; done) | (simp; omega)))
  have z4 := hB4.size
  replace HB := Lib.hid (HB.out.trans (hB4.mono HB.out.size))
  replace HT := Lib.hid (HT.out.belowS hB4)
  replace HL := Lib.hid (HL.out.below hB4 (fun _ h => h))
  replace HBB := Lib.hid (HBB.out.below hB4 (fun _ h => h))
  replace HPP := Lib.hid (HPP.out.below hB4 (fun _ h => h))
  replace BH := Lib.hid (BH.out.belowS hB4)
  replace HD := Lib.hid (HD.out.below hB4 (fun _ h => h))
  obtain ⟨ad_h4, cap_h4, rfl, -, -⟩ := h4.form
  have HW := Lib.hid (h4.mono (G' := fun _ => True) (fun _ _ => trivial))
  clear h0 h1 zBH
  clear hb4 hB4 h4
  have h0 := BH.out.cell 0 rfl
  have h1 := BH.out.cell 1 rfl
  have h2 := BH.out.cell 2 rfl
  have h3 := BH.out.cell 3 rfl
  have zBH := BH.out.lt
  go_wp2_with fail
  refine (cast_any x _ _ _ _ (HL.out.below (by repeat (first | with_reducible exact Below.refl _ _ | with_reducible refine Below.drew ?_ | with_reducible refine Below.setCell ?_ (by first | omega | (simp <;> omega)) _ | with_reducible refine Below.alloc ?_ (by first | omega | (simp <;> omega)) _)) (fun _ h => h)) (HBB.out.below (by repeat (first | with_reducible exact Below.refl _ _ | with_reducible refine Below.drew ?_ | with_reducible refine Below.setCell ?_ (by first | omega | (simp <;> omega)) _ | with_reducible refine Below.alloc ?_ (by first | omega | (simp <;> omega)) _)) (fun _ h => h)) (HPP.out.below (by repeat (first | with_reducible exact Below.refl _ _ | with_reducible refine Below.drew ?_ | with_reducible refine Below.setCell ?_ (by first | omega | (simp <;> omega)) _ | with_reducible refine Below.alloc ?_ (by first | omega | (simp <;> omega)) _)) (fun _ h => h)) (HT.out.belowS (by repeat (first | with_reducible exact Below.refl _ _ | with_reducible refine Below.drew ?_ | with_reducible refine Below.setCell ?_ (by first | omega | (simp <;> omega)) _ | with_reducible refine Below.alloc ?_ (by first | omega | (simp <;> omega)) _)))).mono ?_
  rintro e w5 ⟨vu, vs, rfl, hu, hs, hb5⟩
  have hB5 : Below w4.heap.size w4 w5 := Below.trans (by repeat (first | with_reducible exact Below.refl _ _ | with_reducible refine Below.drew ?_ | with_reducible refine Below.setCell ?_ (by first | omega | (simp <;> omega)) _ | with_reducible refine Below.alloc ?_ (by first | omega | (simp <;> omega)) _)) (hb5.mono (by first | exact Nat.le_refl _ | (simp; done) | (simp; omega)))
  have z5 := hB5.size
  replace HB := Lib.hid (HB.out.trans (hB5.mono HB.out.size))
  replace HT := Lib.hid (HT.out.belowS hB5)
  replace HL := Lib.hid (HL.out.below hB5 (fun _ h => h))
  replace HBB := Lib.hid (HBB.out.below hB5 (fun _ h => h))
  replace HPP := Lib.hid (HPP.out.below hB5 (fun _ h => h))
  replace BH := Lib.hid (BH.out.belowS hB5)
  replace HD := Lib.hid (HD.out.below hB5 (fun _ h => h))
  replace HW := Lib.hid (HW.out.below hB5 (fun _ h => h))
  clear h0 h1 h2 h3 zBH
  clear hb5 hB5
  rcases HCC.out with ⟨a1, a2, a3, a4⟩ | ⟨b1, b2, b3, ⟨m, b4⟩, b5, b6, b7, b8, b9⟩
  · rw [a4] at hu
    obtain ⟨ad_u, cap_u, rfl, -, -⟩ := hu.form
    obtain ⟨ad_s, cap_s, rfl, -, -⟩ := hs.form
    rw [a1, a3]
    have HA2 := Lib.hid a2
    clear hu hs a1 a2 a3 a4
    go_wp2_with fail
    refine (bcheck_any _ _ (HL.out.below (by repeat (first | with_reducible exact Below.refl _ _ | with_reducible refine Below.drew ?_ | with_reducible refine Below.setCell ?_ (by first | omega | (simp <;> omega)) _ | with_reducible refine Below.alloc ?_ (by first | omega | (simp <;> omega)) _)) (fun _ h => h))).mono ?_
    rw [HBAL.out]
    rintro e w6 ⟨rfl, hb6⟩
    have hB6 : Below w5.heap.size w5 w6 := Below.trans (by repeat (first | with_reducible exact Below.refl _ _ | with_reducible refine Below.drew ?_ | with_reducible refine Below.setCell ?_ (by first | omega | (simp <;> omega)) _ | with_reducible refine Below.alloc ?_ (by first | omega | (simp <;> omega)) _)) (hb6.mono (by first | exact Nat.le_refl _ | (simp; done) | (simp; omega)))
    have z6 := hB6.size
    replace HB := Lib.hid (HB.out.trans (hB6.mono HB.out.size))
    replace HT := Lib.hid (HT.out.belowS hB6)
    replace HL := Lib.hid (HL.out.below hB6 (fun _ h => h))
    replace HBB := Lib.hid (HBB.out.below hB6 (fun _ h => h))
    replace HPP := Lib.hid (HPP.out.below hB6 (fun _ h => h))
    replace BH := Lib.hid (BH.out.belowS hB6)
    replace HD := Lib.hid (HD.out.below hB6 (fun _ h => h))
    replace HW := Lib.hid (HW.out.below hB6 (fun _ h => h))
    clear hb6 hB6
    go_wp2_with fail
    refine (same_any _ _ w6 HW.out HD.out).mono ?_
    rintro e w' ⟨rfl, rfl⟩
    rw [decide_eq_false HA2.out]
    go_wp2
    go_ret
    exact ⟨true, rfl, by simp, HB.out⟩
  · rw [b1, b2]
    rw [b2] at hs
    have hs2 := (show RdB _ _ _ (hdrSum x) from hs)
    obtain ⟨ad_s, cap_s, rfl, -, -⟩ := hs2.form
    have HC5 := Lib.hid b5
    have HC5s := Lib.hid (show castSlt (castTab t x) x = voteOf x by unfold castSlt; rw [if_pos b5])
    have HC6 := Lib.hid b6
    have HC7 := Lib.hid b7
    have HC8 := Lib.hid b8
    have HC9 := Lib.hid (b9 (⟨x.a, x.r, [someL n 200], x.ps⟩ : Hdr) HOC.out rfl rfl)
    have HM := Lib.hid b4
    have HBL2 := Lib.hid (castTab_ok b1)
    generalize castTab t x = u at *
    obtain ⟨ad_u, cap_u, rfl, -, -⟩ := hu.form
    have HU := Lib.hid (hu.mono (G' := fun _ => True) (fun _ _ => trivial))
    have HS := Lib.hid (hs2.mono (G' := fun _ => True) (fun _ _ => trivial))
    clear hu hs hs2 b1 b2 b4 b5 b6 b7 b8 b9
    simp only [voteOf]
    go_wp2_with fail
    refine (bcheck_any _ _ (HL.out.below (by repeat (first | with_reducible exact Below.refl _ _ | with_reducible refine Below.drew ?_ | with_reducible refine Below.setCell ?_ (by first | omega | (simp <;> omega)) _ | with_reducible refine Below.alloc ?_ (by first | omega | (simp <;> omega)) _)) (fun _ h => h))).mono ?_
    rw [HBAL.out]
    rintro e w6 ⟨rfl, hb6⟩
    have hB6 : Below w5.heap.size w5 w6 := Below.trans (by repeat (first | with_reducible exact Below.refl _ _ | with_reducible refine Below.drew ?_ | with_reducible refine Below.setCell ?_ (by first | omega | (simp <;> omega)) _ | with_reducible refine Below.alloc ?_ (by first | omega | (simp <;> omega)) _)) (hb6.mono (by first | exact Nat.le_refl _ | (simp; done) | (simp; omega)))
    have z6 := hB6.size
    have BS := Lib.hid (BoxAt.belowS (show BoxAt _ (w5.heap.size) [.int .i64 x.a, .int .i64 x.r, .slice ad_s (hdrSum x).length cap_s] 47 from (by repeat (first | with_reducible exact BoxAt.newAt _ _ _ (by first | rfl | simp) | with_reducible refine BoxAt.drew ?_ | with_reducible refine BoxAt.alloc ?_ _ | with_reducible refine BoxAt.setOther ?_ (by first | omega | (simp <;> omega)) _))) hb6)
    replace HB := Lib.hid (HB.out.trans (hB6.mono HB.out.size))
    replace HT := Lib.hid (HT.out.belowS hB6)
    replace HL := Lib.hid (HL.out.below hB6 (fun _ h => h))
    replace HBB := Lib.hid (HBB.out.below hB6 (fun _ h => h))
    replace HPP := Lib.hid (HPP.out.below hB6 (fun _ h => h))
    replace BH := Lib.hid (BH.out.belowS hB6)
    replace HD := Lib.hid (HD.out.below hB6 (fun _ h => h))
    replace HW := Lib.hid (HW.out.below hB6 (fun _ h => h))
    replace HU := Lib.hid (HU.out.below hB6 (fun _ h => h))
    replace HS := Lib.hid (HS.out.below hB6 (fun _ h => h))
    clear hb6 hB6
    rcases b3 with ⟨c1, c2, c3⟩ | ⟨c1, c2⟩
    · rw [c1]
      replace HW := Lib.hid (show RdB _ _ _ (hdrSum x) from c2 ▸ HW.out)
      have HWL := Lib.hid (congrArg List.length c2)
      rw [HWL.out]
      have HLN := Lib.hid c3
      clear c1 c2 c3
      go_wp2_with fail
      refine (same_any (l := hdrSum x) (m := hdrSum x) _ _ w6 HW.out HD.out).mono ?_
      rintro e w' ⟨rfl, rfl⟩
      rw [decide_eq_true (rfl : hdrSum x = hdrSum x)]
      go_upto_region 10 with fail
      have h0 := BH.out.cell 0 rfl
      have h1 := BH.out.cell 1 rfl
      have h2 := BH.out.cell 2 rfl
      have h3 := BH.out.cell 3 rfl
      have zBH := BH.out.lt
      go_wp2_with fail
      refine (cast_any x _ _ _ _ (HU.out.below (by repeat (first | with_reducible exact Below.refl _ _ | with_reducible refine Below.drew ?_ | with_reducible refine Below.setCell ?_ (by first | omega | (simp <;> omega)) _ | with_reducible refine Below.alloc ?_ (by first | omega | (simp <;> omega)) _)) (fun _ h => h)) (HBB.out.below (by repeat (first | with_reducible exact Below.refl _ _ | with_reducible refine Below.drew ?_ | with_reducible refine Below.setCell ?_ (by first | omega | (simp <;> omega)) _ | with_reducible refine Below.alloc ?_ (by first | omega | (simp <;> omega)) _)) (fun _ h => h)) (HPP.out.below (by repeat (first | with_reducible exact Below.refl _ _ | with_reducible refine Below.drew ?_ | with_reducible refine Below.setCell ?_ (by first | omega | (simp <;> omega)) _ | with_reducible refine Below.alloc ?_ (by first | omega | (simp <;> omega)) _)) (fun _ h => h)) (HT.out.belowS (by repeat (first | with_reducible exact Below.refl _ _ | with_reducible refine Below.drew ?_ | with_reducible refine Below.setCell ?_ (by first | omega | (simp <;> omega)) _ | with_reducible refine Below.alloc ?_ (by first | omega | (simp <;> omega)) _)))).mono ?_
      rw [HC5.out]
      rw [HC6.out]
      rw [HC5s.out]
      rintro e w7 ⟨vv, vs2, rfl, hv2, hs2, hb7⟩
      have hB7 : Below w6.heap.size w6 w7 := Below.trans (by repeat (first | with_reducible exact Below.refl _ _ | with_reducible refine Below.drew ?_ | with_reducible refine Below.setCell ?_ (by first | omega | (simp <;> omega)) _ | with_reducible refine Below.alloc ?_ (by first | omega | (simp <;> omega)) _)) (hb7.mono (by first | exact Nat.le_refl _ | (simp; done) | (simp; omega)))
      have z7 := hB7.size
      replace HB := Lib.hid (HB.out.trans (hB7.mono HB.out.size))
      replace HT := Lib.hid (HT.out.belowS hB7)
      replace HL := Lib.hid (HL.out.below hB7 (fun _ h => h))
      replace HBB := Lib.hid (HBB.out.below hB7 (fun _ h => h))
      replace HPP := Lib.hid (HPP.out.below hB7 (fun _ h => h))
      replace BH := Lib.hid (BH.out.belowS hB7)
      replace HD := Lib.hid (HD.out.below hB7 (fun _ h => h))
      replace HW := Lib.hid (HW.out.below hB7 (fun _ h => h))
      replace HU := Lib.hid (HU.out.below hB7 (fun _ h => h))
      replace HS := Lib.hid (HS.out.below hB7 (fun _ h => h))
      replace BS := Lib.hid (BS.out.belowS hB7)
      clear h0 h1 h2 h3 zBH
      obtain ⟨ad_v, cap_v, rfl, -, -⟩ := hv2.form
      obtain ⟨ad_s2, cap_s2, rfl, -, -⟩ := hs2.form
      clear hb7 hB7 hv2 hs2
      have h0 := BH.out.cell 0 rfl
      have h1 := BH.out.cell 1 rfl
      have zBH := BH.out.lt
      go_wp2_with fail
      refine (voted_any x.a x.r _ _ (HU.out.below (by repeat (first | with_reducible exact Below.refl _ _ | with_reducible refine Below.drew ?_ | with_reducible refine Below.setCell ?_ (by first | omega | (simp <;> omega)) _ | with_reducible refine Below.alloc ?_ (by first | omega | (simp <;> omega)) _)) (fun _ h => h))).mono ?_
      rw [HC7.out]
      rw [HC8.out]
      rintro e w8 ⟨v9, rfl, h9, hb8⟩
      have hB8 : Below w7.heap.size w7 w8 := Below.trans (by repeat (first | with_reducible exact Below.refl _ _ | with_reducible refine Below.drew ?_ | with_reducible refine Below.setCell ?_ (by first | omega | (simp <;> omega)) _ | with_reducible refine Below.alloc ?_ (by first | omega | (simp <;> omega)) _)) (hb8.mono (by first | exact Nat.le_refl _ | (simp; done) | (simp; omega)))
      have z8 := hB8.size
      replace HB := Lib.hid (HB.out.trans (hB8.mono HB.out.size))
      replace HT := Lib.hid (HT.out.belowS hB8)
      replace HL := Lib.hid (HL.out.below hB8 (fun _ h => h))
      replace HBB := Lib.hid (HBB.out.below hB8 (fun _ h => h))
      replace HPP := Lib.hid (HPP.out.below hB8 (fun _ h => h))
      replace BH := Lib.hid (BH.out.belowS hB8)
      replace HD := Lib.hid (HD.out.below hB8 (fun _ h => h))
      replace HW := Lib.hid (HW.out.below hB8 (fun _ h => h))
      replace HU := Lib.hid (HU.out.below hB8 (fun _ h => h))
      replace HS := Lib.hid (HS.out.below hB8 (fun _ h => h))
      replace BS := Lib.hid (BS.out.belowS hB8)
      obtain ⟨ad_h9, cap_h9, rfl, -, -⟩ := h9.form
      have HN := Lib.hid (h9.mono (G' := fun _ => True) (fun _ _ => trivial))
      clear h0 h1 zBH
      clear hb8 hB8 h9
      have h0 := BH.out.cell 0 rfl
      have h1 := BH.out.cell 1 rfl
      have h2 := BH.out.cell 2 rfl
      have h3 := BH.out.cell 3 rfl
      have zBH := BH.out.lt
      go_upto_region 13 with fail
      go_wp2_with fail
      clear h0 h1 h2 h3 zBH
      refine (some_any n 200 _ n1 n2).mono ?_
      rintro e ws ⟨rfl, hso, hbs⟩
      have hbo := (BoxAt.new w8 [.int .i64 x.a, .int .i64 x.r, .slice adb x.bs.length capb, .slice adp x.ps.length capp] 27).belowS hbs
      have oo2 := hbo.cell 2 rfl
      have of2 := hbo.free 2
      have olt := hbo.lt
      go_upto_region 14 with fail
      have hba : Below w8.heap.size w8 (w8.alloc (.cells #[.int .i64 x.a, .int .i64 x.r, .slice adb x.bs.length capb, .slice adp x.ps.length capp] 27)) := (Below.refl _ _).alloc (Nat.le_refl _) _
      have hbz0 : Below w8.heap.size w8 ws := hba.trans (hbs.mono (by simp))
      obtain ⟨wz, hwz⟩ : ∃ wz, wz = ((ws.setCell ⟨w8.heap.size, 2, none⟩ (.slice (some ⟨ws.heap.size, 0, none⟩) 1 1)).alloc (.cells #[.slice (some ⟨w8.heap.size + 1, 0, none⟩) 32 32] 39)) := ⟨_, rfl⟩
      have hBz : Below w8.heap.size w8 wz := by rw [hwz]; exact (hbz0.setCell (by simp) _).alloc (by have := hbz0.size; simpa [World.setCell] using this) _
      have BO := Lib.hid (show BoxAt wz w8.heap.size [.int .i64 x.a, .int .i64 x.r, .slice (some ⟨ws.heap.size, 0, none⟩) 1 1, .slice adp x.ps.length capp] 27 by rw [hwz]; exact (hbo.set 2 _).alloc _)
      have HOB := Lib.hid (show RdBB (fun _ => True) wz (.slice (some ⟨ws.heap.size, 0, none⟩) 1 1) [someL n 200] by rw [hwz]; exact rdBB_one (BoxAt.newAt _ [_] _ (by simp [World.setCell])) trivial (RdS.of_box (f := fun c : UInt8 => Value.int .u8 c.toNat) (cap := 32) (l := someL n 200) (T := 5) ((((show BoxAt ws (w8.heap.size + 1) ((someL n 200).map fun c => Value.int .u8 c.toNat) 5 by simpa using hso).setOther (p := ⟨w8.heap.size, 2, none⟩) (by simp) _)).alloc _) trivial (by rw [someL_length]; omega) (by unfold maxLen; omega)))
      rw [← hwz]
      have zz := hBz.size
      replace HB := Lib.hid (HB.out.trans (hBz.mono HB.out.size))
      replace HT := Lib.hid (HT.out.belowS hBz)
      replace HL := Lib.hid (HL.out.below hBz (fun _ h => h))
      replace HBB := Lib.hid (HBB.out.below hBz (fun _ h => h))
      replace HPP := Lib.hid (HPP.out.below hBz (fun _ h => h))
      replace BH := Lib.hid (BH.out.belowS hBz)
      replace HD := Lib.hid (HD.out.below hBz (fun _ h => h))
      replace HW := Lib.hid (HW.out.below hBz (fun _ h => h))
      replace HU := Lib.hid (HU.out.below hBz (fun _ h => h))
      replace HS := Lib.hid (HS.out.below hBz (fun _ h => h))
      replace BS := Lib.hid (BS.out.belowS hBz)
      replace HN := Lib.hid (HN.out.below hBz (fun _ h => h))
      clear hwz hba hbz0 hbo hBz hso hbs oo2 of2 olt
      have o0 := BO.out.cell 0 rfl
      have o1 := BO.out.cell 1 rfl
      have o2 := BO.out.cell 2 rfl
      have o3 := BO.out.cell 3 rfl
      have zBO := BO.out.lt
      go_wp2_with fail
      refine (cast_any (⟨x.a, x.r, [someL n 200], x.ps⟩ : Hdr) _ _ _ _ (HU.out.below (by repeat (first | with_reducible exact Below.refl _ _ | with_reducible refine Below.drew ?_ | with_reducible refine Below.setCell ?_ (by first | omega | (simp <;> omega)) _ | with_reducible refine Below.alloc ?_ (by first | omega | (simp <;> omega)) _)) (fun _ h => h)) (HOB.out.below (by repeat (first | with_reducible exact Below.refl _ _ | with_reducible refine Below.drew ?_ | with_reducible refine Below.setCell ?_ (by first | omega | (simp <;> omega)) _ | with_reducible refine Below.alloc ?_ (by first | omega | (simp <;> omega)) _)) (fun _ h => h)) (HPP.out.below (by repeat (first | with_reducible exact Below.refl _ _ | with_reducible refine Below.drew ?_ | with_reducible refine Below.setCell ?_ (by first | omega | (simp <;> omega)) _ | with_reducible refine Below.alloc ?_ (by first | omega | (simp <;> omega)) _)) (fun _ h => h)) (HT.out.belowS (by repeat (first | with_reducible exact Below.refl _ _ | with_reducible refine Below.drew ?_ | with_reducible refine Below.setCell ?_ (by first | omega | (simp <;> omega)) _ | with_reducible refine Below.alloc ?_ (by first | omega | (simp <;> omega)) _)))).mono ?_
      rw [HC9.out]
      rintro e w9 ⟨vv3, vs3, rfl, hv3, hs3, hb9⟩
      have hB9 : Below wz.heap.size wz w9 := Below.trans (by repeat (first | with_reducible exact Below.refl _ _ | with_reducible refine Below.drew ?_ | with_reducible refine Below.setCell ?_ (by first | omega | (simp <;> omega)) _ | with_reducible refine Below.alloc ?_ (by first | omega | (simp <;> omega)) _)) (hb9.mono (by first | exact Nat.le_refl _ | (simp; done) | (simp; omega)))
      have z9 := hB9.size
      replace HB := Lib.hid (HB.out.trans (hB9.mono HB.out.size))
      replace HT := Lib.hid (HT.out.belowS hB9)
      replace HL := Lib.hid (HL.out.below hB9 (fun _ h => h))
      replace HBB := Lib.hid (HBB.out.below hB9 (fun _ h => h))
      replace HPP := Lib.hid (HPP.out.below hB9 (fun _ h => h))
      replace BH := Lib.hid (BH.out.belowS hB9)
      replace HD := Lib.hid (HD.out.below hB9 (fun _ h => h))
      replace HW := Lib.hid (HW.out.below hB9 (fun _ h => h))
      replace HU := Lib.hid (HU.out.below hB9 (fun _ h => h))
      replace HS := Lib.hid (HS.out.below hB9 (fun _ h => h))
      replace BS := Lib.hid (BS.out.belowS hB9)
      replace HN := Lib.hid (HN.out.below hB9 (fun _ h => h))
      replace BO := Lib.hid (BO.out.belowS hB9)
      replace HOB := Lib.hid (HOB.out.below hB9 (fun _ h => h))
      clear o0 o1 o2 o3 zBO
      obtain ⟨ad_v3, cap_v3, rfl, -, -⟩ := hv3.form
      obtain ⟨ad_s3, cap_s3, rfl, -, -⟩ := hs3.form
      clear hb9 hB9 hv3 hs3
      generalize castSlt u (⟨x.a, x.r, [someL n 200], x.ps⟩ : Hdr) = S3 at *
      generalize castTab u (⟨x.a, x.r, [someL n 200], x.ps⟩ : Hdr) = T3 at *
      by_cases hsum : hdrSum (⟨x.a, x.r, [someL n 200], x.ps⟩ : Hdr) = hdrSum x
      · rw [if_pos hsum]
        go_wp2
        go_ret
        exact ⟨false, rfl, fun _ => by rw [HXE.out]; exact hsum, HB.out.alloc HB.out.size _⟩
      · rw [if_neg hsum]
        have wlen : IntKind.i64.wrap ((t.length : Int) + 1) = (t.length : Int) + 1 := IntWalk.i64_in _ (by omega)
        have eq1 : ((u.length : Int) == (t.length : Int) + 1) = false := beq_eq_false_iff_ne.2 (by have := HLN.out; omega)
        have eq2 : ((u.length : Int) != (t.length : Int) + 1) = true := by simp only [bne, eq1, Bool.not_false]
        go_wp2_with fail
        refine (same_any (l := hdrSum x) (m := hdrSum x) _ _ _ (HN.out.below (by repeat (first | with_reducible exact Below.refl _ _ | with_reducible refine Below.drew ?_ | with_reducible refine Below.setCell ?_ (by first | omega | (simp <;> omega)) _ | with_reducible refine Below.alloc ?_ (by first | omega | (simp <;> omega)) _)) (fun _ h => h)) (HD.out.below (by repeat (first | with_reducible exact Below.refl _ _ | with_reducible refine Below.drew ?_ | with_reducible refine Below.setCell ?_ (by first | omega | (simp <;> omega)) _ | with_reducible refine Below.alloc ?_ (by first | omega | (simp <;> omega)) _)) (fun _ h => h))).mono ?_
        rintro e w' ⟨rfl, rfl⟩
        rw [decide_eq_true (rfl : hdrSum x = hdrSum x)]
        have s0 := BS.out.cell 0 rfl
        have s1 := BS.out.cell 1 rfl
        have s2 := BS.out.cell 2 rfl
        have zBS := BS.out.lt
        have h0 := BH.out.cell 0 rfl
        have h1 := BH.out.cell 1 rfl
        have zBH := BH.out.lt
        go_wp2_with fail
        refine (same_any (l := hdrSum x) (m := hdrSum x) _ _ _ (HS.out.below (by repeat (first | with_reducible exact Below.refl _ _ | with_reducible refine Below.drew ?_ | with_reducible refine Below.setCell ?_ (by first | omega | (simp <;> omega)) _ | with_reducible refine Below.alloc ?_ (by first | omega | (simp <;> omega)) _)) (fun _ h => h)) (HD.out.below (by repeat (first | with_reducible exact Below.refl _ _ | with_reducible refine Below.drew ?_ | with_reducible refine Below.setCell ?_ (by first | omega | (simp <;> omega)) _ | with_reducible refine Below.alloc ?_ (by first | omega | (simp <;> omega)) _)) (fun _ h => h))).mono ?_
        rintro e w' ⟨rfl, rfl⟩
        rw [decide_eq_true (rfl : hdrSum x = hdrSum x)]
        go_upto_region 18 with fail
        obtain ⟨wq, hwb⟩ : ∃ wq, wq = (w9.alloc (.cells #[.int .i64 S3.a, .int .i64 S3.r, .slice ad_s3 S3.d.length cap_s3] 47)) := ⟨_, rfl⟩
        have hBw : Below w9.heap.size w9 wq := by rw [hwb]; exact (by repeat (first | with_reducible exact Below.refl _ _ | with_reducible refine Below.drew ?_ | with_reducible refine Below.setCell ?_ (by first | omega | (simp <;> omega)) _ | with_reducible refine Below.alloc ?_ (by first | omega | (simp <;> omega)) _))
        have B3 := Lib.hid (show BoxAt wq (w9.heap.size) [.int .i64 S3.a, .int .i64 S3.r, .slice ad_s3 S3.d.length cap_s3] 47 by rw [hwb]; exact (by repeat (first | with_reducible exact BoxAt.newAt _ _ _ (by first | rfl | simp) | with_reducible refine BoxAt.drew ?_ | with_reducible refine BoxAt.alloc ?_ _ | with_reducible refine BoxAt.setOther ?_ (by first | omega | (simp <;> omega)) _)))
        rw [← hwb]
        have zwq := hBw.size
        clear hwb
        replace HB := Lib.hid (HB.out.trans (hBw.mono HB.out.size))
        replace HT := Lib.hid (HT.out.belowS hBw)
        replace HL := Lib.hid (HL.out.below hBw (fun _ h => h))
        replace HBB := Lib.hid (HBB.out.below hBw (fun _ h => h))
        replace HPP := Lib.hid (HPP.out.below hBw (fun _ h => h))
        replace BH := Lib.hid (BH.out.belowS hBw)
        replace HD := Lib.hid (HD.out.below hBw (fun _ h => h))
        replace HW := Lib.hid (HW.out.below hBw (fun _ h => h))
        replace HU := Lib.hid (HU.out.below hBw (fun _ h => h))
        replace HS := Lib.hid (HS.out.below hBw (fun _ h => h))
        replace BS := Lib.hid (BS.out.belowS hBw)
        replace HN := Lib.hid (HN.out.below hBw (fun _ h => h))
        replace BO := Lib.hid (BO.out.belowS hBw)
        replace HOB := Lib.hid (HOB.out.below hBw (fun _ h => h))
        clear hBw
        have zlB3 := B3.out.lt
        clear s0 s1 s2 zBS h0 h1 zBH
        go_loopw [25] (fun i wr => ∃ k : Nat, k ≤ t.length ∧ i = .int .i64 k ∧ Below wq.heap.size wq wr) (fun i _ => t.length - (intOf i).toNat)
        case atStart => exact ⟨0, Nat.zero_le _, rfl, Below.refl _ _⟩
        case round =>
          obtain ⟨k, hk, rfl, hB⟩ := hrel
          have HBr := Lib.hid (HB.out.trans (hB.mono HB.out.size))
          by_cases hlt : k < t.length
          · have hku : k < u.length := by rw [HM.out, List.length_append]; omega
            have hek : u[k] = t[k] := by have h := HM.out; subst h; exact List.getElem_append_left hlt
            obtain ⟨bx, ox, vx, hax, -, x0, x1, x2, hdx⟩ := (HL.out.below hB (fun _ h => h)).slot k hlt
            obtain ⟨b_y, oy, vy, hay, -, y0, y1, y2, hdy⟩ := (HU.out.below hB (fun _ h => h)).slot k hku
            subst hax hay
            rw [hek] at y0 y1 hdy
            obtain ⟨adx, cpx, rfl, -, -⟩ := hdx.form
            obtain ⟨ady, cpy, rfl, -, -⟩ := hdy.form
            have HX' := Lib.hid hdx
            have HY' := Lib.hid hdy
            have i0 : (0 : Int) ≤ (k : Int) := by omega
            have i1 : (k : Int) < (t.length : Int) := by omega
            have i2 : (k : Int) < (u.length : Int) := by omega
            have zx := World.block_lt_of_cell? _ _ x0
            have zy := World.block_lt_of_cell? _ _ y0
            simp only at zx zy
            generalize t[k] = S at *
            have HQr := Lib.hid hB
            clear hdx hdy hek hB
            go_wp2_with fail
            go_region_held3 (fun w' => w'.cell? ⟨bx, ox + k * 3, none⟩ = some (Value.int .i64 S.a) ∧ w'.cell? ⟨bx, ox + k * 3 + 1, none⟩ = some (Value.int .i64 S.r) ∧ w'.cell? ⟨bx, ox + k * 3 + 2, none⟩ = some (Value.slice adx S.d.length cpx) ∧ w'.cell? ⟨b_y, oy + k * 3, none⟩ = some (Value.int .i64 S.a) ∧ w'.cell? ⟨b_y, oy + k * 3 + 1, none⟩ = some (Value.int .i64 S.r) ∧ w'.cell? ⟨b_y, oy + k * 3 + 2, none⟩ = some (Value.slice ady S.d.length cpy))
              (go_keep)
              ((go_at_call 47; refine (sameSlot_any _ _ _ _ S.d S.d _ _ _ (by first | exact HX'.out | exact HX'.out.keep (Keep.drew _ _) (fun _ h => h)) (by first | exact HY'.out | exact HY'.out.keep (Keep.drew _ _) (fun _ h => h))).mono ?_; rintro e w8 ⟨rfl, hb8⟩; rw [decide_eq_true (show S.a = S.a ∧ S.r = S.r ∧ S.d = S.d from ⟨rfl, rfl, rfl⟩)]; have hb8' : Below wr.heap.size wr w8 := (by first | exact hb8 | exact (Below.refl _ _).drew.trans hb8); have hR8 := HBr.out.trans (hb8'.mono HBr.out.size); have hq8 := hb8'.size; have r0 := ((bcellAt hb8' _ zx).1 _).trans x0; have r1 := ((bcellAt hb8' _ zx).1 _).trans x1; have r2 := ((bcellAt hb8' _ zx).1 _).trans x2; have t0 := ((bcellAt hb8' _ zy).1 _).trans y0; have t1 := ((bcellAt hb8' _ zy).1 _).trans y1; have t2 := ((bcellAt hb8' _ zy).1 _).trans y2; have HQ8 := Lib.hid hb8'; clear hb8 hb8'))
            all_goals
              go_wp2
              go_roundw
              case rel => exact ⟨k + 1, by omega, by go_num, HQr.out.trans (HQ8.out.mono HQr.out.size)⟩
              case measure => simp [intOf]; omega
          · have t1 : ¬ (k : Int) < (t.length : Int) := by omega
            go_wp2
            go_ret
            first | exact .inr ⟨rfl, HBr.out⟩ | exact .inr ⟨rfl, by simp, HBr.out⟩ | exact ⟨rfl, HBr.out⟩ | exact ⟨true, rfl, by simp, HBr.out⟩
    · rw [c1]
      have HLN := Lib.hid c2
      clear c1 c2
      go_upto_region 10 with fail
      have h0 := BH.out.cell 0 rfl
      have h1 := BH.out.cell 1 rfl
      have h2 := BH.out.cell 2 rfl
      have h3 := BH.out.cell 3 rfl
      have zBH := BH.out.lt
      go_wp2_with fail
      refine (cast_any x _ _ _ _ (HU.out.below (by repeat (first | with_reducible exact Below.refl _ _ | with_reducible refine Below.drew ?_ | with_reducible refine Below.setCell ?_ (by first | omega | (simp <;> omega)) _ | with_reducible refine Below.alloc ?_ (by first | omega | (simp <;> omega)) _)) (fun _ h => h)) (HBB.out.below (by repeat (first | with_reducible exact Below.refl _ _ | with_reducible refine Below.drew ?_ | with_reducible refine Below.setCell ?_ (by first | omega | (simp <;> omega)) _ | with_reducible refine Below.alloc ?_ (by first | omega | (simp <;> omega)) _)) (fun _ h => h)) (HPP.out.below (by repeat (first | with_reducible exact Below.refl _ _ | with_reducible refine Below.drew ?_ | with_reducible refine Below.setCell ?_ (by first | omega | (simp <;> omega)) _ | with_reducible refine Below.alloc ?_ (by first | omega | (simp <;> omega)) _)) (fun _ h => h)) (HT.out.belowS (by repeat (first | with_reducible exact Below.refl _ _ | with_reducible refine Below.drew ?_ | with_reducible refine Below.setCell ?_ (by first | omega | (simp <;> omega)) _ | with_reducible refine Below.alloc ?_ (by first | omega | (simp <;> omega)) _)))).mono ?_
      rw [HC5.out]
      rw [HC6.out]
      rw [HC5s.out]
      rintro e w7 ⟨vv, vs2, rfl, hv2, hs2, hb7⟩
      have hB7 : Below w6.heap.size w6 w7 := Below.trans (by repeat (first | with_reducible exact Below.refl _ _ | with_reducible refine Below.drew ?_ | with_reducible refine Below.setCell ?_ (by first | omega | (simp <;> omega)) _ | with_reducible refine Below.alloc ?_ (by first | omega | (simp <;> omega)) _)) (hb7.mono (by first | exact Nat.le_refl _ | (simp; done) | (simp; omega)))
      have z7 := hB7.size
      replace HB := Lib.hid (HB.out.trans (hB7.mono HB.out.size))
      replace HT := Lib.hid (HT.out.belowS hB7)
      replace HL := Lib.hid (HL.out.below hB7 (fun _ h => h))
      replace HBB := Lib.hid (HBB.out.below hB7 (fun _ h => h))
      replace HPP := Lib.hid (HPP.out.below hB7 (fun _ h => h))
      replace BH := Lib.hid (BH.out.belowS hB7)
      replace HD := Lib.hid (HD.out.below hB7 (fun _ h => h))
      replace HW := Lib.hid (HW.out.below hB7 (fun _ h => h))
      replace HU := Lib.hid (HU.out.below hB7 (fun _ h => h))
      replace HS := Lib.hid (HS.out.below hB7 (fun _ h => h))
      replace BS := Lib.hid (BS.out.belowS hB7)
      clear h0 h1 h2 h3 zBH
      obtain ⟨ad_v, cap_v, rfl, -, -⟩ := hv2.form
      obtain ⟨ad_s2, cap_s2, rfl, -, -⟩ := hs2.form
      clear hb7 hB7 hv2 hs2
      have h0 := BH.out.cell 0 rfl
      have h1 := BH.out.cell 1 rfl
      have zBH := BH.out.lt
      go_wp2_with fail
      refine (voted_any x.a x.r _ _ (HU.out.below (by repeat (first | with_reducible exact Below.refl _ _ | with_reducible refine Below.drew ?_ | with_reducible refine Below.setCell ?_ (by first | omega | (simp <;> omega)) _ | with_reducible refine Below.alloc ?_ (by first | omega | (simp <;> omega)) _)) (fun _ h => h))).mono ?_
      rw [HC7.out]
      rw [HC8.out]
      rintro e w8 ⟨v9, rfl, h9, hb8⟩
      have hB8 : Below w7.heap.size w7 w8 := Below.trans (by repeat (first | with_reducible exact Below.refl _ _ | with_reducible refine Below.drew ?_ | with_reducible refine Below.setCell ?_ (by first | omega | (simp <;> omega)) _ | with_reducible refine Below.alloc ?_ (by first | omega | (simp <;> omega)) _)) (hb8.mono (by first | exact Nat.le_refl _ | (simp; done) | (simp; omega)))
      have z8 := hB8.size
      replace HB := Lib.hid (HB.out.trans (hB8.mono HB.out.size))
      replace HT := Lib.hid (HT.out.belowS hB8)
      replace HL := Lib.hid (HL.out.below hB8 (fun _ h => h))
      replace HBB := Lib.hid (HBB.out.below hB8 (fun _ h => h))
      replace HPP := Lib.hid (HPP.out.below hB8 (fun _ h => h))
      replace BH := Lib.hid (BH.out.belowS hB8)
      replace HD := Lib.hid (HD.out.below hB8 (fun _ h => h))
      replace HW := Lib.hid (HW.out.below hB8 (fun _ h => h))
      replace HU := Lib.hid (HU.out.below hB8 (fun _ h => h))
      replace HS := Lib.hid (HS.out.below hB8 (fun _ h => h))
      replace BS := Lib.hid (BS.out.belowS hB8)
      obtain ⟨ad_h9, cap_h9, rfl, -, -⟩ := h9.form
      have HN := Lib.hid (h9.mono (G' := fun _ => True) (fun _ _ => trivial))
      clear h0 h1 zBH
      clear hb8 hB8 h9
      have h0 := BH.out.cell 0 rfl
      have h1 := BH.out.cell 1 rfl
      have h2 := BH.out.cell 2 rfl
      have h3 := BH.out.cell 3 rfl
      have zBH := BH.out.lt
      go_upto_region 13 with fail
      go_wp2_with fail
      clear h0 h1 h2 h3 zBH
      refine (some_any n 200 _ n1 n2).mono ?_
      rintro e ws ⟨rfl, hso, hbs⟩
      have hbo := (BoxAt.new w8 [.int .i64 x.a, .int .i64 x.r, .slice adb x.bs.length capb, .slice adp x.ps.length capp] 27).belowS hbs
      have oo2 := hbo.cell 2 rfl
      have of2 := hbo.free 2
      have olt := hbo.lt
      go_upto_region 14 with fail
      have hba : Below w8.heap.size w8 (w8.alloc (.cells #[.int .i64 x.a, .int .i64 x.r, .slice adb x.bs.length capb, .slice adp x.ps.length capp] 27)) := (Below.refl _ _).alloc (Nat.le_refl _) _
      have hbz0 : Below w8.heap.size w8 ws := hba.trans (hbs.mono (by simp))
      obtain ⟨wz, hwz⟩ : ∃ wz, wz = ((ws.setCell ⟨w8.heap.size, 2, none⟩ (.slice (some ⟨ws.heap.size, 0, none⟩) 1 1)).alloc (.cells #[.slice (some ⟨w8.heap.size + 1, 0, none⟩) 32 32] 39)) := ⟨_, rfl⟩
      have hBz : Below w8.heap.size w8 wz := by rw [hwz]; exact (hbz0.setCell (by simp) _).alloc (by have := hbz0.size; simpa [World.setCell] using this) _
      have BO := Lib.hid (show BoxAt wz w8.heap.size [.int .i64 x.a, .int .i64 x.r, .slice (some ⟨ws.heap.size, 0, none⟩) 1 1, .slice adp x.ps.length capp] 27 by rw [hwz]; exact (hbo.set 2 _).alloc _)
      have HOB := Lib.hid (show RdBB (fun _ => True) wz (.slice (some ⟨ws.heap.size, 0, none⟩) 1 1) [someL n 200] by rw [hwz]; exact rdBB_one (BoxAt.newAt _ [_] _ (by simp [World.setCell])) trivial (RdS.of_box (f := fun c : UInt8 => Value.int .u8 c.toNat) (cap := 32) (l := someL n 200) (T := 5) ((((show BoxAt ws (w8.heap.size + 1) ((someL n 200).map fun c => Value.int .u8 c.toNat) 5 by simpa using hso).setOther (p := ⟨w8.heap.size, 2, none⟩) (by simp) _)).alloc _) trivial (by rw [someL_length]; omega) (by unfold maxLen; omega)))
      rw [← hwz]
      have zz := hBz.size
      replace HB := Lib.hid (HB.out.trans (hBz.mono HB.out.size))
      replace HT := Lib.hid (HT.out.belowS hBz)
      replace HL := Lib.hid (HL.out.below hBz (fun _ h => h))
      replace HBB := Lib.hid (HBB.out.below hBz (fun _ h => h))
      replace HPP := Lib.hid (HPP.out.below hBz (fun _ h => h))
      replace BH := Lib.hid (BH.out.belowS hBz)
      replace HD := Lib.hid (HD.out.below hBz (fun _ h => h))
      replace HW := Lib.hid (HW.out.below hBz (fun _ h => h))
      replace HU := Lib.hid (HU.out.below hBz (fun _ h => h))
      replace HS := Lib.hid (HS.out.below hBz (fun _ h => h))
      replace BS := Lib.hid (BS.out.belowS hBz)
      replace HN := Lib.hid (HN.out.below hBz (fun _ h => h))
      clear hwz hba hbz0 hbo hBz hso hbs oo2 of2 olt
      have o0 := BO.out.cell 0 rfl
      have o1 := BO.out.cell 1 rfl
      have o2 := BO.out.cell 2 rfl
      have o3 := BO.out.cell 3 rfl
      have zBO := BO.out.lt
      go_wp2_with fail
      refine (cast_any (⟨x.a, x.r, [someL n 200], x.ps⟩ : Hdr) _ _ _ _ (HU.out.below (by repeat (first | with_reducible exact Below.refl _ _ | with_reducible refine Below.drew ?_ | with_reducible refine Below.setCell ?_ (by first | omega | (simp <;> omega)) _ | with_reducible refine Below.alloc ?_ (by first | omega | (simp <;> omega)) _)) (fun _ h => h)) (HOB.out.below (by repeat (first | with_reducible exact Below.refl _ _ | with_reducible refine Below.drew ?_ | with_reducible refine Below.setCell ?_ (by first | omega | (simp <;> omega)) _ | with_reducible refine Below.alloc ?_ (by first | omega | (simp <;> omega)) _)) (fun _ h => h)) (HPP.out.below (by repeat (first | with_reducible exact Below.refl _ _ | with_reducible refine Below.drew ?_ | with_reducible refine Below.setCell ?_ (by first | omega | (simp <;> omega)) _ | with_reducible refine Below.alloc ?_ (by first | omega | (simp <;> omega)) _)) (fun _ h => h)) (HT.out.belowS (by repeat (first | with_reducible exact Below.refl _ _ | with_reducible refine Below.drew ?_ | with_reducible refine Below.setCell ?_ (by first | omega | (simp <;> omega)) _ | with_reducible refine Below.alloc ?_ (by first | omega | (simp <;> omega)) _)))).mono ?_
      rw [HC9.out]
      rintro e w9 ⟨vv3, vs3, rfl, hv3, hs3, hb9⟩
      have hB9 : Below wz.heap.size wz w9 := Below.trans (by repeat (first | with_reducible exact Below.refl _ _ | with_reducible refine Below.drew ?_ | with_reducible refine Below.setCell ?_ (by first | omega | (simp <;> omega)) _ | with_reducible refine Below.alloc ?_ (by first | omega | (simp <;> omega)) _)) (hb9.mono (by first | exact Nat.le_refl _ | (simp; done) | (simp; omega)))
      have z9 := hB9.size
      replace HB := Lib.hid (HB.out.trans (hB9.mono HB.out.size))
      replace HT := Lib.hid (HT.out.belowS hB9)
      replace HL := Lib.hid (HL.out.below hB9 (fun _ h => h))
      replace HBB := Lib.hid (HBB.out.below hB9 (fun _ h => h))
      replace HPP := Lib.hid (HPP.out.below hB9 (fun _ h => h))
      replace BH := Lib.hid (BH.out.belowS hB9)
      replace HD := Lib.hid (HD.out.below hB9 (fun _ h => h))
      replace HW := Lib.hid (HW.out.below hB9 (fun _ h => h))
      replace HU := Lib.hid (HU.out.below hB9 (fun _ h => h))
      replace HS := Lib.hid (HS.out.below hB9 (fun _ h => h))
      replace BS := Lib.hid (BS.out.belowS hB9)
      replace HN := Lib.hid (HN.out.below hB9 (fun _ h => h))
      replace BO := Lib.hid (BO.out.belowS hB9)
      replace HOB := Lib.hid (HOB.out.below hB9 (fun _ h => h))
      clear o0 o1 o2 o3 zBO
      obtain ⟨ad_v3, cap_v3, rfl, -, -⟩ := hv3.form
      obtain ⟨ad_s3, cap_s3, rfl, -, -⟩ := hs3.form
      clear hb9 hB9 hv3 hs3
      generalize castSlt u (⟨x.a, x.r, [someL n 200], x.ps⟩ : Hdr) = S3 at *
      generalize castTab u (⟨x.a, x.r, [someL n 200], x.ps⟩ : Hdr) = T3 at *
      by_cases hsum : hdrSum (⟨x.a, x.r, [someL n 200], x.ps⟩ : Hdr) = hdrSum x
      · rw [if_pos hsum]
        go_wp2
        go_ret
        exact ⟨false, rfl, fun _ => by rw [HXE.out]; exact hsum, HB.out.alloc HB.out.size _⟩
      · rw [if_neg hsum]
        have wlen : IntKind.i64.wrap ((t.length : Int) + 1) = (t.length : Int) + 1 := IntWalk.i64_in _ (by omega)
        have eq1 : ((u.length : Int) == (t.length : Int) + 1) = true := beq_iff_eq.2 (by have := HLN.out; omega)
        have eq2 : ((u.length : Int) != (t.length : Int) + 1) = false := by simp only [bne, eq1, Bool.not_true]
        go_wp2_with fail
        refine (same_any (l := hdrSum x) (m := hdrSum x) _ _ _ (HN.out.below (by repeat (first | with_reducible exact Below.refl _ _ | with_reducible refine Below.drew ?_ | with_reducible refine Below.setCell ?_ (by first | omega | (simp <;> omega)) _ | with_reducible refine Below.alloc ?_ (by first | omega | (simp <;> omega)) _)) (fun _ h => h)) (HD.out.below (by repeat (first | with_reducible exact Below.refl _ _ | with_reducible refine Below.drew ?_ | with_reducible refine Below.setCell ?_ (by first | omega | (simp <;> omega)) _ | with_reducible refine Below.alloc ?_ (by first | omega | (simp <;> omega)) _)) (fun _ h => h))).mono ?_
        rintro e w' ⟨rfl, rfl⟩
        rw [decide_eq_true (rfl : hdrSum x = hdrSum x)]
        have s0 := BS.out.cell 0 rfl
        have s1 := BS.out.cell 1 rfl
        have s2 := BS.out.cell 2 rfl
        have zBS := BS.out.lt
        have h0 := BH.out.cell 0 rfl
        have h1 := BH.out.cell 1 rfl
        have zBH := BH.out.lt
        go_wp2_with fail
        refine (same_any (l := hdrSum x) (m := hdrSum x) _ _ _ (HS.out.below (by repeat (first | with_reducible exact Below.refl _ _ | with_reducible refine Below.drew ?_ | with_reducible refine Below.setCell ?_ (by first | omega | (simp <;> omega)) _ | with_reducible refine Below.alloc ?_ (by first | omega | (simp <;> omega)) _)) (fun _ h => h)) (HD.out.below (by repeat (first | with_reducible exact Below.refl _ _ | with_reducible refine Below.drew ?_ | with_reducible refine Below.setCell ?_ (by first | omega | (simp <;> omega)) _ | with_reducible refine Below.alloc ?_ (by first | omega | (simp <;> omega)) _)) (fun _ h => h))).mono ?_
        rintro e w' ⟨rfl, rfl⟩
        rw [decide_eq_true (rfl : hdrSum x = hdrSum x)]
        go_upto_region 18 with fail
        obtain ⟨wq, hwb⟩ : ∃ wq, wq = (w9.alloc (.cells #[.int .i64 S3.a, .int .i64 S3.r, .slice ad_s3 S3.d.length cap_s3] 47)) := ⟨_, rfl⟩
        have hBw : Below w9.heap.size w9 wq := by rw [hwb]; exact (by repeat (first | with_reducible exact Below.refl _ _ | with_reducible refine Below.drew ?_ | with_reducible refine Below.setCell ?_ (by first | omega | (simp <;> omega)) _ | with_reducible refine Below.alloc ?_ (by first | omega | (simp <;> omega)) _))
        have B3 := Lib.hid (show BoxAt wq (w9.heap.size) [.int .i64 S3.a, .int .i64 S3.r, .slice ad_s3 S3.d.length cap_s3] 47 by rw [hwb]; exact (by repeat (first | with_reducible exact BoxAt.newAt _ _ _ (by first | rfl | simp) | with_reducible refine BoxAt.drew ?_ | with_reducible refine BoxAt.alloc ?_ _ | with_reducible refine BoxAt.setOther ?_ (by first | omega | (simp <;> omega)) _)))
        rw [← hwb]
        have zwq := hBw.size
        clear hwb
        replace HB := Lib.hid (HB.out.trans (hBw.mono HB.out.size))
        replace HT := Lib.hid (HT.out.belowS hBw)
        replace HL := Lib.hid (HL.out.below hBw (fun _ h => h))
        replace HBB := Lib.hid (HBB.out.below hBw (fun _ h => h))
        replace HPP := Lib.hid (HPP.out.below hBw (fun _ h => h))
        replace BH := Lib.hid (BH.out.belowS hBw)
        replace HD := Lib.hid (HD.out.below hBw (fun _ h => h))
        replace HW := Lib.hid (HW.out.below hBw (fun _ h => h))
        replace HU := Lib.hid (HU.out.below hBw (fun _ h => h))
        replace HS := Lib.hid (HS.out.below hBw (fun _ h => h))
        replace BS := Lib.hid (BS.out.belowS hBw)
        replace HN := Lib.hid (HN.out.below hBw (fun _ h => h))
        replace BO := Lib.hid (BO.out.belowS hBw)
        replace HOB := Lib.hid (HOB.out.below hBw (fun _ h => h))
        clear hBw
        have zlB3 := B3.out.lt
        clear s0 s1 s2 zBS h0 h1 zBH
        go_loopw [25] (fun i wr => ∃ k : Nat, k ≤ t.length ∧ i = .int .i64 k ∧ Below wq.heap.size wq wr) (fun i _ => t.length - (intOf i).toNat)
        case atStart => exact ⟨0, Nat.zero_le _, rfl, Below.refl _ _⟩
        case round =>
          obtain ⟨k, hk, rfl, hB⟩ := hrel
          have HBr := Lib.hid (HB.out.trans (hB.mono HB.out.size))
          by_cases hlt : k < t.length
          · have hku : k < u.length := by rw [HM.out, List.length_append]; omega
            have hek : u[k] = t[k] := by have h := HM.out; subst h; exact List.getElem_append_left hlt
            obtain ⟨bx, ox, vx, hax, -, x0, x1, x2, hdx⟩ := (HL.out.below hB (fun _ h => h)).slot k hlt
            obtain ⟨b_y, oy, vy, hay, -, y0, y1, y2, hdy⟩ := (HU.out.below hB (fun _ h => h)).slot k hku
            subst hax hay
            rw [hek] at y0 y1 hdy
            obtain ⟨adx, cpx, rfl, -, -⟩ := hdx.form
            obtain ⟨ady, cpy, rfl, -, -⟩ := hdy.form
            have HX' := Lib.hid hdx
            have HY' := Lib.hid hdy
            have i0 : (0 : Int) ≤ (k : Int) := by omega
            have i1 : (k : Int) < (t.length : Int) := by omega
            have i2 : (k : Int) < (u.length : Int) := by omega
            have zx := World.block_lt_of_cell? _ _ x0
            have zy := World.block_lt_of_cell? _ _ y0
            simp only at zx zy
            generalize t[k] = S at *
            have HQr := Lib.hid hB
            clear hdx hdy hek hB
            go_wp2_with fail
            go_region_held3 (fun w' => w'.cell? ⟨bx, ox + k * 3, none⟩ = some (Value.int .i64 S.a) ∧ w'.cell? ⟨bx, ox + k * 3 + 1, none⟩ = some (Value.int .i64 S.r) ∧ w'.cell? ⟨bx, ox + k * 3 + 2, none⟩ = some (Value.slice adx S.d.length cpx) ∧ w'.cell? ⟨b_y, oy + k * 3, none⟩ = some (Value.int .i64 S.a) ∧ w'.cell? ⟨b_y, oy + k * 3 + 1, none⟩ = some (Value.int .i64 S.r) ∧ w'.cell? ⟨b_y, oy + k * 3 + 2, none⟩ = some (Value.slice ady S.d.length cpy))
              (go_keep)
              ((go_at_call 47; refine (sameSlot_any _ _ _ _ S.d S.d _ _ _ (by first | exact HX'.out | exact HX'.out.keep (Keep.drew _ _) (fun _ h => h)) (by first | exact HY'.out | exact HY'.out.keep (Keep.drew _ _) (fun _ h => h))).mono ?_; rintro e w8 ⟨rfl, hb8⟩; rw [decide_eq_true (show S.a = S.a ∧ S.r = S.r ∧ S.d = S.d from ⟨rfl, rfl, rfl⟩)]; have hb8' : Below wr.heap.size wr w8 := (by first | exact hb8 | exact (Below.refl _ _).drew.trans hb8); have hR8 := HBr.out.trans (hb8'.mono HBr.out.size); have hq8 := hb8'.size; have r0 := ((bcellAt hb8' _ zx).1 _).trans x0; have r1 := ((bcellAt hb8' _ zx).1 _).trans x1; have r2 := ((bcellAt hb8' _ zx).1 _).trans x2; have t0 := ((bcellAt hb8' _ zy).1 _).trans y0; have t1 := ((bcellAt hb8' _ zy).1 _).trans y1; have t2 := ((bcellAt hb8' _ zy).1 _).trans y2; have HQ8 := Lib.hid hb8'; clear hb8 hb8'))
            all_goals
              go_wp2
              go_roundw
              case rel => exact ⟨k + 1, by omega, by go_num, HQr.out.trans (HQ8.out.mono HQr.out.size)⟩
              case measure => simp [intOf]; omega
          · have t1 : ¬ (k : Int) < (t.length : Int) := by omega
            go_wp2
            go_ret
            first | exact .inr ⟨rfl, HBr.out⟩ | exact .inr ⟨rfl, by simp, HBr.out⟩ | exact ⟨rfl, HBr.out⟩ | exact ⟨true, rfl, by simp, HBr.out⟩
end Go.Proofs.YtialhdmdeggenaaDoor
