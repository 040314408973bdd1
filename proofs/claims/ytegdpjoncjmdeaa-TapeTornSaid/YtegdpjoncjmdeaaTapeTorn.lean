/- TapeTorn: the walk. -/
import Derived.Test.YtegdpjoncjmdeaaRawM
import Derived.Test.YtegdpjoncjmdeaaTapeP
set_option linter.unusedVariables false
set_option linter.unusedSimpArgs false
attribute [local go_sem ↓] Go.wp_at_zero Go.wp_at_succ
namespace Go.Proofs.Ytegdpjoncjmdeaa
open Go Go.RowKit

set_option maxRecDepth 100000 in
set_option maxHeartbeats 8000000 in
theorem tapeTorn_walk (v : Value) (l : List RawD) (n : Int) (w : World) (hv : RdS RRaw (fun _ => True) w v l) (n1 : -9223372036854775808 ≤ n) (n2 : n ≤ 9223372036854775807) :
    Calls Try.prog 9 #[v, .int .i64 n] w fun e w' => e = .returned (.bool true) ∧ Below w.heap.size w w' := by
  have HB := Lib.hid (Below.refl w.heap.size w)
  have HV := Lib.hid (hv)
  obtain ⟨adv, capv, rfl, -, -⟩ := hv.form
  obtain ⟨hok, hm24, hT72⟩ := recs_parts l
  have HOK := Lib.hid hok
  have HTP := Lib.hid (fun k hk => torn_parts hok k hk)
  have hms : (recsL l).length ≤ 1000 := by omega
  clear hv hok
  go_enter Try.func9, Try.ntmps9
  go_wp2_with fail
  refine (records_any _ _ (HV.out.below (by repeat (first | with_reducible exact Below.refl _ _ | with_reducible refine Below.drew ?_ | with_reducible refine Below.setCell ?_ (by first | omega | (simp <;> omega)) _ | with_reducible refine Below.alloc ?_ (by first | omega | (simp <;> omega)) _)) (fun _ h => h))).mono ?_
  rintro e w1 ⟨v1, rfl, h1, hb1⟩
  have hB1 : Below w.heap.size w w1 := Below.trans (by repeat (first | with_reducible exact Below.refl _ _ | with_reducible refine Below.drew ?_ | with_reducible refine Below.setCell ?_ (by first | omega | (simp <;> omega)) _ | with_reducible refine Below.alloc ?_ (by first | omega | (simp <;> omega)) _)) (hb1.mono (by first | exact Nat.le_refl _ | (simp; done) | (simp; omega)))
  have z1 := hB1.size
  replace HB := Lib.hid (HB.out.trans (hB1.mono HB.out.size))
  replace HV := Lib.hid (HV.out.below hB1 (fun _ h => h))
  obtain ⟨ad_h1, cap_h1, rfl, -, -⟩ := h1.form
  have HM := Lib.hid (h1.mono (G' := fun _ => True) (fun _ _ => trivial))
  clear hb1 hB1 h1
  clear HV
  go_wp2_with fail
  refine (taped_any _ _ (HM.out.below (by repeat (first | with_reducible exact Below.refl _ _ | with_reducible refine Below.drew ?_ | with_reducible refine Below.setCell ?_ (by first | omega | (simp <;> omega)) _ | with_reducible refine Below.alloc ?_ (by first | omega | (simp <;> omega)) _)) (fun _ h => h)) HOK.out hms).mono ?_
  rintro e w2 ⟨vT, rfl, hT, hb2⟩
  have hB2 : Below w1.heap.size w1 w2 := Below.trans (by repeat (first | with_reducible exact Below.refl _ _ | with_reducible refine Below.drew ?_ | with_reducible refine Below.setCell ?_ (by first | omega | (simp <;> omega)) _ | with_reducible refine Below.alloc ?_ (by first | omega | (simp <;> omega)) _)) (hb2.mono (by first | exact Nat.le_refl _ | (simp; done) | (simp; omega)))
  have z2 := hB2.size
  replace HB := Lib.hid (HB.out.trans (hB2.mono HB.out.size))
  replace HM := Lib.hid (HM.out.below hB2 (fun _ h => h))
  obtain ⟨ad_hT, cap_hT, rfl, -, -⟩ := hT.form
  have HT := Lib.hid (hT.mono (G' := fun _ => True) (fun _ _ => trivial))
  clear hb2 hB2 hT
  generalize recsL l = ms at *
  obtain ⟨T, hTe⟩ : ∃ T, T = tapeB ms := ⟨_, rfl⟩
  rw [← hTe] at HT HTP hT72 ⊢
  obtain ⟨p1, p2⟩ := pickedZ_range n ((T.length : Int) + 1) (by omega)
  obtain ⟨k, hk⟩ : ∃ k : Nat, pickedZ n ((T.length : Int) + 1) = (k : Int) := ⟨_, (Int.toNat_of_nonneg p1).symm⟩
  rw [hk] at p1 p2
  have HK := Lib.hid hk
  obtain ⟨P, hP0, hP1, hP2, hP3, hP4, hP5, hP6, hP7, hP8, hP9⟩ := HTP.out k (by omega)
  have HP1 := Lib.hid hP1
  have HP2 := Lib.hid hP2
  have HP3 := Lib.hid hP3
  have HP5 := Lib.hid hP5
  have HP6 := Lib.hid hP6
  obtain ⟨Q, hQ⟩ : ∃ Q, Q = tapeB P := ⟨_, rfl⟩
  rw [← hQ] at HP2 HP3 HP5 hP4
  have hcapT := HT.out.len.2.1
  have i1 : (k : Int) ≤ (cap_hT : Int) := by omega
  have hkT : k ≤ T.length := by omega
  have q4 : (Q.length : Int) ≤ (k : Int) := by omega
  have hkl : (T.take k).length = k := by rw [List.length_take]; omega
  have HKL := Lib.hid hkl
  have HIF := Lib.hid hP7
  clear hk hTe hP0 hP1 hP2 hP3 hP5 hP6 hP7 hP8 hQ hkl HTP
  go_wp2_with (go_at_call 19; refine (picked_any n ((T.length : Int) + 1) _ n1 n2 (by omega) (by omega)).mono ?_; rintro e w' ⟨rfl, rfl⟩; rw [HK.out])
  refine (trecover_ok (.slice ad_hT k k) (T.take k) 0 _ ((HT.out.below (by repeat (first | with_reducible exact Below.refl _ _ | with_reducible refine Below.drew ?_ | with_reducible refine Below.setCell ?_ (by first | omega | (simp <;> omega)) _ | with_reducible refine Below.alloc ?_ (by first | omega | (simp <;> omega)) _)) (fun _ h => h)).take3 k hkT) (by rw [HKL.out]; exact tapeOk_zero (by omega))).mono ?_
  rw [HP1.out]
  rw [HP2.out]
  rw [HP3.out]
  rw [show min (0 : Int) (Q.length : Int) = 0 by omega]
  rintro e w3 ⟨v3, vD, rfl, h3, hD, hb3⟩
  have hB3 : Below w2.heap.size w2 w3 := Below.trans (by repeat (first | with_reducible exact Below.refl _ _ | with_reducible refine Below.drew ?_ | with_reducible refine Below.setCell ?_ (by first | omega | (simp <;> omega)) _ | with_reducible refine Below.alloc ?_ (by first | omega | (simp <;> omega)) _)) (hb3.mono (by first | exact Nat.le_refl _ | (simp; done) | (simp; omega)))
  have z3 := hB3.size
  have BT := Lib.hid (BoxAt.belowS (show BoxAt _ (w2.heap.size) [.slice ad_hT T.length cap_hT, .int .i64 0] 50 from (by repeat (first | with_reducible exact BoxAt.newAt _ _ _ (by first | rfl | simp) | with_reducible refine BoxAt.drew ?_ | with_reducible refine BoxAt.alloc ?_ _ | with_reducible refine BoxAt.setOther ?_ (by first | omega | (simp <;> omega)) _))) hb3)
  replace HB := Lib.hid (HB.out.trans (hB3.mono HB.out.size))
  replace HM := Lib.hid (HM.out.below hB3 (fun _ h => h))
  replace HT := Lib.hid (HT.out.below hB3 (fun _ h => h))
  obtain ⟨ad_h3, cap_h3, rfl, -, -⟩ := h3.form
  obtain ⟨ad_hD, cap_hD, rfl, -, -⟩ := hD.form
  have HG := Lib.hid (h3.mono (G' := fun _ => True) (fun _ _ => trivial))
  have HU := Lib.hid (hD.mono (G' := fun _ => True) (fun _ _ => trivial))
  clear hb3 hB3 h3 hD
  go_wp2_with fail
  refine (trecover_ok _ Q 0 _ (HU.out.below (by repeat (first | with_reducible exact Below.refl _ _ | with_reducible refine Below.drew ?_ | with_reducible refine Below.setCell ?_ (by first | omega | (simp <;> omega)) _ | with_reducible refine Below.alloc ?_ (by first | omega | (simp <;> omega)) _)) (fun _ h => h)) (tapeOk_zero (by omega))).mono ?_
  rw [HP5.out]
  rintro e w4 ⟨v4, vE, rfl, h4, hE, hb4⟩
  have hB4 : Below w3.heap.size w3 w4 := Below.trans (by repeat (first | with_reducible exact Below.refl _ _ | with_reducible refine Below.drew ?_ | with_reducible refine Below.setCell ?_ (by first | omega | (simp <;> omega)) _ | with_reducible refine Below.alloc ?_ (by first | omega | (simp <;> omega)) _)) (hb4.mono (by first | exact Nat.le_refl _ | (simp; done) | (simp; omega)))
  have z4 := hB4.size
  have BU := Lib.hid (BoxAt.belowS (show BoxAt _ (w3.heap.size) [.slice ad_hD Q.length cap_hD, .int .i64 0] 50 from (by repeat (first | with_reducible exact BoxAt.newAt _ _ _ (by first | rfl | simp) | with_reducible refine BoxAt.drew ?_ | with_reducible refine BoxAt.alloc ?_ _ | with_reducible refine BoxAt.setOther ?_ (by first | omega | (simp <;> omega)) _))) hb4)
  replace HB := Lib.hid (HB.out.trans (hB4.mono HB.out.size))
  replace HM := Lib.hid (HM.out.below hB4 (fun _ h => h))
  replace HT := Lib.hid (HT.out.below hB4 (fun _ h => h))
  replace BT := Lib.hid (BT.out.belowS hB4)
  replace HG := Lib.hid (HG.out.below hB4 (fun _ h => h))
  replace HU := Lib.hid (HU.out.below hB4 (fun _ h => h))
  dsimp only at h4 hE ⊢
  rw [List.take_length] at hE
  rw [show min (0 : Int) (Q.length : Int) = 0 by omega]
  obtain ⟨ad_h4, cap_h4, rfl, -, -⟩ := h4.form
  obtain ⟨ad_hE, cap_hE, rfl, -, -⟩ := hE.form
  have HV2 := Lib.hid (hE.mono (G' := fun _ => True) (fun _ _ => trivial))
  clear hb4 hB4 h4 hE
  go_wp2_with fail
  refine (trecover_no none 0 0 1 _ (by decide)).mono ?_
  rintro e w5 ⟨rfl, hb5⟩
  have hB5 : Below w4.heap.size w4 w5 := Below.trans (by repeat (first | with_reducible exact Below.refl _ _ | with_reducible refine Below.drew ?_ | with_reducible refine Below.setCell ?_ (by first | omega | (simp <;> omega)) _ | with_reducible refine Below.alloc ?_ (by first | omega | (simp <;> omega)) _)) (hb5.mono (by first | exact Nat.le_refl _ | (simp; done) | (simp; omega)))
  have z5 := hB5.size
  have BV := Lib.hid (BoxAt.belowS (show BoxAt _ (w4.heap.size) [.slice ad_hE Q.length cap_hE, .int .i64 0] 50 from (by repeat (first | with_reducible exact BoxAt.newAt _ _ _ (by first | rfl | simp) | with_reducible refine BoxAt.drew ?_ | with_reducible refine BoxAt.alloc ?_ _ | with_reducible refine BoxAt.setOther ?_ (by first | omega | (simp <;> omega)) _))) hb5)
  replace HB := Lib.hid (HB.out.trans (hB5.mono HB.out.size))
  replace HM := Lib.hid (HM.out.below hB5 (fun _ h => h))
  replace HT := Lib.hid (HT.out.below hB5 (fun _ h => h))
  replace BT := Lib.hid (BT.out.belowS hB5)
  replace HG := Lib.hid (HG.out.below hB5 (fun _ h => h))
  replace HU := Lib.hid (HU.out.below hB5 (fun _ h => h))
  replace BU := Lib.hid (BU.out.belowS hB5)
  replace HV2 := Lib.hid (HV2.out.below hB5 (fun _ h => h))
  clear hb5 hB5
  have hbe : ((P.length : Int) == (ms.length : Int)) = ((k : Int) == (T.length : Int)) := by
    rw [Bool.eq_iff_iff]; simp only [beq_iff_eq]; have := HIF.out; omega
  have t0 := BT.out.cell 0 rfl
  have t1 := BT.out.cell 1 rfl
  have zBT := BT.out.lt
  have u0 := BU.out.cell 0 rfl
  have u1 := BU.out.cell 1 rfl
  have zBU := BU.out.lt
  have v0 := BV.out.cell 0 rfl
  have v1 := BV.out.cell 1 rfl
  have zBV := BV.out.lt
  go_wp2_with fail
  refine (begins_pre _ _ _ (HG.out.below (by repeat (first | with_reducible exact Below.refl _ _ | with_reducible refine Below.drew ?_ | with_reducible refine Below.setCell ?_ (by first | omega | (simp <;> omega)) _ | with_reducible refine Below.alloc ?_ (by first | omega | (simp <;> omega)) _)) (fun _ h => h)) (HM.out.below (by repeat (first | with_reducible exact Below.refl _ _ | with_reducible refine Below.drew ?_ | with_reducible refine Below.setCell ?_ (by first | omega | (simp <;> omega)) _ | with_reducible refine Below.alloc ?_ (by first | omega | (simp <;> omega)) _)) (fun _ h => h)) HP6.out).mono ?_
  rintro e w6 ⟨rfl, hb6⟩
  have hB6 : Below w5.heap.size w5 w6 := Below.trans (by repeat (first | with_reducible exact Below.refl _ _ | with_reducible refine Below.drew ?_ | with_reducible refine Below.setCell ?_ (by first | omega | (simp <;> omega)) _ | with_reducible refine Below.alloc ?_ (by first | omega | (simp <;> omega)) _)) (hb6.mono (by first | exact Nat.le_refl _ | (simp; done) | (simp; omega)))
  have z6 := hB6.size
  replace HB := Lib.hid (HB.out.trans (hB6.mono HB.out.size))
  replace HM := Lib.hid (HM.out.below hB6 (fun _ h => h))
  replace HT := Lib.hid (HT.out.below hB6 (fun _ h => h))
  replace BT := Lib.hid (BT.out.belowS hB6)
  replace HG := Lib.hid (HG.out.below hB6 (fun _ h => h))
  replace HU := Lib.hid (HU.out.below hB6 (fun _ h => h))
  replace BU := Lib.hid (BU.out.belowS hB6)
  replace HV2 := Lib.hid (HV2.out.below hB6 (fun _ h => h))
  replace BV := Lib.hid (BV.out.belowS hB6)
  clear t0 t1 zBT u0 u1 zBU v0 v1 zBV
  clear hb6 hB6
  have t0 := BT.out.cell 0 rfl
  have t1 := BT.out.cell 1 rfl
  have zBT := BT.out.lt
  have u0 := BU.out.cell 0 rfl
  have u1 := BU.out.cell 1 rfl
  have zBU := BU.out.lt
  have v0 := BV.out.cell 0 rfl
  have v1 := BV.out.cell 1 rfl
  have zBV := BV.out.lt
  go_wp2_with fail
  refine (same_any (l := Q) (m := Q) _ _ w6 HU.out HV2.out).mono ?_
  rintro e w' ⟨rfl, rfl⟩
  rw [decide_eq_true (rfl : Q = Q)]
  cases hbb : ((k : Int) == (T.length : Int)) <;> rw [hbb] at hbe
  all_goals
    go_wp2
    go_ret
    exact ⟨rfl, HB.out⟩
end Go.Proofs.Ytegdpjoncjmdeaa
