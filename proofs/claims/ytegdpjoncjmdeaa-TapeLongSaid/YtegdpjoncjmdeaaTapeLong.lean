/- TapeLong: the walk. -/
import Derived.Test.YtegdpjoncjmdeaaRawM
import Derived.Test.YtegdpjoncjmdeaaTapeP
set_option linter.unusedVariables false
set_option linter.unusedSimpArgs false
attribute [local go_sem ↓] Go.wp_at_zero Go.wp_at_succ
namespace Go.Proofs.Ytegdpjoncjmdeaa
open Go Go.RowKit

set_option maxRecDepth 100000 in
set_option maxHeartbeats 8000000 in
theorem tapeLong_walk (v : Value) (l : List RawD) (w : World) (hv : RdS RRaw (fun _ => True) w v l) :
    Calls Try.prog 8 #[v] w fun e w' => e = .returned (.bool true) ∧ Below w.heap.size w w' := by
  have HB := Lib.hid (Below.refl w.heap.size w)
  have HV := Lib.hid (hv)
  obtain ⟨adv, capv, rfl, -, -⟩ := hv.form
  obtain ⟨hok, hm24, hT72⟩ := recs_parts l
  have HOK := Lib.hid hok
  have hms : (recsL l).length ≤ 1000 := by omega
  have hTt := fun (k : Nat) (hk : k < (recsL l).length) => (show tapeB ((recsL l).take (k + 1)) = tapeB ((recsL l).take k) ++ frmL (recsL l)[k] by rw [List.take_succ_eq_append_getElem hk, tapeB_app, tapeB_one])
  have HTT := Lib.hid hTt
  have HLE := Lib.hid (fun (k : Nat) => (tapeB_len ((recsL l).take k) (fun m hm => hok m (List.mem_of_mem_take hm))).1)
  clear hTt
  clear hv hok
  go_enter Try.func8, Try.ntmps8
  go_wp2_with fail
  refine (records_any _ _ (HV.out.below (by repeat (first | with_reducible exact Below.refl _ _ | with_reducible refine Below.drew ?_ | with_reducible refine Below.setCell ?_ (by first | omega | (simp <;> omega)) _ | with_reducible refine Below.alloc ?_ (by first | omega | (simp <;> omega)) _)) (fun _ h => h))).mono ?_
  rintro e w1 ⟨v1, rfl, h1, hb1⟩
  have hB1 : Below w.heap.size w w1 := Below.trans (by repeat (first | with_reducible exact Below.refl _ _ | with_reducible refine Below.drew ?_ | with_reducible refine Below.setCell ?_ (by first | omega | (simp <;> omega)) _ | with_reducible refine Below.alloc ?_ (by first | omega | (simp <;> omega)) _)) (hb1.mono (by first | exact Nat.le_refl _ | (simp; done) | (simp; omega)))
  have z1 := hB1.size
  replace HB := Lib.hid (HB.out.trans (hB1.mono HB.out.size))
  replace HV := Lib.hid (HV.out.below hB1 (fun _ h => h))
  obtain ⟨ad_h1, cap_h1, rfl, -, -⟩ := h1.form
  have HM := Lib.hid (h1.mono (G' := fun _ => True) (fun _ _ => trivial))
  clear hb1 hB1 h1
  clear HV
  go_wp2_with fail
  refine (taped_any _ _ (HM.out.below (by repeat (first | with_reducible exact Below.refl _ _ | with_reducible refine Below.drew ?_ | with_reducible refine Below.setCell ?_ (by first | omega | (simp <;> omega)) _ | with_reducible refine Below.alloc ?_ (by first | omega | (simp <;> omega)) _)) (fun _ h => h)) HOK.out hms).mono ?_
  rintro e w2 ⟨vT, rfl, hT, hb2⟩
  have hB2 : Below w1.heap.size w1 w2 := Below.trans (by repeat (first | with_reducible exact Below.refl _ _ | with_reducible refine Below.drew ?_ | with_reducible refine Below.setCell ?_ (by first | omega | (simp <;> omega)) _ | with_reducible refine Below.alloc ?_ (by first | omega | (simp <;> omega)) _)) (hb2.mono (by first | exact Nat.le_refl _ | (simp; done) | (simp; omega)))
  have z2 := hB2.size
  replace HB := Lib.hid (HB.out.trans (hB2.mono HB.out.size))
  replace HM := Lib.hid (HM.out.below hB2 (fun _ h => h))
  obtain ⟨ad_hT, cap_hT, rfl, -, -⟩ := hT.form
  have HT := Lib.hid (hT.mono (G' := fun _ => True) (fun _ _ => trivial))
  clear hb2 hB2 hT
  generalize recsL l = ms at *
  obtain ⟨T, hTe⟩ : ∃ T, T = tapeB ms := ⟨_, rfl⟩
  rw [← hTe] at HT hT72 ⊢
  have HTE := Lib.hid hTe
  clear hTe
  go_upto_region 5 with fail
  obtain ⟨wb, hwb⟩ : ∃ wb, wb = w2.alloc (.cells #[.slice ad_hT T.length cap_hT, .int .i64 0] 50) := ⟨_, rfl⟩
  have hBw : Below w2.heap.size w2 wb := by rw [hwb]; exact (Below.refl _ _).alloc (Nat.le_refl _) _
  have BT := Lib.hid (show BoxAt wb w2.heap.size [.slice ad_hT T.length cap_hT, .int .i64 0] 50 by rw [hwb]; exact BoxAt.new w2 [_, _] _)
  rw [← hwb]
  clear hwb
  replace HB := Lib.hid (HB.out.trans (hBw.mono HB.out.size))
  replace HM := Lib.hid (HM.out.below hBw (fun _ h => h))
  replace HT := Lib.hid (HT.out.below hBw (fun _ h => h))
  clear hBw
  go_loopw [6, 7] (fun s i wr => ∃ k : Nat, k ≤ ms.length ∧ i = .int .i64 k ∧ s = .int .i64 ((tapeB (ms.take k)).length : Int) ∧ Below wb.heap.size wb wr) (fun _ i _ => ms.length - (intOf i).toNat)
  case atStart => exact ⟨0, Nat.zero_le _, rfl, rfl, Below.refl _ _⟩
  case round =>
    obtain ⟨k, hk, rfl, rfl, hB⟩ := hrel
    by_cases hlt : k < ms.length
    · have i0 : (0 : Int) ≤ (k : Int) := by omega
      have i1 : (k : Int) < (ms.length : Int) := by omega
      obtain ⟨bm, om, mv, hab, -, hcm', hrm⟩ := (HM.out.below hB (fun _ h => h)).msg k hlt
      subst hab
      have rm : wr.rangeAt bm (om + k * 19) (msgCells ms[k] mv) := fun j v hv => by rw [Nat.add_assoc]; exact hcm' j v hv
      have hrc := HOK.out ms[k] (List.getElem_mem hlt)
      have h0 := (recCode_iff hrc).1
      have hel := encL_len h0
      have hle := HLE.out k
      have hlk : (ms.take k).length = k := by rw [List.length_take]; omega
      rw [hlk] at hle
      have HN := Lib.hid (show ((tapeB (ms.take (k + 1))).length : Int) = ((tapeB (ms.take k)).length : Int) + (2 + ((encL ms[k]).length : Int)) by rw [HTT.out k hlt, List.length_append, frm_len]; omega)
      have HRM := Lib.hid hrm
      have H0 := Lib.hid h0
      have HBr := Lib.hid hB
      generalize ms[k] = M at *
      generalize tapeB (ms.take k) = L at *
      clear hcm' hrm hrc h0 hB hlk
      go_wp2_with (refine wpList_load_mid rfl 35 _ rfl bm (om + k * 19) rfl (msgCells M mv) _ rm Try.underlying35 rfl (by kernel_rfl) ?_)
      refine (encodeR_ok M mv wr HRM.out H0.out).mono ?_
      rintro e w5 ⟨vb, rfl, hE5, hb5⟩
      obtain ⟨ad5, cap5, rfl, -, -⟩ := hE5.form
      have HB5 := Lib.hid (HBr.out.trans (hb5.mono HBr.out.size))
      clear hE5 hb5 rm
      go_wp2
      go_roundw
      case rel => exact ⟨k + 1, by omega, by go_num, by rw [HN.out], HB5.out⟩
      case measure => simp [intOf]; omega
    · obtain rfl : k = ms.length := by omega
      have t1 : ¬ (ms.length : Int) < (ms.length : Int) := by omega
      rw [List.take_length, ← HTE.out]
      replace HB := Lib.hid (HB.out.trans (hB.mono HB.out.size))
      replace HM := Lib.hid (HM.out.below hB (fun _ h => h))
      replace HT := Lib.hid (HT.out.below hB (fun _ h => h))
      replace BT := Lib.hid (BT.out.belowS hB)
      clear hB
      have t0 := BT.out.cell 0 rfl
      have t1 := BT.out.cell 1 rfl
      have zBT := BT.out.lt
      go_wp2_with fail
      refine (tsync_rd _ T 0 _ (HT.out.below (by repeat (first | with_reducible exact Below.refl _ _ | with_reducible refine Below.drew ?_ | with_reducible refine Below.setCell ?_ (by first | omega | (simp <;> omega)) _ | with_reducible refine Below.alloc ?_ (by first | omega | (simp <;> omega)) _)) (fun _ h => h)) (tapeOk_zero (by omega))).mono ?_
      rintro e w3 ⟨v3, rfl, h3, hb3⟩
      have hB3 : Below wr.heap.size wr w3 := Below.trans (by repeat (first | with_reducible exact Below.refl _ _ | with_reducible refine Below.drew ?_ | with_reducible refine Below.setCell ?_ (by first | omega | (simp <;> omega)) _ | with_reducible refine Below.alloc ?_ (by first | omega | (simp <;> omega)) _)) (hb3.mono (by first | exact Nat.le_refl _ | (simp; done) | (simp; omega)))
      have z3 := hB3.size
      replace HB := Lib.hid (HB.out.trans (hB3.mono HB.out.size))
      replace HM := Lib.hid (HM.out.below hB3 (fun _ h => h))
      replace HT := Lib.hid (HT.out.below hB3 (fun _ h => h))
      replace BT := Lib.hid (BT.out.belowS hB3)
      obtain ⟨ad_h3, cap_h3, rfl, -, -⟩ := h3.form
      have HS := Lib.hid (h3.mono (G' := fun _ => True) (fun _ _ => trivial))
      clear t0 t1 zBT
      clear hb3 hB3 h3
      go_wp2_with fail
      refine (tcrash_rd _ T (T.length : Int) 0 T.length _ (HS.out.below (by repeat (first | with_reducible exact Below.refl _ _ | with_reducible refine Below.drew ?_ | with_reducible refine Below.setCell ?_ (by first | omega | (simp <;> omega)) _ | with_reducible refine Below.alloc ?_ (by first | omega | (simp <;> omega)) _)) (fun _ h => h)) (tapeOk_at (by omega) (by omega) (by omega)) (by omega) (by omega) (by omega)).mono ?_
      rw [List.take_length]
      rintro e w4 ⟨v4, rfl, h4, hb4⟩
      have hB4 : Below w3.heap.size w3 w4 := Below.trans (by repeat (first | with_reducible exact Below.refl _ _ | with_reducible refine Below.drew ?_ | with_reducible refine Below.setCell ?_ (by first | omega | (simp <;> omega)) _ | with_reducible refine Below.alloc ?_ (by first | omega | (simp <;> omega)) _)) (hb4.mono (by first | exact Nat.le_refl _ | (simp; done) | (simp; omega)))
      have z4 := hB4.size
      have BU := Lib.hid (BoxAt.belowS (show BoxAt _ (w3.heap.size) [.slice ad_h3 T.length cap_h3, .int .i64 (T.length : Int)] 50 from (by repeat (first | with_reducible exact BoxAt.newAt _ _ _ (by first | rfl | simp) | with_reducible refine BoxAt.drew ?_ | with_reducible refine BoxAt.alloc ?_ _ | with_reducible refine BoxAt.setOther ?_ (by first | omega | (simp <;> omega)) _))) hb4)
      replace HB := Lib.hid (HB.out.trans (hB4.mono HB.out.size))
      replace HM := Lib.hid (HM.out.below hB4 (fun _ h => h))
      replace HT := Lib.hid (HT.out.below hB4 (fun _ h => h))
      replace BT := Lib.hid (BT.out.belowS hB4)
      replace HS := Lib.hid (HS.out.below hB4 (fun _ h => h))
      obtain ⟨ad_h4, cap_h4, rfl, -, -⟩ := h4.form
      have HC := Lib.hid (h4.mono (G' := fun _ => True) (fun _ _ => trivial))
      clear hb4 hB4 h4
      have t0 := BT.out.cell 0 rfl
      have t1 := BT.out.cell 1 rfl
      have zBT := BT.out.lt
      go_wp2_with fail
      refine (tcrash_neg _ T 0 (-1) _ (HT.out.below (by repeat (first | with_reducible exact Below.refl _ _ | with_reducible refine Below.drew ?_ | with_reducible refine Below.setCell ?_ (by first | omega | (simp <;> omega)) _ | with_reducible refine Below.alloc ?_ (by first | omega | (simp <;> omega)) _)) (fun _ h => h)) (tapeOk_zero (by omega)) (by omega)).mono ?_
      rintro e w5 ⟨rfl, hb5⟩
      have hB5 : Below w4.heap.size w4 w5 := Below.trans (by repeat (first | with_reducible exact Below.refl _ _ | with_reducible refine Below.drew ?_ | with_reducible refine Below.setCell ?_ (by first | omega | (simp <;> omega)) _ | with_reducible refine Below.alloc ?_ (by first | omega | (simp <;> omega)) _)) (hb5.mono (by first | exact Nat.le_refl _ | (simp; done) | (simp; omega)))
      have z5 := hB5.size
      have BV := Lib.hid (BoxAt.belowS (show BoxAt _ (w4.heap.size) [.slice ad_h4 T.length cap_h4, .int .i64 (T.length : Int)] 50 from (by repeat (first | with_reducible exact BoxAt.newAt _ _ _ (by first | rfl | simp) | with_reducible refine BoxAt.drew ?_ | with_reducible refine BoxAt.alloc ?_ _ | with_reducible refine BoxAt.setOther ?_ (by first | omega | (simp <;> omega)) _))) hb5)
      replace HB := Lib.hid (HB.out.trans (hB5.mono HB.out.size))
      replace HM := Lib.hid (HM.out.below hB5 (fun _ h => h))
      replace HT := Lib.hid (HT.out.below hB5 (fun _ h => h))
      replace BT := Lib.hid (BT.out.belowS hB5)
      replace HS := Lib.hid (HS.out.below hB5 (fun _ h => h))
      replace BU := Lib.hid (BU.out.belowS hB5)
      replace HC := Lib.hid (HC.out.below hB5 (fun _ h => h))
      clear t0 t1 zBT
      clear hb5 hB5
      have t0 := BT.out.cell 0 rfl
      have t1 := BT.out.cell 1 rfl
      have zBT := BT.out.lt
      have u0 := BU.out.cell 0 rfl
      have u1 := BU.out.cell 1 rfl
      have zBU := BU.out.lt
      have v0 := BV.out.cell 0 rfl
      have v1 := BV.out.cell 1 rfl
      have zBV := BV.out.lt
      go_wp2_with fail
      refine (same_any (l := T) (m := T) _ _ _ (HC.out.below (by repeat (first | with_reducible exact Below.refl _ _ | with_reducible refine Below.drew ?_ | with_reducible refine Below.setCell ?_ (by first | omega | (simp <;> omega)) _ | with_reducible refine Below.alloc ?_ (by first | omega | (simp <;> omega)) _)) (fun _ h => h)) (HT.out.below (by repeat (first | with_reducible exact Below.refl _ _ | with_reducible refine Below.drew ?_ | with_reducible refine Below.setCell ?_ (by first | omega | (simp <;> omega)) _ | with_reducible refine Below.alloc ?_ (by first | omega | (simp <;> omega)) _)) (fun _ h => h))).mono ?_
      rintro e w' ⟨rfl, rfl⟩
      rw [decide_eq_true (rfl : T = T)]
      go_wp2
      go_ret
      exact ⟨rfl, (by repeat (first | with_reducible exact HB.out | with_reducible exact Below.refl _ _ | with_reducible refine Below.drew ?_ | with_reducible refine Below.setCell ?_ (by first | omega | (simp <;> omega)) _ | with_reducible refine Below.alloc ?_ (by first | omega | (simp <;> omega)) _))⟩
end Go.Proofs.Ytegdpjoncjmdeaa
