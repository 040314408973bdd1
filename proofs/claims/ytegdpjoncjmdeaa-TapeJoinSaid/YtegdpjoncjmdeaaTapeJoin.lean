/- TapeJoin: the walk. -/
import Derived.Test.YtegdpjoncjmdeaaRawM
import Derived.Test.YtegdpjoncjmdeaaRaw0
import Derived.Test.YtegdpjoncjmdeaaSized
import Derived.Test.YtegdpjoncjmdeaaTapeP
set_option linter.unusedVariables false
set_option linter.unusedSimpArgs false
attribute [local go_sem ↓] Go.wp_at_zero Go.wp_at_succ
namespace Go.Proofs.Ytegdpjoncjmdeaa
open Go Go.RowKit

set_option maxRecDepth 100000 in
set_option maxHeartbeats 8000000 in
theorem tapeJoin_walk (v : Value) (l : List RawD) (v2 : Value) (m : List RawD) (w : World) (hv : RdS RRaw (fun _ => True) w v l) (hz : l.length * 56 ≤ reachBytes) (hv2 : RdS RRaw (fun _ => True) w v2 m) (hz2 : m.length * 56 ≤ reachBytes) :
    Calls Try.prog 11 #[v, v2] w fun e w' => e = .returned (.bool true) ∧ Below w.heap.size w w' := by
  have HB := Lib.hid (Below.refl w.heap.size w)
  have HV := Lib.hid (hv)
  have HV2 := Lib.hid (hv2)
  obtain ⟨adv, capv, rfl, -, -⟩ := hv.form
  obtain ⟨adu, capu, rfl, -, -⟩ := hv2.form
  unfold reachBytes at hz hz2
  obtain ⟨hok1, hm1, hT1⟩ := recs_parts l
  obtain ⟨hok2, hm2, hT2⟩ := recs_parts (m ++ [raw0])
  have HOK1 := Lib.hid hok1
  have HOK2 := Lib.hid hok2
  have hpos : 0 < (recsL (m ++ [raw0])).length := by unfold recsL; rw [List.length_map, List.length_take, List.length_append, List.length_singleton]; omega
  have hms1 : (recsL l).length ≤ 1000 := by omega
  have hms2 : (recsL (m ++ [raw0])).length ≤ 1000 := by omega
  clear hv hv2
  have HJ := Lib.hid (show recL (tapeB (recsL l) ++ tapeB (recsL (m ++ [raw0]))) = (recsL l ++ recsL (m ++ [raw0]), (tapeB (recsL l) ++ tapeB (recsL (m ++ [raw0]))).length) by rw [← tapeB_app]; exact recL_all (fun x hx => by rcases List.mem_append.1 hx with h | h; exact hok1 x h; exact hok2 x h))
  have HRA := Lib.hid (recL_all hok1)
  have HRB := Lib.hid (recL_all hok2)
  clear hok1 hok2
  go_enter Try.func11, Try.ntmps11
  go_wp2_with fail
  refine (records_any _ _ (HV.out.below (by repeat (first | with_reducible exact Below.refl _ _ | with_reducible refine Below.drew ?_ | with_reducible refine Below.setCell ?_ (by first | omega | (simp <;> omega)) _ | with_reducible refine Below.alloc ?_ (by first | omega | (simp <;> omega)) _)) (fun _ h => h))).mono ?_
  rintro e w1 ⟨v1, rfl, h1, hb1⟩
  have hB1 : Below w.heap.size w w1 := Below.trans (by repeat (first | with_reducible exact Below.refl _ _ | with_reducible refine Below.drew ?_ | with_reducible refine Below.setCell ?_ (by first | omega | (simp <;> omega)) _ | with_reducible refine Below.alloc ?_ (by first | omega | (simp <;> omega)) _)) (hb1.mono (by first | exact Nat.le_refl _ | (simp; done) | (simp; omega)))
  have z1 := hB1.size
  replace HB := Lib.hid (HB.out.trans (hB1.mono HB.out.size))
  replace HV := Lib.hid (HV.out.below hB1 (fun _ h => h))
  replace HV2 := Lib.hid (HV2.out.below hB1 (fun _ h => h))
  obtain ⟨ad_h1, cap_h1, rfl, -, -⟩ := h1.form
  have HM1 := Lib.hid (h1.mono (G' := fun _ => True) (fun _ _ => trivial))
  clear hb1 hB1 h1
  clear HV
  go_wp2_with fail
  refine (taped_any _ _ (HM1.out.below (by repeat (first | with_reducible exact Below.refl _ _ | with_reducible refine Below.drew ?_ | with_reducible refine Below.setCell ?_ (by first | omega | (simp <;> omega)) _ | with_reducible refine Below.alloc ?_ (by first | omega | (simp <;> omega)) _)) (fun _ h => h)) HOK1.out hms1).mono ?_
  rintro e w2 ⟨vT, rfl, hT, hb2⟩
  have hB2 : Below w1.heap.size w1 w2 := Below.trans (by repeat (first | with_reducible exact Below.refl _ _ | with_reducible refine Below.drew ?_ | with_reducible refine Below.setCell ?_ (by first | omega | (simp <;> omega)) _ | with_reducible refine Below.alloc ?_ (by first | omega | (simp <;> omega)) _)) (hb2.mono (by first | exact Nat.le_refl _ | (simp; done) | (simp; omega)))
  have z2 := hB2.size
  replace HB := Lib.hid (HB.out.trans (hB2.mono HB.out.size))
  replace HV2 := Lib.hid (HV2.out.below hB2 (fun _ h => h))
  replace HM1 := Lib.hid (HM1.out.below hB2 (fun _ h => h))
  obtain ⟨ad_hT, cap_hT, rfl, -, -⟩ := hT.form
  have HTA := Lib.hid (hT.mono (G' := fun _ => True) (fun _ _ => trivial))
  clear hb2 hB2 hT
  generalize recsL l = ms at *
  obtain ⟨A, hA⟩ : ∃ A, A = tapeB ms := ⟨_, rfl⟩
  rw [← hA] at HTA HJ HRA hT1 ⊢
  clear hA
  go_upto_region 2 with fail
  obtain ⟨wa, hwb⟩ : ∃ wa, wa = (w2.alloc (.cells #[.slice ad_hT A.length cap_hT, .int .i64 0] 50)) := ⟨_, rfl⟩
  have hBw : Below w2.heap.size w2 wa := by rw [hwb]; exact (by repeat (first | with_reducible exact Below.refl _ _ | with_reducible refine Below.drew ?_ | with_reducible refine Below.setCell ?_ (by first | omega | (simp <;> omega)) _ | with_reducible refine Below.alloc ?_ (by first | omega | (simp <;> omega)) _))
  have BA := Lib.hid (show BoxAt wa (w2.heap.size) [.slice ad_hT A.length cap_hT, .int .i64 0] 50 by rw [hwb]; exact (by repeat (first | with_reducible exact BoxAt.newAt _ _ _ (by first | rfl | simp) | with_reducible refine BoxAt.drew ?_ | with_reducible refine BoxAt.alloc ?_ _ | with_reducible refine BoxAt.setOther ?_ (by first | omega | (simp <;> omega)) _)))
  rw [← hwb]
  have zwa := hBw.size
  clear hwb
  replace HB := Lib.hid (HB.out.trans (hBw.mono HB.out.size))
  replace HV2 := Lib.hid (HV2.out.below hBw (fun _ h => h))
  replace HM1 := Lib.hid (HM1.out.below hBw (fun _ h => h))
  replace HTA := Lib.hid (HTA.out.below hBw (fun _ h => h))
  clear hBw
  have zlBA := BA.out.lt
  obtain ⟨vals, hs, ho, hc⟩ := HV2.out.copyOf (by decide) RRaw_one 44
  have HS0 := Lib.hid hs
  have HO0 := Lib.hid ho
  have HC0 := Lib.hid hc
  clear hs ho hc
  go_wp2_with (first
    | (at_builtin; refine wpList_append_sl (o := ⟨some 26, _, _, _, _, _⟩) rfl _ _ 54 rfl elemRaw wa.heap.size (.slice none 0 0) rfl 0 [] (World.ownsRow_nil _ _ _ _) _ rfl m.length vals HS0.out HO0.out (by unfold maxLen; omega) (by omega) (Nat.le_refl _) ?_; intro vp1 wp1 hown1 hgr1; have hl1 := HC0.out wa wp1 vp1 (Below.refl _ _) hown1 hgr1; have hb1 : Below wa.heap.size wa wp1 := (Below.refl _ _).grown hgr1 (Nat.le_refl _) (fun k hk => by simp [Value.ownBlock] at hk); obtain ⟨adp1, capp1, rfl⟩ := ownsRow_form hl1.own; have HL1 := Lib.hid hl1; have HB1 := Lib.hid hb1; have hz1 := hb1.size; clear hown1 hgr1 hl1 hb1)
    | (at_builtin; refine wpList_append_one (o := ⟨some 29, _, _, _, _, _⟩) rfl _ _ 54 rfl elemRaw wa.heap.size (.slice adp1 m.length capp1) m.length vals rfl (HL1.out.alloc _).own wp1.heap.size 44 [.int .i64 0, .int .i64 0, .int .i64 0, .int .i64 0, .slice none 0 0] rfl (BoxAt.new _ [_, _, _, _, _] _) rfl (by simp [Value.oneCell']) (by unfold maxLen; omega) (by omega) (by simp; omega) ?_; intro gp2 capp2 wp2 hown2 hgr2 hat2 hlt2; have hr2 := (HL1.out.alloc (.cells #[.int .i64 0, .int .i64 0, .int .i64 0, .int .i64 0, .slice none 0 0] 44)).dup (by decide) (by simp; omega) (raw0_rd _ _) hown2 hgr2 hat2; have hb2 : Below wa.heap.size wa wp2 := (HB1.out.alloc hz1 _).grown hgr2 (by simp; omega) (ownBlock_ge HL1.out.own); have HR2 := Lib.hid hr2; have HB2 := Lib.hid hb2; clear hown2 hgr2 hat2 hr2 hb2))
  replace HB := Lib.hid (HB.out.trans (HB2.out.mono HB.out.size))
  replace HV2 := Lib.hid (HV2.out.below HB2.out (fun _ h => h))
  replace HM1 := Lib.hid (HM1.out.below HB2.out (fun _ h => h))
  replace HTA := Lib.hid (HTA.out.below HB2.out (fun _ h => h))
  replace BA := Lib.hid (BA.out.belowS HB2.out)
  have zp2 := HB2.out.size
  clear HB2 HB1 HL1 HS0 HO0 HC0
  clear HV2
  refine (records_any _ _ HR2.out).mono ?_
  rintro e w3 ⟨v5, rfl, h5, hb3⟩
  have hB3 : Below wp2.heap.size wp2 w3 := Below.trans (by repeat (first | with_reducible exact Below.refl _ _ | with_reducible refine Below.drew ?_ | with_reducible refine Below.setCell ?_ (by first | omega | (simp <;> omega)) _ | with_reducible refine Below.alloc ?_ (by first | omega | (simp <;> omega)) _)) (hb3.mono (by first | exact Nat.le_refl _ | (simp; done) | (simp; omega)))
  have z3 := hB3.size
  replace HB := Lib.hid (HB.out.trans (hB3.mono HB.out.size))
  replace HM1 := Lib.hid (HM1.out.below hB3 (fun _ h => h))
  replace HTA := Lib.hid (HTA.out.below hB3 (fun _ h => h))
  replace BA := Lib.hid (BA.out.belowS hB3)
  obtain ⟨ad_h5, cap_h5, rfl, -, -⟩ := h5.form
  have HM2 := Lib.hid (h5.mono (G' := fun _ => True) (fun _ _ => trivial))
  clear hb3 hB3 h5
  clear HR2
  go_wp2_with fail
  refine (taped_any _ _ (HM2.out.below (by repeat (first | with_reducible exact Below.refl _ _ | with_reducible refine Below.drew ?_ | with_reducible refine Below.setCell ?_ (by first | omega | (simp <;> omega)) _ | with_reducible refine Below.alloc ?_ (by first | omega | (simp <;> omega)) _)) (fun _ h => h)) HOK2.out hms2).mono ?_
  rintro e w4 ⟨vU, rfl, hU, hb4⟩
  have hB4 : Below w3.heap.size w3 w4 := Below.trans (by repeat (first | with_reducible exact Below.refl _ _ | with_reducible refine Below.drew ?_ | with_reducible refine Below.setCell ?_ (by first | omega | (simp <;> omega)) _ | with_reducible refine Below.alloc ?_ (by first | omega | (simp <;> omega)) _)) (hb4.mono (by first | exact Nat.le_refl _ | (simp; done) | (simp; omega)))
  have z4 := hB4.size
  replace HB := Lib.hid (HB.out.trans (hB4.mono HB.out.size))
  replace HM1 := Lib.hid (HM1.out.below hB4 (fun _ h => h))
  replace HTA := Lib.hid (HTA.out.below hB4 (fun _ h => h))
  replace BA := Lib.hid (BA.out.belowS hB4)
  replace HM2 := Lib.hid (HM2.out.below hB4 (fun _ h => h))
  obtain ⟨ad_hU, cap_hU, rfl, -, -⟩ := hU.form
  have HTB := Lib.hid (hU.mono (G' := fun _ => True) (fun _ _ => trivial))
  clear hb4 hB4 hU
  generalize recsL (m ++ [raw0]) = mt at *
  obtain ⟨B, hBe⟩ : ∃ B, B = tapeB mt := ⟨_, rfl⟩
  rw [← hBe] at HTB HJ HRB hT2 ⊢
  clear hBe
  go_upto_region 3 with fail
  obtain ⟨wb, hwb⟩ : ∃ wb, wb = (w4.alloc (.cells #[.slice ad_hU B.length cap_hU, .int .i64 0] 50)) := ⟨_, rfl⟩
  have hBw : Below w4.heap.size w4 wb := by rw [hwb]; exact (by repeat (first | with_reducible exact Below.refl _ _ | with_reducible refine Below.drew ?_ | with_reducible refine Below.setCell ?_ (by first | omega | (simp <;> omega)) _ | with_reducible refine Below.alloc ?_ (by first | omega | (simp <;> omega)) _))
  have BB := Lib.hid (show BoxAt wb (w4.heap.size) [.slice ad_hU B.length cap_hU, .int .i64 0] 50 by rw [hwb]; exact (by repeat (first | with_reducible exact BoxAt.newAt _ _ _ (by first | rfl | simp) | with_reducible refine BoxAt.drew ?_ | with_reducible refine BoxAt.alloc ?_ _ | with_reducible refine BoxAt.setOther ?_ (by first | omega | (simp <;> omega)) _)))
  rw [← hwb]
  have zwb := hBw.size
  clear hwb
  replace HB := Lib.hid (HB.out.trans (hBw.mono HB.out.size))
  replace HM1 := Lib.hid (HM1.out.below hBw (fun _ h => h))
  replace HTA := Lib.hid (HTA.out.below hBw (fun _ h => h))
  replace BA := Lib.hid (BA.out.belowS hBw)
  replace HM2 := Lib.hid (HM2.out.below hBw (fun _ h => h))
  replace HTB := Lib.hid (HTB.out.below hBw (fun _ h => h))
  clear hBw
  have zlBB := BB.out.lt
  have hJl : (A ++ B).length = A.length + B.length := List.length_append
  have hGl : (ms ++ mt).length = ms.length + mt.length := List.length_append
  have HP1 := Lib.hid (pre_app ms mt)
  have HD := Lib.hid (show (ms ++ mt).drop ms.length = mt by simp)
  obtain ⟨J, hJe⟩ : ∃ J, J = A ++ B := ⟨_, rfl⟩
  rw [← hJe] at hJl HJ
  have HJE := Lib.hid hJe
  generalize ms ++ mt = G0 at *
  have HJL := Lib.hid hJl
  have HGL := Lib.hid hGl
  clear hJe hJl hGl
  go_cut [9, 10, 11] (fun g p e wx => ∃ (X : Nat) (ad adD : Option Addr) (cap capD : Nat), g = .slice ad G0.length cap ∧ p = .pointer (some ⟨X, 0, none⟩) ∧ e = .int .i64 0 ∧ BoxAt wx X [.slice adD J.length capD, .int .i64 0] 50 ∧ RdS RMsg (fun b => b ≠ X) wx (.slice ad G0.length cap) G0 ∧ Below wb.heap.size wb wx)
  case first =>
    refine wp_region_held_drew (S := fun w' => Below wb.heap.size wb w') (by kernel_rfl) (by exact (Below.refl _ _).drew) (fun hHeld => ?_)
    refine wpAnyH_take (i := 0) (v := .pointer (some ⟨w2.heap.size, 0, none⟩)) rfl (by kernel_rfl) (by kernel_rfl) (by kernel_rfl) (fun _ _ _ h => h) (Or.inl ⟨by rfl, fun w hSw => ?_⟩) hHeld ?_
    · clear hSw; go_simp; all_goals (try first | rfl | omega)
    try simp only [Act.put, List.getElem_toArray, List.getElem_cons_succ, List.getElem_cons_zero, List.setIfInBounds_toArray, List.set_cons_zero, List.set_cons_succ]
    refine wpAnyH_take (i := 1) (v := .slice ad_hT A.length cap_hT) rfl (by kernel_rfl) (by kernel_rfl) (by kernel_rfl) (fun _ _ _ h => h) (Or.inl ⟨by rfl, fun w hSw => ?_⟩) hHeld ?_
    · have qb := BA.out.belowS hSw; have q0 := qb.cell 0 rfl; clear hSw qb; go_simp
    try simp only [Act.put, List.getElem_toArray, List.getElem_cons_succ, List.getElem_cons_zero, List.setIfInBounds_toArray, List.set_cons_zero, List.set_cons_succ]
    refine wpAnyH_take (i := 3) (v := .pointer (some ⟨w4.heap.size, 0, none⟩)) rfl (by kernel_rfl) (by kernel_rfl) (by kernel_rfl) (fun _ _ _ h => h) (Or.inl ⟨by rfl, fun w hSw => ?_⟩) hHeld ?_
    · clear hSw; go_simp; all_goals (try first | rfl | omega)
    try simp only [Act.put, List.getElem_toArray, List.getElem_cons_succ, List.getElem_cons_zero, List.setIfInBounds_toArray, List.set_cons_zero, List.set_cons_succ]
    refine wpAnyH_take (i := 4) (v := .slice ad_hU B.length cap_hU) rfl (by kernel_rfl) (by kernel_rfl) (by kernel_rfl) (fun _ _ _ h => h) (Or.inl ⟨by rfl, fun w hSw => ?_⟩) hHeld ?_
    · have qb := BB.out.belowS hSw; have q0 := qb.cell 0 rfl; clear hSw qb; go_simp
    try simp only [Act.put, List.getElem_toArray, List.getElem_cons_succ, List.getElem_cons_zero, List.setIfInBounds_toArray, List.set_cons_zero, List.set_cons_succ]
    refine wpAnyH_ready (rs := [2, 12]) (by kernel_rfl) (by simp) ?_
    refine AllReadyH.cons rfl (fun K hK => ?_) ?_
    · rw [if_pos (by rfl)]
      refine wp_append_sl _ _ 22 rfl elemB (wb.drew).heap.size (.slice none 0 0) rfl 0 [] (World.ownsRow_nil _ _ _ _) _ rfl A.length (byteVs A) (by exact (HTA.out.below hHeld (fun _ h => h)).slCells) (oneCell_map _ _ (fun _ => rfl)) (by unfold maxLen; omega) (by omega) (Nat.le_refl _) ?_
      intro va wc hown hgr
      have hbc : Below (wb.drew).heap.size wb.drew wc := (Below.refl _ _).grown hgr (Nat.le_refl _) (fun k hk => absurd hk (by simp [Value.ownBlock]))
      have HO1 := Lib.hid (show wc.ownsRow (wb.drew).heap.size 5 1 va A.length (byteVs A) by simpa using hown)
      have HZ1 := Below.size hHeld
      have zc := hbc.size
      have Hb_wc := Lib.hid (Below.trans hHeld (hbc.mono (Below.size hHeld)))
      clear hown hgr hbc
      show K _ _
      refine hK.out _ _ (by exact Hb_wc.out) (fun hHeld => ?_)
      clear hK K
      try simp only [Act.put, List.getElem_toArray, List.getElem_cons_succ, List.getElem_cons_zero, List.setIfInBounds_toArray, List.set_cons_zero, List.set_cons_succ]
      refine wpAnyH_ready (rs := [5, 12]) (by kernel_rfl) (by simp) ?_
      refine AllReadyH.cons rfl (fun K hK => ?_) ?_
      · rw [if_pos (by rfl)]
        have ho2 := ownsRow_below HO1.out (show Below wc.heap.size wc wc from (by repeat (first | with_reducible exact Below.refl _ _ | with_reducible refine Below.drew ?_ | with_reducible refine Below.setCell ?_ (by first | omega | (simp <;> omega)) _ | with_reducible refine Below.alloc ?_ (by first | omega | (simp <;> omega)) _)))
        refine wp_append_sl _ _ 22 rfl elemB (wb.drew).heap.size va rfl A.length (byteVs A) ho2 _ rfl B.length (byteVs B) (by exact (HTB.out.below hHeld (fun _ h => h)).slCells) (oneCell_map _ _ (fun _ => rfl)) (by unfold maxLen; omega) (by omega) (by first | omega | (simp; done) | (simp; omega)) ?_
        intro vb wd hown hgr
        have HVD := Lib.hid (show RdB (fun _ => True) wd vb J from RdS.of_owns (base := (wb.drew).heap.size) (e := 5) (n := A.length + B.length) (by have := HJE.out; subst this; simpa [byteVs] using hown) (fun _ _ => trivial))
        obtain ⟨ad_vb, cap_vb, rfl, -, -⟩ := HVD.out.form
        have hbd : Below wb.heap.size wb wd := Below.grown hHeld hgr (Below.size hHeld) (fun k hk => Nat.le_trans HZ1 (ownBlock_ge HO1.out k hk))
        have zd := hgr.size
        have Hb_wd := Lib.hid hbd
        clear hown hgr hbd ho2
        show K _ _
        refine hK.out _ _ (by exact Hb_wd.out) (fun hHeld => ?_)
        clear hK K
        try simp only [Act.put, List.getElem_toArray, List.getElem_cons_succ, List.getElem_cons_zero, List.setIfInBounds_toArray, List.set_cons_zero, List.set_cons_succ]
        refine wpAnyH_take (i := 6) (v := .agg #[.slice ad_vb J.length cap_vb, .int .i64 0]) rfl (by kernel_rfl) (by kernel_rfl) (by kernel_rfl) (fun _ _ _ h => h) (Or.inl ⟨by rfl, fun w hSw => ?_⟩) hHeld ?_
        · clear hSw; go_simp; all_goals (try first | rfl | omega)
        try simp only [Act.put, List.getElem_toArray, List.getElem_cons_succ, List.getElem_cons_zero, List.setIfInBounds_toArray, List.set_cons_zero, List.set_cons_succ]
        refine wpAnyH_ready (rs := [7, 12]) (by kernel_rfl) (by simp) ?_
        refine AllReadyH.cons rfl (fun K hK => ?_) ?_
        · rw [if_pos (by rfl)]
          go_simp
          go_at_call 27
          refine (trecover_ok _ J 0 _ (HVD.out.below (by repeat (first | with_reducible exact Below.refl _ _ | with_reducible refine Below.drew ?_ | with_reducible refine Below.setCell ?_ (by first | omega | (simp <;> omega)) _ | with_reducible refine Below.alloc ?_ (by first | omega | (simp <;> omega)) _)) (fun _ h => h)) (tapeOk_zero (by have := HJL.out; omega))).mono ?_
          rw [HJ.out]
          rintro e wR ⟨v6, v7, rfl, hv, hd, hb_wR⟩
          dsimp only at hv hd ⊢
          rw [List.take_length] at hd
          rw [show min (0 : Int) (J.length : Int) = 0 by omega]
          obtain ⟨ad_hv, cap_hv, rfl, -, -⟩ := hv.form
          obtain ⟨ad_hd, cap_hd, rfl, -, -⟩ := hd.form
          have zR := hb_wR.size
          have zH := Below.size hHeld
          have hB_wR : Below wb.heap.size wb wR := Below.trans hHeld (hb_wR.mono (Below.size hHeld))
          have HG := Lib.hid (hv.low (by decide))
          have HU := Lib.hid (hd)
          have Hb_wR := Lib.hid hB_wR
          clear hb_wR hB_wR hv hd
          show K _ _
          refine hK.out _ _ (by exact Hb_wR.out) (fun hHeld => ?_)
          clear hK K
          try simp only [Act.put, List.getElem_toArray, List.getElem_cons_succ, List.getElem_cons_zero, List.setIfInBounds_toArray, List.set_cons_zero, List.set_cons_succ]
          refine wpAnyH_take (i := 8) (v := .tuple #[.slice ad_hv G0.length cap_hv, .agg #[.slice ad_hd J.length cap_hd, .int .i64 0], .int .i64 0]) rfl (by kernel_rfl) (by kernel_rfl) (by kernel_rfl) (fun _ _ _ h => h) (Or.inl ⟨by rfl, fun w hSw => ?_⟩) hHeld ?_
          · clear hSw; go_simp; all_goals (try first | rfl | omega)
          try simp only [Act.put, List.getElem_toArray, List.getElem_cons_succ, List.getElem_cons_zero, List.setIfInBounds_toArray, List.set_cons_zero, List.set_cons_succ]
          refine wpAnyH_take (i := 9) (v := .slice ad_hv G0.length cap_hv) rfl (by kernel_rfl) (by kernel_rfl) (by kernel_rfl) (fun _ _ _ h => h) (Or.inl ⟨by rfl, fun w hSw => ?_⟩) hHeld ?_
          · clear hSw; go_simp; all_goals (try first | rfl | omega)
          try simp only [Act.put, List.getElem_toArray, List.getElem_cons_succ, List.getElem_cons_zero, List.setIfInBounds_toArray, List.set_cons_zero, List.set_cons_succ]
          refine wpAnyH_take (i := 10) (v := .agg #[.slice ad_hd J.length cap_hd, .int .i64 0]) rfl (by kernel_rfl) (by kernel_rfl) (by kernel_rfl) (fun _ _ _ h => h) (Or.inl ⟨by rfl, fun w hSw => ?_⟩) hHeld ?_
          · clear hSw; go_simp; all_goals (try first | rfl | omega)
          try simp only [Act.put, List.getElem_toArray, List.getElem_cons_succ, List.getElem_cons_zero, List.setIfInBounds_toArray, List.set_cons_zero, List.set_cons_succ]
          refine wpAnyH_take (i := 11) (v := .int .i64 0) rfl (by kernel_rfl) (by kernel_rfl) (by kernel_rfl) (fun _ _ _ h => h) (Or.inl ⟨by rfl, fun w hSw => ?_⟩) hHeld ?_
          · clear hSw; go_simp; all_goals (try first | rfl | omega)
          try simp only [Act.put, List.getElem_toArray, List.getElem_cons_succ, List.getElem_cons_zero, List.setIfInBounds_toArray, List.set_cons_zero, List.set_cons_succ]
          refine wpAnyH_ready (rs := [12]) (by kernel_rfl) (by simp) ?_
          refine AllReadyH.cons rfl (fun K hK => ?_) ?_
          · rw [if_pos (by rfl)]
            go_simp
            have HX120 : BoxAt (wR.alloc (.cells #[.slice none 0 0, .int .i64 0] 50)) (wR.heap.size) [.slice none 0 0, .int .i64 0] 50 := BoxAt.newAt wR [.slice none 0 0, .int .i64 0] 50 (by first | rfl | simp)
            show K _ _
            refine hK.out _ _ (by exact Below.alloc hHeld (Below.size hHeld) _) (fun hHeld => ?_)
            clear hK K
            try simp only [Act.put, List.getElem_toArray, List.getElem_cons_succ, List.getElem_cons_zero, List.setIfInBounds_toArray, List.set_cons_zero, List.set_cons_succ]
            refine wpAnyH_take (i := 13) (v := .slice ad_hv G0.length cap_hv) rfl (by kernel_rfl) (by kernel_rfl) (by kernel_rfl) (fun _ _ _ h => h) (Or.inl ⟨by rfl, fun w hSw => ?_⟩) hHeld ?_
            · clear hSw; go_simp; all_goals (try first | rfl | omega)
            try simp only [Act.put, List.getElem_toArray, List.getElem_cons_succ, List.getElem_cons_zero, List.setIfInBounds_toArray, List.set_cons_zero, List.set_cons_succ]
            refine wpAnyH_ready (rs := [14]) (by kernel_rfl) (by simp) ?_
            refine AllReadyH.cons rfl (fun K hK => ?_) ?_
            · rw [if_pos (by rfl)]
              go_simp
              show K _ _
              refine hK.out _ _ (by repeat (first | with_reducible exact hHeld | with_reducible refine Below.setCell ?_ (by first | omega | (simp <;> omega)) _ | with_reducible refine Below.alloc ?_ (by first | omega | (simp <;> omega)) _ | with_reducible exact Below.refl _ _ | with_reducible refine Below.drew ?_ | with_reducible exact Hb_wR.out)) (fun hHeld => ?_)
              clear hK K
              try simp only [Act.put, List.getElem_toArray, List.getElem_cons_succ, List.getElem_cons_zero, List.setIfInBounds_toArray, List.set_cons_zero, List.set_cons_succ]
              refine wpAnyH_take (i := 15) (v := .int .i64 0) rfl (by kernel_rfl) (by kernel_rfl) (by kernel_rfl) (fun _ _ _ h => h) (Or.inl ⟨by rfl, fun w hSw => ?_⟩) hHeld ?_
              · clear hSw; go_simp; all_goals (try first | rfl | omega)
              try simp only [Act.put, List.getElem_toArray, List.getElem_cons_succ, List.getElem_cons_zero, List.setIfInBounds_toArray, List.set_cons_zero, List.set_cons_succ]
              refine wpAnyH_done (by kernel_rfl) ?_ _
              go_wp2
              go_meet
              refine ⟨wR.heap.size, ad_hv, ad_hd, cap_hv, cap_hd, rfl, rfl, rfl, BoxAt.newAt _ [_, _] _ rfl, HG.out.keep (Keep.alloc _ _ _) (fun b hb => by have h1 := hb.1; have h2 := hb.2; first | omega | (simp at h1; omega)), Hb_wR.out.alloc Hb_wR.out.size _⟩
            exact AllReadyH.nil
          exact AllReadyH.nil
        refine AllReadyH.cons rfl (fun K hK => ?_) ?_
        · rw [if_pos (by rfl)]
          go_simp
          have HX120 : BoxAt (wd.alloc (.cells #[.slice none 0 0, .int .i64 0] 50)) (wd.heap.size) [.slice none 0 0, .int .i64 0] 50 := BoxAt.newAt wd [.slice none 0 0, .int .i64 0] 50 (by first | rfl | simp)
          show K _ _
          refine hK.out _ _ (by exact Below.alloc hHeld (Below.size hHeld) _) (fun hHeld => ?_)
          clear hK K
          try simp only [Act.put, List.getElem_toArray, List.getElem_cons_succ, List.getElem_cons_zero, List.setIfInBounds_toArray, List.set_cons_zero, List.set_cons_succ]
          refine wpAnyH_ready (rs := [7]) (by kernel_rfl) (by simp) ?_
          refine AllReadyH.cons rfl (fun K hK => ?_) ?_
          · rw [if_pos (by rfl)]
            go_simp
            go_at_call 27
            refine (trecover_ok _ J 0 _ (HVD.out.below (by repeat (first | with_reducible exact Below.refl _ _ | with_reducible refine Below.drew ?_ | with_reducible refine Below.setCell ?_ (by first | omega | (simp <;> omega)) _ | with_reducible refine Below.alloc ?_ (by first | omega | (simp <;> omega)) _)) (fun _ h => h)) (tapeOk_zero (by have := HJL.out; omega))).mono ?_
            rw [HJ.out]
            rintro e wR ⟨v6, v7, rfl, hv, hd, hb_wR⟩
            dsimp only at hv hd ⊢
            rw [List.take_length] at hd
            rw [show min (0 : Int) (J.length : Int) = 0 by omega]
            obtain ⟨ad_hv, cap_hv, rfl, -, -⟩ := hv.form
            obtain ⟨ad_hd, cap_hd, rfl, -, -⟩ := hd.form
            have zR := hb_wR.size
            have zH := Below.size hHeld
            have hB_wR : Below wb.heap.size wb wR := Below.trans hHeld (hb_wR.mono (Below.size hHeld))
            have HX12 := Lib.hid (HX120.belowS hb_wR)
            have zl_HX12 := HX120.lt
            have HG := Lib.hid (hv.low (by decide))
            have HU := Lib.hid (hd)
            have Hb_wR := Lib.hid hB_wR
            clear hb_wR hB_wR hv hd
            show K _ _
            refine hK.out _ _ (by exact Hb_wR.out) (fun hHeld => ?_)
            clear hK K
            try simp only [Act.put, List.getElem_toArray, List.getElem_cons_succ, List.getElem_cons_zero, List.setIfInBounds_toArray, List.set_cons_zero, List.set_cons_succ]
            refine wpAnyH_take (i := 8) (v := .tuple #[.slice ad_hv G0.length cap_hv, .agg #[.slice ad_hd J.length cap_hd, .int .i64 0], .int .i64 0]) rfl (by kernel_rfl) (by kernel_rfl) (by kernel_rfl) (fun _ _ _ h => h) (Or.inl ⟨by rfl, fun w hSw => ?_⟩) hHeld ?_
            · clear hSw; go_simp; all_goals (try first | rfl | omega)
            try simp only [Act.put, List.getElem_toArray, List.getElem_cons_succ, List.getElem_cons_zero, List.setIfInBounds_toArray, List.set_cons_zero, List.set_cons_succ]
            refine wpAnyH_take (i := 9) (v := .slice ad_hv G0.length cap_hv) rfl (by kernel_rfl) (by kernel_rfl) (by kernel_rfl) (fun _ _ _ h => h) (Or.inl ⟨by rfl, fun w hSw => ?_⟩) hHeld ?_
            · clear hSw; go_simp; all_goals (try first | rfl | omega)
            try simp only [Act.put, List.getElem_toArray, List.getElem_cons_succ, List.getElem_cons_zero, List.setIfInBounds_toArray, List.set_cons_zero, List.set_cons_succ]
            refine wpAnyH_take (i := 10) (v := .agg #[.slice ad_hd J.length cap_hd, .int .i64 0]) rfl (by kernel_rfl) (by kernel_rfl) (by kernel_rfl) (fun _ _ _ h => h) (Or.inl ⟨by rfl, fun w hSw => ?_⟩) hHeld ?_
            · clear hSw; go_simp; all_goals (try first | rfl | omega)
            try simp only [Act.put, List.getElem_toArray, List.getElem_cons_succ, List.getElem_cons_zero, List.setIfInBounds_toArray, List.set_cons_zero, List.set_cons_succ]
            refine wpAnyH_take (i := 11) (v := .int .i64 0) rfl (by kernel_rfl) (by kernel_rfl) (by kernel_rfl) (fun _ _ _ h => h) (Or.inl ⟨by rfl, fun w hSw => ?_⟩) hHeld ?_
            · clear hSw; go_simp; all_goals (try first | rfl | omega)
            try simp only [Act.put, List.getElem_toArray, List.getElem_cons_succ, List.getElem_cons_zero, List.setIfInBounds_toArray, List.set_cons_zero, List.set_cons_succ]
            refine wpAnyH_take (i := 13) (v := .slice ad_hv G0.length cap_hv) rfl (by kernel_rfl) (by kernel_rfl) (by kernel_rfl) (fun _ _ _ h => h) (Or.inl ⟨by rfl, fun w hSw => ?_⟩) hHeld ?_
            · clear hSw; go_simp; all_goals (try first | rfl | omega)
            try simp only [Act.put, List.getElem_toArray, List.getElem_cons_succ, List.getElem_cons_zero, List.setIfInBounds_toArray, List.set_cons_zero, List.set_cons_succ]
            refine wpAnyH_ready (rs := [14]) (by kernel_rfl) (by simp) ?_
            refine AllReadyH.cons rfl (fun K hK => ?_) ?_
            · rw [if_pos (by rfl)]
              have s0 := HX12.out.cell 0 rfl
              have sf0 := HX12.out.free 0
              have s1 := HX12.out.cell 1 rfl
              have sf1 := HX12.out.free 1
              have slt := HX12.out.lt
              go_simp
              show K _ _
              refine hK.out _ _ (by repeat (first | with_reducible exact hHeld | with_reducible refine Below.setCell ?_ (by first | omega | (simp <;> omega)) _ | with_reducible refine Below.alloc ?_ (by first | omega | (simp <;> omega)) _ | with_reducible exact Below.refl _ _ | with_reducible refine Below.drew ?_ | with_reducible exact Hb_wR.out)) (fun hHeld => ?_)
              clear hK K
              try simp only [Act.put, List.getElem_toArray, List.getElem_cons_succ, List.getElem_cons_zero, List.setIfInBounds_toArray, List.set_cons_zero, List.set_cons_succ]
              refine wpAnyH_take (i := 15) (v := .int .i64 0) rfl (by kernel_rfl) (by kernel_rfl) (by kernel_rfl) (fun _ _ _ h => h) (Or.inl ⟨by rfl, fun w hSw => ?_⟩) hHeld ?_
              · clear hSw; go_simp; all_goals (try first | rfl | omega)
              try simp only [Act.put, List.getElem_toArray, List.getElem_cons_succ, List.getElem_cons_zero, List.setIfInBounds_toArray, List.set_cons_zero, List.set_cons_succ]
              refine wpAnyH_done (by kernel_rfl) ?_ _
              go_wp2
              go_meet
              refine ⟨wd.heap.size, ad_hv, ad_hd, cap_hv, cap_hd, rfl, rfl, rfl, HX12.out.set2 _ _, HG.out.keep ((Keep.setCell (p := ⟨wd.heap.size, 0, none⟩) (by first | (simp; done) | (simp; omega)) _).trans (Keep.setCell (p := ⟨wd.heap.size, 1, none⟩) (by first | (simp; done) | (simp; omega)) _)) (fun b hb => by have h1 := hb.1; have h2 := hb.2; first | omega | (simp at h1; omega)), (Hb_wR.out.setCell (by first | omega | (simp; done) | (simp; omega)) _).setCell (by first | omega | (simp; done) | (simp; omega)) _⟩
            exact AllReadyH.nil
          exact AllReadyH.nil
        exact AllReadyH.nil
      refine AllReadyH.cons rfl (fun K hK => ?_) ?_
      · rw [if_pos (by rfl)]
        go_simp
        have HX120 : BoxAt (wc.alloc (.cells #[.slice none 0 0, .int .i64 0] 50)) (wc.heap.size) [.slice none 0 0, .int .i64 0] 50 := BoxAt.newAt wc [.slice none 0 0, .int .i64 0] 50 (by first | rfl | simp)
        show K _ _
        refine hK.out _ _ (by exact Below.alloc hHeld (Below.size hHeld) _) (fun hHeld => ?_)
        clear hK K
        try simp only [Act.put, List.getElem_toArray, List.getElem_cons_succ, List.getElem_cons_zero, List.setIfInBounds_toArray, List.set_cons_zero, List.set_cons_succ]
        refine wpAnyH_ready (rs := [5]) (by kernel_rfl) (by simp) ?_
        refine AllReadyH.cons rfl (fun K hK => ?_) ?_
        · rw [if_pos (by rfl)]
          have ho2 := ownsRow_below HO1.out (show Below wc.heap.size wc ((wc.alloc (.cells #[.slice none 0 0, .int .i64 0] 50))) from (by repeat (first | with_reducible exact Below.refl _ _ | with_reducible refine Below.drew ?_ | with_reducible refine Below.setCell ?_ (by first | omega | (simp <;> omega)) _ | with_reducible refine Below.alloc ?_ (by first | omega | (simp <;> omega)) _)))
          refine wp_append_sl _ _ 22 rfl elemB (wb.drew).heap.size va rfl A.length (byteVs A) ho2 _ rfl B.length (byteVs B) (by exact (HTB.out.below hHeld (fun _ h => h)).slCells) (oneCell_map _ _ (fun _ => rfl)) (by unfold maxLen; omega) (by omega) (by first | omega | (simp; done) | (simp; omega)) ?_
          intro vb wd hown hgr
          have HVD := Lib.hid (show RdB (fun _ => True) wd vb J from RdS.of_owns (base := (wb.drew).heap.size) (e := 5) (n := A.length + B.length) (by have := HJE.out; subst this; simpa [byteVs] using hown) (fun _ _ => trivial))
          obtain ⟨ad_vb, cap_vb, rfl, -, -⟩ := HVD.out.form
          have hbd : Below wb.heap.size wb wd := Below.grown hHeld hgr (Below.size hHeld) (fun k hk => Nat.le_trans HZ1 (ownBlock_ge HO1.out k hk))
          have zd := hgr.size
          have zl_HX12 := HX120.lt
          have HX12 := Lib.hid (BoxAt.grown HX120 hgr (fun e => by have h1 := (HO1.out.lt _ e); first | omega | (simp at h1; omega)))
          have Hb_wd := Lib.hid hbd
          clear hown hgr hbd ho2
          show K _ _
          refine hK.out _ _ (by exact Hb_wd.out) (fun hHeld => ?_)
          clear hK K
          try simp only [Act.put, List.getElem_toArray, List.getElem_cons_succ, List.getElem_cons_zero, List.setIfInBounds_toArray, List.set_cons_zero, List.set_cons_succ]
          refine wpAnyH_take (i := 6) (v := .agg #[.slice ad_vb J.length cap_vb, .int .i64 0]) rfl (by kernel_rfl) (by kernel_rfl) (by kernel_rfl) (fun _ _ _ h => h) (Or.inl ⟨by rfl, fun w hSw => ?_⟩) hHeld ?_
          · clear hSw; go_simp; all_goals (try first | rfl | omega)
          try simp only [Act.put, List.getElem_toArray, List.getElem_cons_succ, List.getElem_cons_zero, List.setIfInBounds_toArray, List.set_cons_zero, List.set_cons_succ]
          refine wpAnyH_ready (rs := [7]) (by kernel_rfl) (by simp) ?_
          refine AllReadyH.cons rfl (fun K hK => ?_) ?_
          · rw [if_pos (by rfl)]
            go_simp
            go_at_call 27
            refine (trecover_ok _ J 0 _ (HVD.out.below (by repeat (first | with_reducible exact Below.refl _ _ | with_reducible refine Below.drew ?_ | with_reducible refine Below.setCell ?_ (by first | omega | (simp <;> omega)) _ | with_reducible refine Below.alloc ?_ (by first | omega | (simp <;> omega)) _)) (fun _ h => h)) (tapeOk_zero (by have := HJL.out; omega))).mono ?_
            rw [HJ.out]
            rintro e wR ⟨v6, v7, rfl, hv, hd, hb_wR⟩
            dsimp only at hv hd ⊢
            rw [List.take_length] at hd
            rw [show min (0 : Int) (J.length : Int) = 0 by omega]
            obtain ⟨ad_hv, cap_hv, rfl, -, -⟩ := hv.form
            obtain ⟨ad_hd, cap_hd, rfl, -, -⟩ := hd.form
            have zR := hb_wR.size
            have zH := Below.size hHeld
            have hB_wR : Below wb.heap.size wb wR := Below.trans hHeld (hb_wR.mono (Below.size hHeld))
            have zl_HX12 := HX12.out.lt
            replace HX12 := Lib.hid (HX12.out.belowS hb_wR)
            have HG := Lib.hid (hv.low (by decide))
            have HU := Lib.hid (hd)
            have Hb_wR := Lib.hid hB_wR
            clear hb_wR hB_wR hv hd
            show K _ _
            refine hK.out _ _ (by exact Hb_wR.out) (fun hHeld => ?_)
            clear hK K
            try simp only [Act.put, List.getElem_toArray, List.getElem_cons_succ, List.getElem_cons_zero, List.setIfInBounds_toArray, List.set_cons_zero, List.set_cons_succ]
            refine wpAnyH_take (i := 8) (v := .tuple #[.slice ad_hv G0.length cap_hv, .agg #[.slice ad_hd J.length cap_hd, .int .i64 0], .int .i64 0]) rfl (by kernel_rfl) (by kernel_rfl) (by kernel_rfl) (fun _ _ _ h => h) (Or.inl ⟨by rfl, fun w hSw => ?_⟩) hHeld ?_
            · clear hSw; go_simp; all_goals (try first | rfl | omega)
            try simp only [Act.put, List.getElem_toArray, List.getElem_cons_succ, List.getElem_cons_zero, List.setIfInBounds_toArray, List.set_cons_zero, List.set_cons_succ]
            refine wpAnyH_take (i := 9) (v := .slice ad_hv G0.length cap_hv) rfl (by kernel_rfl) (by kernel_rfl) (by kernel_rfl) (fun _ _ _ h => h) (Or.inl ⟨by rfl, fun w hSw => ?_⟩) hHeld ?_
            · clear hSw; go_simp; all_goals (try first | rfl | omega)
            try simp only [Act.put, List.getElem_toArray, List.getElem_cons_succ, List.getElem_cons_zero, List.setIfInBounds_toArray, List.set_cons_zero, List.set_cons_succ]
            refine wpAnyH_take (i := 10) (v := .agg #[.slice ad_hd J.length cap_hd, .int .i64 0]) rfl (by kernel_rfl) (by kernel_rfl) (by kernel_rfl) (fun _ _ _ h => h) (Or.inl ⟨by rfl, fun w hSw => ?_⟩) hHeld ?_
            · clear hSw; go_simp; all_goals (try first | rfl | omega)
            try simp only [Act.put, List.getElem_toArray, List.getElem_cons_succ, List.getElem_cons_zero, List.setIfInBounds_toArray, List.set_cons_zero, List.set_cons_succ]
            refine wpAnyH_take (i := 11) (v := .int .i64 0) rfl (by kernel_rfl) (by kernel_rfl) (by kernel_rfl) (fun _ _ _ h => h) (Or.inl ⟨by rfl, fun w hSw => ?_⟩) hHeld ?_
            · clear hSw; go_simp; all_goals (try first | rfl | omega)
            try simp only [Act.put, List.getElem_toArray, List.getElem_cons_succ, List.getElem_cons_zero, List.setIfInBounds_toArray, List.set_cons_zero, List.set_cons_succ]
            refine wpAnyH_take (i := 13) (v := .slice ad_hv G0.length cap_hv) rfl (by kernel_rfl) (by kernel_rfl) (by kernel_rfl) (fun _ _ _ h => h) (Or.inl ⟨by rfl, fun w hSw => ?_⟩) hHeld ?_
            · clear hSw; go_simp; all_goals (try first | rfl | omega)
            try simp only [Act.put, List.getElem_toArray, List.getElem_cons_succ, List.getElem_cons_zero, List.setIfInBounds_toArray, List.set_cons_zero, List.set_cons_succ]
            refine wpAnyH_ready (rs := [14]) (by kernel_rfl) (by simp) ?_
            refine AllReadyH.cons rfl (fun K hK => ?_) ?_
            · rw [if_pos (by rfl)]
              have s0 := HX12.out.cell 0 rfl
              have sf0 := HX12.out.free 0
              have s1 := HX12.out.cell 1 rfl
              have sf1 := HX12.out.free 1
              have slt := HX12.out.lt
              go_simp
              show K _ _
              refine hK.out _ _ (by repeat (first | with_reducible exact hHeld | with_reducible refine Below.setCell ?_ (by first | omega | (simp <;> omega)) _ | with_reducible refine Below.alloc ?_ (by first | omega | (simp <;> omega)) _ | with_reducible exact Below.refl _ _ | with_reducible refine Below.drew ?_ | with_reducible exact Hb_wR.out)) (fun hHeld => ?_)
              clear hK K
              try simp only [Act.put, List.getElem_toArray, List.getElem_cons_succ, List.getElem_cons_zero, List.setIfInBounds_toArray, List.set_cons_zero, List.set_cons_succ]
              refine wpAnyH_take (i := 15) (v := .int .i64 0) rfl (by kernel_rfl) (by kernel_rfl) (by kernel_rfl) (fun _ _ _ h => h) (Or.inl ⟨by rfl, fun w hSw => ?_⟩) hHeld ?_
              · clear hSw; go_simp; all_goals (try first | rfl | omega)
              try simp only [Act.put, List.getElem_toArray, List.getElem_cons_succ, List.getElem_cons_zero, List.setIfInBounds_toArray, List.set_cons_zero, List.set_cons_succ]
              refine wpAnyH_done (by kernel_rfl) ?_ _
              go_wp2
              go_meet
              refine ⟨wc.heap.size, ad_hv, ad_hd, cap_hv, cap_hd, rfl, rfl, rfl, HX12.out.set2 _ _, HG.out.keep ((Keep.setCell (p := ⟨wc.heap.size, 0, none⟩) (by first | (simp; done) | (simp; omega)) _).trans (Keep.setCell (p := ⟨wc.heap.size, 1, none⟩) (by first | (simp; done) | (simp; omega)) _)) (fun b hb => by have h1 := hb.1; have h2 := hb.2; first | omega | (simp at h1; omega)), (Hb_wR.out.setCell (by first | omega | (simp; done) | (simp; omega)) _).setCell (by first | omega | (simp; done) | (simp; omega)) _⟩
            exact AllReadyH.nil
          exact AllReadyH.nil
        exact AllReadyH.nil
      exact AllReadyH.nil
    refine AllReadyH.cons rfl (fun K hK => ?_) ?_
    · rw [if_pos (by rfl)]
      go_simp
      have HX120 : BoxAt (wb.drew.alloc (.cells #[.slice none 0 0, .int .i64 0] 50)) (wb.heap.size) [.slice none 0 0, .int .i64 0] 50 := BoxAt.newAt wb.drew [.slice none 0 0, .int .i64 0] 50 (by first | rfl | simp)
      show K _ _
      refine hK.out _ _ (by exact Below.alloc hHeld (Below.size hHeld) _) (fun hHeld => ?_)
      clear hK K
      try simp only [Act.put, List.getElem_toArray, List.getElem_cons_succ, List.getElem_cons_zero, List.setIfInBounds_toArray, List.set_cons_zero, List.set_cons_succ]
      refine wpAnyH_ready (rs := [2]) (by kernel_rfl) (by simp) ?_
      refine AllReadyH.cons rfl (fun K hK => ?_) ?_
      · rw [if_pos (by rfl)]
        refine wp_append_sl _ _ 22 rfl elemB (((wb.drew.alloc (.cells #[.slice none 0 0, .int .i64 0] 50)))).heap.size (.slice none 0 0) rfl 0 [] (World.ownsRow_nil _ _ _ _) _ rfl A.length (byteVs A) (by exact (HTA.out.below hHeld (fun _ h => h)).slCells) (oneCell_map _ _ (fun _ => rfl)) (by unfold maxLen; omega) (by omega) (Nat.le_refl _) ?_
        intro va wc hown hgr
        have hbc : Below (((wb.drew.alloc (.cells #[.slice none 0 0, .int .i64 0] 50)))).heap.size ((wb.drew.alloc (.cells #[.slice none 0 0, .int .i64 0] 50))) wc := (Below.refl _ _).grown hgr (Nat.le_refl _) (fun k hk => absurd hk (by simp [Value.ownBlock]))
        have HO1 := Lib.hid (show wc.ownsRow (((wb.drew.alloc (.cells #[.slice none 0 0, .int .i64 0] 50)))).heap.size 5 1 va A.length (byteVs A) by simpa using hown)
        have HZ1 := Below.size hHeld
        have zc := hbc.size
        have zl_HX12 := HX120.lt
        have HX12 := Lib.hid (HX120.belowS hbc)
        have Hb_wc := Lib.hid (Below.trans hHeld (hbc.mono (Below.size hHeld)))
        clear hown hgr hbc
        show K _ _
        refine hK.out _ _ (by exact Hb_wc.out) (fun hHeld => ?_)
        clear hK K
        try simp only [Act.put, List.getElem_toArray, List.getElem_cons_succ, List.getElem_cons_zero, List.setIfInBounds_toArray, List.set_cons_zero, List.set_cons_succ]
        refine wpAnyH_ready (rs := [5]) (by kernel_rfl) (by simp) ?_
        refine AllReadyH.cons rfl (fun K hK => ?_) ?_
        · rw [if_pos (by rfl)]
          have ho2 := ownsRow_below HO1.out (show Below wc.heap.size wc wc from (by repeat (first | with_reducible exact Below.refl _ _ | with_reducible refine Below.drew ?_ | with_reducible refine Below.setCell ?_ (by first | omega | (simp <;> omega)) _ | with_reducible refine Below.alloc ?_ (by first | omega | (simp <;> omega)) _)))
          refine wp_append_sl _ _ 22 rfl elemB (((wb.drew.alloc (.cells #[.slice none 0 0, .int .i64 0] 50)))).heap.size va rfl A.length (byteVs A) ho2 _ rfl B.length (byteVs B) (by exact (HTB.out.below hHeld (fun _ h => h)).slCells) (oneCell_map _ _ (fun _ => rfl)) (by unfold maxLen; omega) (by omega) (by first | omega | (simp; done) | (simp; omega)) ?_
          intro vb wd hown hgr
          have HVD := Lib.hid (show RdB (fun _ => True) wd vb J from RdS.of_owns (base := (((wb.drew.alloc (.cells #[.slice none 0 0, .int .i64 0] 50)))).heap.size) (e := 5) (n := A.length + B.length) (by have := HJE.out; subst this; simpa [byteVs] using hown) (fun _ _ => trivial))
          obtain ⟨ad_vb, cap_vb, rfl, -, -⟩ := HVD.out.form
          have hbd : Below wb.heap.size wb wd := Below.grown hHeld hgr (Below.size hHeld) (fun k hk => Nat.le_trans HZ1 (ownBlock_ge HO1.out k hk))
          have zd := hgr.size
          have zl_HX12 := HX12.out.lt
          replace HX12 := Lib.hid (BoxAt.grown HX12.out hgr (fun e => by have h1 := (HO1.out.lt _ e); first | omega | (simp at h1; omega)))
          have Hb_wd := Lib.hid hbd
          clear hown hgr hbd ho2
          show K _ _
          refine hK.out _ _ (by exact Hb_wd.out) (fun hHeld => ?_)
          clear hK K
          try simp only [Act.put, List.getElem_toArray, List.getElem_cons_succ, List.getElem_cons_zero, List.setIfInBounds_toArray, List.set_cons_zero, List.set_cons_succ]
          refine wpAnyH_take (i := 6) (v := .agg #[.slice ad_vb J.length cap_vb, .int .i64 0]) rfl (by kernel_rfl) (by kernel_rfl) (by kernel_rfl) (fun _ _ _ h => h) (Or.inl ⟨by rfl, fun w hSw => ?_⟩) hHeld ?_
          · clear hSw; go_simp; all_goals (try first | rfl | omega)
          try simp only [Act.put, List.getElem_toArray, List.getElem_cons_succ, List.getElem_cons_zero, List.setIfInBounds_toArray, List.set_cons_zero, List.set_cons_succ]
          refine wpAnyH_ready (rs := [7]) (by kernel_rfl) (by simp) ?_
          refine AllReadyH.cons rfl (fun K hK => ?_) ?_
          · rw [if_pos (by rfl)]
            go_simp
            go_at_call 27
            refine (trecover_ok _ J 0 _ (HVD.out.below (by repeat (first | with_reducible exact Below.refl _ _ | with_reducible refine Below.drew ?_ | with_reducible refine Below.setCell ?_ (by first | omega | (simp <;> omega)) _ | with_reducible refine Below.alloc ?_ (by first | omega | (simp <;> omega)) _)) (fun _ h => h)) (tapeOk_zero (by have := HJL.out; omega))).mono ?_
            rw [HJ.out]
            rintro e wR ⟨v6, v7, rfl, hv, hd, hb_wR⟩
            dsimp only at hv hd ⊢
            rw [List.take_length] at hd
            rw [show min (0 : Int) (J.length : Int) = 0 by omega]
            obtain ⟨ad_hv, cap_hv, rfl, -, -⟩ := hv.form
            obtain ⟨ad_hd, cap_hd, rfl, -, -⟩ := hd.form
            have zR := hb_wR.size
            have zH := Below.size hHeld
            have hB_wR : Below wb.heap.size wb wR := Below.trans hHeld (hb_wR.mono (Below.size hHeld))
            have zl_HX12 := HX12.out.lt
            replace HX12 := Lib.hid (HX12.out.belowS hb_wR)
            have HG := Lib.hid (hv.low (by decide))
            have HU := Lib.hid (hd)
            have Hb_wR := Lib.hid hB_wR
            clear hb_wR hB_wR hv hd
            show K _ _
            refine hK.out _ _ (by exact Hb_wR.out) (fun hHeld => ?_)
            clear hK K
            try simp only [Act.put, List.getElem_toArray, List.getElem_cons_succ, List.getElem_cons_zero, List.setIfInBounds_toArray, List.set_cons_zero, List.set_cons_succ]
            refine wpAnyH_take (i := 8) (v := .tuple #[.slice ad_hv G0.length cap_hv, .agg #[.slice ad_hd J.length cap_hd, .int .i64 0], .int .i64 0]) rfl (by kernel_rfl) (by kernel_rfl) (by kernel_rfl) (fun _ _ _ h => h) (Or.inl ⟨by rfl, fun w hSw => ?_⟩) hHeld ?_
            · clear hSw; go_simp; all_goals (try first | rfl | omega)
            try simp only [Act.put, List.getElem_toArray, List.getElem_cons_succ, List.getElem_cons_zero, List.setIfInBounds_toArray, List.set_cons_zero, List.set_cons_succ]
            refine wpAnyH_take (i := 9) (v := .slice ad_hv G0.length cap_hv) rfl (by kernel_rfl) (by kernel_rfl) (by kernel_rfl) (fun _ _ _ h => h) (Or.inl ⟨by rfl, fun w hSw => ?_⟩) hHeld ?_
            · clear hSw; go_simp; all_goals (try first | rfl | omega)
            try simp only [Act.put, List.getElem_toArray, List.getElem_cons_succ, List.getElem_cons_zero, List.setIfInBounds_toArray, List.set_cons_zero, List.set_cons_succ]
            refine wpAnyH_take (i := 10) (v := .agg #[.slice ad_hd J.length cap_hd, .int .i64 0]) rfl (by kernel_rfl) (by kernel_rfl) (by kernel_rfl) (fun _ _ _ h => h) (Or.inl ⟨by rfl, fun w hSw => ?_⟩) hHeld ?_
            · clear hSw; go_simp; all_goals (try first | rfl | omega)
            try simp only [Act.put, List.getElem_toArray, List.getElem_cons_succ, List.getElem_cons_zero, List.setIfInBounds_toArray, List.set_cons_zero, List.set_cons_succ]
            refine wpAnyH_take (i := 11) (v := .int .i64 0) rfl (by kernel_rfl) (by kernel_rfl) (by kernel_rfl) (fun _ _ _ h => h) (Or.inl ⟨by rfl, fun w hSw => ?_⟩) hHeld ?_
            · clear hSw; go_simp; all_goals (try first | rfl | omega)
            try simp only [Act.put, List.getElem_toArray, List.getElem_cons_succ, List.getElem_cons_zero, List.setIfInBounds_toArray, List.set_cons_zero, List.set_cons_succ]
            refine wpAnyH_take (i := 13) (v := .slice ad_hv G0.length cap_hv) rfl (by kernel_rfl) (by kernel_rfl) (by kernel_rfl) (fun _ _ _ h => h) (Or.inl ⟨by rfl, fun w hSw => ?_⟩) hHeld ?_
            · clear hSw; go_simp; all_goals (try first | rfl | omega)
            try simp only [Act.put, List.getElem_toArray, List.getElem_cons_succ, List.getElem_cons_zero, List.setIfInBounds_toArray, List.set_cons_zero, List.set_cons_succ]
            refine wpAnyH_ready (rs := [14]) (by kernel_rfl) (by simp) ?_
            refine AllReadyH.cons rfl (fun K hK => ?_) ?_
            · rw [if_pos (by rfl)]
              have s0 := HX12.out.cell 0 rfl
              have sf0 := HX12.out.free 0
              have s1 := HX12.out.cell 1 rfl
              have sf1 := HX12.out.free 1
              have slt := HX12.out.lt
              go_simp
              show K _ _
              refine hK.out _ _ (by repeat (first | with_reducible exact hHeld | with_reducible refine Below.setCell ?_ (by first | omega | (simp <;> omega)) _ | with_reducible refine Below.alloc ?_ (by first | omega | (simp <;> omega)) _ | with_reducible exact Below.refl _ _ | with_reducible refine Below.drew ?_ | with_reducible exact Hb_wR.out)) (fun hHeld => ?_)
              clear hK K
              try simp only [Act.put, List.getElem_toArray, List.getElem_cons_succ, List.getElem_cons_zero, List.setIfInBounds_toArray, List.set_cons_zero, List.set_cons_succ]
              refine wpAnyH_take (i := 15) (v := .int .i64 0) rfl (by kernel_rfl) (by kernel_rfl) (by kernel_rfl) (fun _ _ _ h => h) (Or.inl ⟨by rfl, fun w hSw => ?_⟩) hHeld ?_
              · clear hSw; go_simp; all_goals (try first | rfl | omega)
              try simp only [Act.put, List.getElem_toArray, List.getElem_cons_succ, List.getElem_cons_zero, List.setIfInBounds_toArray, List.set_cons_zero, List.set_cons_succ]
              refine wpAnyH_done (by kernel_rfl) ?_ _
              go_wp2
              go_meet
              refine ⟨wb.heap.size, ad_hv, ad_hd, cap_hv, cap_hd, rfl, rfl, rfl, HX12.out.set2 _ _, HG.out.keep ((Keep.setCell (p := ⟨wb.heap.size, 0, none⟩) (by first | (simp; done) | (simp; omega)) _).trans (Keep.setCell (p := ⟨wb.heap.size, 1, none⟩) (by first | (simp; done) | (simp; omega)) _)) (fun b hb => by have h1 := hb.1; have h2 := hb.2; first | omega | (simp at h1; omega)), (Hb_wR.out.setCell (by first | omega | (simp; done) | (simp; omega)) _).setCell (by first | omega | (simp; done) | (simp; omega)) _⟩
            exact AllReadyH.nil
          exact AllReadyH.nil
        exact AllReadyH.nil
      exact AllReadyH.nil
    exact AllReadyH.nil
  case rest =>
    obtain ⟨X, ad_v6, adD, cap_v6, capD, rfl, rfl, rfl, hX, hGr, hB9⟩ := hcut
    replace HB := Lib.hid (HB.out.trans (hB9.mono HB.out.size))
    replace HM1 := Lib.hid (HM1.out.below hB9 (fun _ h => h))
    replace HTA := Lib.hid (HTA.out.below hB9 (fun _ h => h))
    replace BA := Lib.hid (BA.out.belowS hB9)
    replace HM2 := Lib.hid (HM2.out.below hB9 (fun _ h => h))
    replace HTB := Lib.hid (HTB.out.below hB9 (fun _ h => h))
    replace BB := Lib.hid (BB.out.belowS hB9)
    have BG := Lib.hid hX
    have HG := Lib.hid hGr
    clear hX hGr hB9
    have a0 := BA.out.cell 0 rfl
    have a1 := BA.out.cell 1 rfl
    have zBA := BA.out.lt
    go_wp2_with fail
    refine (trecover_ok _ A 0 _ (HTA.out.below (by repeat (first | with_reducible exact Below.refl _ _ | with_reducible refine Below.drew ?_ | with_reducible refine Below.setCell ?_ (by first | omega | (simp <;> omega)) _ | with_reducible refine Below.alloc ?_ (by first | omega | (simp <;> omega)) _)) (fun _ h => h)) (tapeOk_zero (by omega))).mono ?_
    rw [HRA.out]
    rintro e w5 ⟨v8, v9, rfl, hv8, hv9, hb5⟩
    have hB5 : Below wc.heap.size wc w5 := Below.trans (by repeat (first | with_reducible exact Below.refl _ _ | with_reducible refine Below.drew ?_ | with_reducible refine Below.setCell ?_ (by first | omega | (simp <;> omega)) _ | with_reducible refine Below.alloc ?_ (by first | omega | (simp <;> omega)) _)) (hb5.mono (by first | exact Nat.le_refl _ | (simp; done) | (simp; omega)))
    have z5 := hB5.size
    replace HB := Lib.hid (HB.out.trans (hB5.mono HB.out.size))
    replace HM1 := Lib.hid (HM1.out.below hB5 (fun _ h => h))
    replace HTA := Lib.hid (HTA.out.below hB5 (fun _ h => h))
    replace BA := Lib.hid (BA.out.belowS hB5)
    replace HM2 := Lib.hid (HM2.out.below hB5 (fun _ h => h))
    replace HTB := Lib.hid (HTB.out.below hB5 (fun _ h => h))
    replace BB := Lib.hid (BB.out.belowS hB5)
    replace BG := Lib.hid (BG.out.belowS hB5)
    replace HG := Lib.hid (HG.out.below hB5 (fun _ h => h))
    clear a0 a1 zBA
    dsimp only at hv8 hv9 ⊢
    rw [List.take_length] at hv9
    rw [show min (0 : Int) (A.length : Int) = 0 by omega]
    obtain ⟨ad_v8, cap_v8, rfl, -, -⟩ := hv8.form
    obtain ⟨ad_v9, cap_v9, rfl, -, -⟩ := hv9.form
    have HX := Lib.hid (hv8.mono (G' := fun _ => True) (fun _ _ => trivial))
    have HXD := Lib.hid (hv9.mono (G' := fun _ => True) (fun _ _ => trivial))
    clear hb5 hB5 hv8 hv9
    have b0 := BB.out.cell 0 rfl
    have b1 := BB.out.cell 1 rfl
    have zBB := BB.out.lt
    go_wp2_with fail
    refine (trecover_ok _ B 0 _ (HTB.out.below (by repeat (first | with_reducible exact Below.refl _ _ | with_reducible refine Below.drew ?_ | with_reducible refine Below.setCell ?_ (by first | omega | (simp <;> omega)) _ | with_reducible refine Below.alloc ?_ (by first | omega | (simp <;> omega)) _)) (fun _ h => h)) (tapeOk_zero (by omega))).mono ?_
    rw [HRB.out]
    rintro e w6 ⟨va2, vb2, rfl, hva2, hvb2, hb6⟩
    have hB6 : Below w5.heap.size w5 w6 := Below.trans (by repeat (first | with_reducible exact Below.refl _ _ | with_reducible refine Below.drew ?_ | with_reducible refine Below.setCell ?_ (by first | omega | (simp <;> omega)) _ | with_reducible refine Below.alloc ?_ (by first | omega | (simp <;> omega)) _)) (hb6.mono (by first | exact Nat.le_refl _ | (simp; done) | (simp; omega)))
    have z6 := hB6.size
    have BX := Lib.hid (BoxAt.belowS (show BoxAt _ (w5.heap.size) [.slice ad_v9 A.length cap_v9, .int .i64 0] 50 from (by repeat (first | with_reducible exact BoxAt.newAt _ _ _ (by first | rfl | simp) | with_reducible refine BoxAt.drew ?_ | with_reducible refine BoxAt.alloc ?_ _ | with_reducible refine BoxAt.setOther ?_ (by first | omega | (simp <;> omega)) _))) hb6)
    replace HB := Lib.hid (HB.out.trans (hB6.mono HB.out.size))
    replace HM1 := Lib.hid (HM1.out.below hB6 (fun _ h => h))
    replace HTA := Lib.hid (HTA.out.below hB6 (fun _ h => h))
    replace BA := Lib.hid (BA.out.belowS hB6)
    replace HM2 := Lib.hid (HM2.out.below hB6 (fun _ h => h))
    replace HTB := Lib.hid (HTB.out.below hB6 (fun _ h => h))
    replace BB := Lib.hid (BB.out.belowS hB6)
    replace BG := Lib.hid (BG.out.belowS hB6)
    replace HG := Lib.hid (HG.out.below hB6 (fun _ h => h))
    replace HX := Lib.hid (HX.out.below hB6 (fun _ h => h))
    replace HXD := Lib.hid (HXD.out.below hB6 (fun _ h => h))
    clear b0 b1 zBB
    dsimp only at hva2 hvb2 ⊢
    rw [List.take_length] at hvb2
    rw [show min (0 : Int) (B.length : Int) = 0 by omega]
    obtain ⟨ad_va2, cap_va2, rfl, -, -⟩ := hva2.form
    obtain ⟨ad_vb2, cap_vb2, rfl, -, -⟩ := hvb2.form
    have HY := Lib.hid (hva2.mono (G' := fun _ => True) (fun _ _ => trivial))
    have HYD := Lib.hid (hvb2.mono (G' := fun _ => True) (fun _ _ => trivial))
    clear hb6 hB6 hva2 hvb2
    have hGl := HGL.out
    have hJl := HJL.out
    have e1 : ((G0.length : Int) == (ms.length : Int) + (mt.length : Int)) = true := beq_iff_eq.2 (by omega)
    have wsl : IntKind.i64.wrap ((ms.length : Int) + (mt.length : Int)) = (ms.length : Int) + (mt.length : Int) := IntWalk.i64_in _ (by omega)
    have wsB : IntKind.i64.wrap ((A.length : Int) + (B.length : Int)) = (A.length : Int) + (B.length : Int) := IntWalk.i64_in _ (by omega)
    have e3 : ((J.length : Int) == (A.length : Int) + (B.length : Int)) = true := beq_iff_eq.2 (by omega)
    have e2 : ((mt.length : Int) == 0) = false := beq_eq_false_iff_ne.2 (by omega)
    have e4 : ((G0.length : Int) != (ms.length : Int) + (mt.length : Int)) = false := by simp only [bne, e1, Bool.not_true]
    have hcg := HG.out.len.2.1
    have i9 : (ms.length : Int) ≤ (G0.length : Int) := by omega
    have i8 : (0 : Int) ≤ (ms.length : Int) := by omega
    have hcap : ¬ cap_v6 = ms.length := by omega
    have hdr := HG.out.sliceL ms.length (by omega)
    rw [if_neg hcap] at hdr
    simp only [show RMsg.size = 19 from rfl] at hdr
    have HDR := Lib.hid hdr
    clear hdr hGl hJl
    have HPm := Lib.hid (show Pre mt (G0.drop ms.length) by rw [HD.out]; exact pre_self mt)
    go_wp2_with fail
    refine (begins_pre _ _ _ (HX.out.below (by repeat (first | with_reducible exact Below.refl _ _ | with_reducible refine Below.drew ?_ | with_reducible refine Below.setCell ?_ (by first | omega | (simp <;> omega)) _ | with_reducible refine Below.alloc ?_ (by first | omega | (simp <;> omega)) _)) (fun _ h => h)) (HG.out.below (by repeat (first | with_reducible exact Below.refl _ _ | with_reducible refine Below.drew ?_ | with_reducible refine Below.setCell ?_ (by first | omega | (simp <;> omega)) _ | with_reducible refine Below.alloc ?_ (by first | omega | (simp <;> omega)) _)) (fun _ h => h)) HP1.out).mono ?_
    rintro e w7 ⟨rfl, hb7⟩
    have hB7 : Below w6.heap.size w6 w7 := Below.trans (by repeat (first | with_reducible exact Below.refl _ _ | with_reducible refine Below.drew ?_ | with_reducible refine Below.setCell ?_ (by first | omega | (simp <;> omega)) _ | with_reducible refine Below.alloc ?_ (by first | omega | (simp <;> omega)) _)) (hb7.mono (by first | exact Nat.le_refl _ | (simp; done) | (simp; omega)))
    have z7 := hB7.size
    have BY := Lib.hid (BoxAt.belowS (show BoxAt _ (w6.heap.size) [.slice ad_vb2 B.length cap_vb2, .int .i64 0] 50 from (by repeat (first | with_reducible exact BoxAt.newAt _ _ _ (by first | rfl | simp) | with_reducible refine BoxAt.drew ?_ | with_reducible refine BoxAt.alloc ?_ _ | with_reducible refine BoxAt.setOther ?_ (by first | omega | (simp <;> omega)) _))) hb7)
    replace HB := Lib.hid (HB.out.trans (hB7.mono HB.out.size))
    replace HM1 := Lib.hid (HM1.out.below hB7 (fun _ h => h))
    replace HTA := Lib.hid (HTA.out.below hB7 (fun _ h => h))
    replace BA := Lib.hid (BA.out.belowS hB7)
    replace HM2 := Lib.hid (HM2.out.below hB7 (fun _ h => h))
    replace HTB := Lib.hid (HTB.out.below hB7 (fun _ h => h))
    replace BB := Lib.hid (BB.out.belowS hB7)
    replace BG := Lib.hid (BG.out.belowS hB7)
    replace HG := Lib.hid (HG.out.below hB7 (fun _ h => h))
    replace HX := Lib.hid (HX.out.below hB7 (fun _ h => h))
    replace HXD := Lib.hid (HXD.out.below hB7 (fun _ h => h))
    replace BX := Lib.hid (BX.out.belowS hB7)
    replace HY := Lib.hid (HY.out.below hB7 (fun _ h => h))
    replace HYD := Lib.hid (HYD.out.below hB7 (fun _ h => h))
    replace HDR := Lib.hid (HDR.out.below hB7 (fun _ h => h))
    clear hb7 hB7
    have a0 := BA.out.cell 0 rfl
    have zBA := BA.out.lt
    have b0 := BB.out.cell 0 rfl
    have zBB := BB.out.lt
    have g0 := BG.out.cell 0 rfl
    have zBG := BG.out.lt
    go_wp2_with fail
    refine (begins_pre (b := G0.drop ms.length) _ _ w7 HY.out HDR.out HPm.out).mono ?_
    rintro e wZ ⟨rfl, hbZ⟩
    have HBZ := Lib.hid (HB.out.trans (hbZ.mono HB.out.size))
    have ya := (BA.out.belowS hbZ).cell 0 rfl
    have yb := (BB.out.belowS hbZ).cell 0 rfl
    have yg := (BG.out.belowS hbZ).cell 0 rfl
    clear hbZ
    go_wp2
    go_ret
    exact ⟨rfl, HBZ.out⟩
end Go.Proofs.Ytegdpjoncjmdeaa
