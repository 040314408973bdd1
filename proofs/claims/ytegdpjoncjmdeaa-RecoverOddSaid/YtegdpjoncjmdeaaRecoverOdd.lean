/- RecoverOdd: the walk. -/
import Derived.Test.YtegdpjoncjmdeaaRawM
import Derived.Test.YtegdpjoncjmdeaaRaw0
import Derived.Test.YtegdpjoncjmdeaaTapedO
import Derived.Test.YtegdpjoncjmdeaaSized
import Derived.Test.YtegdpjoncjmdeaaTapeP
set_option linter.unusedVariables false
set_option linter.unusedSimpArgs false
attribute [local go_sem ↓] Go.wp_at_zero Go.wp_at_succ
namespace Go.Proofs.Ytegdpjoncjmdeaa
open Go Go.RowKit

set_option maxRecDepth 100000 in
set_option maxHeartbeats 8000000 in
theorem recoverOdd_walk (v : Value) (l : List RawD) (v2 : Value) (m : List RawD) (w : World) (hv : RdS RRaw (fun _ => True) w v l) (hz : l.length * 56 ≤ reachBytes) (hv2 : RdS RRaw (fun _ => True) w v2 m) (hz2 : m.length * 56 ≤ reachBytes) :
    Calls Try.prog 10 #[v, v2] w fun e w' => e = .returned (.bool true) ∧ Below w.heap.size w w' := by
  have HB := Lib.hid (Below.refl w.heap.size w)
  have HV := Lib.hid (hv)
  have HV2 := Lib.hid (hv2)
  obtain ⟨adv, capv, rfl, -, -⟩ := hv.form
  obtain ⟨adu, capu, rfl, -, -⟩ := hv2.form
  unfold reachBytes at hz hz2
  obtain ⟨hok1, hm1, hT1⟩ := recs_parts l
  obtain ⟨hok2, hm2, hT2⟩ := recs_parts (m ++ [raw0])
  have HOK1 := Lib.hid hok1
  have HOK2 := Lib.hid hok2
  have hpos : 0 < (recsL (m ++ [raw0])).length := by unfold recsL; rw [List.length_map, List.length_take, List.length_append, List.length_singleton]; omega
  have hms1 : (recsL l).length ≤ 1000 := by omega
  have hms2 : (recsL (m ++ [raw0])).length ≤ 1000 := by omega
  clear hv hv2
  have HOD := Lib.hid (show recL (tapeB (recsL l) ++ (0 :: 1 :: 9 :: tapeB (recsL (m ++ [raw0])))) = (recsL l, (tapeB (recsL l)).length) from recL_odd _ _ hok1)
  have hB6 := (tapeB_len (recsL (m ++ [raw0])) hok2).2
  clear hok1 hok2
  go_enter Try.func10, Try.ntmps10
  go_wp2_with fail
  refine (records_any _ _ (HV.out.below (by repeat (first | with_reducible exact Below.refl _ _ | with_reducible refine Below.drew ?_ | with_reducible refine Below.setCell ?_ (by first | omega | (simp <;> omega)) _ | with_reducible refine Below.alloc ?_ (by first | omega | (simp <;> omega)) _)) (fun _ h => h))).mono ?_
  rintro e w1 ⟨v1, rfl, h1, hb1⟩
  have hB1 : Below w.heap.size w w1 := Below.trans (by repeat (first | with_reducible exact Below.refl _ _ | with_reducible refine Below.drew ?_ | with_reducible refine Below.setCell ?_ (by first | omega | (simp <;> omega)) _ | with_reducible refine Below.alloc ?_ (by first | omega | (simp <;> omega)) _)) (hb1.mono (by first | exact Nat.le_refl _ | (simp; done) | (simp; omega)))
  have z1 := hB1.size
  replace HB := Lib.hid (HB.out.trans (hB1.mono HB.out.size))
  replace HV := Lib.hid (HV.out.below hB1 (fun _ h => h))
  replace HV2 := Lib.hid (HV2.out.below hB1 (fun _ h => h))
  obtain ⟨ad_h1, cap_h1, rfl, -, -⟩ := h1.form
  have HM1 := Lib.hid (h1.mono (G' := fun _ => True) (fun _ _ => trivial))
  clear hb1 hB1 h1
  clear HV
  replace HM1 := Lib.hid ((HM1.out.low (by decide)).mono (G' := fun b => b < w1.heap.size) (fun b hb => hb.2))
  go_wp2_with fail
  refine (taped_own _ _ (HM1.out.below (by repeat (first | with_reducible exact Below.refl _ _ | with_reducible refine Below.drew ?_ | with_reducible refine Below.setCell ?_ (by first | omega | (simp <;> omega)) _ | with_reducible refine Below.alloc ?_ (by first | omega | (simp <;> omega)) _)) (fun _ h => h)) HOK1.out hms1).mono ?_
  rintro e w2 ⟨vT, rfl, hT, hb2⟩
  have hB2 : Below w1.heap.size w1 w2 := Below.trans (by repeat (first | with_reducible exact Below.refl _ _ | with_reducible refine Below.drew ?_ | with_reducible refine Below.setCell ?_ (by first | omega | (simp <;> omega)) _ | with_reducible refine Below.alloc ?_ (by first | omega | (simp <;> omega)) _)) (hb2.mono (by first | exact Nat.le_refl _ | (simp; done) | (simp; omega)))
  have z2 := hB2.size
  replace HB := Lib.hid (HB.out.trans (hB2.mono HB.out.size))
  replace HV2 := Lib.hid (HV2.out.below hB2 (fun _ h => h))
  replace HM1 := Lib.hid (HM1.out.below hB2 (fun _ h => h))
  obtain ⟨ad_hT, cap_hT, rfl⟩ := ownsRow_form hT
  have HOT := Lib.hid (ownsRow_mono (base' := w1.heap.size) hT (by first | exact Nat.le_refl _ | (simp; done) | (simp; omega)))
  clear hb2 hB2 hT
  generalize recsL l = ms at *
  obtain ⟨A, hA⟩ : ∃ A, A = tapeB ms := ⟨_, rfl⟩
  rw [← hA] at HOT HOD hT1 ⊢
  clear hA
  have HOLT := Lib.hid (show ∀ k, (Value.slice ad_hT A.length cap_hT).ownBlock = some k → w1.heap.size ≤ k ∧ k < w2.heap.size from fun k hk => HOT.out.lt k hk)
  go_upto_region 3 with fail
  obtain ⟨wa, hwb⟩ : ∃ wa, wa = (w2.alloc (.cells #[.slice ad_hT A.length cap_hT, .int .i64 0] 50)) := ⟨_, rfl⟩
  have hBw : Below w2.heap.size w2 wa := by rw [hwb]; exact (by repeat (first | with_reducible exact Below.refl _ _ | with_reducible refine Below.drew ?_ | with_reducible refine Below.setCell ?_ (by first | omega | (simp <;> omega)) _ | with_reducible refine Below.alloc ?_ (by first | omega | (simp <;> omega)) _))
  have BA := Lib.hid (show BoxAt wa (w2.heap.size) [.slice ad_hT A.length cap_hT, .int .i64 0] 50 by rw [hwb]; exact (by repeat (first | with_reducible exact BoxAt.newAt _ _ _ (by first | rfl | simp) | with_reducible refine BoxAt.drew ?_ | with_reducible refine BoxAt.alloc ?_ _ | with_reducible refine BoxAt.setOther ?_ (by first | omega | (simp <;> omega)) _)))
  rw [← hwb]
  have zwa := hBw.size
  clear hwb
  replace HB := Lib.hid (HB.out.trans (hBw.mono HB.out.size))
  replace HV2 := Lib.hid (HV2.out.below hBw (fun _ h => h))
  replace HM1 := Lib.hid (HM1.out.below hBw (fun _ h => h))
  replace HOT := Lib.hid (ownsRow_below HOT.out hBw)
  clear hBw
  have zlBA := BA.out.lt
  obtain ⟨vals, hs, ho, hc⟩ := HV2.out.copyOf (by decide) RRaw_one 44
  have HS0 := Lib.hid hs
  have HO0 := Lib.hid ho
  have HC0 := Lib.hid hc
  clear hs ho hc
  go_wp2_with (first
    | (at_builtin; refine wpList_append_sl (o := ⟨some 23, _, _, _, _, _⟩) rfl _ _ 54 rfl elemRaw wa.heap.size (.slice none 0 0) rfl 0 [] (World.ownsRow_nil _ _ _ _) _ rfl m.length vals HS0.out HO0.out (by unfold maxLen; omega) (by omega) (Nat.le_refl _) ?_; intro vp1 wp1 hown1 hgr1; have hl1 := HC0.out wa wp1 vp1 (Below.refl _ _) hown1 hgr1; have hb1 : Below wa.heap.size wa wp1 := (Below.refl _ _).grown hgr1 (Nat.le_refl _) (fun k hk => by simp [Value.ownBlock] at hk); obtain ⟨adp1, capp1, rfl⟩ := ownsRow_form hl1.own; have HL1 := Lib.hid hl1; have HB1 := Lib.hid hb1; have hz1 := hb1.size; clear hown1 hgr1 hl1 hb1)
    | (at_builtin; refine wpList_append_one (o := ⟨some 26, _, _, _, _, _⟩) rfl _ _ 54 rfl elemRaw wa.heap.size (.slice adp1 m.length capp1) m.length vals rfl (HL1.out.alloc _).own wp1.heap.size 44 [.int .i64 0, .int .i64 0, .int .i64 0, .int .i64 0, .slice none 0 0] rfl (BoxAt.new _ [_, _, _, _, _] _) rfl (by simp [Value.oneCell']) (by unfold maxLen; omega) (by omega) (by simp; omega) ?_; intro gp2 capp2 wp2 hown2 hgr2 hat2 hlt2; have hr2 := (HL1.out.alloc (.cells #[.int .i64 0, .int .i64 0, .int .i64 0, .int .i64 0, .slice none 0 0] 44)).dup (by decide) (by simp; omega) (raw0_rd _ _) hown2 hgr2 hat2; have hb2 : Below wa.heap.size wa wp2 := (HB1.out.alloc hz1 _).grown hgr2 (by simp; omega) (ownBlock_ge HL1.out.own); have HR2 := Lib.hid hr2; have HB2 := Lib.hid hb2; clear hown2 hgr2 hat2 hr2 hb2))
  replace HB := Lib.hid (HB.out.trans (HB2.out.mono HB.out.size))
  replace HV2 := Lib.hid (HV2.out.below HB2.out (fun _ h => h))
  replace HM1 := Lib.hid (HM1.out.below HB2.out (fun _ h => h))
  replace HOT := Lib.hid (ownsRow_below HOT.out HB2.out)
  replace BA := Lib.hid (BA.out.belowS HB2.out)
  have zp2 := HB2.out.size
  clear HB2 HB1 HL1 HS0 HO0 HC0
  clear HV2
  refine (records_any _ _ HR2.out).mono ?_
  rintro e w3 ⟨v5, rfl, h5, hb3⟩
  have hB3 : Below wp2.heap.size wp2 w3 := Below.trans (by repeat (first | with_reducible exact Below.refl _ _ | with_reducible refine Below.drew ?_ | with_reducible refine Below.setCell ?_ (by first | omega | (simp <;> omega)) _ | with_reducible refine Below.alloc ?_ (by first | omega | (simp <;> omega)) _)) (hb3.mono (by first | exact Nat.le_refl _ | (simp; done) | (simp; omega)))
  have z3 := hB3.size
  replace HB := Lib.hid (HB.out.trans (hB3.mono HB.out.size))
  replace HM1 := Lib.hid (HM1.out.below hB3 (fun _ h => h))
  replace HOT := Lib.hid (ownsRow_below HOT.out hB3)
  replace BA := Lib.hid (BA.out.belowS hB3)
  obtain ⟨ad_h5, cap_h5, rfl, -, -⟩ := h5.form
  have HM2 := Lib.hid (h5.mono (G' := fun _ => True) (fun _ _ => trivial))
  clear hb3 hB3 h5
  clear HR2
  go_wp2_with fail
  refine (taped_any _ _ (HM2.out.below (by repeat (first | with_reducible exact Below.refl _ _ | with_reducible refine Below.drew ?_ | with_reducible refine Below.setCell ?_ (by first | omega | (simp <;> omega)) _ | with_reducible refine Below.alloc ?_ (by first | omega | (simp <;> omega)) _)) (fun _ h => h)) HOK2.out hms2).mono ?_
  rintro e w4 ⟨vU, rfl, hU, hb4⟩
  have hB4 : Below w3.heap.size w3 w4 := Below.trans (by repeat (first | with_reducible exact Below.refl _ _ | with_reducible refine Below.drew ?_ | with_reducible refine Below.setCell ?_ (by first | omega | (simp <;> omega)) _ | with_reducible refine Below.alloc ?_ (by first | omega | (simp <;> omega)) _)) (hb4.mono (by first | exact Nat.le_refl _ | (simp; done) | (simp; omega)))
  have z4 := hB4.size
  replace HB := Lib.hid (HB.out.trans (hB4.mono HB.out.size))
  replace HM1 := Lib.hid (HM1.out.below hB4 (fun _ h => h))
  replace HOT := Lib.hid (ownsRow_below HOT.out hB4)
  replace BA := Lib.hid (BA.out.belowS hB4)
  replace HM2 := Lib.hid (HM2.out.below hB4 (fun _ h => h))
  obtain ⟨ad_hU, cap_hU, rfl, -, -⟩ := hU.form
  have HTB := Lib.hid (hU.mono (G' := fun b => w2.heap.size < b) (fun b hb => by first | omega | (simp at hb; omega)))
  clear hb4 hB4 hU
  clear HM2
  generalize recsL (m ++ [raw0]) = mt at *
  obtain ⟨B, hBe⟩ : ∃ B, B = tapeB mt := ⟨_, rfl⟩
  rw [← hBe] at HTB HOD hT2 hB6 ⊢
  clear hBe
  go_upto_region 4 with fail
  obtain ⟨wb, hwb⟩ : ∃ wb, wb = (w4.alloc (.cells #[.slice ad_hU B.length cap_hU, .int .i64 0] 50)) := ⟨_, rfl⟩
  have hBw : Below w4.heap.size w4 wb := by rw [hwb]; exact (by repeat (first | with_reducible exact Below.refl _ _ | with_reducible refine Below.drew ?_ | with_reducible refine Below.setCell ?_ (by first | omega | (simp <;> omega)) _ | with_reducible refine Below.alloc ?_ (by first | omega | (simp <;> omega)) _))
  have BB := Lib.hid (show BoxAt wb (w4.heap.size) [.slice ad_hU B.length cap_hU, .int .i64 0] 50 by rw [hwb]; exact (by repeat (first | with_reducible exact BoxAt.newAt _ _ _ (by first | rfl | simp) | with_reducible refine BoxAt.drew ?_ | with_reducible refine BoxAt.alloc ?_ _ | with_reducible refine BoxAt.setOther ?_ (by first | omega | (simp <;> omega)) _)))
  rw [← hwb]
  have zwb := hBw.size
  clear hwb
  replace HB := Lib.hid (HB.out.trans (hBw.mono HB.out.size))
  replace HM1 := Lib.hid (HM1.out.below hBw (fun _ h => h))
  replace HOT := Lib.hid (ownsRow_below HOT.out hBw)
  replace BA := Lib.hid (BA.out.belowS hBw)
  replace HTB := Lib.hid (HTB.out.below hBw (fun _ h => h))
  clear hBw
  have zlBB := BB.out.lt
  have posB : 0 < B.length := by omega
  have a0 := BA.out.cell 0 rfl
  have zBA := BA.out.lt
  go_upto_region 5 with fail
  clear a0 zBA
  obtain ⟨J, hJe⟩ : ∃ J, J = A ++ (0 :: 1 :: 9 :: B) := ⟨_, rfl⟩
  rw [← hJe] at HOD
  have HJL := Lib.hid (show J.length = A.length + 3 + B.length by rw [hJe]; simp; omega)
  have HJT := Lib.hid (show J.take A.length = A by rw [hJe]; simp)
  have HJE := Lib.hid hJe
  clear hJe
  go_cut [10] (fun n10 wx => ∃ (ad : Option Addr) (cap : Nat), n10 = .int .i64 (A.length : Int) ∧ BoxAt wx w2.heap.size [.slice ad J.length cap, .int .i64 0] 50 ∧ RdB (fun b => b ≠ w2.heap.size) wx (.slice ad J.length cap) J ∧ RdS RMsg (fun b => b < w1.heap.size) wx (.slice ad_h1 ms.length cap_h1) ms ∧ BoxAt wx w4.heap.size [.slice ad_hU B.length cap_hU, .int .i64 0] 50 ∧ Below w.heap.size w wx)
  case first =>
    refine wp_region_held_drew (S := fun w' => BoxAt w' w4.heap.size [.slice ad_hU B.length cap_hU, .int .i64 0] 50) (by kernel_rfl) (by exact BB.out) (fun hHeld => ?_)
    refine wpAnyH_take (i := 0) (v := .pointer (some ⟨w2.heap.size, 0, none⟩)) rfl (by kernel_rfl) (by kernel_rfl) (by kernel_rfl) (fun _ _ _ h => h) (Or.inl ⟨by rfl, fun w hSw => ?_⟩) hHeld ?_
    · clear hSw; go_simp; all_goals (try first | rfl | omega)
    try simp only [Act.put, List.getElem_toArray, List.getElem_cons_succ, List.getElem_cons_zero, List.setIfInBounds_toArray, List.set_cons_zero, List.set_cons_succ]
    refine wpAnyH_take (i := 4) (v := .pointer (some ⟨w4.heap.size, 0, none⟩)) rfl (by kernel_rfl) (by kernel_rfl) (by kernel_rfl) (fun _ _ _ h => h) (Or.inl ⟨by rfl, fun w hSw => ?_⟩) hHeld ?_
    · clear hSw; go_simp; all_goals (try first | rfl | omega)
    try simp only [Act.put, List.getElem_toArray, List.getElem_cons_succ, List.getElem_cons_zero, List.setIfInBounds_toArray, List.set_cons_zero, List.set_cons_succ]
    refine wpAnyH_take (i := 5) (v := .slice ad_hU B.length cap_hU) rfl (by kernel_rfl) (by kernel_rfl) (by kernel_rfl) (fun _ _ _ h => h) (Or.inl ⟨by rfl, fun w hSw => ?_⟩) hHeld ?_
    · have qb := hSw; have q0 := qb.cell 0 rfl; clear hSw qb; go_simp
    try simp only [Act.put, List.getElem_toArray, List.getElem_cons_succ, List.getElem_cons_zero, List.setIfInBounds_toArray, List.set_cons_zero, List.set_cons_succ]
    refine wpAnyH_ready (rs := [1, 2]) (by kernel_rfl) (by simp) ?_
    refine AllReadyH.cons rfl (fun K hK => ?_) ?_
    · rw [if_pos (by rfl)]
      have t0 := BA.out.cell 0 rfl
      have zt := BA.out.lt
      go_simp
      show K _ _
      refine hK.out _ _ (by exact hHeld) (fun hHeld => ?_)
      clear hK K
      try simp only [Act.put, List.getElem_toArray, List.getElem_cons_succ, List.getElem_cons_zero, List.setIfInBounds_toArray, List.set_cons_zero, List.set_cons_succ]
      refine wpAnyH_ready (rs := [2]) (by kernel_rfl) (by simp) ?_
      refine AllReadyH.cons rfl (fun K hK => ?_) ?_
      · rw [if_pos (by rfl)]
        go_simp
        show K _ _
        refine hK.out _ _ (by exact hHeld.alloc _) (fun hHeld => ?_)
        clear hK K
        try simp only [Act.put, List.getElem_toArray, List.getElem_cons_succ, List.getElem_cons_zero, List.setIfInBounds_toArray, List.set_cons_zero, List.set_cons_succ]
        refine wpAnyH_ready (rs := [3]) (by kernel_rfl) (by simp) ?_
        refine AllReadyH.cons rfl (fun K hK => ?_) ?_
        · rw [if_pos (by rfl)]
          refine wp_append_at1 _ _ 22 rfl elemB w1.heap.size _ A.length (byteVs A) rfl (by exact HOT.out.alloc _) _ 3 [.int .u8 0, .int .u8 1, .int .u8 9] rfl (by exact (BoxAt.new wb.drew [_, _, _] _).slCellsN rfl) (by simp [Value.oneCell']) (by decide) (by unfold maxLen; omega) (by omega) (by simp; omega) ?_
          intro g1 cap1 wc hown hgr hat hlt
          have zs : wb.heap.size + 1 ≤ wc.heap.size := by have := hgr.size; simpa using this
          have BAc := Lib.hid ((BA.out.alloc (.cells #[.int .u8 0, .int .u8 1, .int .u8 9] 5)).grown (w := (wb.drew.alloc (.cells #[.int .u8 0, .int .u8 1, .int .u8 9] 5))) hgr (fun e => by have := HOLT.out _ e; omega))
          have BBc := Lib.hid ((BB.out.alloc (.cells #[.int .u8 0, .int .u8 1, .int .u8 9] 5)).grown (w := (wb.drew.alloc (.cells #[.int .u8 0, .int .u8 1, .int .u8 9] 5))) hgr (fun e => by have := HOLT.out _ e; omega))
          have HTBc := Lib.hid (HTB.out.keep ((Keep.alloc _ wb.drew _).trans (Keep.grown (w := (wb.drew.alloc (.cells #[.int .u8 0, .int .u8 1, .int .u8 9] 5))) hgr (fun k hk hb => by have := HOLT.out _ hk; omega))) (fun _ h => h))
          have HMc := Lib.hid (HM1.out.keep ((Keep.alloc _ wb.drew _).trans (Keep.grown (w := (wb.drew.alloc (.cells #[.int .u8 0, .int .u8 1, .int .u8 9] 5))) hgr (fun k hk hb => by have := HOLT.out _ hk; omega))) (fun _ h => h))
          have HBc := Lib.hid (show Below w.heap.size w wc from ((show Below w.heap.size w (wb.drew.alloc (.cells #[.int .u8 0, .int .u8 1, .int .u8 9] 5)) from HB.out.drew.alloc HB.out.size (.cells #[.int .u8 0, .int .u8 1, .int .u8 9] 5))).grown hgr (by simp; omega) (fun k hk => by have := HOLT.out _ hk; omega))
          have hg1 : w1.heap.size ≤ g1 ∧ g1 ≠ w2.heap.size ∧ g1 ≠ w4.heap.size := by
            rcases hat with h | h
            · have := HOLT.out _ h; omega
            · simp at h; omega
          have HO1 := Lib.hid hown
          clear hown hgr hat
          show K _ _
          refine hK.out _ _ (by exact BBc.out) (fun hHeld => ?_)
          clear hK K
          try simp only [Act.put, List.getElem_toArray, List.getElem_cons_succ, List.getElem_cons_zero, List.setIfInBounds_toArray, List.set_cons_zero, List.set_cons_succ]
          refine wpAnyH_ready (rs := [6]) (by kernel_rfl) (by simp) ?_
          refine AllReadyH.cons rfl (fun K hK => ?_) ?_
          · rw [if_pos (by rfl)]
            refine wp_append_at1 _ _ 22 rfl elemB w1.heap.size _ (A.length + 3) (byteVs A ++ [.int .u8 0, .int .u8 1, .int .u8 9]) rfl (by exact HO1.out) _ B.length (byteVs B) rfl (by exact HTBc.out.slCells) (oneCell_map _ _ (fun _ => rfl)) posB (by unfold maxLen; omega) (by omega) (by omega) ?_
            intro g2 cap2 wd hown hgr hat hlt
            have zs2 := hgr.size
            have hob : ∀ k, (Value.slice (some ⟨g1, 0, none⟩) (A.length + 3) cap1).ownBlock = some k → k = g1 := fun k hk => by simp [Value.ownBlock] at hk; exact hk.symm
            have BAd := Lib.hid (BAc.out.grown hgr (fun e => by have := hob _ e; omega))
            have BBd := Lib.hid (BBc.out.grown hgr (fun e => by have := hob _ e; omega))
            have HMd := Lib.hid (HMc.out.keep (Keep.grown hgr (fun k hk hb => by have := hob _ hk; omega)) (fun _ h => h))
            have HBd := Lib.hid (HBc.out.grown hgr HBc.out.size (fun k hk => by have := hob _ hk; omega))
            have hg2 : w1.heap.size ≤ g2 ∧ g2 ≠ w2.heap.size := by
              rcases hat with h | h
              · have := hob _ h; omega
              · omega
            have hn2 : A.length + 3 + B.length = J.length := HJL.out.symm
            rw [hn2] at hown
            rw [hn2]
            have HVd := Lib.hid (show RdB (fun b => b ≠ w2.heap.size) wd (.slice (some ⟨g2, 0, none⟩) J.length cap2) J from (RdS.of_owns (f := fun c : UInt8 => Value.int .u8 c.toNat) (G := fun _ => True) (base := w1.heap.size) (e := 5) (n := J.length) (by have := HJE.out; subst this; simpa [byteVs] using hown) (fun _ _ => trivial)).atBlock.mono (fun b hb => by omega))
            have s0 := BAd.out.cell 0 rfl
            have sf0 := BAd.out.free 0
            have slt := BAd.out.lt
            clear hown hgr hat hob hn2
            show K _ _
            refine hK.out _ _ (by exact BBd.out) (fun hHeld => ?_)
            clear hK K
            try simp only [Act.put, List.getElem_toArray, List.getElem_cons_succ, List.getElem_cons_zero, List.setIfInBounds_toArray, List.set_cons_zero, List.set_cons_succ]
            refine wpAnyH_take (i := 7) (v := .pointer (some ⟨w2.heap.size, 0, none⟩)) rfl (by kernel_rfl) (by kernel_rfl) (by kernel_rfl) (fun _ _ _ h => h) (Or.inl ⟨by rfl, fun w hSw => ?_⟩) hHeld ?_
            · clear hSw; go_simp; all_goals (try first | rfl | omega)
            try simp only [Act.put, List.getElem_toArray, List.getElem_cons_succ, List.getElem_cons_zero, List.setIfInBounds_toArray, List.set_cons_zero, List.set_cons_succ]
            refine wpAnyH_ready (rs := [8]) (by kernel_rfl) (by simp) ?_
            refine AllReadyH.cons rfl (fun K hK => ?_) ?_
            · rw [if_pos (by rfl)]
              go_simp
              show K _ _
              refine hK.out _ _ (by exact BBd.out.setOther (p := ⟨w2.heap.size, 0, none⟩) (by first | omega | (simp; omega)) _) (fun hHeld => ?_)
              clear hK K
              try simp only [Act.put, List.getElem_toArray, List.getElem_cons_succ, List.getElem_cons_zero, List.setIfInBounds_toArray, List.set_cons_zero, List.set_cons_succ]
              refine wpAnyH_done (by kernel_rfl) ?_ _
              go_wp2
              go_meet
              exact ⟨_, _, rfl, BAd.out.set 0 _, HVd.out.keep (Keep.setCell (p := ⟨w2.heap.size, 0, none⟩) (by simp) _) (fun _ h => h), HMd.out.keep (Keep.setCell (p := ⟨w2.heap.size, 0, none⟩) (by simp; omega) _) (fun _ h => h), BBd.out.setOther (p := ⟨w2.heap.size, 0, none⟩) (by first | omega | (simp; omega)) _, HBd.out.setCell (by first | omega | (simp; omega)) _⟩
            exact AllReadyH.nil
          exact AllReadyH.nil
        exact AllReadyH.nil
      exact AllReadyH.nil
    refine AllReadyH.cons rfl (fun K hK => ?_) ?_
    · rw [if_pos (by rfl)]
      go_simp
      show K _ _
      refine hK.out _ _ (by exact hHeld.alloc _) (fun hHeld => ?_)
      clear hK K
      try simp only [Act.put, List.getElem_toArray, List.getElem_cons_succ, List.getElem_cons_zero, List.setIfInBounds_toArray, List.set_cons_zero, List.set_cons_succ]
      refine wpAnyH_ready (rs := [1]) (by kernel_rfl) (by simp) ?_
      refine AllReadyH.cons rfl (fun K hK => ?_) ?_
      · rw [if_pos (by rfl)]
        have t0 := BA.out.cell 0 rfl
        have zt := BA.out.lt
        go_simp
        show K _ _
        refine hK.out _ _ (by exact hHeld) (fun hHeld => ?_)
        clear hK K
        try simp only [Act.put, List.getElem_toArray, List.getElem_cons_succ, List.getElem_cons_zero, List.setIfInBounds_toArray, List.set_cons_zero, List.set_cons_succ]
        refine wpAnyH_ready (rs := [3]) (by kernel_rfl) (by simp) ?_
        refine AllReadyH.cons rfl (fun K hK => ?_) ?_
        · rw [if_pos (by rfl)]
          refine wp_append_at1 _ _ 22 rfl elemB w1.heap.size _ A.length (byteVs A) rfl (by exact HOT.out.alloc _) _ 3 [.int .u8 0, .int .u8 1, .int .u8 9] rfl (by exact (BoxAt.new wb.drew [_, _, _] _).slCellsN rfl) (by simp [Value.oneCell']) (by decide) (by unfold maxLen; omega) (by omega) (by simp; omega) ?_
          intro g1 cap1 wc hown hgr hat hlt
          have zs : wb.heap.size + 1 ≤ wc.heap.size := by have := hgr.size; simpa using this
          have BAc := Lib.hid ((BA.out.alloc (.cells #[.int .u8 0, .int .u8 1, .int .u8 9] 5)).grown (w := (wb.drew.alloc (.cells #[.int .u8 0, .int .u8 1, .int .u8 9] 5))) hgr (fun e => by have := HOLT.out _ e; omega))
          have BBc := Lib.hid ((BB.out.alloc (.cells #[.int .u8 0, .int .u8 1, .int .u8 9] 5)).grown (w := (wb.drew.alloc (.cells #[.int .u8 0, .int .u8 1, .int .u8 9] 5))) hgr (fun e => by have := HOLT.out _ e; omega))
          have HTBc := Lib.hid (HTB.out.keep ((Keep.alloc _ wb.drew _).trans (Keep.grown (w := (wb.drew.alloc (.cells #[.int .u8 0, .int .u8 1, .int .u8 9] 5))) hgr (fun k hk hb => by have := HOLT.out _ hk; omega))) (fun _ h => h))
          have HMc := Lib.hid (HM1.out.keep ((Keep.alloc _ wb.drew _).trans (Keep.grown (w := (wb.drew.alloc (.cells #[.int .u8 0, .int .u8 1, .int .u8 9] 5))) hgr (fun k hk hb => by have := HOLT.out _ hk; omega))) (fun _ h => h))
          have HBc := Lib.hid (show Below w.heap.size w wc from ((show Below w.heap.size w (wb.drew.alloc (.cells #[.int .u8 0, .int .u8 1, .int .u8 9] 5)) from HB.out.drew.alloc HB.out.size (.cells #[.int .u8 0, .int .u8 1, .int .u8 9] 5))).grown hgr (by simp; omega) (fun k hk => by have := HOLT.out _ hk; omega))
          have hg1 : w1.heap.size ≤ g1 ∧ g1 ≠ w2.heap.size ∧ g1 ≠ w4.heap.size := by
            rcases hat with h | h
            · have := HOLT.out _ h; omega
            · simp at h; omega
          have HO1 := Lib.hid hown
          clear hown hgr hat
          show K _ _
          refine hK.out _ _ (by exact BBc.out) (fun hHeld => ?_)
          clear hK K
          try simp only [Act.put, List.getElem_toArray, List.getElem_cons_succ, List.getElem_cons_zero, List.setIfInBounds_toArray, List.set_cons_zero, List.set_cons_succ]
          refine wpAnyH_ready (rs := [6]) (by kernel_rfl) (by simp) ?_
          refine AllReadyH.cons rfl (fun K hK => ?_) ?_
          · rw [if_pos (by rfl)]
            refine wp_append_at1 _ _ 22 rfl elemB w1.heap.size _ (A.length + 3) (byteVs A ++ [.int .u8 0, .int .u8 1, .int .u8 9]) rfl (by exact HO1.out) _ B.length (byteVs B) rfl (by exact HTBc.out.slCells) (oneCell_map _ _ (fun _ => rfl)) posB (by unfold maxLen; omega) (by omega) (by omega) ?_
            intro g2 cap2 wd hown hgr hat hlt
            have zs2 := hgr.size
            have hob : ∀ k, (Value.slice (some ⟨g1, 0, none⟩) (A.length + 3) cap1).ownBlock = some k → k = g1 := fun k hk => by simp [Value.ownBlock] at hk; exact hk.symm
            have BAd := Lib.hid (BAc.out.grown hgr (fun e => by have := hob _ e; omega))
            have BBd := Lib.hid (BBc.out.grown hgr (fun e => by have := hob _ e; omega))
            have HMd := Lib.hid (HMc.out.keep (Keep.grown hgr (fun k hk hb => by have := hob _ hk; omega)) (fun _ h => h))
            have HBd := Lib.hid (HBc.out.grown hgr HBc.out.size (fun k hk => by have := hob _ hk; omega))
            have hg2 : w1.heap.size ≤ g2 ∧ g2 ≠ w2.heap.size := by
              rcases hat with h | h
              · have := hob _ h; omega
              · omega
            have hn2 : A.length + 3 + B.length = J.length := HJL.out.symm
            rw [hn2] at hown
            rw [hn2]
            have HVd := Lib.hid (show RdB (fun b => b ≠ w2.heap.size) wd (.slice (some ⟨g2, 0, none⟩) J.length cap2) J from (RdS.of_owns (f := fun c : UInt8 => Value.int .u8 c.toNat) (G := fun _ => True) (base := w1.heap.size) (e := 5) (n := J.length) (by have := HJE.out; subst this; simpa [byteVs] using hown) (fun _ _ => trivial)).atBlock.mono (fun b hb => by omega))
            have s0 := BAd.out.cell 0 rfl
            have sf0 := BAd.out.free 0
            have slt := BAd.out.lt
            clear hown hgr hat hob hn2
            show K _ _
            refine hK.out _ _ (by exact BBd.out) (fun hHeld => ?_)
            clear hK K
            try simp only [Act.put, List.getElem_toArray, List.getElem_cons_succ, List.getElem_cons_zero, List.setIfInBounds_toArray, List.set_cons_zero, List.set_cons_succ]
            refine wpAnyH_take (i := 7) (v := .pointer (some ⟨w2.heap.size, 0, none⟩)) rfl (by kernel_rfl) (by kernel_rfl) (by kernel_rfl) (fun _ _ _ h => h) (Or.inl ⟨by rfl, fun w hSw => ?_⟩) hHeld ?_
            · clear hSw; go_simp; all_goals (try first | rfl | omega)
            try simp only [Act.put, List.getElem_toArray, List.getElem_cons_succ, List.getElem_cons_zero, List.setIfInBounds_toArray, List.set_cons_zero, List.set_cons_succ]
            refine wpAnyH_ready (rs := [8]) (by kernel_rfl) (by simp) ?_
            refine AllReadyH.cons rfl (fun K hK => ?_) ?_
            · rw [if_pos (by rfl)]
              go_simp
              show K _ _
              refine hK.out _ _ (by exact BBd.out.setOther (p := ⟨w2.heap.size, 0, none⟩) (by first | omega | (simp; omega)) _) (fun hHeld => ?_)
              clear hK K
              try simp only [Act.put, List.getElem_toArray, List.getElem_cons_succ, List.getElem_cons_zero, List.setIfInBounds_toArray, List.set_cons_zero, List.set_cons_succ]
              refine wpAnyH_done (by kernel_rfl) ?_ _
              go_wp2
              go_meet
              exact ⟨_, _, rfl, BAd.out.set 0 _, HVd.out.keep (Keep.setCell (p := ⟨w2.heap.size, 0, none⟩) (by simp) _) (fun _ h => h), HMd.out.keep (Keep.setCell (p := ⟨w2.heap.size, 0, none⟩) (by simp; omega) _) (fun _ h => h), BBd.out.setOther (p := ⟨w2.heap.size, 0, none⟩) (by first | omega | (simp; omega)) _, HBd.out.setCell (by first | omega | (simp; omega)) _⟩
            exact AllReadyH.nil
          exact AllReadyH.nil
        exact AllReadyH.nil
      exact AllReadyH.nil
    exact AllReadyH.nil
  case rest =>
    obtain ⟨ad9, cap9, rfl, hX, hV, hMm, hBu, hB9⟩ := hcut
    replace BA := Lib.hid hX
    have HVJ := Lib.hid hV
    replace HM1 := Lib.hid hMm
    replace BB := Lib.hid hBu
    replace HB := Lib.hid hB9
    clear hX hV hMm hBu hB9 HTB HOT
    have a0 := BA.out.cell 0 rfl
    have a1 := BA.out.cell 1 rfl
    have zBA := BA.out.lt
    go_wp2_with fail
    refine (trecover_ok _ J 0 _ (HVJ.out.below (by repeat (first | with_reducible exact Below.refl _ _ | with_reducible refine Below.drew ?_ | with_reducible refine Below.setCell ?_ (by first | omega | (simp <;> omega)) _ | with_reducible refine Below.alloc ?_ (by first | omega | (simp <;> omega)) _)) (fun _ h => h)) (tapeOk_zero (by have := HJL.out; omega))).mono ?_
    rw [HOD.out]
    rintro e w5 ⟨v6, v7, rfl, hv6, hv7, hb5⟩
    have hB5 : Below wc.heap.size wc w5 := Below.trans (by repeat (first | with_reducible exact Below.refl _ _ | with_reducible refine Below.drew ?_ | with_reducible refine Below.setCell ?_ (by first | omega | (simp <;> omega)) _ | with_reducible refine Below.alloc ?_ (by first | omega | (simp <;> omega)) _)) (hb5.mono (by first | exact Nat.le_refl _ | (simp; done) | (simp; omega)))
    have z5 := hB5.size
    replace HB := Lib.hid (HB.out.trans (hB5.mono HB.out.size))
    replace HM1 := Lib.hid (HM1.out.below hB5 (fun _ h => h))
    replace HVJ := Lib.hid (HVJ.out.below hB5 (fun _ h => h))
    replace BA := Lib.hid (BA.out.belowS hB5)
    replace BB := Lib.hid (BB.out.belowS hB5)
    clear a0 a1 zBA
    dsimp only at hv6 hv7 ⊢
    rw [HJT.out] at hv7
    rw [show min (0 : Int) (A.length : Int) = 0 by omega]
    obtain ⟨ad_v6, cap_v6, rfl, -, -⟩ := hv6.form
    obtain ⟨ad_v7, cap_v7, rfl, -, -⟩ := hv7.form
    have HG := Lib.hid (hv6.mono (G' := fun _ => True) (fun _ _ => trivial))
    have HU := Lib.hid (hv7.mono (G' := fun _ => True) (fun _ _ => trivial))
    clear hb5 hB5 hv6 hv7
    have gB : (0 : Int) < (B.length : Int) := by omega
    go_wp2_with fail
    refine (begins_pre _ _ _ (HG.out.below (by repeat (first | with_reducible exact Below.refl _ _ | with_reducible refine Below.drew ?_ | with_reducible refine Below.setCell ?_ (by first | omega | (simp <;> omega)) _ | with_reducible refine Below.alloc ?_ (by first | omega | (simp <;> omega)) _)) (fun _ h => h)) (HM1.out.below (by repeat (first | with_reducible exact Below.refl _ _ | with_reducible refine Below.drew ?_ | with_reducible refine Below.setCell ?_ (by first | omega | (simp <;> omega)) _ | with_reducible refine Below.alloc ?_ (by first | omega | (simp <;> omega)) _)) (fun _ h => h)) (pre_self ms)).mono ?_
    rintro e w6 ⟨rfl, hb6⟩
    have hB6 : Below w5.heap.size w5 w6 := Below.trans (by repeat (first | with_reducible exact Below.refl _ _ | with_reducible refine Below.drew ?_ | with_reducible refine Below.setCell ?_ (by first | omega | (simp <;> omega)) _ | with_reducible refine Below.alloc ?_ (by first | omega | (simp <;> omega)) _)) (hb6.mono (by first | exact Nat.le_refl _ | (simp; done) | (simp; omega)))
    have z6 := hB6.size
    have BV := Lib.hid (BoxAt.belowS (show BoxAt _ (w5.heap.size) [.slice ad_v7 A.length cap_v7, .int .i64 0] 50 from (by repeat (first | with_reducible exact BoxAt.newAt _ _ _ (by first | rfl | simp) | with_reducible refine BoxAt.drew ?_ | with_reducible refine BoxAt.alloc ?_ _ | with_reducible refine BoxAt.setOther ?_ (by first | omega | (simp <;> omega)) _))) hb6)
    replace HB := Lib.hid (HB.out.trans (hB6.mono HB.out.size))
    replace HM1 := Lib.hid (HM1.out.below hB6 (fun _ h => h))
    replace HVJ := Lib.hid (HVJ.out.below hB6 (fun _ h => h))
    replace BA := Lib.hid (BA.out.belowS hB6)
    replace BB := Lib.hid (BB.out.belowS hB6)
    replace HG := Lib.hid (HG.out.below hB6 (fun _ h => h))
    replace HU := Lib.hid (HU.out.below hB6 (fun _ h => h))
    clear hb6 hB6
    have b0 := BB.out.cell 0 rfl
    have zBB := BB.out.lt
    have g0 := BV.out.cell 0 rfl
    have zBV := BV.out.lt
    go_wp2
    go_ret
    exact ⟨rfl, HB.out⟩
end Go.Proofs.Ytegdpjoncjmdeaa
