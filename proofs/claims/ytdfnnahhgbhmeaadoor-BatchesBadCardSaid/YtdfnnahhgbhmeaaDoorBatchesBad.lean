/- BatchesBad: the walk. -/
import Derived.Test.YtdfnnahhgbhmeaaDoorBatsOf
set_option linter.unusedVariables false
set_option linter.unusedSimpArgs false
attribute [local go_sem ↓] Go.wp_at_zero Go.wp_at_succ
namespace Go.Proofs.YtdfnnahhgbhmeaaDoor
open Go Go.RowKit

theorem bat0_rd (G : Nat → Prop) (w : World) : RBat.rd G w [.int .i64 0, .int .i64 0, .slice none 0 0] ⟨0, 0, []⟩ := ⟨_, rfl, RdS.nil _ _ _, fun t ht => by simp at ht⟩
set_option maxRecDepth 100000 in
set_option maxHeartbeats 4000000 in
theorem bbad_any {G : Nat → Prop} {l : List RawD} (v : Value) (n : Int) (w : World) (h : RdS RRaw G w v l) (n1 : -9223372036854775808 ≤ n) (n2 : n ≤ 9223372036854775807) (ht : Tabs w) :
    Calls Tryd.prog 32 #[v, .int .i64 n] w fun e w' => e = .returned (.bool (decide (bsCode (batsL l) = 0))) ∧ Below w.heap.size w w' := by
  obtain ⟨adv, capv, rfl, hcv, hcm⟩ := h.form
  have HV := Lib.hid h
  have HT := Lib.hid ht
  clear h ht
  go_enter Tryd.func32, Tryd.ntmps32
  go_wp2_with fail
  refine (batchesOf_any _ _ HV.out).mono ?_
  rintro e w1 ⟨v1, rfl, h1, hb1⟩
  obtain ⟨ad1, cap1, rfl, -, -⟩ := h1.form
  have hlen := batsL_len l
  have hl12 : (batsL l).length ≤ 12 := by omega
  have HLW := Lib.hid (fun b (hb : b ∈ batsL l) => hb)
  generalize htt : batsL l = t at *
  have HTT := Lib.hid htt
  clear htt
  have HL1 := Lib.hid (h1.mono (G' := fun _ => True) (fun _ _ => trivial))
  have HB1 := Lib.hid hb1
  have HT1 := Lib.hid (HT.out.belowS hb1)
  clear h1 hb1 hlen
  go_wp2_with fail
  refine (checkBatches_any _ w1 HL1.out HT1.out).mono ?_
  rintro e w2 ⟨rfl, hb2⟩
  have HB2 := Lib.hid (HB1.out.trans (hb2.mono HB1.out.size))
  have HL2 := Lib.hid (HL1.out.below hb2 (fun _ h => h))
  have HT2 := Lib.hid (HT1.out.belowS hb2)
  clear hb2
  rcases bsCode_or t with hc | hc
  · have HR := Lib.hid (show decide (bsCode t = 0) = true by simp [hc])
    rw [hc]
    have HBD := Lib.hid (bsCode_snoc_bad (l := t) (b := ⟨0, 0, []⟩) (by decide))
    obtain ⟨vals, hs, ho, hcp⟩ := HL2.out.copyOf (by decide) RBat_one 42
    have HS := Lib.hid hs
    have HO := Lib.hid ho
    have HC := Lib.hid hcp
    have z2 := HB2.out.size
    clear hc hs ho hcp
    go_upto_region 5 with (first
      | (at_builtin; refine wpList_append_sl (o := ⟨some 14, _, _, _, _, _⟩) rfl _ _ 72 rfl elemBat w2.heap.size (.slice none 0 0) rfl 0 [] (World.ownsRow_nil _ _ _ _) _ rfl t.length vals HS.out HO.out (by unfold maxLen; omega) (by omega) (Nat.le_refl _) ?_; intro v3 w3 hown3 hgr3; have hl3 := HC.out w2 w3 v3 (Below.refl _ _) hown3 hgr3; have hb3 : Below w2.heap.size w2 w3 := (Below.refl _ _).grown hgr3 (Nat.le_refl _) (fun k hk => by simp [Value.ownBlock] at hk); obtain ⟨ad3, cap3, rfl⟩ := ownsRow_form hl3.own; have HL3 := Lib.hid hl3; have HB3 := Lib.hid hb3; have hz3 := hb3.size; clear hown3 hgr3 hl3 hb3)
      | (at_builtin; refine wpList_append_one (o := ⟨some 17, _, _, _, _, _⟩) rfl _ _ 72 rfl elemBat w2.heap.size (.slice ad3 t.length cap3) t.length vals rfl (HL3.out.alloc _).own w3.heap.size 42 [.int .i64 0, .int .i64 0, .slice none 0 0] rfl (BoxAt.new _ [_, _, _] _) rfl (by simp [Value.oneCell']) (by unfold maxLen; omega) (by omega) (by simp; omega) ?_; intro g4 cap4 w4 hown4 hgr4 hat4 hlt4; have hr4 := (HL3.out.alloc (.cells #[.int .i64 0, .int .i64 0, .slice none 0 0] 42)).dup (by decide) (by simp; omega) (bat0_rd _ _) hown4 hgr4 hat4; have hb4 : Below w2.heap.size w2 w4 := (HB3.out.alloc hz3 _).grown hgr4 (by simp; omega) (ownBlock_ge HL3.out.own); have HR4 := Lib.hid hr4; have HB4 := Lib.hid (HB2.out.trans (hb4.mono z2)); have HL4 := Lib.hid (HL2.out.below hb4 (fun _ h => h)); clear hown4 hgr4 hat4 hr4 hb4))
    go_wp2_with fail
    refine (checkBatches_any (l := t ++ [⟨0, 0, []⟩]) _ w4 HR4.out (HT.out.belowS HB4.out)).mono ?_
    rintro e w5 ⟨rfl, hb5⟩
    rw [HBD.out]
    have HB5 := Lib.hid (HB4.out.trans (hb5.mono HB4.out.size))
    have HL5 := Lib.hid (HL4.out.below hb5 (fun _ h => h))
    have HT5 := Lib.hid (HT.out.belowS HB5.out)
    have z5 := HB5.out.size
    clear hb5
    by_cases h0 : t.length = 0
    · have e0 : ((t.length : Int) == 0) = true := by rw [h0]; rfl
      clear h0
      go_wp2
      go_ret
      exact ⟨ret_boolH (by rw [HTT.out]; exact HR.out), HB5.out⟩
    · have e0 : ((t.length : Int) == 0) = false := by rw [beq_eq_false_iff_ne]; omega
      obtain ⟨k1, k2⟩ := pickedZ_range n (t.length : Int) (by omega)
      obtain ⟨J, hJ⟩ : ∃ J : Nat, pickedZ n (t.length : Int) = (J : Int) := ⟨(pickedZ n (t.length : Int)).toNat, by omega⟩
      have HJ := Lib.hid hJ
      rw [hJ] at k1 k2
      have hJl : J < t.length := by omega
      have HDUP := Lib.hid (bsCode_snoc_dup (l := t) (b := t[J]) (List.getElem_mem hJl))
      obtain ⟨valt, hs, ho, hcp⟩ := HL5.out.copyOf (by decide) RBat_one 42
      have HS5 := Lib.hid hs
      have HO5 := Lib.hid ho
      have HC5 := Lib.hid hcp
      obtain ⟨b, o, vx, hab, -, y0, y1, y2, hd, hdl⟩ := HL5.out.bat J hJl
      obtain rfl := hab
      obtain ⟨adx, capx, rfl, -, -⟩ := hd.form
      have HD5 := Lib.hid (hd.low (by decide))
      have HDL := Lib.hid hdl
      have z9 := World.block_lt_of_cell? w5 _ y0
      simp only at z9
      have j0 : (0 : Int) ≤ (J : Int) := by omega
      have j1 : (J : Int) < (t.length : Int) := by omega
      clear h0 hJ hs ho hcp hd hdl
      generalize htj : t[J] = x at *
      clear htj
      go_wp2_with (first
        | (at_builtin; refine wpList_append_sl (o := ⟨some 25, _, _, _, _, _⟩) rfl _ _ 72 rfl elemBat w5.heap.size (.slice none 0 0) rfl 0 [] (World.ownsRow_nil _ _ _ _) _ rfl t.length valt HS5.out HO5.out (by unfold maxLen; omega) (by omega) (Nat.le_refl _) ?_; intro v6 w6 hown6 hgr6; have hl6 := HC5.out w5 w6 v6 (Below.refl _ _) hown6 hgr6; have hb6 : Below w5.heap.size w5 w6 := (Below.refl _ _).grown hgr6 (Nat.le_refl _) (fun k hk => by simp [Value.ownBlock] at hk); obtain ⟨ad6, cap6, rfl⟩ := ownsRow_form hl6.own; have HL6 := Lib.hid hl6; have HB6 := Lib.hid hb6; have hz6 := hb6.size; have r0 := (hb6.cell (p := ⟨b, o + J * 3, none⟩) z9).trans y0; have r1 := (hb6.cell (p := ⟨b, o + J * 3 + 1, none⟩) z9).trans y1; have r2 := (hb6.cell (p := ⟨b, o + J * 3 + 2, none⟩) z9).trans y2; have HX6 := Lib.hid (HD5.out.below hb6 (fun _ h => h)); clear hown6 hgr6 hl6 hb6)
        | (go_at_call 17; refine (picked_any n (t.length : Int) _ n1 n2 (by omega) (by omega)).mono ?_; rintro e w' ⟨rfl, rfl⟩; rw [HJ.out])
        | (at_builtin; refine wpList_append_one (o := ⟨some 34, _, _, _, _, _⟩) rfl _ _ 72 rfl elemBat w5.heap.size (.slice ad6 t.length cap6) t.length valt rfl (HL6.out.alloc _).own w6.heap.size 42 [.int .i64 x.a, .int .i64 x.n, .slice adx x.txs.length capx] rfl (BoxAt.new _ [_, _, _] _) rfl (by simp [Value.oneCell']) (by unfold maxLen; omega) (by omega) (by simp; omega) ?_; intro g7 cap7 w7 hown7 hgr7 hat7 hlt7; have hr7 := (HL6.out.alloc (.cells #[.int .i64 x.a, .int .i64 x.n, .slice adx x.txs.length capx] 42)).dup (x := x) (by decide) (by simp; omega) ⟨_, rfl, HX6.out.keep (Keep.alloc _ _ _) (fun b hb => .inl hb), HDL.out⟩ hown7 hgr7 hat7; have hb7 : Below w5.heap.size w5 w7 := (HB6.out.alloc hz6 _).grown hgr7 (by simp; omega) (ownBlock_ge HL6.out.own); have HR7 := Lib.hid hr7; have HB7 := Lib.hid (HB5.out.trans (hb7.mono z5)); clear hown7 hgr7 hat7 hr7 hb7))
      refine (checkBatches_any (l := t ++ [x]) _ w7 HR7.out (HT.out.belowS HB7.out)).mono ?_
      rintro e w8 ⟨rfl, hb8⟩
      rw [HDUP.out]
      have HB8 := Lib.hid (HB7.out.trans (hb8.mono HB7.out.size))
      clear hb8
      go_wp2
      go_ret
      exact ⟨ret_boolH (by rw [HTT.out]; exact HR.out), HB8.out⟩
  · have HR := Lib.hid (show decide (bsCode t = 0) = false by simp [hc])
    rw [hc]
    clear hc
    go_wp2
    go_ret
    exact ⟨ret_boolH (by rw [HTT.out]; exact HR.out), HB2.out⟩
set_option maxRecDepth 100000 in
set_option maxHeartbeats 2000000 in
theorem batchesBad_walk (v : Value) (l : List RawD) (n : Int) (w : World) (hv : RdS RRaw (fun _ => True) w v l) (n1 : -9223372036854775808 ≤ n) (n2 : n ≤ 9223372036854775807) (ht : Tabs w) :
    Calls Tryd.prog 14 #[v, .int .i64 n] w fun e w' => e = .returned (.bool true) ∧ Below w.heap.size w w' := by
  obtain ⟨adv, capv, rfl, hcv, hcm⟩ := hv.form
  have HV := Lib.hid hv
  have HT := Lib.hid ht
  clear hv ht
  go_enter Tryd.func14, Tryd.ntmps14
  go_wp2_with fail
  refine (bbad_any _ n w HV.out n1 n2 HT.out).mono ?_
  rintro e w1 ⟨rfl, hb1⟩
  have HB1 := Lib.hid hb1
  have HV1 := Lib.hid (HV.out.below hb1 (fun _ h => h))
  clear hb1
  by_cases hc : bsCode (batsL l) = 0
  · rw [show decide (bsCode (batsL l) = 0) = true by simp [hc]]
    clear hc
    go_wp2
    go_ret
    exact ⟨rfl, HB1.out⟩
  · rw [show decide (bsCode (batsL l) = 0) = false by simp [hc]]
    have HLAW := Lib.hid (bats_law hc)
    clear hc
    go_wp2_with fail
    refine (batchesOf_any _ w1 HV1.out).mono ?_
    rintro e w2 ⟨v2, rfl, h2, hb2⟩
    obtain ⟨ad2, cap2, rfl, -, -⟩ := h2.form
    have HL2 := Lib.hid h2
    have HB2 := Lib.hid (HB1.out.trans (hb2.mono HB1.out.size))
    clear h2 hb2
    go_wp2_with fail
    refine (oneSum_any (G := fun _ => True) (hs := []) _ _ w2 (RdS.nil _ _ _) HL2.out (HT.out.belowS HB2.out)).mono ?_
    rintro e w3 ⟨rfl, hb3⟩
    rw [HLAW.out]
    have HB3 := Lib.hid (HB2.out.trans (hb3.mono HB2.out.size))
    clear hb3
    go_wp2
    go_ret
    exact ⟨rfl, HB3.out⟩
end Go.Proofs.YtdfnnahhgbhmeaaDoor
