/- sheaveskeep.Dag: what it makes. -/
import Derived.Test.YtpfmmncnhlfdgaaDoorDagIn
import Derived.Test.YtpfmmncnhlfdgaaDoorBas
set_option linter.unusedVariables false
set_option linter.unusedSimpArgs false
attribute [local go_sem ↓] Go.wp_at_zero Go.wp_at_succ
namespace Go.Proofs.YtpfmmncnhlfdgaaDoor
open Go Go.RowKit

theorem elemBatD : ElemOk Tryd.prog 31 58 3 40 := elemOk_of (z := .agg #[.int .i64 0, .int .i64 0, .slice none 0 0]) (by kernel_rfl) (by kernel_rfl) rfl (by decide)
theorem u8_wrapZ (n : Int) : IntKind.u8.wrap n = ((byteZ n).toNat : Int) := by rw [byteZ_toNat]; simp [IntKind.wrap, IntKind.bits, IntKind.signed]
theorem stpMany_lt {l : List Stp} {i : Nat} (h : i < stpMany l) : i < l.length ∧ i < 24 := by unfold stpMany at h; omega
theorem stpN_cast (s : Stp) : pickedZ s.b 3 = (stpN s : Int) := by have := pickedZ_range s.b 3 (by omega); unfold stpN; omega
theorem batTo_succ {l : List Stp} {i : Nat} (h : i < l.length) : batTo l (i + 1) = batTo l i ++ stpBs i l[i] (stpN l[i]) := by
  show batTo l i ++ stpBs i (l.getD i stpZ) (stpN (l.getD i stpZ)) = _
  simp [h]
theorem dagTo_succ {l : List Stp} {i : Nat} (h : i < l.length) : dagTo l (i + 1) = dagStep (dagTo l i) i l[i] := by
  show dagStep (dagTo l i) i (l.getD i stpZ) = _
  simp [h]
theorem RdS.stpAt {G : Nat → Prop} {w : World} {l : List Stp} {b o n cap : Nat} (h : RdS RStp G w (.slice (some ⟨b, o, none⟩) n cap) l) (j : Nat) (hj : j < l.length) : StpAt w b (o + j * 3) l[j] := by
  obtain ⟨b', o', ha, h1, h2, h3, -⟩ := h.stp j hj
  simp only [Option.some.injEq, Addr.mk.injEq, and_true] at ha
  obtain ⟨rfl, rfl⟩ := ha
  exact ⟨h1, h2, h3⟩
theorem digs_some {G : Nat → Prop} {w : World} {l : List Bytes} {ad : Option Addr} {n cap : Nat} (h : RdBB G w (.slice ad n cap) l) (hl : 3 < l.length) : ∃ b o, ad = some ⟨b, o, none⟩ := by
  obtain ⟨b, o, _, ha, _⟩ := h.at 0 (by omega)
  exact ⟨b, o, ha⟩
set_option maxRecDepth 100000 in
set_option maxHeartbeats 8000000 in
theorem sdag_any {G : Nat → Prop} {l : List Stp} (v : Value) (w : World) (h : RdS RStp G w v l) (ht : Tabs w) :
    Calls Tryd.prog 35 #[v] w fun e w' => ∃ vd vb, e = .returned (.tuple #[.agg #[vd], vb]) ∧ RdS RCert (fun b => w.heap.size ≤ b) w' vd (dagL l) ∧ RdS RBat (fun b => w.heap.size ≤ b) w' vb (dagBs l) ∧ Below w.heap.size w w' := by
  obtain ⟨adl, capl, rfl, hcl, hml⟩ := h.form
  unfold maxLen at hml
  have HV := Lib.hid h
  have HT := Lib.hid ht
  clear h ht
  go_enter Tryd.func35, Tryd.ntmps35
  go_wp2_with fail
  go_loopw [5, 6] (fun v5 i wr => ∃ (k : Nat) (ad : Option Addr) (cap : Nat) (ad5 : Option Addr) (cap5 : Nat), k ≤ stpMany l ∧ i = .int .i64 k ∧ v5 = .slice ad5 (batTo l k).length cap5 ∧ DagOut w wr (dagTo l k) (batTo l k) (.slice ad (dagTo l k).length cap) (.slice ad5 (batTo l k).length cap5)) (fun _ i _ => stpMany l - (intOf i).toNat)
  case atStart =>
    refine ⟨0, none, 0, none, 0, Nat.zero_le _, rfl, rfl, by simp, (BoxAt.new w [.slice none 0 0] 30).alloc _, BoxAt.newAt (w.alloc (.cells #[.slice none 0 0] 30)) [.slice none 0 0] 30 (by simp), RdS.nil _ _ _, LstO.nil _ _ _ _ _, ((Below.refl _ _).alloc (Nat.le_refl _) _).alloc (by simp) _⟩
  case round =>
    obtain ⟨i, add, capd, ad5, cap5, hi, rfl, rfl, hO⟩ := hrel
    by_cases hlt : i < stpMany l
    · obtain ⟨hil, hi24⟩ := stpMany_lt hlt
      have i0 : (0 : Int) ≤ (i : Int) := by omega
      have i1 : (i : Int) < (l.length : Int) := by omega
      have i2 : (i : Int) < 24 := by omega
      obtain ⟨bl, ol, rfl, -, -, -, ⟨sa1, sa2⟩, ⟨sp1, sp2⟩, ⟨sb1, sb2⟩⟩ := HV.out.stp i hil
      have HST := Lib.hid ((HV.out.below hO.bel (fun _ h => h)).stpAt i hil)
      have HOK := Lib.hid (dagTo_ok l i)
      have HSTW := Lib.hid (fun w' (hb : Below w.heap.size w w') => (HV.out.below hb (fun _ h => h)).stpAt i hil)
      have hDl := dagTo_len l i
      have hBl := batTo_len l i
      have HDS := Lib.hid (dagTo_succ hil)
      have HBS := Lib.hid (batTo_succ hil)
      generalize l[i] = s at *
      generalize dagTo l i = D at *
      generalize batTo l i = Bs at *
      obtain ⟨R, hR⟩ : ∃ R, R = roundL D := ⟨_, rfl⟩
      have hR1 := roundL_pos D
      have hR2 := roundL_le D
      rw [← hR] at hR1 hR2
      have HR := Lib.hid hR
      clear hR
      have HO := Lib.hid hO
      clear hO
      have hz := HO.out.z
      have x4 := HO.out.b4.cell 0 rfl
      go_wp2_with fail
      refine (dagRound_any _ _ (HO.out.d.mono (G' := fun _ => True) (fun _ _ => trivial)) (HT.out.belowS HO.out.bel) HOK.out).mono ?_
      rintro e w1 ⟨rfl, hb1⟩
      rw [← HR.out]
      have HO1 := Lib.hid (HO.out.below hb1)
      have HS1 := Lib.hid (HST.out.below hb1)
      have hz1 := HO1.out.z
      clear x4 hb1 HO HST hz
      have c0 := HS1.out.1
      obtain ⟨pa1, pa2⟩ := pickedZ_range s.a 4 (by omega)
      go_upto_region 10 with (go_at_call 29; refine (picked_any _ _ _ sa1 sa2 (by omega) (by omega)).mono ?_; rintro e w' ⟨rfl, rfl⟩)
      clear c0
      obtain ⟨w2, hw2⟩ : ∃ w2, w2 = w1.alloc (.cells #[.int .i64 (pickedZ s.a 4), .int .i64 R, .slice none 0 0, .slice none 0 0] 42) := ⟨_, rfl⟩
      have hB2 : Below w1.heap.size w1 w2 := by rw [hw2]; exact (Below.refl _ _).alloc (Nat.le_refl _) _
      have B9 := Lib.hid (show BoxAt w2 w1.heap.size [.int .i64 (pickedZ s.a 4), .int .i64 R, .slice none 0 0, .slice none 0 0] 42 by rw [hw2]; exact BoxAt.new w1 [_, _, _, _] _)
      rw [← hw2]
      clear hw2
      have HB2 := Lib.hid hB2
      have HS2 := Lib.hid (HS1.out.below hB2)
      clear hB2
      have HL1 := Lib.hid (show stpR D s = if pickedZ s.p 4 = 3 ∧ 1 < R then R - 1 else R by unfold stpR; rw [HR.out])
      go_cut [55] (fun c wx => c = .bool (decide (pickedZ s.p 4 = 3 ∧ 1 < R)) ∧ w2 = wx)
      case first =>
        have c1 := HS2.out.2.1
        by_cases h1 : pickedZ s.p 4 = 3
        · have e1 : (pickedZ s.p 4 == 3) = true := by simp [h1]
          by_cases h2 : 1 < R
          · have HV1 := Lib.hid (decide_eq_true (show pickedZ s.p 4 = 3 ∧ 1 < R from ⟨h1, h2⟩))
            clear h1
            go_wp2_with (go_at_call 29; refine (picked_any _ _ _ sp1 sp2 (by omega) (by omega)).mono ?_; rintro e w' ⟨rfl, rfl⟩)
            go_meet
            exact ⟨by rw [HV1.out], rfl⟩
          · have HV1 := Lib.hid (decide_eq_false (show ¬ (pickedZ s.p 4 = 3 ∧ 1 < R) from fun q => h2 q.2))
            clear h1
            go_wp2_with (go_at_call 29; refine (picked_any _ _ _ sp1 sp2 (by omega) (by omega)).mono ?_; rintro e w' ⟨rfl, rfl⟩)
            go_meet
            exact ⟨by rw [HV1.out, decide_eq_false (by omega)], rfl⟩
        · have e1 : (pickedZ s.p 4 == 3) = false := by simp [h1]
          have HV1 := Lib.hid (decide_eq_false (show ¬ (pickedZ s.p 4 = 3 ∧ 1 < R) from fun q => h1 q.1))
          clear h1
          go_wp2_with (go_at_call 29; refine (picked_any _ _ _ sp1 sp2 (by omega) (by omega)).mono ?_; rintro e w' ⟨rfl, rfl⟩)
          go_meet
          exact ⟨by rw [HV1.out], rfl⟩
      case rest =>
      obtain ⟨rfl, rfl⟩ := hcut
      have hz2 := B9.out.lt
      go_upto_if 55 with fail
      go_cut [] (fun wx => BoxAt wx w1.heap.size [.int .i64 (pickedZ s.a 4), .int .i64 (stpR D s), .slice none 0 0, .slice none 0 0] 42 ∧ Below w1.heap.size w1 wx)
      case first =>
        have f1 := B9.out.free 1
        have c91 := B9.out.cell 1 rfl
        have wr1 : IntKind.i64.wrap (R - 1) = R - 1 := IntWalk.i64_in _ (by omega)
        by_cases h3 : pickedZ s.p 4 = 3 ∧ 1 < R
        · have HQ := Lib.hid (show stpR D s = R - 1 by rw [HL1.out, if_pos h3])
          rw [decide_eq_true h3]
          clear h3
          go_wp2
          go_meet
          exact ⟨by rw [HQ.out]; exact B9.out.set 1 _, HB2.out.setCell (by simp) _⟩
        · have HQ := Lib.hid (show stpR D s = R by rw [HL1.out, if_neg h3])
          rw [decide_eq_false h3]
          clear h3
          go_wp2
          go_meet
          exact ⟨by rw [HQ.out]; exact B9.out, HB2.out⟩
      case rest =>
      obtain ⟨hB9, hBw⟩ := hcut
      replace B9 := Lib.hid hB9
      have HBw := Lib.hid hBw
      have HS3 := Lib.hid (HS1.out.below hBw)
      have hr1 := (stpR_range D s).1
      have hr2 := (stpR_range D s).2
      rw [← HR.out] at hr2
      have HPP := Lib.hid (show stpP D s = if 1 < stpR D s then (if 3 < (digsL D (stpR D s - 1)).length ∧ pickedZ s.p 3 = 1 then (digsL D (stpR D s - 1)).drop 1 else digsL D (stpR D s - 1)) else [] from rfl)
      obtain ⟨R', hR'⟩ : ∃ R', R' = stpR D s := ⟨_, rfl⟩
      rw [← hR'] at B9 HPP hr1 hr2
      have HR' := Lib.hid hR'
      clear hB9 hBw hR' HL1 hz2
      have hz3 := B9.out.lt
      have c91 := B9.out.cell 1 rfl
      go_upto_if 61 with fail
      clear c91
      go_cut [] (fun wx => ∃ (adp : Option Addr) (capp : Nat), BoxAt wx w1.heap.size [.int .i64 (pickedZ s.a 4), .int .i64 R', .slice none 0 0, .slice adp (stpP D s).length capp] 42 ∧ RdBB (fun b => w1.heap.size < b) wx (.slice adp (stpP D s).length capp) (stpP D s) ∧ Below w1.heap.size w1 wx)
      case first =>
        by_cases h1 : 1 < R'
        · have x4 := (HO1.out.below HBw.out).b4.cell 0 rfl
          have c91 := B9.out.cell 1 rfl
          have wr1 : IntKind.i64.wrap (R' - 1) = R' - 1 := IntWalk.i64_in _ (by omega)
          go_wp2_with fail
          refine (dagDigests_any (R' - 1) _ _ ((HO1.out.below HBw.out).d.mono (G' := fun _ => True) (fun _ _ => trivial)) (HT.out.belowS (HO1.out.below HBw.out).bel) HOK.out).mono ?_
          rintro e w4 ⟨v4, rfl, h4, hb4⟩
          obtain ⟨adq, capq, rfl, hcq, hmq⟩ := h4.form
          unfold maxLen at hmq
          have B94 := Lib.hid (B9.out.belowS hb4)
          have HB4 := Lib.hid (HBw.out.trans (hb4.mono HBw.out.size))
          have HS4 := Lib.hid (HS3.out.below hb4)
          have HQ4 := Lib.hid (h4.mono (G' := fun b => w1.heap.size < b) (fun b hb => by omega))
          have hl4 := digsL_le D (R' - 1)
          clear x4 c91 h4 hb4
          generalize digsL D (R' - 1) = Q at *
          have f93 := B94.out.free 3
          have c93 := B94.out.cell 3 rfl
          have hz4 := B94.out.lt
          by_cases h2 : 3 < Q.length
          · have l3 : (3 : Int) < (Q.length : Int) := by omega
            have c1 := HS4.out.2.1
            by_cases h3 : pickedZ s.p 3 = 1
            · have e3 : (pickedZ s.p 3 == 1) = true := by simp [h3]
              obtain ⟨bq, oq, rfl⟩ := digs_some HQ4.out h2
              have HE := Lib.hid (show stpP D s = Q.drop 1 by rw [HPP.out, if_pos h1, if_pos ⟨h2, h3⟩])
              have k1 : (1 : Int) ≤ (Q.length : Int) := by omega
              have k2 : (1 : Int) ≤ (capq : Int) := by omega
              have k3 : ¬ capq = 1 := by omega
              have k4 : ¬ (capq : Int) = 1 := by omega
              have k5 : 1 ≤ Q.length := by omega
              have k6 : 1 ≤ capq := by omega
              clear h3
              go_wp2_with (go_at_call 29; refine (picked_any _ _ _ sp1 sp2 (by omega) (by omega)).mono ?_; rintro e w' ⟨rfl, rfl⟩)
              go_meet
              refine ⟨some ⟨bq, oq + 1, none⟩, capq - 1, ?_, ?_, HB4.out.setCell (by simp) _⟩
              · rw [HE.out, List.length_drop]; exact B94.out.set 3 _
              · rw [HE.out, List.length_drop]; exact (HQ4.out.drop 1 (by omega)).keep (Keep.setCell (by simp) _) (fun _ h => h)
            · have e3 : (pickedZ s.p 3 == 1) = false := by simp [h3]
              have HE := Lib.hid (show stpP D s = Q by rw [HPP.out, if_pos h1, if_neg (fun q => h3 q.2)])
              clear h3
              go_wp2_with (go_at_call 29; refine (picked_any _ _ _ sp1 sp2 (by omega) (by omega)).mono ?_; rintro e w' ⟨rfl, rfl⟩)
              go_meet
              refine ⟨adq, capq, ?_, ?_, HB4.out.setCell (by simp) _⟩
              · rw [HE.out]; exact B94.out.set 3 _
              · rw [HE.out]; exact HQ4.out.keep (Keep.setCell (by simp) _) (fun _ h => h)
          · have l3 : ¬ (3 : Int) < (Q.length : Int) := by omega
            have HE := Lib.hid (show stpP D s = Q by rw [HPP.out, if_pos h1, if_neg (fun q => h2 q.1)])
            clear h2
            go_wp2
            go_meet
            refine ⟨adq, capq, ?_, ?_, HB4.out.setCell (by simp) _⟩
            · rw [HE.out]; exact B94.out.set 3 _
            · rw [HE.out]; exact HQ4.out.keep (Keep.setCell (by simp) _) (fun _ h => h)
        · have HE := Lib.hid (show stpP D s = [] by rw [HPP.out, if_neg h1])
          go_wp2
          go_meet
          refine ⟨none, 0, ?_, ?_, HBw.out⟩
          · rw [HE.out]; exact B9.out
          · rw [HE.out]; exact RdS.nil _ _ _
      case rest =>
      obtain ⟨adp, capp, hB9, hPS, hBi⟩ := hcut
      rename World => wi
      have HI := Lib.hid (DagIn.start HO1.out hBi hB9 hPS)
      have HSi := Lib.hid (HS1.out.below hBi)
      have hPl : (stpP D s).length ≤ 4 := by
        rw [HPP.out]
        split
        · split
          · rw [List.length_drop]; have := digsL_le D (R' - 1); omega
          · exact digsL_le D (R' - 1)
        · simp
      have HPS := Lib.hid (show stpH D i s = ⟨pickedZ s.a 4, R', (stpBs i s (stpN s)).map batSum, stpP D s⟩ by unfold stpH; rw [HR'.out])
      have HN := Lib.hid (stpN_cast s)
      have hN2 := stpN_le s
      have HWI := Lib.hid (show Below w1.heap.size w1 wi from hBi)
      have HBW1 := Lib.hid HO1.out.bel
      clear hB9 hPS hBi B9 HBw HS3 HPP HS2 HB2 hz3
      generalize stpP D s = PS at *
      go_wp2_with fail
      go_loopw [5, 12] (fun v5 kk wr => ∃ (k : Nat) (a5 : Option Addr) (p5 : Nat) (aq : Option Addr) (pq : Nat), k ≤ stpN s ∧ kk = .int .i64 k ∧ v5 = .slice a5 (Bs ++ stpBs i s k).length p5 ∧ StpAt wr bl (ol + i * 3) s ∧ DagIn w1.heap.size w wr D PS (Bs ++ stpBs i s k) ((stpBs i s k).map batSum) (pickedZ s.a 4) R' (.slice add D.length capd) (.slice adp PS.length capp) (.slice a5 (Bs ++ stpBs i s k).length p5) (.slice aq k pq)) (fun _ kk _ => stpN s - (intOf kk).toNat)
      case atStart =>
        have e0 : Bs ++ stpBs i s 0 = Bs := by simp [stpBs]
        refine ⟨0, ad5, cap5, none, 0, Nat.zero_le _, rfl, by rw [e0], HSi.out, ?_⟩
        rw [e0]; exact HI.out
      case round =>
        obtain ⟨k, a5, p5, aq, pq, hk, rfl, rfl, hSr, hIr⟩ := hrel
        have HI := Lib.hid hIr
        have HSr := Lib.hid hSr
        have hzr := HI.out.z
        have hz1r := HI.out.z1
        have c2 := HSr.out.2.2
        clear hIr hSr
        by_cases hkn : k < stpN s
        · have k0 : (k : Int) < (stpN s : Int) := by omega
          have k0' : (k : Int) < pickedZ s.b 3 := by rw [HN.out]; omega
          have hv5 := HI.out.l5.lt
          have hvq := HI.out.lq.lt
          have b0e := u8_wrapZ (97 + (i : Int))
          have b1e := u8_wrapZ (65 + pickedZ s.b 7)
          have b2e := u8_wrapZ (48 + (k : Int))
          obtain ⟨pb1, pb2⟩ := pickedZ_range s.b 7 (by omega)
          have wm3 : IntKind.i64.wrap (3 * (i : Int)) = 3 * (i : Int) := IntWalk.i64_in _ (by omega)
          have wm4 : IntKind.i64.wrap (1 + 3 * (i : Int)) = 1 + 3 * (i : Int) := IntWalk.i64_in _ (by omega)
          have wm5 : IntKind.i64.wrap (1 + 3 * (i : Int) + (k : Int)) = 1 + 3 * (i : Int) + (k : Int) := IntWalk.i64_in _ (by omega)
          have wm6 : IntKind.i64.wrap (97 + (i : Int)) = 97 + (i : Int) := IntWalk.i64_in _ (by omega)
          have wm7 : IntKind.i64.wrap (65 + pickedZ s.b 7) = 65 + pickedZ s.b 7 := IntWalk.i64_in _ (by omega)
          have wm8 : IntKind.i64.wrap (48 + (k : Int)) = 48 + (k : Int) := IntWalk.i64_in _ (by omega)
          have HTX := Lib.hid (show (stpB i s k).txs = [[byteZ (97 + (i : Int))], [byteZ (65 + pickedZ s.b 7), byteZ (48 + (k : Int))]] from rfl)
          have HBK := Lib.hid (stpB_ok hi24 s (show k < 2 by omega))
          have HSUC5 := Lib.hid (show Bs ++ stpBs i s (k + 1) = (Bs ++ stpBs i s k) ++ [stpB i s k] by rw [stpBs_succ, List.append_assoc])
          have HSUCQ := Lib.hid (show (stpBs i s (k + 1)).map batSum = (stpBs i s k).map batSum ++ [batSum (stpB i s k)] by rw [stpBs_succ, List.map_append]; rfl)
          have hBL : (Bs ++ stpBs i s k).length ≤ 60 := by rw [List.length_append, stpBs_len]; omega
          have HQL := Lib.hid (show ((stpBs i s k).map batSum).length = k by rw [List.length_map, stpBs_len])
          generalize (stpBs i s k).map batSum = QL at *
          generalize Bs ++ stpBs i s k = BL at *
          generalize byteZ (97 + (i : Int)) = b0 at *
          generalize byteZ (65 + pickedZ s.b 7) = b1 at *
          generalize byteZ (48 + (k : Int)) = b2 at *
          go_upto_region 20 with (go_at_call 29; refine (picked_any _ _ _ sb1 sb2 (by omega) (by omega)).mono ?_; rintro e w' ⟨rfl, rfl⟩)
          clear c2
          have HB9 := Lib.hid HI.out.b9
          go_cut [13] (fun p wx => ∃ (P : Nat) (at1 : Option Addr) (ct : Nat), p = .pointer (some ⟨P, 0, none⟩) ∧ wr.heap.size ≤ P ∧ BoxAt wx P [.int .i64 (pickedZ s.a 4), .int .i64 (1 + 3 * (i : Int) + (k : Int)), .slice at1 2 ct] 58 ∧ RdT (fun b => wr.heap.size ≤ b ∧ b ≠ P) wx (.slice at1 2 ct) (stpB i s k).txs ∧ Below wr.heap.size wr wx)
          case first =>
            refine wp_region_held_drew (S := fun w' => Below wr.heap.size wr w') (by kernel_rfl) (by exact (Below.refl _ _).drew) (fun hHeld => ?_)
            obtain ⟨wd, hwd⟩ : ∃ wd, wd = wr.drew := ⟨_, rfl⟩
            rw [← hwd] at hHeld ⊢
            have HBd := Lib.hid (show Below wr.heap.size wr wd from hHeld)
            have zwd : wr.heap.size ≤ wd.heap.size := by rw [hwd]; exact Nat.le_refl _
            clear hwd
            refine wpAnyH_take (i := 0) (v := .pointer (some ⟨w1.heap.size, 0, none⟩)) rfl (by kernel_rfl) (by kernel_rfl) (by kernel_rfl) (fun _ _ _ h => h) (Or.inl ⟨by rfl, fun w hSw => ?_⟩) hHeld ?_
            · clear hSw; go_simp; all_goals (try first | rfl | omega)
            try simp only [Act.put, List.getElem_toArray, List.getElem_cons_succ, List.getElem_cons_zero, List.setIfInBounds_toArray, List.set_cons_zero, List.set_cons_succ]
            refine wpAnyH_take (i := 1) (v := .int .i64 (pickedZ s.a 4)) rfl (by kernel_rfl) (by kernel_rfl) (by kernel_rfl) (fun _ _ _ h => h) (Or.inl ⟨by rfl, fun w hSw => ?_⟩) hHeld ?_
            · have qb := HB9.out.belowS hSw; have q0 := qb.cell 0 rfl; clear hSw qb; go_simp
            try simp only [Act.put, List.getElem_toArray, List.getElem_cons_succ, List.getElem_cons_zero, List.setIfInBounds_toArray, List.set_cons_zero, List.set_cons_succ]
            refine wpAnyH_take (i := 2) (v := .int .i64 (i : Int)) rfl (by kernel_rfl) (by kernel_rfl) (by kernel_rfl) (fun _ _ _ h => h) (Or.inl ⟨by rfl, fun w hSw => ?_⟩) hHeld ?_
            · clear hSw; go_simp; all_goals (try first | rfl | omega)
            try simp only [Act.put, List.getElem_toArray, List.getElem_cons_succ, List.getElem_cons_zero, List.setIfInBounds_toArray, List.set_cons_zero, List.set_cons_succ]
            refine wpAnyH_take (i := 3) (v := .int .i64 (3 * (i : Int))) rfl (by kernel_rfl) (by kernel_rfl) (by kernel_rfl) (fun _ _ _ h => h) (Or.inl ⟨by rfl, fun w hSw => ?_⟩) hHeld ?_
            · clear hSw; go_simp; all_goals (try first | rfl | omega)
            try simp only [Act.put, List.getElem_toArray, List.getElem_cons_succ, List.getElem_cons_zero, List.setIfInBounds_toArray, List.set_cons_zero, List.set_cons_succ]
            refine wpAnyH_take (i := 4) (v := .int .i64 (1 + 3 * (i : Int))) rfl (by kernel_rfl) (by kernel_rfl) (by kernel_rfl) (fun _ _ _ h => h) (Or.inl ⟨by rfl, fun w hSw => ?_⟩) hHeld ?_
            · clear hSw; go_simp; all_goals (try first | rfl | omega)
            try simp only [Act.put, List.getElem_toArray, List.getElem_cons_succ, List.getElem_cons_zero, List.setIfInBounds_toArray, List.set_cons_zero, List.set_cons_succ]
            refine wpAnyH_take (i := 5) (v := .int .i64 (k : Int)) rfl (by kernel_rfl) (by kernel_rfl) (by kernel_rfl) (fun _ _ _ h => h) (Or.inl ⟨by rfl, fun w hSw => ?_⟩) hHeld ?_
            · clear hSw; go_simp; all_goals (try first | rfl | omega)
            try simp only [Act.put, List.getElem_toArray, List.getElem_cons_succ, List.getElem_cons_zero, List.setIfInBounds_toArray, List.set_cons_zero, List.set_cons_succ]
            refine wpAnyH_take (i := 6) (v := .int .i64 (1 + 3 * (i : Int) + (k : Int))) rfl (by kernel_rfl) (by kernel_rfl) (by kernel_rfl) (fun _ _ _ h => h) (Or.inl ⟨by rfl, fun w hSw => ?_⟩) hHeld ?_
            · clear hSw; go_simp; all_goals (try first | rfl | omega)
            try simp only [Act.put, List.getElem_toArray, List.getElem_cons_succ, List.getElem_cons_zero, List.setIfInBounds_toArray, List.set_cons_zero, List.set_cons_succ]
            refine wpAnyH_take (i := 7) (v := .int .i64 (i : Int)) rfl (by kernel_rfl) (by kernel_rfl) (by kernel_rfl) (fun _ _ _ h => h) (Or.inl ⟨by rfl, fun w hSw => ?_⟩) hHeld ?_
            · clear hSw; go_simp; all_goals (try first | rfl | omega)
            try simp only [Act.put, List.getElem_toArray, List.getElem_cons_succ, List.getElem_cons_zero, List.setIfInBounds_toArray, List.set_cons_zero, List.set_cons_succ]
            refine wpAnyH_take (i := 8) (v := .int .i64 (97 + (i : Int))) rfl (by kernel_rfl) (by kernel_rfl) (by kernel_rfl) (fun _ _ _ h => h) (Or.inl ⟨by rfl, fun w hSw => ?_⟩) hHeld ?_
            · clear hSw; go_simp; all_goals (try first | rfl | omega)
            try simp only [Act.put, List.getElem_toArray, List.getElem_cons_succ, List.getElem_cons_zero, List.setIfInBounds_toArray, List.set_cons_zero, List.set_cons_succ]
            refine wpAnyH_take (i := 9) (v := .int .u8 (b0.toNat : Int)) rfl (by kernel_rfl) (by kernel_rfl) (by kernel_rfl) (fun _ _ _ h => h) (Or.inl ⟨by rfl, fun w hSw => ?_⟩) hHeld ?_
            · clear hSw; go_simp; all_goals (try first | rfl | omega)
            try simp only [Act.put, List.getElem_toArray, List.getElem_cons_succ, List.getElem_cons_zero, List.setIfInBounds_toArray, List.set_cons_zero, List.set_cons_succ]
            refine wpAnyH_take (i := 12) (v := .slice (some ⟨bl, ol, none⟩) l.length capl) rfl (by kernel_rfl) (by kernel_rfl) (by kernel_rfl) (fun _ _ _ h => h) (Or.inl ⟨by rfl, fun w hSw => ?_⟩) hHeld ?_
            · clear hSw; go_simp; all_goals (try first | rfl | omega)
            try simp only [Act.put, List.getElem_toArray, List.getElem_cons_succ, List.getElem_cons_zero, List.setIfInBounds_toArray, List.set_cons_zero, List.set_cons_succ]
            refine wpAnyH_take (i := 13) (v := .int .i64 (i : Int)) rfl (by kernel_rfl) (by kernel_rfl) (by kernel_rfl) (fun _ _ _ h => h) (Or.inl ⟨by rfl, fun w hSw => ?_⟩) hHeld ?_
            · clear hSw; go_simp; all_goals (try first | rfl | omega)
            try simp only [Act.put, List.getElem_toArray, List.getElem_cons_succ, List.getElem_cons_zero, List.setIfInBounds_toArray, List.set_cons_zero, List.set_cons_succ]
            refine wpAnyH_take (i := 14) (v := .pointer (some ⟨bl, ol + i * 3, none⟩)) rfl (by kernel_rfl) (by kernel_rfl) (by kernel_rfl) (fun _ _ _ h => h) (Or.inl ⟨by rfl, fun w hSw => ?_⟩) hHeld ?_
            · clear hSw; go_simp; all_goals (try first | rfl | omega)
            try simp only [Act.put, List.getElem_toArray, List.getElem_cons_succ, List.getElem_cons_zero, List.setIfInBounds_toArray, List.set_cons_zero, List.set_cons_succ]
            refine wpAnyH_take (i := 15) (v := .pointer (some ⟨bl, ol + i * 3 + 2, none⟩)) rfl (by kernel_rfl) (by kernel_rfl) (by kernel_rfl) (fun _ _ _ h => h) (Or.inl ⟨by rfl, fun w hSw => ?_⟩) hHeld ?_
            · clear hSw; go_simp; all_goals (try first | rfl | omega)
            try simp only [Act.put, List.getElem_toArray, List.getElem_cons_succ, List.getElem_cons_zero, List.setIfInBounds_toArray, List.set_cons_zero, List.set_cons_succ]
            refine wpAnyH_take (i := 16) (v := .int .i64 s.b) rfl (by kernel_rfl) (by kernel_rfl) (by kernel_rfl) (fun _ _ _ h => h) (Or.inl ⟨by rfl, fun w hSw => ?_⟩) hHeld ?_
            · have q2 := (HSr.out.below hSw).2.2; clear hSw; go_simp
            try simp only [Act.put, List.getElem_toArray, List.getElem_cons_succ, List.getElem_cons_zero, List.setIfInBounds_toArray, List.set_cons_zero, List.set_cons_succ]
            refine wpAnyH_take (i := 20) (v := .int .i64 (k : Int)) rfl (by kernel_rfl) (by kernel_rfl) (by kernel_rfl) (fun _ _ _ h => h) (Or.inl ⟨by rfl, fun w hSw => ?_⟩) hHeld ?_
            · clear hSw; go_simp; all_goals (try first | rfl | omega)
            try simp only [Act.put, List.getElem_toArray, List.getElem_cons_succ, List.getElem_cons_zero, List.setIfInBounds_toArray, List.set_cons_zero, List.set_cons_succ]
            refine wpAnyH_take (i := 21) (v := .int .i64 (48 + (k : Int))) rfl (by kernel_rfl) (by kernel_rfl) (by kernel_rfl) (fun _ _ _ h => h) (Or.inl ⟨by rfl, fun w hSw => ?_⟩) hHeld ?_
            · clear hSw; go_simp; all_goals (try first | rfl | omega)
            try simp only [Act.put, List.getElem_toArray, List.getElem_cons_succ, List.getElem_cons_zero, List.setIfInBounds_toArray, List.set_cons_zero, List.set_cons_succ]
            refine wpAnyH_take (i := 22) (v := .int .u8 (b2.toNat : Int)) rfl (by kernel_rfl) (by kernel_rfl) (by kernel_rfl) (fun _ _ _ h => h) (Or.inl ⟨by rfl, fun w hSw => ?_⟩) hHeld ?_
            · clear hSw; go_simp; all_goals (try first | rfl | omega)
            try simp only [Act.put, List.getElem_toArray, List.getElem_cons_succ, List.getElem_cons_zero, List.setIfInBounds_toArray, List.set_cons_zero, List.set_cons_succ]
            refine wpAnyH_ready (rs := [10, 17, 27]) (by kernel_rfl) (by simp) ?_
            refine AllReadyH.cons rfl (fun K hK => ?_) ?_
            · as_aux_lemma =>
                rw [if_pos (by rfl)]
                go_simp
                show K _ _
                refine hK.out _ _ (by exact (HBd.out.alloc (Below.size HBd.out) _)) (fun hHeld => ?_)
                clear hK K
                try simp only [Act.put, List.getElem_toArray, List.getElem_cons_succ, List.getElem_cons_zero, List.setIfInBounds_toArray, List.set_cons_zero, List.set_cons_succ]
                obtain ⟨wa1, hwn⟩ : ∃ wa1, wa1 = wd.alloc (.cells #[.int .u8 (b0.toNat : Int)] 5) := ⟨_, rfl⟩
                have F1 := Lib.hid (show BoxAt wa1 (wd.heap.size) [.int .u8 (b0.toNat : Int)] 5 by rw [hwn]; exact BoxAt.newAt wd [.int .u8 (b0.toNat : Int)] 5 rfl)
                have HBwa1 := Lib.hid (show Below wr.heap.size wr wa1 by rw [hwn]; exact HBd.out.alloc (Below.size HBd.out) _)
                rw [← hwn] at hHeld ⊢
                clear hwn
                have zwa1 := F1.out.lt
                refine wpAnyH_strong (S' := fun w' => BoxAt w' (wd.heap.size) [.int .u8 (b0.toNat : Int)] 5 ∧ (Below wr.heap.size wr w')) (fun _ h => h.2) _ _ _ _ ?_
                replace hHeld := And.intro F1.out hHeld
                refine wpAnyH_take (i := 11) (v := strV [b0]) rfl (by kernel_rfl) (by kernel_rfl) (by kernel_rfl) (fun _ _ _ h => h) (Or.inl ⟨by rfl, fun w hSw => ?_⟩) hHeld ?_
                · have hcv : (convert 39 9 (.slice (some ⟨wd.heap.size, 0, none⟩) 1 1)).run Tryd.prog w = .ok (strV [b0]) w := conv_bytes_str (P := Tryd.prog) Tryd.underlying39 Tryd.underlying5 Tryd.underlying9 (RdS.of_box (G := fun _ => True) (l := [b0]) (cap := 1) hSw.1 trivial (by simp) (by unfold maxLen; simp)); clear hSw; go_simp
                try simp only [Act.put, List.getElem_toArray, List.getElem_cons_succ, List.getElem_cons_zero, List.setIfInBounds_toArray, List.set_cons_zero, List.set_cons_succ]
                refine wpAnyH_ready (rs := [17, 27]) (by kernel_rfl) (by simp) ?_
                refine AllReadyH.cons rfl (fun K hK => ?_) ?_
                · as_aux_lemma =>
                    rw [if_pos (by rfl)]
                    go_simp
                    go_at_call 29
                    refine (picked_any s.b 7 _ sb1 sb2 (by omega) (by omega)).mono ?_
                    rintro e w' ⟨rfl, rfl⟩
                    show K _ _
                    refine hK.out _ _ (by exact hHeld) (fun hHeld => ?_)
                    clear hK K
                    try simp only [Act.put, List.getElem_toArray, List.getElem_cons_succ, List.getElem_cons_zero, List.setIfInBounds_toArray, List.set_cons_zero, List.set_cons_succ]
                    refine wpAnyH_take (i := 18) (v := .int .i64 (65 + pickedZ s.b 7)) rfl (by kernel_rfl) (by kernel_rfl) (by kernel_rfl) (fun _ _ _ h => h) (Or.inl ⟨by rfl, fun w hSw => ?_⟩) hHeld ?_
                    · clear hSw; go_simp; all_goals (try first | rfl | omega)
                    try simp only [Act.put, List.getElem_toArray, List.getElem_cons_succ, List.getElem_cons_zero, List.setIfInBounds_toArray, List.set_cons_zero, List.set_cons_succ]
                    refine wpAnyH_take (i := 19) (v := .int .u8 (b1.toNat : Int)) rfl (by kernel_rfl) (by kernel_rfl) (by kernel_rfl) (fun _ _ _ h => h) (Or.inl ⟨by rfl, fun w hSw => ?_⟩) hHeld ?_
                    · clear hSw; go_simp; all_goals (try first | rfl | omega)
                    try simp only [Act.put, List.getElem_toArray, List.getElem_cons_succ, List.getElem_cons_zero, List.setIfInBounds_toArray, List.set_cons_zero, List.set_cons_succ]
                    refine wpAnyH_ready (rs := [23, 27]) (by kernel_rfl) (by simp) ?_
                    refine AllReadyH.cons rfl (fun K hK => ?_) ?_
                    · as_aux_lemma =>
                        rw [if_pos (by rfl)]
                        go_simp
                        show K _ _
                        refine hK.out _ _ (by exact ⟨(F1.out.alloc _), (HBwa1.out.alloc (Below.size HBwa1.out) _)⟩) (fun hHeld => ?_)
                        clear hK K
                        try simp only [Act.put, List.getElem_toArray, List.getElem_cons_succ, List.getElem_cons_zero, List.setIfInBounds_toArray, List.set_cons_zero, List.set_cons_succ]
                        obtain ⟨wa2, hwn⟩ : ∃ wa2, wa2 = wa1.alloc (.cells #[.int .u8 (b1.toNat : Int), .int .u8 (b2.toNat : Int)] 5) := ⟨_, rfl⟩
                        have F2 := Lib.hid (show BoxAt wa2 (wa1.heap.size) [.int .u8 (b1.toNat : Int), .int .u8 (b2.toNat : Int)] 5 by rw [hwn]; exact BoxAt.newAt wa1 [.int .u8 (b1.toNat : Int), .int .u8 (b2.toNat : Int)] 5 rfl)
                        replace F1 := Lib.hid (show BoxAt wa2 (wd.heap.size) [.int .u8 (b0.toNat : Int)] 5 by rw [hwn]; exact F1.out.alloc _)
                        have HBwa2 := Lib.hid (show Below wr.heap.size wr wa2 by rw [hwn]; exact HBwa1.out.alloc (Below.size HBwa1.out) _)
                        rw [← hwn] at hHeld ⊢
                        clear hwn
                        have zwa2 := F2.out.lt
                        refine wpAnyH_strong (S' := fun w' => BoxAt w' (wa1.heap.size) [.int .u8 (b1.toNat : Int), .int .u8 (b2.toNat : Int)] 5 ∧ (BoxAt w' (wd.heap.size) [.int .u8 (b0.toNat : Int)] 5 ∧ (Below wr.heap.size wr w'))) (fun _ h => h.2) _ _ _ _ ?_
                        replace hHeld := And.intro F2.out hHeld
                        refine wpAnyH_take (i := 24) (v := strV [b1, b2]) rfl (by kernel_rfl) (by kernel_rfl) (by kernel_rfl) (fun _ _ _ h => h) (Or.inl ⟨by rfl, fun w hSw => ?_⟩) hHeld ?_
                        · have hcv : (convert 39 9 (.slice (some ⟨wa1.heap.size, 0, none⟩) 2 2)).run Tryd.prog w = .ok (strV [b1, b2]) w := conv_bytes_str (P := Tryd.prog) Tryd.underlying39 Tryd.underlying5 Tryd.underlying9 (RdS.of_box (G := fun _ => True) (l := [b1, b2]) (cap := 2) hSw.1 trivial (by simp) (by unfold maxLen; simp)); clear hSw; go_simp
                        try simp only [Act.put, List.getElem_toArray, List.getElem_cons_succ, List.getElem_cons_zero, List.setIfInBounds_toArray, List.set_cons_zero, List.set_cons_succ]
                        refine wpAnyH_ready (rs := [25, 27]) (by kernel_rfl) (by simp) ?_
                        refine AllReadyH.cons rfl (fun K hK => ?_) ?_
                        · as_aux_lemma =>
                            rw [if_pos (by rfl)]
                            go_simp
                            show K _ _
                            refine hK.out _ _ (by exact ⟨(F2.out.alloc _), (F1.out.alloc _), (HBwa2.out.alloc (Below.size HBwa2.out) _)⟩) (fun hHeld => ?_)
                            clear hK K
                            try simp only [Act.put, List.getElem_toArray, List.getElem_cons_succ, List.getElem_cons_zero, List.setIfInBounds_toArray, List.set_cons_zero, List.set_cons_succ]
                            obtain ⟨wa3, hwn⟩ : ∃ wa3, wa3 = wa2.alloc (.cells #[strV [b0], strV [b1, b2]] 9) := ⟨_, rfl⟩
                            have F3 := Lib.hid (show BoxAt wa3 (wa2.heap.size) [strV [b0], strV [b1, b2]] 9 by rw [hwn]; exact BoxAt.newAt wa2 [strV [b0], strV [b1, b2]] 9 rfl)
                            replace F1 := Lib.hid (show BoxAt wa3 (wd.heap.size) [.int .u8 (b0.toNat : Int)] 5 by rw [hwn]; exact F1.out.alloc _)
                            replace F2 := Lib.hid (show BoxAt wa3 (wa1.heap.size) [.int .u8 (b1.toNat : Int), .int .u8 (b2.toNat : Int)] 5 by rw [hwn]; exact F2.out.alloc _)
                            have HBwa3 := Lib.hid (show Below wr.heap.size wr wa3 by rw [hwn]; exact HBwa2.out.alloc (Below.size HBwa2.out) _)
                            rw [← hwn] at hHeld ⊢
                            clear hwn
                            have zwa3 := F3.out.lt
                            refine wpAnyH_take (i := 26) (v := .agg #[.int .i64 (pickedZ s.a 4), .int .i64 (1 + 3 * (i : Int) + (k : Int)), .slice (some ⟨wa2.heap.size, 0, none⟩) 2 2]) rfl (by kernel_rfl) (by kernel_rfl) (by kernel_rfl) (fun _ _ _ h => h) (Or.inl ⟨by rfl, fun w hSw => ?_⟩) hHeld ?_
                            · clear hSw; go_simp; all_goals (try first | rfl | omega)
                            try simp only [Act.put, List.getElem_toArray, List.getElem_cons_succ, List.getElem_cons_zero, List.setIfInBounds_toArray, List.set_cons_zero, List.set_cons_succ]
                            refine wpAnyH_ready (rs := [27]) (by kernel_rfl) (by simp) ?_
                            refine AllReadyH.cons rfl (fun K hK => ?_) ?_
                            · rw [if_pos (by rfl)]
                              go_simp
                              show K _ _
                              refine hK.out _ _ (by exact ⟨(F2.out.alloc _), (F1.out.alloc _), (HBwa3.out.alloc (Below.size HBwa3.out) _)⟩) (fun hHeld => ?_)
                              clear hK K
                              try simp only [Act.put, List.getElem_toArray, List.getElem_cons_succ, List.getElem_cons_zero, List.setIfInBounds_toArray, List.set_cons_zero, List.set_cons_succ]
                              obtain ⟨wa4, hwn⟩ : ∃ wa4, wa4 = wa3.alloc (.cells #[.int .i64 0, .int .i64 0, .slice none 0 0] 58) := ⟨_, rfl⟩
                              have F4 := Lib.hid (show BoxAt wa4 (wa3.heap.size) [.int .i64 0, .int .i64 0, .slice none 0 0] 58 by rw [hwn]; exact BoxAt.newAt wa3 [.int .i64 0, .int .i64 0, .slice none 0 0] 58 rfl)
                              replace F1 := Lib.hid (show BoxAt wa4 (wd.heap.size) [.int .u8 (b0.toNat : Int)] 5 by rw [hwn]; exact F1.out.alloc _)
                              replace F2 := Lib.hid (show BoxAt wa4 (wa1.heap.size) [.int .u8 (b1.toNat : Int), .int .u8 (b2.toNat : Int)] 5 by rw [hwn]; exact F2.out.alloc _)
                              replace F3 := Lib.hid (show BoxAt wa4 (wa2.heap.size) [strV [b0], strV [b1, b2]] 9 by rw [hwn]; exact F3.out.alloc _)
                              have HBwa4 := Lib.hid (show Below wr.heap.size wr wa4 by rw [hwn]; exact HBwa3.out.alloc (Below.size HBwa3.out) _)
                              rw [← hwn] at hHeld ⊢
                              clear hwn
                              have zwa4 := F4.out.lt
                              refine wpAnyH_ready (rs := [28]) (by kernel_rfl) (by simp) ?_
                              refine AllReadyH.cons rfl (fun K hK => ?_) ?_
                              · rw [if_pos (by rfl)]
                                have q0 := F4.out.cell 0 rfl
                                have q1 := F4.out.cell 1 rfl
                                have q2 := F4.out.cell 2 rfl
                                have qf0 := F4.out.free 0
                                have qf1 := F4.out.free 1
                                have qf2 := F4.out.free 2
                                go_simp
                                show K _ _
                                refine hK.out _ _ (by exact ⟨(((F2.out.setOther (p := ⟨wa3.heap.size, 0, none⟩) (by simp; omega) (.int .i64 (pickedZ s.a 4))).setOther (p := ⟨wa3.heap.size, 1, none⟩) (by simp; omega) (.int .i64 (1 + 3 * (i : Int) + (k : Int)))).setOther (p := ⟨wa3.heap.size, 2, none⟩) (by simp; omega) (.slice (some ⟨wa2.heap.size, 0, none⟩) 2 2)), (((F1.out.setOther (p := ⟨wa3.heap.size, 0, none⟩) (by simp; omega) (.int .i64 (pickedZ s.a 4))).setOther (p := ⟨wa3.heap.size, 1, none⟩) (by simp; omega) (.int .i64 (1 + 3 * (i : Int) + (k : Int)))).setOther (p := ⟨wa3.heap.size, 2, none⟩) (by simp; omega) (.slice (some ⟨wa2.heap.size, 0, none⟩) 2 2)), (((HBwa4.out.setCell (p := ⟨wa3.heap.size, 0, none⟩) (by simp; omega) (.int .i64 (pickedZ s.a 4))).setCell (p := ⟨wa3.heap.size, 1, none⟩) (by simp; omega) (.int .i64 (1 + 3 * (i : Int) + (k : Int)))).setCell (p := ⟨wa3.heap.size, 2, none⟩) (by simp; omega) (.slice (some ⟨wa2.heap.size, 0, none⟩) 2 2))⟩) (fun hHeld => ?_)
                                clear hK K
                                try simp only [Act.put, List.getElem_toArray, List.getElem_cons_succ, List.getElem_cons_zero, List.setIfInBounds_toArray, List.set_cons_zero, List.set_cons_succ]
                                refine wpAnyH_done (by kernel_rfl) ?_ _
                                go_wp2
                                go_meet
                                refine ⟨wa3.heap.size, some ⟨wa2.heap.size, 0, none⟩, 2, rfl, by omega, (((F4.out.set 0 (.int .i64 (pickedZ s.a 4))).set 1 (.int .i64 (1 + 3 * (i : Int) + (k : Int)))).set 2 (.slice (some ⟨wa2.heap.size, 0, none⟩) 2 2)), ?_, (((HBwa4.out.setCell (p := ⟨wa3.heap.size, 0, none⟩) (by simp; omega) (.int .i64 (pickedZ s.a 4))).setCell (p := ⟨wa3.heap.size, 1, none⟩) (by simp; omega) (.int .i64 (1 + 3 * (i : Int) + (k : Int)))).setCell (p := ⟨wa3.heap.size, 2, none⟩) (by simp; omega) (.slice (some ⟨wa2.heap.size, 0, none⟩) 2 2))⟩
                                rw [HTX.out]
                                exact RdS.of_box (l := [[b0], [b1, b2]]) (cap := 2) ((((F3.out.setOther (p := ⟨wa3.heap.size, 0, none⟩) (by simp; omega) (.int .i64 (pickedZ s.a 4))).setOther (p := ⟨wa3.heap.size, 1, none⟩) (by simp; omega) (.int .i64 (1 + 3 * (i : Int) + (k : Int)))).setOther (p := ⟨wa3.heap.size, 2, none⟩) (by simp; omega) (.slice (some ⟨wa2.heap.size, 0, none⟩) 2 2))) ⟨by omega, by omega⟩ (by simp) (by unfold maxLen; simp)
                              exact AllReadyH.nil
                            exact AllReadyH.nil
                        refine AllReadyH.cons rfl (fun K hK => ?_) ?_
                        · as_aux_lemma =>
                            rw [if_pos (by rfl)]
                            go_simp
                            show K _ _
                            refine hK.out _ _ (by exact ⟨(F2.out.alloc _), (F1.out.alloc _), (HBwa2.out.alloc (Below.size HBwa2.out) _)⟩) (fun hHeld => ?_)
                            clear hK K
                            try simp only [Act.put, List.getElem_toArray, List.getElem_cons_succ, List.getElem_cons_zero, List.setIfInBounds_toArray, List.set_cons_zero, List.set_cons_succ]
                            obtain ⟨wa3, hwn⟩ : ∃ wa3, wa3 = wa2.alloc (.cells #[.int .i64 0, .int .i64 0, .slice none 0 0] 58) := ⟨_, rfl⟩
                            have F3 := Lib.hid (show BoxAt wa3 (wa2.heap.size) [.int .i64 0, .int .i64 0, .slice none 0 0] 58 by rw [hwn]; exact BoxAt.newAt wa2 [.int .i64 0, .int .i64 0, .slice none 0 0] 58 rfl)
                            replace F1 := Lib.hid (show BoxAt wa3 (wd.heap.size) [.int .u8 (b0.toNat : Int)] 5 by rw [hwn]; exact F1.out.alloc _)
                            replace F2 := Lib.hid (show BoxAt wa3 (wa1.heap.size) [.int .u8 (b1.toNat : Int), .int .u8 (b2.toNat : Int)] 5 by rw [hwn]; exact F2.out.alloc _)
                            have HBwa3 := Lib.hid (show Below wr.heap.size wr wa3 by rw [hwn]; exact HBwa2.out.alloc (Below.size HBwa2.out) _)
                            rw [← hwn] at hHeld ⊢
                            clear hwn
                            have zwa3 := F3.out.lt
                            refine wpAnyH_ready (rs := [25]) (by kernel_rfl) (by simp) ?_
                            refine AllReadyH.cons rfl (fun K hK => ?_) ?_
                            · rw [if_pos (by rfl)]
                              go_simp
                              show K _ _
                              refine hK.out _ _ (by exact ⟨(F2.out.alloc _), (F1.out.alloc _), (HBwa3.out.alloc (Below.size HBwa3.out) _)⟩) (fun hHeld => ?_)
                              clear hK K
                              try simp only [Act.put, List.getElem_toArray, List.getElem_cons_succ, List.getElem_cons_zero, List.setIfInBounds_toArray, List.set_cons_zero, List.set_cons_succ]
                              obtain ⟨wa4, hwn⟩ : ∃ wa4, wa4 = wa3.alloc (.cells #[strV [b0], strV [b1, b2]] 9) := ⟨_, rfl⟩
                              have F4 := Lib.hid (show BoxAt wa4 (wa3.heap.size) [strV [b0], strV [b1, b2]] 9 by rw [hwn]; exact BoxAt.newAt wa3 [strV [b0], strV [b1, b2]] 9 rfl)
                              replace F1 := Lib.hid (show BoxAt wa4 (wd.heap.size) [.int .u8 (b0.toNat : Int)] 5 by rw [hwn]; exact F1.out.alloc _)
                              replace F2 := Lib.hid (show BoxAt wa4 (wa1.heap.size) [.int .u8 (b1.toNat : Int), .int .u8 (b2.toNat : Int)] 5 by rw [hwn]; exact F2.out.alloc _)
                              replace F3 := Lib.hid (show BoxAt wa4 (wa2.heap.size) [.int .i64 0, .int .i64 0, .slice none 0 0] 58 by rw [hwn]; exact F3.out.alloc _)
                              have HBwa4 := Lib.hid (show Below wr.heap.size wr wa4 by rw [hwn]; exact HBwa3.out.alloc (Below.size HBwa3.out) _)
                              rw [← hwn] at hHeld ⊢
                              clear hwn
                              have zwa4 := F4.out.lt
                              refine wpAnyH_take (i := 26) (v := .agg #[.int .i64 (pickedZ s.a 4), .int .i64 (1 + 3 * (i : Int) + (k : Int)), .slice (some ⟨wa3.heap.size, 0, none⟩) 2 2]) rfl (by kernel_rfl) (by kernel_rfl) (by kernel_rfl) (fun _ _ _ h => h) (Or.inl ⟨by rfl, fun w hSw => ?_⟩) hHeld ?_
                              · clear hSw; go_simp; all_goals (try first | rfl | omega)
                              try simp only [Act.put, List.getElem_toArray, List.getElem_cons_succ, List.getElem_cons_zero, List.setIfInBounds_toArray, List.set_cons_zero, List.set_cons_succ]
                              refine wpAnyH_ready (rs := [28]) (by kernel_rfl) (by simp) ?_
                              refine AllReadyH.cons rfl (fun K hK => ?_) ?_
                              · rw [if_pos (by rfl)]
                                have q0 := F3.out.cell 0 rfl
                                have q1 := F3.out.cell 1 rfl
                                have q2 := F3.out.cell 2 rfl
                                have qf0 := F3.out.free 0
                                have qf1 := F3.out.free 1
                                have qf2 := F3.out.free 2
                                go_simp
                                show K _ _
                                refine hK.out _ _ (by exact ⟨(((F2.out.setOther (p := ⟨wa2.heap.size, 0, none⟩) (by simp; omega) (.int .i64 (pickedZ s.a 4))).setOther (p := ⟨wa2.heap.size, 1, none⟩) (by simp; omega) (.int .i64 (1 + 3 * (i : Int) + (k : Int)))).setOther (p := ⟨wa2.heap.size, 2, none⟩) (by simp; omega) (.slice (some ⟨wa3.heap.size, 0, none⟩) 2 2)), (((F1.out.setOther (p := ⟨wa2.heap.size, 0, none⟩) (by simp; omega) (.int .i64 (pickedZ s.a 4))).setOther (p := ⟨wa2.heap.size, 1, none⟩) (by simp; omega) (.int .i64 (1 + 3 * (i : Int) + (k : Int)))).setOther (p := ⟨wa2.heap.size, 2, none⟩) (by simp; omega) (.slice (some ⟨wa3.heap.size, 0, none⟩) 2 2)), (((HBwa4.out.setCell (p := ⟨wa2.heap.size, 0, none⟩) (by simp; omega) (.int .i64 (pickedZ s.a 4))).setCell (p := ⟨wa2.heap.size, 1, none⟩) (by simp; omega) (.int .i64 (1 + 3 * (i : Int) + (k : Int)))).setCell (p := ⟨wa2.heap.size, 2, none⟩) (by simp; omega) (.slice (some ⟨wa3.heap.size, 0, none⟩) 2 2))⟩) (fun hHeld => ?_)
                                clear hK K
                                try simp only [Act.put, List.getElem_toArray, List.getElem_cons_succ, List.getElem_cons_zero, List.setIfInBounds_toArray, List.set_cons_zero, List.set_cons_succ]
                                refine wpAnyH_done (by kernel_rfl) ?_ _
                                go_wp2
                                go_meet
                                refine ⟨wa2.heap.size, some ⟨wa3.heap.size, 0, none⟩, 2, rfl, by omega, (((F3.out.set 0 (.int .i64 (pickedZ s.a 4))).set 1 (.int .i64 (1 + 3 * (i : Int) + (k : Int)))).set 2 (.slice (some ⟨wa3.heap.size, 0, none⟩) 2 2)), ?_, (((HBwa4.out.setCell (p := ⟨wa2.heap.size, 0, none⟩) (by simp; omega) (.int .i64 (pickedZ s.a 4))).setCell (p := ⟨wa2.heap.size, 1, none⟩) (by simp; omega) (.int .i64 (1 + 3 * (i : Int) + (k : Int)))).setCell (p := ⟨wa2.heap.size, 2, none⟩) (by simp; omega) (.slice (some ⟨wa3.heap.size, 0, none⟩) 2 2))⟩
                                rw [HTX.out]
                                exact RdS.of_box (l := [[b0], [b1, b2]]) (cap := 2) ((((F4.out.setOther (p := ⟨wa2.heap.size, 0, none⟩) (by simp; omega) (.int .i64 (pickedZ s.a 4))).setOther (p := ⟨wa2.heap.size, 1, none⟩) (by simp; omega) (.int .i64 (1 + 3 * (i : Int) + (k : Int)))).setOther (p := ⟨wa2.heap.size, 2, none⟩) (by simp; omega) (.slice (some ⟨wa3.heap.size, 0, none⟩) 2 2))) ⟨by omega, by omega⟩ (by simp) (by unfold maxLen; simp)
                              exact AllReadyH.nil
                            exact AllReadyH.nil
                        exact AllReadyH.nil
                    refine AllReadyH.cons rfl (fun K hK => ?_) ?_
                    · as_aux_lemma =>
                        rw [if_pos (by rfl)]
                        go_simp
                        show K _ _
                        refine hK.out _ _ (by exact ⟨(F1.out.alloc _), (HBwa1.out.alloc (Below.size HBwa1.out) _)⟩) (fun hHeld => ?_)
                        clear hK K
                        try simp only [Act.put, List.getElem_toArray, List.getElem_cons_succ, List.getElem_cons_zero, List.setIfInBounds_toArray, List.set_cons_zero, List.set_cons_succ]
                        obtain ⟨wa2, hwn⟩ : ∃ wa2, wa2 = wa1.alloc (.cells #[.int .i64 0, .int .i64 0, .slice none 0 0] 58) := ⟨_, rfl⟩
                        have F2 := Lib.hid (show BoxAt wa2 (wa1.heap.size) [.int .i64 0, .int .i64 0, .slice none 0 0] 58 by rw [hwn]; exact BoxAt.newAt wa1 [.int .i64 0, .int .i64 0, .slice none 0 0] 58 rfl)
                        replace F1 := Lib.hid (show BoxAt wa2 (wd.heap.size) [.int .u8 (b0.toNat : Int)] 5 by rw [hwn]; exact F1.out.alloc _)
                        have HBwa2 := Lib.hid (show Below wr.heap.size wr wa2 by rw [hwn]; exact HBwa1.out.alloc (Below.size HBwa1.out) _)
                        rw [← hwn] at hHeld ⊢
                        clear hwn
                        have zwa2 := F2.out.lt
                        refine wpAnyH_ready (rs := [23]) (by kernel_rfl) (by simp) ?_
                        refine AllReadyH.cons rfl (fun K hK => ?_) ?_
                        · rw [if_pos (by rfl)]
                          go_simp
                          show K _ _
                          refine hK.out _ _ (by exact ⟨(F1.out.alloc _), (HBwa2.out.alloc (Below.size HBwa2.out) _)⟩) (fun hHeld => ?_)
                          clear hK K
                          try simp only [Act.put, List.getElem_toArray, List.getElem_cons_succ, List.getElem_cons_zero, List.setIfInBounds_toArray, List.set_cons_zero, List.set_cons_succ]
                          obtain ⟨wa3, hwn⟩ : ∃ wa3, wa3 = wa2.alloc (.cells #[.int .u8 (b1.toNat : Int), .int .u8 (b2.toNat : Int)] 5) := ⟨_, rfl⟩
                          have F3 := Lib.hid (show BoxAt wa3 (wa2.heap.size) [.int .u8 (b1.toNat : Int), .int .u8 (b2.toNat : Int)] 5 by rw [hwn]; exact BoxAt.newAt wa2 [.int .u8 (b1.toNat : Int), .int .u8 (b2.toNat : Int)] 5 rfl)
                          replace F1 := Lib.hid (show BoxAt wa3 (wd.heap.size) [.int .u8 (b0.toNat : Int)] 5 by rw [hwn]; exact F1.out.alloc _)
                          replace F2 := Lib.hid (show BoxAt wa3 (wa1.heap.size) [.int .i64 0, .int .i64 0, .slice none 0 0] 58 by rw [hwn]; exact F2.out.alloc _)
                          have HBwa3 := Lib.hid (show Below wr.heap.size wr wa3 by rw [hwn]; exact HBwa2.out.alloc (Below.size HBwa2.out) _)
                          rw [← hwn] at hHeld ⊢
                          clear hwn
                          have zwa3 := F3.out.lt
                          refine wpAnyH_strong (S' := fun w' => BoxAt w' (wa2.heap.size) [.int .u8 (b1.toNat : Int), .int .u8 (b2.toNat : Int)] 5 ∧ (BoxAt w' (wd.heap.size) [.int .u8 (b0.toNat : Int)] 5 ∧ (Below wr.heap.size wr w'))) (fun _ h => h.2) _ _ _ _ ?_
                          replace hHeld := And.intro F3.out hHeld
                          refine wpAnyH_take (i := 24) (v := strV [b1, b2]) rfl (by kernel_rfl) (by kernel_rfl) (by kernel_rfl) (fun _ _ _ h => h) (Or.inl ⟨by rfl, fun w hSw => ?_⟩) hHeld ?_
                          · have hcv : (convert 39 9 (.slice (some ⟨wa2.heap.size, 0, none⟩) 2 2)).run Tryd.prog w = .ok (strV [b1, b2]) w := conv_bytes_str (P := Tryd.prog) Tryd.underlying39 Tryd.underlying5 Tryd.underlying9 (RdS.of_box (G := fun _ => True) (l := [b1, b2]) (cap := 2) hSw.1 trivial (by simp) (by unfold maxLen; simp)); clear hSw; go_simp
                          try simp only [Act.put, List.getElem_toArray, List.getElem_cons_succ, List.getElem_cons_zero, List.setIfInBounds_toArray, List.set_cons_zero, List.set_cons_succ]
                          refine wpAnyH_ready (rs := [25]) (by kernel_rfl) (by simp) ?_
                          refine AllReadyH.cons rfl (fun K hK => ?_) ?_
                          · rw [if_pos (by rfl)]
                            go_simp
                            show K _ _
                            refine hK.out _ _ (by exact ⟨(F3.out.alloc _), (F1.out.alloc _), (HBwa3.out.alloc (Below.size HBwa3.out) _)⟩) (fun hHeld => ?_)
                            clear hK K
                            try simp only [Act.put, List.getElem_toArray, List.getElem_cons_succ, List.getElem_cons_zero, List.setIfInBounds_toArray, List.set_cons_zero, List.set_cons_succ]
                            obtain ⟨wa4, hwn⟩ : ∃ wa4, wa4 = wa3.alloc (.cells #[strV [b0], strV [b1, b2]] 9) := ⟨_, rfl⟩
                            have F4 := Lib.hid (show BoxAt wa4 (wa3.heap.size) [strV [b0], strV [b1, b2]] 9 by rw [hwn]; exact BoxAt.newAt wa3 [strV [b0], strV [b1, b2]] 9 rfl)
                            replace F1 := Lib.hid (show BoxAt wa4 (wd.heap.size) [.int .u8 (b0.toNat : Int)] 5 by rw [hwn]; exact F1.out.alloc _)
                            replace F2 := Lib.hid (show BoxAt wa4 (wa1.heap.size) [.int .i64 0, .int .i64 0, .slice none 0 0] 58 by rw [hwn]; exact F2.out.alloc _)
                            replace F3 := Lib.hid (show BoxAt wa4 (wa2.heap.size) [.int .u8 (b1.toNat : Int), .int .u8 (b2.toNat : Int)] 5 by rw [hwn]; exact F3.out.alloc _)
                            have HBwa4 := Lib.hid (show Below wr.heap.size wr wa4 by rw [hwn]; exact HBwa3.out.alloc (Below.size HBwa3.out) _)
                            rw [← hwn] at hHeld ⊢
                            clear hwn
                            have zwa4 := F4.out.lt
                            refine wpAnyH_take (i := 26) (v := .agg #[.int .i64 (pickedZ s.a 4), .int .i64 (1 + 3 * (i : Int) + (k : Int)), .slice (some ⟨wa3.heap.size, 0, none⟩) 2 2]) rfl (by kernel_rfl) (by kernel_rfl) (by kernel_rfl) (fun _ _ _ h => h) (Or.inl ⟨by rfl, fun w hSw => ?_⟩) hHeld ?_
                            · clear hSw; go_simp; all_goals (try first | rfl | omega)
                            try simp only [Act.put, List.getElem_toArray, List.getElem_cons_succ, List.getElem_cons_zero, List.setIfInBounds_toArray, List.set_cons_zero, List.set_cons_succ]
                            refine wpAnyH_ready (rs := [28]) (by kernel_rfl) (by simp) ?_
                            refine AllReadyH.cons rfl (fun K hK => ?_) ?_
                            · rw [if_pos (by rfl)]
                              have q0 := F2.out.cell 0 rfl
                              have q1 := F2.out.cell 1 rfl
                              have q2 := F2.out.cell 2 rfl
                              have qf0 := F2.out.free 0
                              have qf1 := F2.out.free 1
                              have qf2 := F2.out.free 2
                              go_simp
                              show K _ _
                              refine hK.out _ _ (by exact ⟨(((F3.out.setOther (p := ⟨wa1.heap.size, 0, none⟩) (by simp; omega) (.int .i64 (pickedZ s.a 4))).setOther (p := ⟨wa1.heap.size, 1, none⟩) (by simp; omega) (.int .i64 (1 + 3 * (i : Int) + (k : Int)))).setOther (p := ⟨wa1.heap.size, 2, none⟩) (by simp; omega) (.slice (some ⟨wa3.heap.size, 0, none⟩) 2 2)), (((F1.out.setOther (p := ⟨wa1.heap.size, 0, none⟩) (by simp; omega) (.int .i64 (pickedZ s.a 4))).setOther (p := ⟨wa1.heap.size, 1, none⟩) (by simp; omega) (.int .i64 (1 + 3 * (i : Int) + (k : Int)))).setOther (p := ⟨wa1.heap.size, 2, none⟩) (by simp; omega) (.slice (some ⟨wa3.heap.size, 0, none⟩) 2 2)), (((HBwa4.out.setCell (p := ⟨wa1.heap.size, 0, none⟩) (by simp; omega) (.int .i64 (pickedZ s.a 4))).setCell (p := ⟨wa1.heap.size, 1, none⟩) (by simp; omega) (.int .i64 (1 + 3 * (i : Int) + (k : Int)))).setCell (p := ⟨wa1.heap.size, 2, none⟩) (by simp; omega) (.slice (some ⟨wa3.heap.size, 0, none⟩) 2 2))⟩) (fun hHeld => ?_)
                              clear hK K
                              try simp only [Act.put, List.getElem_toArray, List.getElem_cons_succ, List.getElem_cons_zero, List.setIfInBounds_toArray, List.set_cons_zero, List.set_cons_succ]
                              refine wpAnyH_done (by kernel_rfl) ?_ _
                              go_wp2
                              go_meet
                              refine ⟨wa1.heap.size, some ⟨wa3.heap.size, 0, none⟩, 2, rfl, by omega, (((F2.out.set 0 (.int .i64 (pickedZ s.a 4))).set 1 (.int .i64 (1 + 3 * (i : Int) + (k : Int)))).set 2 (.slice (some ⟨wa3.heap.size, 0, none⟩) 2 2)), ?_, (((HBwa4.out.setCell (p := ⟨wa1.heap.size, 0, none⟩) (by simp; omega) (.int .i64 (pickedZ s.a 4))).setCell (p := ⟨wa1.heap.size, 1, none⟩) (by simp; omega) (.int .i64 (1 + 3 * (i : Int) + (k : Int)))).setCell (p := ⟨wa1.heap.size, 2, none⟩) (by simp; omega) (.slice (some ⟨wa3.heap.size, 0, none⟩) 2 2))⟩
                              rw [HTX.out]
                              exact RdS.of_box (l := [[b0], [b1, b2]]) (cap := 2) ((((F4.out.setOther (p := ⟨wa1.heap.size, 0, none⟩) (by simp; omega) (.int .i64 (pickedZ s.a 4))).setOther (p := ⟨wa1.heap.size, 1, none⟩) (by simp; omega) (.int .i64 (1 + 3 * (i : Int) + (k : Int)))).setOther (p := ⟨wa1.heap.size, 2, none⟩) (by simp; omega) (.slice (some ⟨wa3.heap.size, 0, none⟩) 2 2))) ⟨by omega, by omega⟩ (by simp) (by unfold maxLen; simp)
                            exact AllReadyH.nil
                          exact AllReadyH.nil
                        exact AllReadyH.nil
                    exact AllReadyH.nil
                refine AllReadyH.cons rfl (fun K hK => ?_) ?_
                · as_aux_lemma =>
                    rw [if_pos (by rfl)]
                    go_simp
                    show K _ _
                    refine hK.out _ _ (by exact ⟨(F1.out.alloc _), (HBwa1.out.alloc (Below.size HBwa1.out) _)⟩) (fun hHeld => ?_)
                    clear hK K
                    try simp only [Act.put, List.getElem_toArray, List.getElem_cons_succ, List.getElem_cons_zero, List.setIfInBounds_toArray, List.set_cons_zero, List.set_cons_succ]
                    obtain ⟨wa2, hwn⟩ : ∃ wa2, wa2 = wa1.alloc (.cells #[.int .i64 0, .int .i64 0, .slice none 0 0] 58) := ⟨_, rfl⟩
                    have F2 := Lib.hid (show BoxAt wa2 (wa1.heap.size) [.int .i64 0, .int .i64 0, .slice none 0 0] 58 by rw [hwn]; exact BoxAt.newAt wa1 [.int .i64 0, .int .i64 0, .slice none 0 0] 58 rfl)
                    replace F1 := Lib.hid (show BoxAt wa2 (wd.heap.size) [.int .u8 (b0.toNat : Int)] 5 by rw [hwn]; exact F1.out.alloc _)
                    have HBwa2 := Lib.hid (show Below wr.heap.size wr wa2 by rw [hwn]; exact HBwa1.out.alloc (Below.size HBwa1.out) _)
                    rw [← hwn] at hHeld ⊢
                    clear hwn
                    have zwa2 := F2.out.lt
                    refine wpAnyH_ready (rs := [17]) (by kernel_rfl) (by simp) ?_
                    refine AllReadyH.cons rfl (fun K hK => ?_) ?_
                    · rw [if_pos (by rfl)]
                      go_simp
                      go_at_call 29
                      refine (picked_any s.b 7 _ sb1 sb2 (by omega) (by omega)).mono ?_
                      rintro e w' ⟨rfl, rfl⟩
                      show K _ _
                      refine hK.out _ _ (by exact hHeld) (fun hHeld => ?_)
                      clear hK K
                      try simp only [Act.put, List.getElem_toArray, List.getElem_cons_succ, List.getElem_cons_zero, List.setIfInBounds_toArray, List.set_cons_zero, List.set_cons_succ]
                      refine wpAnyH_take (i := 18) (v := .int .i64 (65 + pickedZ s.b 7)) rfl (by kernel_rfl) (by kernel_rfl) (by kernel_rfl) (fun _ _ _ h => h) (Or.inl ⟨by rfl, fun w hSw => ?_⟩) hHeld ?_
                      · clear hSw; go_simp; all_goals (try first | rfl | omega)
                      try simp only [Act.put, List.getElem_toArray, List.getElem_cons_succ, List.getElem_cons_zero, List.setIfInBounds_toArray, List.set_cons_zero, List.set_cons_succ]
                      refine wpAnyH_take (i := 19) (v := .int .u8 (b1.toNat : Int)) rfl (by kernel_rfl) (by kernel_rfl) (by kernel_rfl) (fun _ _ _ h => h) (Or.inl ⟨by rfl, fun w hSw => ?_⟩) hHeld ?_
                      · clear hSw; go_simp; all_goals (try first | rfl | omega)
                      try simp only [Act.put, List.getElem_toArray, List.getElem_cons_succ, List.getElem_cons_zero, List.setIfInBounds_toArray, List.set_cons_zero, List.set_cons_succ]
                      refine wpAnyH_ready (rs := [23]) (by kernel_rfl) (by simp) ?_
                      refine AllReadyH.cons rfl (fun K hK => ?_) ?_
                      · rw [if_pos (by rfl)]
                        go_simp
                        show K _ _
                        refine hK.out _ _ (by exact ⟨(F1.out.alloc _), (HBwa2.out.alloc (Below.size HBwa2.out) _)⟩) (fun hHeld => ?_)
                        clear hK K
                        try simp only [Act.put, List.getElem_toArray, List.getElem_cons_succ, List.getElem_cons_zero, List.setIfInBounds_toArray, List.set_cons_zero, List.set_cons_succ]
                        obtain ⟨wa3, hwn⟩ : ∃ wa3, wa3 = wa2.alloc (.cells #[.int .u8 (b1.toNat : Int), .int .u8 (b2.toNat : Int)] 5) := ⟨_, rfl⟩
                        have F3 := Lib.hid (show BoxAt wa3 (wa2.heap.size) [.int .u8 (b1.toNat : Int), .int .u8 (b2.toNat : Int)] 5 by rw [hwn]; exact BoxAt.newAt wa2 [.int .u8 (b1.toNat : Int), .int .u8 (b2.toNat : Int)] 5 rfl)
                        replace F1 := Lib.hid (show BoxAt wa3 (wd.heap.size) [.int .u8 (b0.toNat : Int)] 5 by rw [hwn]; exact F1.out.alloc _)
                        replace F2 := Lib.hid (show BoxAt wa3 (wa1.heap.size) [.int .i64 0, .int .i64 0, .slice none 0 0] 58 by rw [hwn]; exact F2.out.alloc _)
                        have HBwa3 := Lib.hid (show Below wr.heap.size wr wa3 by rw [hwn]; exact HBwa2.out.alloc (Below.size HBwa2.out) _)
                        rw [← hwn] at hHeld ⊢
                        clear hwn
                        have zwa3 := F3.out.lt
                        refine wpAnyH_strong (S' := fun w' => BoxAt w' (wa2.heap.size) [.int .u8 (b1.toNat : Int), .int .u8 (b2.toNat : Int)] 5 ∧ (BoxAt w' (wd.heap.size) [.int .u8 (b0.toNat : Int)] 5 ∧ (Below wr.heap.size wr w'))) (fun _ h => h.2) _ _ _ _ ?_
                        replace hHeld := And.intro F3.out hHeld
                        refine wpAnyH_take (i := 24) (v := strV [b1, b2]) rfl (by kernel_rfl) (by kernel_rfl) (by kernel_rfl) (fun _ _ _ h => h) (Or.inl ⟨by rfl, fun w hSw => ?_⟩) hHeld ?_
                        · have hcv : (convert 39 9 (.slice (some ⟨wa2.heap.size, 0, none⟩) 2 2)).run Tryd.prog w = .ok (strV [b1, b2]) w := conv_bytes_str (P := Tryd.prog) Tryd.underlying39 Tryd.underlying5 Tryd.underlying9 (RdS.of_box (G := fun _ => True) (l := [b1, b2]) (cap := 2) hSw.1 trivial (by simp) (by unfold maxLen; simp)); clear hSw; go_simp
                        try simp only [Act.put, List.getElem_toArray, List.getElem_cons_succ, List.getElem_cons_zero, List.setIfInBounds_toArray, List.set_cons_zero, List.set_cons_succ]
                        refine wpAnyH_ready (rs := [25]) (by kernel_rfl) (by simp) ?_
                        refine AllReadyH.cons rfl (fun K hK => ?_) ?_
                        · rw [if_pos (by rfl)]
                          go_simp
                          show K _ _
                          refine hK.out _ _ (by exact ⟨(F3.out.alloc _), (F1.out.alloc _), (HBwa3.out.alloc (Below.size HBwa3.out) _)⟩) (fun hHeld => ?_)
                          clear hK K
                          try simp only [Act.put, List.getElem_toArray, List.getElem_cons_succ, List.getElem_cons_zero, List.setIfInBounds_toArray, List.set_cons_zero, List.set_cons_succ]
                          obtain ⟨wa4, hwn⟩ : ∃ wa4, wa4 = wa3.alloc (.cells #[strV [b0], strV [b1, b2]] 9) := ⟨_, rfl⟩
                          have F4 := Lib.hid (show BoxAt wa4 (wa3.heap.size) [strV [b0], strV [b1, b2]] 9 by rw [hwn]; exact BoxAt.newAt wa3 [strV [b0], strV [b1, b2]] 9 rfl)
                          replace F1 := Lib.hid (show BoxAt wa4 (wd.heap.size) [.int .u8 (b0.toNat : Int)] 5 by rw [hwn]; exact F1.out.alloc _)
                          replace F2 := Lib.hid (show BoxAt wa4 (wa1.heap.size) [.int .i64 0, .int .i64 0, .slice none 0 0] 58 by rw [hwn]; exact F2.out.alloc _)
                          replace F3 := Lib.hid (show BoxAt wa4 (wa2.heap.size) [.int .u8 (b1.toNat : Int), .int .u8 (b2.toNat : Int)] 5 by rw [hwn]; exact F3.out.alloc _)
                          have HBwa4 := Lib.hid (show Below wr.heap.size wr wa4 by rw [hwn]; exact HBwa3.out.alloc (Below.size HBwa3.out) _)
                          rw [← hwn] at hHeld ⊢
                          clear hwn
                          have zwa4 := F4.out.lt
                          refine wpAnyH_take (i := 26) (v := .agg #[.int .i64 (pickedZ s.a 4), .int .i64 (1 + 3 * (i : Int) + (k : Int)), .slice (some ⟨wa3.heap.size, 0, none⟩) 2 2]) rfl (by kernel_rfl) (by kernel_rfl) (by kernel_rfl) (fun _ _ _ h => h) (Or.inl ⟨by rfl, fun w hSw => ?_⟩) hHeld ?_
                          · clear hSw; go_simp; all_goals (try first | rfl | omega)
                          try simp only [Act.put, List.getElem_toArray, List.getElem_cons_succ, List.getElem_cons_zero, List.setIfInBounds_toArray, List.set_cons_zero, List.set_cons_succ]
                          refine wpAnyH_ready (rs := [28]) (by kernel_rfl) (by simp) ?_
                          refine AllReadyH.cons rfl (fun K hK => ?_) ?_
                          · rw [if_pos (by rfl)]
                            have q0 := F2.out.cell 0 rfl
                            have q1 := F2.out.cell 1 rfl
                            have q2 := F2.out.cell 2 rfl
                            have qf0 := F2.out.free 0
                            have qf1 := F2.out.free 1
                            have qf2 := F2.out.free 2
                            go_simp
                            show K _ _
                            refine hK.out _ _ (by exact ⟨(((F3.out.setOther (p := ⟨wa1.heap.size, 0, none⟩) (by simp; omega) (.int .i64 (pickedZ s.a 4))).setOther (p := ⟨wa1.heap.size, 1, none⟩) (by simp; omega) (.int .i64 (1 + 3 * (i : Int) + (k : Int)))).setOther (p := ⟨wa1.heap.size, 2, none⟩) (by simp; omega) (.slice (some ⟨wa3.heap.size, 0, none⟩) 2 2)), (((F1.out.setOther (p := ⟨wa1.heap.size, 0, none⟩) (by simp; omega) (.int .i64 (pickedZ s.a 4))).setOther (p := ⟨wa1.heap.size, 1, none⟩) (by simp; omega) (.int .i64 (1 + 3 * (i : Int) + (k : Int)))).setOther (p := ⟨wa1.heap.size, 2, none⟩) (by simp; omega) (.slice (some ⟨wa3.heap.size, 0, none⟩) 2 2)), (((HBwa4.out.setCell (p := ⟨wa1.heap.size, 0, none⟩) (by simp; omega) (.int .i64 (pickedZ s.a 4))).setCell (p := ⟨wa1.heap.size, 1, none⟩) (by simp; omega) (.int .i64 (1 + 3 * (i : Int) + (k : Int)))).setCell (p := ⟨wa1.heap.size, 2, none⟩) (by simp; omega) (.slice (some ⟨wa3.heap.size, 0, none⟩) 2 2))⟩) (fun hHeld => ?_)
                            clear hK K
                            try simp only [Act.put, List.getElem_toArray, List.getElem_cons_succ, List.getElem_cons_zero, List.setIfInBounds_toArray, List.set_cons_zero, List.set_cons_succ]
                            refine wpAnyH_done (by kernel_rfl) ?_ _
                            go_wp2
                            go_meet
                            refine ⟨wa1.heap.size, some ⟨wa3.heap.size, 0, none⟩, 2, rfl, by omega, (((F2.out.set 0 (.int .i64 (pickedZ s.a 4))).set 1 (.int .i64 (1 + 3 * (i : Int) + (k : Int)))).set 2 (.slice (some ⟨wa3.heap.size, 0, none⟩) 2 2)), ?_, (((HBwa4.out.setCell (p := ⟨wa1.heap.size, 0, none⟩) (by simp; omega) (.int .i64 (pickedZ s.a 4))).setCell (p := ⟨wa1.heap.size, 1, none⟩) (by simp; omega) (.int .i64 (1 + 3 * (i : Int) + (k : Int)))).setCell (p := ⟨wa1.heap.size, 2, none⟩) (by simp; omega) (.slice (some ⟨wa3.heap.size, 0, none⟩) 2 2))⟩
                            rw [HTX.out]
                            exact RdS.of_box (l := [[b0], [b1, b2]]) (cap := 2) ((((F4.out.setOther (p := ⟨wa1.heap.size, 0, none⟩) (by simp; omega) (.int .i64 (pickedZ s.a 4))).setOther (p := ⟨wa1.heap.size, 1, none⟩) (by simp; omega) (.int .i64 (1 + 3 * (i : Int) + (k : Int)))).setOther (p := ⟨wa1.heap.size, 2, none⟩) (by simp; omega) (.slice (some ⟨wa3.heap.size, 0, none⟩) 2 2))) ⟨by omega, by omega⟩ (by simp) (by unfold maxLen; simp)
                          exact AllReadyH.nil
                        exact AllReadyH.nil
                      exact AllReadyH.nil
                    exact AllReadyH.nil
                exact AllReadyH.nil
            refine AllReadyH.cons rfl (fun K hK => ?_) ?_
            · as_aux_lemma =>
                rw [if_pos (by rfl)]
                go_simp
                go_at_call 29
                refine (picked_any s.b 7 _ sb1 sb2 (by omega) (by omega)).mono ?_
                rintro e w' ⟨rfl, rfl⟩
                show K _ _
                refine hK.out _ _ (by exact hHeld) (fun hHeld => ?_)
                clear hK K
                try simp only [Act.put, List.getElem_toArray, List.getElem_cons_succ, List.getElem_cons_zero, List.setIfInBounds_toArray, List.set_cons_zero, List.set_cons_succ]
                refine wpAnyH_take (i := 18) (v := .int .i64 (65 + pickedZ s.b 7)) rfl (by kernel_rfl) (by kernel_rfl) (by kernel_rfl) (fun _ _ _ h => h) (Or.inl ⟨by rfl, fun w hSw => ?_⟩) hHeld ?_
                · clear hSw; go_simp; all_goals (try first | rfl | omega)
                try simp only [Act.put, List.getElem_toArray, List.getElem_cons_succ, List.getElem_cons_zero, List.setIfInBounds_toArray, List.set_cons_zero, List.set_cons_succ]
                refine wpAnyH_take (i := 19) (v := .int .u8 (b1.toNat : Int)) rfl (by kernel_rfl) (by kernel_rfl) (by kernel_rfl) (fun _ _ _ h => h) (Or.inl ⟨by rfl, fun w hSw => ?_⟩) hHeld ?_
                · clear hSw; go_simp; all_goals (try first | rfl | omega)
                try simp only [Act.put, List.getElem_toArray, List.getElem_cons_succ, List.getElem_cons_zero, List.setIfInBounds_toArray, List.set_cons_zero, List.set_cons_succ]
                refine wpAnyH_ready (rs := [10, 23, 27]) (by kernel_rfl) (by simp) ?_
                refine AllReadyH.cons rfl (fun K hK => ?_) ?_
                · as_aux_lemma =>
                    rw [if_pos (by rfl)]
                    go_simp
                    show K _ _
                    refine hK.out _ _ (by exact (HBd.out.alloc (Below.size HBd.out) _)) (fun hHeld => ?_)
                    clear hK K
                    try simp only [Act.put, List.getElem_toArray, List.getElem_cons_succ, List.getElem_cons_zero, List.setIfInBounds_toArray, List.set_cons_zero, List.set_cons_succ]
                    obtain ⟨wa1, hwn⟩ : ∃ wa1, wa1 = wd.alloc (.cells #[.int .u8 (b0.toNat : Int)] 5) := ⟨_, rfl⟩
                    have F1 := Lib.hid (show BoxAt wa1 (wd.heap.size) [.int .u8 (b0.toNat : Int)] 5 by rw [hwn]; exact BoxAt.newAt wd [.int .u8 (b0.toNat : Int)] 5 rfl)
                    have HBwa1 := Lib.hid (show Below wr.heap.size wr wa1 by rw [hwn]; exact HBd.out.alloc (Below.size HBd.out) _)
                    rw [← hwn] at hHeld ⊢
                    clear hwn
                    have zwa1 := F1.out.lt
                    refine wpAnyH_strong (S' := fun w' => BoxAt w' (wd.heap.size) [.int .u8 (b0.toNat : Int)] 5 ∧ (Below wr.heap.size wr w')) (fun _ h => h.2) _ _ _ _ ?_
                    replace hHeld := And.intro F1.out hHeld
                    refine wpAnyH_take (i := 11) (v := strV [b0]) rfl (by kernel_rfl) (by kernel_rfl) (by kernel_rfl) (fun _ _ _ h => h) (Or.inl ⟨by rfl, fun w hSw => ?_⟩) hHeld ?_
                    · have hcv : (convert 39 9 (.slice (some ⟨wd.heap.size, 0, none⟩) 1 1)).run Tryd.prog w = .ok (strV [b0]) w := conv_bytes_str (P := Tryd.prog) Tryd.underlying39 Tryd.underlying5 Tryd.underlying9 (RdS.of_box (G := fun _ => True) (l := [b0]) (cap := 1) hSw.1 trivial (by simp) (by unfold maxLen; simp)); clear hSw; go_simp
                    try simp only [Act.put, List.getElem_toArray, List.getElem_cons_succ, List.getElem_cons_zero, List.setIfInBounds_toArray, List.set_cons_zero, List.set_cons_succ]
                    refine wpAnyH_ready (rs := [23, 27]) (by kernel_rfl) (by simp) ?_
                    refine AllReadyH.cons rfl (fun K hK => ?_) ?_
                    · as_aux_lemma =>
                        rw [if_pos (by rfl)]
                        go_simp
                        show K _ _
                        refine hK.out _ _ (by exact ⟨(F1.out.alloc _), (HBwa1.out.alloc (Below.size HBwa1.out) _)⟩) (fun hHeld => ?_)
                        clear hK K
                        try simp only [Act.put, List.getElem_toArray, List.getElem_cons_succ, List.getElem_cons_zero, List.setIfInBounds_toArray, List.set_cons_zero, List.set_cons_succ]
                        obtain ⟨wa2, hwn⟩ : ∃ wa2, wa2 = wa1.alloc (.cells #[.int .u8 (b1.toNat : Int), .int .u8 (b2.toNat : Int)] 5) := ⟨_, rfl⟩
                        have F2 := Lib.hid (show BoxAt wa2 (wa1.heap.size) [.int .u8 (b1.toNat : Int), .int .u8 (b2.toNat : Int)] 5 by rw [hwn]; exact BoxAt.newAt wa1 [.int .u8 (b1.toNat : Int), .int .u8 (b2.toNat : Int)] 5 rfl)
                        replace F1 := Lib.hid (show BoxAt wa2 (wd.heap.size) [.int .u8 (b0.toNat : Int)] 5 by rw [hwn]; exact F1.out.alloc _)
                        have HBwa2 := Lib.hid (show Below wr.heap.size wr wa2 by rw [hwn]; exact HBwa1.out.alloc (Below.size HBwa1.out) _)
                        rw [← hwn] at hHeld ⊢
                        clear hwn
                        have zwa2 := F2.out.lt
                        refine wpAnyH_strong (S' := fun w' => BoxAt w' (wa1.heap.size) [.int .u8 (b1.toNat : Int), .int .u8 (b2.toNat : Int)] 5 ∧ (BoxAt w' (wd.heap.size) [.int .u8 (b0.toNat : Int)] 5 ∧ (Below wr.heap.size wr w'))) (fun _ h => h.2) _ _ _ _ ?_
                        replace hHeld := And.intro F2.out hHeld
                        refine wpAnyH_take (i := 24) (v := strV [b1, b2]) rfl (by kernel_rfl) (by kernel_rfl) (by kernel_rfl) (fun _ _ _ h => h) (Or.inl ⟨by rfl, fun w hSw => ?_⟩) hHeld ?_
                        · have hcv : (convert 39 9 (.slice (some ⟨wa1.heap.size, 0, none⟩) 2 2)).run Tryd.prog w = .ok (strV [b1, b2]) w := conv_bytes_str (P := Tryd.prog) Tryd.underlying39 Tryd.underlying5 Tryd.underlying9 (RdS.of_box (G := fun _ => True) (l := [b1, b2]) (cap := 2) hSw.1 trivial (by simp) (by unfold maxLen; simp)); clear hSw; go_simp
                        try simp only [Act.put, List.getElem_toArray, List.getElem_cons_succ, List.getElem_cons_zero, List.setIfInBounds_toArray, List.set_cons_zero, List.set_cons_succ]
                        refine wpAnyH_ready (rs := [25, 27]) (by kernel_rfl) (by simp) ?_
                        refine AllReadyH.cons rfl (fun K hK => ?_) ?_
                        · as_aux_lemma =>
                            rw [if_pos (by rfl)]
                            go_simp
                            show K _ _
                            refine hK.out _ _ (by exact ⟨(F2.out.alloc _), (F1.out.alloc _), (HBwa2.out.alloc (Below.size HBwa2.out) _)⟩) (fun hHeld => ?_)
                            clear hK K
                            try simp only [Act.put, List.getElem_toArray, List.getElem_cons_succ, List.getElem_cons_zero, List.setIfInBounds_toArray, List.set_cons_zero, List.set_cons_succ]
                            obtain ⟨wa3, hwn⟩ : ∃ wa3, wa3 = wa2.alloc (.cells #[strV [b0], strV [b1, b2]] 9) := ⟨_, rfl⟩
                            have F3 := Lib.hid (show BoxAt wa3 (wa2.heap.size) [strV [b0], strV [b1, b2]] 9 by rw [hwn]; exact BoxAt.newAt wa2 [strV [b0], strV [b1, b2]] 9 rfl)
                            replace F1 := Lib.hid (show BoxAt wa3 (wd.heap.size) [.int .u8 (b0.toNat : Int)] 5 by rw [hwn]; exact F1.out.alloc _)
                            replace F2 := Lib.hid (show BoxAt wa3 (wa1.heap.size) [.int .u8 (b1.toNat : Int), .int .u8 (b2.toNat : Int)] 5 by rw [hwn]; exact F2.out.alloc _)
                            have HBwa3 := Lib.hid (show Below wr.heap.size wr wa3 by rw [hwn]; exact HBwa2.out.alloc (Below.size HBwa2.out) _)
                            rw [← hwn] at hHeld ⊢
                            clear hwn
                            have zwa3 := F3.out.lt
                            refine wpAnyH_take (i := 26) (v := .agg #[.int .i64 (pickedZ s.a 4), .int .i64 (1 + 3 * (i : Int) + (k : Int)), .slice (some ⟨wa2.heap.size, 0, none⟩) 2 2]) rfl (by kernel_rfl) (by kernel_rfl) (by kernel_rfl) (fun _ _ _ h => h) (Or.inl ⟨by rfl, fun w hSw => ?_⟩) hHeld ?_
                            · clear hSw; go_simp; all_goals (try first | rfl | omega)
                            try simp only [Act.put, List.getElem_toArray, List.getElem_cons_succ, List.getElem_cons_zero, List.setIfInBounds_toArray, List.set_cons_zero, List.set_cons_succ]
                            refine wpAnyH_ready (rs := [27]) (by kernel_rfl) (by simp) ?_
                            refine AllReadyH.cons rfl (fun K hK => ?_) ?_
                            · rw [if_pos (by rfl)]
                              go_simp
                              show K _ _
                              refine hK.out _ _ (by exact ⟨(F2.out.alloc _), (F1.out.alloc _), (HBwa3.out.alloc (Below.size HBwa3.out) _)⟩) (fun hHeld => ?_)
                              clear hK K
                              try simp only [Act.put, List.getElem_toArray, List.getElem_cons_succ, List.getElem_cons_zero, List.setIfInBounds_toArray, List.set_cons_zero, List.set_cons_succ]
                              obtain ⟨wa4, hwn⟩ : ∃ wa4, wa4 = wa3.alloc (.cells #[.int .i64 0, .int .i64 0, .slice none 0 0] 58) := ⟨_, rfl⟩
                              have F4 := Lib.hid (show BoxAt wa4 (wa3.heap.size) [.int .i64 0, .int .i64 0, .slice none 0 0] 58 by rw [hwn]; exact BoxAt.newAt wa3 [.int .i64 0, .int .i64 0, .slice none 0 0] 58 rfl)
                              replace F1 := Lib.hid (show BoxAt wa4 (wd.heap.size) [.int .u8 (b0.toNat : Int)] 5 by rw [hwn]; exact F1.out.alloc _)
                              replace F2 := Lib.hid (show BoxAt wa4 (wa1.heap.size) [.int .u8 (b1.toNat : Int), .int .u8 (b2.toNat : Int)] 5 by rw [hwn]; exact F2.out.alloc _)
                              replace F3 := Lib.hid (show BoxAt wa4 (wa2.heap.size) [strV [b0], strV [b1, b2]] 9 by rw [hwn]; exact F3.out.alloc _)
                              have HBwa4 := Lib.hid (show Below wr.heap.size wr wa4 by rw [hwn]; exact HBwa3.out.alloc (Below.size HBwa3.out) _)
                              rw [← hwn] at hHeld ⊢
                              clear hwn
                              have zwa4 := F4.out.lt
                              refine wpAnyH_ready (rs := [28]) (by kernel_rfl) (by simp) ?_
                              refine AllReadyH.cons rfl (fun K hK => ?_) ?_
                              · rw [if_pos (by rfl)]
                                have q0 := F4.out.cell 0 rfl
                                have q1 := F4.out.cell 1 rfl
                                have q2 := F4.out.cell 2 rfl
                                have qf0 := F4.out.free 0
                                have qf1 := F4.out.free 1
                                have qf2 := F4.out.free 2
                                go_simp
                                show K _ _
                                refine hK.out _ _ (by exact ⟨(((F2.out.setOther (p := ⟨wa3.heap.size, 0, none⟩) (by simp; omega) (.int .i64 (pickedZ s.a 4))).setOther (p := ⟨wa3.heap.size, 1, none⟩) (by simp; omega) (.int .i64 (1 + 3 * (i : Int) + (k : Int)))).setOther (p := ⟨wa3.heap.size, 2, none⟩) (by simp; omega) (.slice (some ⟨wa2.heap.size, 0, none⟩) 2 2)), (((F1.out.setOther (p := ⟨wa3.heap.size, 0, none⟩) (by simp; omega) (.int .i64 (pickedZ s.a 4))).setOther (p := ⟨wa3.heap.size, 1, none⟩) (by simp; omega) (.int .i64 (1 + 3 * (i : Int) + (k : Int)))).setOther (p := ⟨wa3.heap.size, 2, none⟩) (by simp; omega) (.slice (some ⟨wa2.heap.size, 0, none⟩) 2 2)), (((HBwa4.out.setCell (p := ⟨wa3.heap.size, 0, none⟩) (by simp; omega) (.int .i64 (pickedZ s.a 4))).setCell (p := ⟨wa3.heap.size, 1, none⟩) (by simp; omega) (.int .i64 (1 + 3 * (i : Int) + (k : Int)))).setCell (p := ⟨wa3.heap.size, 2, none⟩) (by simp; omega) (.slice (some ⟨wa2.heap.size, 0, none⟩) 2 2))⟩) (fun hHeld => ?_)
                                clear hK K
                                try simp only [Act.put, List.getElem_toArray, List.getElem_cons_succ, List.getElem_cons_zero, List.setIfInBounds_toArray, List.set_cons_zero, List.set_cons_succ]
                                refine wpAnyH_done (by kernel_rfl) ?_ _
                                go_wp2
                                go_meet
                                refine ⟨wa3.heap.size, some ⟨wa2.heap.size, 0, none⟩, 2, rfl, by omega, (((F4.out.set 0 (.int .i64 (pickedZ s.a 4))).set 1 (.int .i64 (1 + 3 * (i : Int) + (k : Int)))).set 2 (.slice (some ⟨wa2.heap.size, 0, none⟩) 2 2)), ?_, (((HBwa4.out.setCell (p := ⟨wa3.heap.size, 0, none⟩) (by simp; omega) (.int .i64 (pickedZ s.a 4))).setCell (p := ⟨wa3.heap.size, 1, none⟩) (by simp; omega) (.int .i64 (1 + 3 * (i : Int) + (k : Int)))).setCell (p := ⟨wa3.heap.size, 2, none⟩) (by simp; omega) (.slice (some ⟨wa2.heap.size, 0, none⟩) 2 2))⟩
                                rw [HTX.out]
                                exact RdS.of_box (l := [[b0], [b1, b2]]) (cap := 2) ((((F3.out.setOther (p := ⟨wa3.heap.size, 0, none⟩) (by simp; omega) (.int .i64 (pickedZ s.a 4))).setOther (p := ⟨wa3.heap.size, 1, none⟩) (by simp; omega) (.int .i64 (1 + 3 * (i : Int) + (k : Int)))).setOther (p := ⟨wa3.heap.size, 2, none⟩) (by simp; omega) (.slice (some ⟨wa2.heap.size, 0, none⟩) 2 2))) ⟨by omega, by omega⟩ (by simp) (by unfold maxLen; simp)
                              exact AllReadyH.nil
                            exact AllReadyH.nil
                        refine AllReadyH.cons rfl (fun K hK => ?_) ?_
                        · as_aux_lemma =>
                            rw [if_pos (by rfl)]
                            go_simp
                            show K _ _
                            refine hK.out _ _ (by exact ⟨(F2.out.alloc _), (F1.out.alloc _), (HBwa2.out.alloc (Below.size HBwa2.out) _)⟩) (fun hHeld => ?_)
                            clear hK K
                            try simp only [Act.put, List.getElem_toArray, List.getElem_cons_succ, List.getElem_cons_zero, List.setIfInBounds_toArray, List.set_cons_zero, List.set_cons_succ]
                            obtain ⟨wa3, hwn⟩ : ∃ wa3, wa3 = wa2.alloc (.cells #[.int .i64 0, .int .i64 0, .slice none 0 0] 58) := ⟨_, rfl⟩
                            have F3 := Lib.hid (show BoxAt wa3 (wa2.heap.size) [.int .i64 0, .int .i64 0, .slice none 0 0] 58 by rw [hwn]; exact BoxAt.newAt wa2 [.int .i64 0, .int .i64 0, .slice none 0 0] 58 rfl)
                            replace F1 := Lib.hid (show BoxAt wa3 (wd.heap.size) [.int .u8 (b0.toNat : Int)] 5 by rw [hwn]; exact F1.out.alloc _)
                            replace F2 := Lib.hid (show BoxAt wa3 (wa1.heap.size) [.int .u8 (b1.toNat : Int), .int .u8 (b2.toNat : Int)] 5 by rw [hwn]; exact F2.out.alloc _)
                            have HBwa3 := Lib.hid (show Below wr.heap.size wr wa3 by rw [hwn]; exact HBwa2.out.alloc (Below.size HBwa2.out) _)
                            rw [← hwn] at hHeld ⊢
                            clear hwn
                            have zwa3 := F3.out.lt
                            refine wpAnyH_ready (rs := [25]) (by kernel_rfl) (by simp) ?_
                            refine AllReadyH.cons rfl (fun K hK => ?_) ?_
                            · rw [if_pos (by rfl)]
                              go_simp
                              show K _ _
                              refine hK.out _ _ (by exact ⟨(F2.out.alloc _), (F1.out.alloc _), (HBwa3.out.alloc (Below.size HBwa3.out) _)⟩) (fun hHeld => ?_)
                              clear hK K
                              try simp only [Act.put, List.getElem_toArray, List.getElem_cons_succ, List.getElem_cons_zero, List.setIfInBounds_toArray, List.set_cons_zero, List.set_cons_succ]
                              obtain ⟨wa4, hwn⟩ : ∃ wa4, wa4 = wa3.alloc (.cells #[strV [b0], strV [b1, b2]] 9) := ⟨_, rfl⟩
                              have F4 := Lib.hid (show BoxAt wa4 (wa3.heap.size) [strV [b0], strV [b1, b2]] 9 by rw [hwn]; exact BoxAt.newAt wa3 [strV [b0], strV [b1, b2]] 9 rfl)
                              replace F1 := Lib.hid (show BoxAt wa4 (wd.heap.size) [.int .u8 (b0.toNat : Int)] 5 by rw [hwn]; exact F1.out.alloc _)
                              replace F2 := Lib.hid (show BoxAt wa4 (wa1.heap.size) [.int .u8 (b1.toNat : Int), .int .u8 (b2.toNat : Int)] 5 by rw [hwn]; exact F2.out.alloc _)
                              replace F3 := Lib.hid (show BoxAt wa4 (wa2.heap.size) [.int .i64 0, .int .i64 0, .slice none 0 0] 58 by rw [hwn]; exact F3.out.alloc _)
                              have HBwa4 := Lib.hid (show Below wr.heap.size wr wa4 by rw [hwn]; exact HBwa3.out.alloc (Below.size HBwa3.out) _)
                              rw [← hwn] at hHeld ⊢
                              clear hwn
                              have zwa4 := F4.out.lt
                              refine wpAnyH_take (i := 26) (v := .agg #[.int .i64 (pickedZ s.a 4), .int .i64 (1 + 3 * (i : Int) + (k : Int)), .slice (some ⟨wa3.heap.size, 0, none⟩) 2 2]) rfl (by kernel_rfl) (by kernel_rfl) (by kernel_rfl) (fun _ _ _ h => h) (Or.inl ⟨by rfl, fun w hSw => ?_⟩) hHeld ?_
                              · clear hSw; go_simp; all_goals (try first | rfl | omega)
                              try simp only [Act.put, List.getElem_toArray, List.getElem_cons_succ, List.getElem_cons_zero, List.setIfInBounds_toArray, List.set_cons_zero, List.set_cons_succ]
                              refine wpAnyH_ready (rs := [28]) (by kernel_rfl) (by simp) ?_
                              refine AllReadyH.cons rfl (fun K hK => ?_) ?_
                              · rw [if_pos (by rfl)]
                                have q0 := F3.out.cell 0 rfl
                                have q1 := F3.out.cell 1 rfl
                                have q2 := F3.out.cell 2 rfl
                                have qf0 := F3.out.free 0
                                have qf1 := F3.out.free 1
                                have qf2 := F3.out.free 2
                                go_simp
                                show K _ _
                                refine hK.out _ _ (by exact ⟨(((F2.out.setOther (p := ⟨wa2.heap.size, 0, none⟩) (by simp; omega) (.int .i64 (pickedZ s.a 4))).setOther (p := ⟨wa2.heap.size, 1, none⟩) (by simp; omega) (.int .i64 (1 + 3 * (i : Int) + (k : Int)))).setOther (p := ⟨wa2.heap.size, 2, none⟩) (by simp; omega) (.slice (some ⟨wa3.heap.size, 0, none⟩) 2 2)), (((F1.out.setOther (p := ⟨wa2.heap.size, 0, none⟩) (by simp; omega) (.int .i64 (pickedZ s.a 4))).setOther (p := ⟨wa2.heap.size, 1, none⟩) (by simp; omega) (.int .i64 (1 + 3 * (i : Int) + (k : Int)))).setOther (p := ⟨wa2.heap.size, 2, none⟩) (by simp; omega) (.slice (some ⟨wa3.heap.size, 0, none⟩) 2 2)), (((HBwa4.out.setCell (p := ⟨wa2.heap.size, 0, none⟩) (by simp; omega) (.int .i64 (pickedZ s.a 4))).setCell (p := ⟨wa2.heap.size, 1, none⟩) (by simp; omega) (.int .i64 (1 + 3 * (i : Int) + (k : Int)))).setCell (p := ⟨wa2.heap.size, 2, none⟩) (by simp; omega) (.slice (some ⟨wa3.heap.size, 0, none⟩) 2 2))⟩) (fun hHeld => ?_)
                                clear hK K
                                try simp only [Act.put, List.getElem_toArray, List.getElem_cons_succ, List.getElem_cons_zero, List.setIfInBounds_toArray, List.set_cons_zero, List.set_cons_succ]
                                refine wpAnyH_done (by kernel_rfl) ?_ _
                                go_wp2
                                go_meet
                                refine ⟨wa2.heap.size, some ⟨wa3.heap.size, 0, none⟩, 2, rfl, by omega, (((F3.out.set 0 (.int .i64 (pickedZ s.a 4))).set 1 (.int .i64 (1 + 3 * (i : Int) + (k : Int)))).set 2 (.slice (some ⟨wa3.heap.size, 0, none⟩) 2 2)), ?_, (((HBwa4.out.setCell (p := ⟨wa2.heap.size, 0, none⟩) (by simp; omega) (.int .i64 (pickedZ s.a 4))).setCell (p := ⟨wa2.heap.size, 1, none⟩) (by simp; omega) (.int .i64 (1 + 3 * (i : Int) + (k : Int)))).setCell (p := ⟨wa2.heap.size, 2, none⟩) (by simp; omega) (.slice (some ⟨wa3.heap.size, 0, none⟩) 2 2))⟩
                                rw [HTX.out]
                                exact RdS.of_box (l := [[b0], [b1, b2]]) (cap := 2) ((((F4.out.setOther (p := ⟨wa2.heap.size, 0, none⟩) (by simp; omega) (.int .i64 (pickedZ s.a 4))).setOther (p := ⟨wa2.heap.size, 1, none⟩) (by simp; omega) (.int .i64 (1 + 3 * (i : Int) + (k : Int)))).setOther (p := ⟨wa2.heap.size, 2, none⟩) (by simp; omega) (.slice (some ⟨wa3.heap.size, 0, none⟩) 2 2))) ⟨by omega, by omega⟩ (by simp) (by unfold maxLen; simp)
                              exact AllReadyH.nil
                            exact AllReadyH.nil
                        exact AllReadyH.nil
                    refine AllReadyH.cons rfl (fun K hK => ?_) ?_
                    · as_aux_lemma =>
                        rw [if_pos (by rfl)]
                        go_simp
                        show K _ _
                        refine hK.out _ _ (by exact ⟨(F1.out.alloc _), (HBwa1.out.alloc (Below.size HBwa1.out) _)⟩) (fun hHeld => ?_)
                        clear hK K
                        try simp only [Act.put, List.getElem_toArray, List.getElem_cons_succ, List.getElem_cons_zero, List.setIfInBounds_toArray, List.set_cons_zero, List.set_cons_succ]
                        obtain ⟨wa2, hwn⟩ : ∃ wa2, wa2 = wa1.alloc (.cells #[.int .i64 0, .int .i64 0, .slice none 0 0] 58) := ⟨_, rfl⟩
                        have F2 := Lib.hid (show BoxAt wa2 (wa1.heap.size) [.int .i64 0, .int .i64 0, .slice none 0 0] 58 by rw [hwn]; exact BoxAt.newAt wa1 [.int .i64 0, .int .i64 0, .slice none 0 0] 58 rfl)
                        replace F1 := Lib.hid (show BoxAt wa2 (wd.heap.size) [.int .u8 (b0.toNat : Int)] 5 by rw [hwn]; exact F1.out.alloc _)
                        have HBwa2 := Lib.hid (show Below wr.heap.size wr wa2 by rw [hwn]; exact HBwa1.out.alloc (Below.size HBwa1.out) _)
                        rw [← hwn] at hHeld ⊢
                        clear hwn
                        have zwa2 := F2.out.lt
                        refine wpAnyH_ready (rs := [23]) (by kernel_rfl) (by simp) ?_
                        refine AllReadyH.cons rfl (fun K hK => ?_) ?_
                        · rw [if_pos (by rfl)]
                          go_simp
                          show K _ _
                          refine hK.out _ _ (by exact ⟨(F1.out.alloc _), (HBwa2.out.alloc (Below.size HBwa2.out) _)⟩) (fun hHeld => ?_)
                          clear hK K
                          try simp only [Act.put, List.getElem_toArray, List.getElem_cons_succ, List.getElem_cons_zero, List.setIfInBounds_toArray, List.set_cons_zero, List.set_cons_succ]
                          obtain ⟨wa3, hwn⟩ : ∃ wa3, wa3 = wa2.alloc (.cells #[.int .u8 (b1.toNat : Int), .int .u8 (b2.toNat : Int)] 5) := ⟨_, rfl⟩
                          have F3 := Lib.hid (show BoxAt wa3 (wa2.heap.size) [.int .u8 (b1.toNat : Int), .int .u8 (b2.toNat : Int)] 5 by rw [hwn]; exact BoxAt.newAt wa2 [.int .u8 (b1.toNat : Int), .int .u8 (b2.toNat : Int)] 5 rfl)
                          replace F1 := Lib.hid (show BoxAt wa3 (wd.heap.size) [.int .u8 (b0.toNat : Int)] 5 by rw [hwn]; exact F1.out.alloc _)
                          replace F2 := Lib.hid (show BoxAt wa3 (wa1.heap.size) [.int .i64 0, .int .i64 0, .slice none 0 0] 58 by rw [hwn]; exact F2.out.alloc _)
                          have HBwa3 := Lib.hid (show Below wr.heap.size wr wa3 by rw [hwn]; exact HBwa2.out.alloc (Below.size HBwa2.out) _)
                          rw [← hwn] at hHeld ⊢
                          clear hwn
                          have zwa3 := F3.out.lt
                          refine wpAnyH_strong (S' := fun w' => BoxAt w' (wa2.heap.size) [.int .u8 (b1.toNat : Int), .int .u8 (b2.toNat : Int)] 5 ∧ (BoxAt w' (wd.heap.size) [.int .u8 (b0.toNat : Int)] 5 ∧ (Below wr.heap.size wr w'))) (fun _ h => h.2) _ _ _ _ ?_
                          replace hHeld := And.intro F3.out hHeld
                          refine wpAnyH_take (i := 24) (v := strV [b1, b2]) rfl (by kernel_rfl) (by kernel_rfl) (by kernel_rfl) (fun _ _ _ h => h) (Or.inl ⟨by rfl, fun w hSw => ?_⟩) hHeld ?_
                          · have hcv : (convert 39 9 (.slice (some ⟨wa2.heap.size, 0, none⟩) 2 2)).run Tryd.prog w = .ok (strV [b1, b2]) w := conv_bytes_str (P := Tryd.prog) Tryd.underlying39 Tryd.underlying5 Tryd.underlying9 (RdS.of_box (G := fun _ => True) (l := [b1, b2]) (cap := 2) hSw.1 trivial (by simp) (by unfold maxLen; simp)); clear hSw; go_simp
                          try simp only [Act.put, List.getElem_toArray, List.getElem_cons_succ, List.getElem_cons_zero, List.setIfInBounds_toArray, List.set_cons_zero, List.set_cons_succ]
                          refine wpAnyH_ready (rs := [25]) (by kernel_rfl) (by simp) ?_
                          refine AllReadyH.cons rfl (fun K hK => ?_) ?_
                          · rw [if_pos (by rfl)]
                            go_simp
                            show K _ _
                            refine hK.out _ _ (by exact ⟨(F3.out.alloc _), (F1.out.alloc _), (HBwa3.out.alloc (Below.size HBwa3.out) _)⟩) (fun hHeld => ?_)
                            clear hK K
                            try simp only [Act.put, List.getElem_toArray, List.getElem_cons_succ, List.getElem_cons_zero, List.setIfInBounds_toArray, List.set_cons_zero, List.set_cons_succ]
                            obtain ⟨wa4, hwn⟩ : ∃ wa4, wa4 = wa3.alloc (.cells #[strV [b0], strV [b1, b2]] 9) := ⟨_, rfl⟩
                            have F4 := Lib.hid (show BoxAt wa4 (wa3.heap.size) [strV [b0], strV [b1, b2]] 9 by rw [hwn]; exact BoxAt.newAt wa3 [strV [b0], strV [b1, b2]] 9 rfl)
                            replace F1 := Lib.hid (show BoxAt wa4 (wd.heap.size) [.int .u8 (b0.toNat : Int)] 5 by rw [hwn]; exact F1.out.alloc _)
                            replace F2 := Lib.hid (show BoxAt wa4 (wa1.heap.size) [.int .i64 0, .int .i64 0, .slice none 0 0] 58 by rw [hwn]; exact F2.out.alloc _)
                            replace F3 := Lib.hid (show BoxAt wa4 (wa2.heap.size) [.int .u8 (b1.toNat : Int), .int .u8 (b2.toNat : Int)] 5 by rw [hwn]; exact F3.out.alloc _)
                            have HBwa4 := Lib.hid (show Below wr.heap.size wr wa4 by rw [hwn]; exact HBwa3.out.alloc (Below.size HBwa3.out) _)
                            rw [← hwn] at hHeld ⊢
                            clear hwn
                            have zwa4 := F4.out.lt
                            refine wpAnyH_take (i := 26) (v := .agg #[.int .i64 (pickedZ s.a 4), .int .i64 (1 + 3 * (i : Int) + (k : Int)), .slice (some ⟨wa3.heap.size, 0, none⟩) 2 2]) rfl (by kernel_rfl) (by kernel_rfl) (by kernel_rfl) (fun _ _ _ h => h) (Or.inl ⟨by rfl, fun w hSw => ?_⟩) hHeld ?_
                            · clear hSw; go_simp; all_goals (try first | rfl | omega)
                            try simp only [Act.put, List.getElem_toArray, List.getElem_cons_succ, List.getElem_cons_zero, List.setIfInBounds_toArray, List.set_cons_zero, List.set_cons_succ]
                            refine wpAnyH_ready (rs := [28]) (by kernel_rfl) (by simp) ?_
                            refine AllReadyH.cons rfl (fun K hK => ?_) ?_
                            · rw [if_pos (by rfl)]
                              have q0 := F2.out.cell 0 rfl
                              have q1 := F2.out.cell 1 rfl
                              have q2 := F2.out.cell 2 rfl
                              have qf0 := F2.out.free 0
                              have qf1 := F2.out.free 1
                              have qf2 := F2.out.free 2
                              go_simp
                              show K _ _
                              refine hK.out _ _ (by exact ⟨(((F3.out.setOther (p := ⟨wa1.heap.size, 0, none⟩) (by simp; omega) (.int .i64 (pickedZ s.a 4))).setOther (p := ⟨wa1.heap.size, 1, none⟩) (by simp; omega) (.int .i64 (1 + 3 * (i : Int) + (k : Int)))).setOther (p := ⟨wa1.heap.size, 2, none⟩) (by simp; omega) (.slice (some ⟨wa3.heap.size, 0, none⟩) 2 2)), (((F1.out.setOther (p := ⟨wa1.heap.size, 0, none⟩) (by simp; omega) (.int .i64 (pickedZ s.a 4))).setOther (p := ⟨wa1.heap.size, 1, none⟩) (by simp; omega) (.int .i64 (1 + 3 * (i : Int) + (k : Int)))).setOther (p := ⟨wa1.heap.size, 2, none⟩) (by simp; omega) (.slice (some ⟨wa3.heap.size, 0, none⟩) 2 2)), (((HBwa4.out.setCell (p := ⟨wa1.heap.size, 0, none⟩) (by simp; omega) (.int .i64 (pickedZ s.a 4))).setCell (p := ⟨wa1.heap.size, 1, none⟩) (by simp; omega) (.int .i64 (1 + 3 * (i : Int) + (k : Int)))).setCell (p := ⟨wa1.heap.size, 2, none⟩) (by simp; omega) (.slice (some ⟨wa3.heap.size, 0, none⟩) 2 2))⟩) (fun hHeld => ?_)
                              clear hK K
                              try simp only [Act.put, List.getElem_toArray, List.getElem_cons_succ, List.getElem_cons_zero, List.setIfInBounds_toArray, List.set_cons_zero, List.set_cons_succ]
                              refine wpAnyH_done (by kernel_rfl) ?_ _
                              go_wp2
                              go_meet
                              refine ⟨wa1.heap.size, some ⟨wa3.heap.size, 0, none⟩, 2, rfl, by omega, (((F2.out.set 0 (.int .i64 (pickedZ s.a 4))).set 1 (.int .i64 (1 + 3 * (i : Int) + (k : Int)))).set 2 (.slice (some ⟨wa3.heap.size, 0, none⟩) 2 2)), ?_, (((HBwa4.out.setCell (p := ⟨wa1.heap.size, 0, none⟩) (by simp; omega) (.int .i64 (pickedZ s.a 4))).setCell (p := ⟨wa1.heap.size, 1, none⟩) (by simp; omega) (.int .i64 (1 + 3 * (i : Int) + (k : Int)))).setCell (p := ⟨wa1.heap.size, 2, none⟩) (by simp; omega) (.slice (some ⟨wa3.heap.size, 0, none⟩) 2 2))⟩
                              rw [HTX.out]
                              exact RdS.of_box (l := [[b0], [b1, b2]]) (cap := 2) ((((F4.out.setOther (p := ⟨wa1.heap.size, 0, none⟩) (by simp; omega) (.int .i64 (pickedZ s.a 4))).setOther (p := ⟨wa1.heap.size, 1, none⟩) (by simp; omega) (.int .i64 (1 + 3 * (i : Int) + (k : Int)))).setOther (p := ⟨wa1.heap.size, 2, none⟩) (by simp; omega) (.slice (some ⟨wa3.heap.size, 0, none⟩) 2 2))) ⟨by omega, by omega⟩ (by simp) (by unfold maxLen; simp)
                            exact AllReadyH.nil
                          exact AllReadyH.nil
                        exact AllReadyH.nil
                    exact AllReadyH.nil
                refine AllReadyH.cons rfl (fun K hK => ?_) ?_
                · as_aux_lemma =>
                    rw [if_pos (by rfl)]
                    go_simp
                    show K _ _
                    refine hK.out _ _ (by exact (HBd.out.alloc (Below.size HBd.out) _)) (fun hHeld => ?_)
                    clear hK K
                    try simp only [Act.put, List.getElem_toArray, List.getElem_cons_succ, List.getElem_cons_zero, List.setIfInBounds_toArray, List.set_cons_zero, List.set_cons_succ]
                    obtain ⟨wa1, hwn⟩ : ∃ wa1, wa1 = wd.alloc (.cells #[.int .u8 (b1.toNat : Int), .int .u8 (b2.toNat : Int)] 5) := ⟨_, rfl⟩
                    have F1 := Lib.hid (show BoxAt wa1 (wd.heap.size) [.int .u8 (b1.toNat : Int), .int .u8 (b2.toNat : Int)] 5 by rw [hwn]; exact BoxAt.newAt wd [.int .u8 (b1.toNat : Int), .int .u8 (b2.toNat : Int)] 5 rfl)
                    have HBwa1 := Lib.hid (show Below wr.heap.size wr wa1 by rw [hwn]; exact HBd.out.alloc (Below.size HBd.out) _)
                    rw [← hwn] at hHeld ⊢
                    clear hwn
                    have zwa1 := F1.out.lt
                    refine wpAnyH_strong (S' := fun w' => BoxAt w' (wd.heap.size) [.int .u8 (b1.toNat : Int), .int .u8 (b2.toNat : Int)] 5 ∧ (Below wr.heap.size wr w')) (fun _ h => h.2) _ _ _ _ ?_
                    replace hHeld := And.intro F1.out hHeld
                    refine wpAnyH_take (i := 24) (v := strV [b1, b2]) rfl (by kernel_rfl) (by kernel_rfl) (by kernel_rfl) (fun _ _ _ h => h) (Or.inl ⟨by rfl, fun w hSw => ?_⟩) hHeld ?_
                    · have hcv : (convert 39 9 (.slice (some ⟨wd.heap.size, 0, none⟩) 2 2)).run Tryd.prog w = .ok (strV [b1, b2]) w := conv_bytes_str (P := Tryd.prog) Tryd.underlying39 Tryd.underlying5 Tryd.underlying9 (RdS.of_box (G := fun _ => True) (l := [b1, b2]) (cap := 2) hSw.1 trivial (by simp) (by unfold maxLen; simp)); clear hSw; go_simp
                    try simp only [Act.put, List.getElem_toArray, List.getElem_cons_succ, List.getElem_cons_zero, List.setIfInBounds_toArray, List.set_cons_zero, List.set_cons_succ]
                    refine wpAnyH_ready (rs := [10, 27]) (by kernel_rfl) (by simp) ?_
                    refine AllReadyH.cons rfl (fun K hK => ?_) ?_
                    · as_aux_lemma =>
                        rw [if_pos (by rfl)]
                        go_simp
                        show K _ _
                        refine hK.out _ _ (by exact ⟨(F1.out.alloc _), (HBwa1.out.alloc (Below.size HBwa1.out) _)⟩) (fun hHeld => ?_)
                        clear hK K
                        try simp only [Act.put, List.getElem_toArray, List.getElem_cons_succ, List.getElem_cons_zero, List.setIfInBounds_toArray, List.set_cons_zero, List.set_cons_succ]
                        obtain ⟨wa2, hwn⟩ : ∃ wa2, wa2 = wa1.alloc (.cells #[.int .u8 (b0.toNat : Int)] 5) := ⟨_, rfl⟩
                        have F2 := Lib.hid (show BoxAt wa2 (wa1.heap.size) [.int .u8 (b0.toNat : Int)] 5 by rw [hwn]; exact BoxAt.newAt wa1 [.int .u8 (b0.toNat : Int)] 5 rfl)
                        replace F1 := Lib.hid (show BoxAt wa2 (wd.heap.size) [.int .u8 (b1.toNat : Int), .int .u8 (b2.toNat : Int)] 5 by rw [hwn]; exact F1.out.alloc _)
                        have HBwa2 := Lib.hid (show Below wr.heap.size wr wa2 by rw [hwn]; exact HBwa1.out.alloc (Below.size HBwa1.out) _)
                        rw [← hwn] at hHeld ⊢
                        clear hwn
                        have zwa2 := F2.out.lt
                        refine wpAnyH_strong (S' := fun w' => BoxAt w' (wa1.heap.size) [.int .u8 (b0.toNat : Int)] 5 ∧ (BoxAt w' (wd.heap.size) [.int .u8 (b1.toNat : Int), .int .u8 (b2.toNat : Int)] 5 ∧ (Below wr.heap.size wr w'))) (fun _ h => h.2) _ _ _ _ ?_
                        replace hHeld := And.intro F2.out hHeld
                        refine wpAnyH_take (i := 11) (v := strV [b0]) rfl (by kernel_rfl) (by kernel_rfl) (by kernel_rfl) (fun _ _ _ h => h) (Or.inl ⟨by rfl, fun w hSw => ?_⟩) hHeld ?_
                        · have hcv : (convert 39 9 (.slice (some ⟨wa1.heap.size, 0, none⟩) 1 1)).run Tryd.prog w = .ok (strV [b0]) w := conv_bytes_str (P := Tryd.prog) Tryd.underlying39 Tryd.underlying5 Tryd.underlying9 (RdS.of_box (G := fun _ => True) (l := [b0]) (cap := 1) hSw.1 trivial (by simp) (by unfold maxLen; simp)); clear hSw; go_simp
                        try simp only [Act.put, List.getElem_toArray, List.getElem_cons_succ, List.getElem_cons_zero, List.setIfInBounds_toArray, List.set_cons_zero, List.set_cons_succ]
                        refine wpAnyH_ready (rs := [25, 27]) (by kernel_rfl) (by simp) ?_
                        refine AllReadyH.cons rfl (fun K hK => ?_) ?_
                        · as_aux_lemma =>
                            rw [if_pos (by rfl)]
                            go_simp
                            show K _ _
                            refine hK.out _ _ (by exact ⟨(F2.out.alloc _), (F1.out.alloc _), (HBwa2.out.alloc (Below.size HBwa2.out) _)⟩) (fun hHeld => ?_)
                            clear hK K
                            try simp only [Act.put, List.getElem_toArray, List.getElem_cons_succ, List.getElem_cons_zero, List.setIfInBounds_toArray, List.set_cons_zero, List.set_cons_succ]
                            obtain ⟨wa3, hwn⟩ : ∃ wa3, wa3 = wa2.alloc (.cells #[strV [b0], strV [b1, b2]] 9) := ⟨_, rfl⟩
                            have F3 := Lib.hid (show BoxAt wa3 (wa2.heap.size) [strV [b0], strV [b1, b2]] 9 by rw [hwn]; exact BoxAt.newAt wa2 [strV [b0], strV [b1, b2]] 9 rfl)
                            replace F1 := Lib.hid (show BoxAt wa3 (wd.heap.size) [.int .u8 (b1.toNat : Int), .int .u8 (b2.toNat : Int)] 5 by rw [hwn]; exact F1.out.alloc _)
                            replace F2 := Lib.hid (show BoxAt wa3 (wa1.heap.size) [.int .u8 (b0.toNat : Int)] 5 by rw [hwn]; exact F2.out.alloc _)
                            have HBwa3 := Lib.hid (show Below wr.heap.size wr wa3 by rw [hwn]; exact HBwa2.out.alloc (Below.size HBwa2.out) _)
                            rw [← hwn] at hHeld ⊢
                            clear hwn
                            have zwa3 := F3.out.lt
                            refine wpAnyH_take (i := 26) (v := .agg #[.int .i64 (pickedZ s.a 4), .int .i64 (1 + 3 * (i : Int) + (k : Int)), .slice (some ⟨wa2.heap.size, 0, none⟩) 2 2]) rfl (by kernel_rfl) (by kernel_rfl) (by kernel_rfl) (fun _ _ _ h => h) (Or.inl ⟨by rfl, fun w hSw => ?_⟩) hHeld ?_
                            · clear hSw; go_simp; all_goals (try first | rfl | omega)
                            try simp only [Act.put, List.getElem_toArray, List.getElem_cons_succ, List.getElem_cons_zero, List.setIfInBounds_toArray, List.set_cons_zero, List.set_cons_succ]
                            refine wpAnyH_ready (rs := [27]) (by kernel_rfl) (by simp) ?_
                            refine AllReadyH.cons rfl (fun K hK => ?_) ?_
                            · rw [if_pos (by rfl)]
                              go_simp
                              show K _ _
                              refine hK.out _ _ (by exact ⟨(F2.out.alloc _), (F1.out.alloc _), (HBwa3.out.alloc (Below.size HBwa3.out) _)⟩) (fun hHeld => ?_)
                              clear hK K
                              try simp only [Act.put, List.getElem_toArray, List.getElem_cons_succ, List.getElem_cons_zero, List.setIfInBounds_toArray, List.set_cons_zero, List.set_cons_succ]
                              obtain ⟨wa4, hwn⟩ : ∃ wa4, wa4 = wa3.alloc (.cells #[.int .i64 0, .int .i64 0, .slice none 0 0] 58) := ⟨_, rfl⟩
                              have F4 := Lib.hid (show BoxAt wa4 (wa3.heap.size) [.int .i64 0, .int .i64 0, .slice none 0 0] 58 by rw [hwn]; exact BoxAt.newAt wa3 [.int .i64 0, .int .i64 0, .slice none 0 0] 58 rfl)
                              replace F1 := Lib.hid (show BoxAt wa4 (wd.heap.size) [.int .u8 (b1.toNat : Int), .int .u8 (b2.toNat : Int)] 5 by rw [hwn]; exact F1.out.alloc _)
                              replace F2 := Lib.hid (show BoxAt wa4 (wa1.heap.size) [.int .u8 (b0.toNat : Int)] 5 by rw [hwn]; exact F2.out.alloc _)
                              replace F3 := Lib.hid (show BoxAt wa4 (wa2.heap.size) [strV [b0], strV [b1, b2]] 9 by rw [hwn]; exact F3.out.alloc _)
                              have HBwa4 := Lib.hid (show Below wr.heap.size wr wa4 by rw [hwn]; exact HBwa3.out.alloc (Below.size HBwa3.out) _)
                              rw [← hwn] at hHeld ⊢
                              clear hwn
                              have zwa4 := F4.out.lt
                              refine wpAnyH_ready (rs := [28]) (by kernel_rfl) (by simp) ?_
                              refine AllReadyH.cons rfl (fun K hK => ?_) ?_
                              · rw [if_pos (by rfl)]
                                have q0 := F4.out.cell 0 rfl
                                have q1 := F4.out.cell 1 rfl
                                have q2 := F4.out.cell 2 rfl
                                have qf0 := F4.out.free 0
                                have qf1 := F4.out.free 1
                                have qf2 := F4.out.free 2
                                go_simp
                                show K _ _
                                refine hK.out _ _ (by exact ⟨(((F2.out.setOther (p := ⟨wa3.heap.size, 0, none⟩) (by simp; omega) (.int .i64 (pickedZ s.a 4))).setOther (p := ⟨wa3.heap.size, 1, none⟩) (by simp; omega) (.int .i64 (1 + 3 * (i : Int) + (k : Int)))).setOther (p := ⟨wa3.heap.size, 2, none⟩) (by simp; omega) (.slice (some ⟨wa2.heap.size, 0, none⟩) 2 2)), (((F1.out.setOther (p := ⟨wa3.heap.size, 0, none⟩) (by simp; omega) (.int .i64 (pickedZ s.a 4))).setOther (p := ⟨wa3.heap.size, 1, none⟩) (by simp; omega) (.int .i64 (1 + 3 * (i : Int) + (k : Int)))).setOther (p := ⟨wa3.heap.size, 2, none⟩) (by simp; omega) (.slice (some ⟨wa2.heap.size, 0, none⟩) 2 2)), (((HBwa4.out.setCell (p := ⟨wa3.heap.size, 0, none⟩) (by simp; omega) (.int .i64 (pickedZ s.a 4))).setCell (p := ⟨wa3.heap.size, 1, none⟩) (by simp; omega) (.int .i64 (1 + 3 * (i : Int) + (k : Int)))).setCell (p := ⟨wa3.heap.size, 2, none⟩) (by simp; omega) (.slice (some ⟨wa2.heap.size, 0, none⟩) 2 2))⟩) (fun hHeld => ?_)
                                clear hK K
                                try simp only [Act.put, List.getElem_toArray, List.getElem_cons_succ, List.getElem_cons_zero, List.setIfInBounds_toArray, List.set_cons_zero, List.set_cons_succ]
                                refine wpAnyH_done (by kernel_rfl) ?_ _
                                go_wp2
                                go_meet
                                refine ⟨wa3.heap.size, some ⟨wa2.heap.size, 0, none⟩, 2, rfl, by omega, (((F4.out.set 0 (.int .i64 (pickedZ s.a 4))).set 1 (.int .i64 (1 + 3 * (i : Int) + (k : Int)))).set 2 (.slice (some ⟨wa2.heap.size, 0, none⟩) 2 2)), ?_, (((HBwa4.out.setCell (p := ⟨wa3.heap.size, 0, none⟩) (by simp; omega) (.int .i64 (pickedZ s.a 4))).setCell (p := ⟨wa3.heap.size, 1, none⟩) (by simp; omega) (.int .i64 (1 + 3 * (i : Int) + (k : Int)))).setCell (p := ⟨wa3.heap.size, 2, none⟩) (by simp; omega) (.slice (some ⟨wa2.heap.size, 0, none⟩) 2 2))⟩
                                rw [HTX.out]
                                exact RdS.of_box (l := [[b0], [b1, b2]]) (cap := 2) ((((F3.out.setOther (p := ⟨wa3.heap.size, 0, none⟩) (by simp; omega) (.int .i64 (pickedZ s.a 4))).setOther (p := ⟨wa3.heap.size, 1, none⟩) (by simp; omega) (.int .i64 (1 + 3 * (i : Int) + (k : Int)))).setOther (p := ⟨wa3.heap.size, 2, none⟩) (by simp; omega) (.slice (some ⟨wa2.heap.size, 0, none⟩) 2 2))) ⟨by omega, by omega⟩ (by simp) (by unfold maxLen; simp)
                              exact AllReadyH.nil
                            exact AllReadyH.nil
                        refine AllReadyH.cons rfl (fun K hK => ?_) ?_
                        · as_aux_lemma =>
                            rw [if_pos (by rfl)]
                            go_simp
                            show K _ _
                            refine hK.out _ _ (by exact ⟨(F2.out.alloc _), (F1.out.alloc _), (HBwa2.out.alloc (Below.size HBwa2.out) _)⟩) (fun hHeld => ?_)
                            clear hK K
                            try simp only [Act.put, List.getElem_toArray, List.getElem_cons_succ, List.getElem_cons_zero, List.setIfInBounds_toArray, List.set_cons_zero, List.set_cons_succ]
                            obtain ⟨wa3, hwn⟩ : ∃ wa3, wa3 = wa2.alloc (.cells #[.int .i64 0, .int .i64 0, .slice none 0 0] 58) := ⟨_, rfl⟩
                            have F3 := Lib.hid (show BoxAt wa3 (wa2.heap.size) [.int .i64 0, .int .i64 0, .slice none 0 0] 58 by rw [hwn]; exact BoxAt.newAt wa2 [.int .i64 0, .int .i64 0, .slice none 0 0] 58 rfl)
                            replace F1 := Lib.hid (show BoxAt wa3 (wd.heap.size) [.int .u8 (b1.toNat : Int), .int .u8 (b2.toNat : Int)] 5 by rw [hwn]; exact F1.out.alloc _)
                            replace F2 := Lib.hid (show BoxAt wa3 (wa1.heap.size) [.int .u8 (b0.toNat : Int)] 5 by rw [hwn]; exact F2.out.alloc _)
                            have HBwa3 := Lib.hid (show Below wr.heap.size wr wa3 by rw [hwn]; exact HBwa2.out.alloc (Below.size HBwa2.out) _)
                            rw [← hwn] at hHeld ⊢
                            clear hwn
                            have zwa3 := F3.out.lt
                            refine wpAnyH_ready (rs := [25]) (by kernel_rfl) (by simp) ?_
                            refine AllReadyH.cons rfl (fun K hK => ?_) ?_
                            · rw [if_pos (by rfl)]
                              go_simp
                              show K _ _
                              refine hK.out _ _ (by exact ⟨(F2.out.alloc _), (F1.out.alloc _), (HBwa3.out.alloc (Below.size HBwa3.out) _)⟩) (fun hHeld => ?_)
                              clear hK K
                              try simp only [Act.put, List.getElem_toArray, List.getElem_cons_succ, List.getElem_cons_zero, List.setIfInBounds_toArray, List.set_cons_zero, List.set_cons_succ]
                              obtain ⟨wa4, hwn⟩ : ∃ wa4, wa4 = wa3.alloc (.cells #[strV [b0], strV [b1, b2]] 9) := ⟨_, rfl⟩
                              have F4 := Lib.hid (show BoxAt wa4 (wa3.heap.size) [strV [b0], strV [b1, b2]] 9 by rw [hwn]; exact BoxAt.newAt wa3 [strV [b0], strV [b1, b2]] 9 rfl)
                              replace F1 := Lib.hid (show BoxAt wa4 (wd.heap.size) [.int .u8 (b1.toNat : Int), .int .u8 (b2.toNat : Int)] 5 by rw [hwn]; exact F1.out.alloc _)
                              replace F2 := Lib.hid (show BoxAt wa4 (wa1.heap.size) [.int .u8 (b0.toNat : Int)] 5 by rw [hwn]; exact F2.out.alloc _)
                              replace F3 := Lib.hid (show BoxAt wa4 (wa2.heap.size) [.int .i64 0, .int .i64 0, .slice none 0 0] 58 by rw [hwn]; exact F3.out.alloc _)
                              have HBwa4 := Lib.hid (show Below wr.heap.size wr wa4 by rw [hwn]; exact HBwa3.out.alloc (Below.size HBwa3.out) _)
                              rw [← hwn] at hHeld ⊢
                              clear hwn
                              have zwa4 := F4.out.lt
                              refine wpAnyH_take (i := 26) (v := .agg #[.int .i64 (pickedZ s.a 4), .int .i64 (1 + 3 * (i : Int) + (k : Int)), .slice (some ⟨wa3.heap.size, 0, none⟩) 2 2]) rfl (by kernel_rfl) (by kernel_rfl) (by kernel_rfl) (fun _ _ _ h => h) (Or.inl ⟨by rfl, fun w hSw => ?_⟩) hHeld ?_
                              · clear hSw; go_simp; all_goals (try first | rfl | omega)
                              try simp only [Act.put, List.getElem_toArray, List.getElem_cons_succ, List.getElem_cons_zero, List.setIfInBounds_toArray, List.set_cons_zero, List.set_cons_succ]
                              refine wpAnyH_ready (rs := [28]) (by kernel_rfl) (by simp) ?_
                              refine AllReadyH.cons rfl (fun K hK => ?_) ?_
                              · rw [if_pos (by rfl)]
                                have q0 := F3.out.cell 0 rfl
                                have q1 := F3.out.cell 1 rfl
                                have q2 := F3.out.cell 2 rfl
                                have qf0 := F3.out.free 0
                                have qf1 := F3.out.free 1
                                have qf2 := F3.out.free 2
                                go_simp
                                show K _ _
                                refine hK.out _ _ (by exact ⟨(((F2.out.setOther (p := ⟨wa2.heap.size, 0, none⟩) (by simp; omega) (.int .i64 (pickedZ s.a 4))).setOther (p := ⟨wa2.heap.size, 1, none⟩) (by simp; omega) (.int .i64 (1 + 3 * (i : Int) + (k : Int)))).setOther (p := ⟨wa2.heap.size, 2, none⟩) (by simp; omega) (.slice (some ⟨wa3.heap.size, 0, none⟩) 2 2)), (((F1.out.setOther (p := ⟨wa2.heap.size, 0, none⟩) (by simp; omega) (.int .i64 (pickedZ s.a 4))).setOther (p := ⟨wa2.heap.size, 1, none⟩) (by simp; omega) (.int .i64 (1 + 3 * (i : Int) + (k : Int)))).setOther (p := ⟨wa2.heap.size, 2, none⟩) (by simp; omega) (.slice (some ⟨wa3.heap.size, 0, none⟩) 2 2)), (((HBwa4.out.setCell (p := ⟨wa2.heap.size, 0, none⟩) (by simp; omega) (.int .i64 (pickedZ s.a 4))).setCell (p := ⟨wa2.heap.size, 1, none⟩) (by simp; omega) (.int .i64 (1 + 3 * (i : Int) + (k : Int)))).setCell (p := ⟨wa2.heap.size, 2, none⟩) (by simp; omega) (.slice (some ⟨wa3.heap.size, 0, none⟩) 2 2))⟩) (fun hHeld => ?_)
                                clear hK K
                                try simp only [Act.put, List.getElem_toArray, List.getElem_cons_succ, List.getElem_cons_zero, List.setIfInBounds_toArray, List.set_cons_zero, List.set_cons_succ]
                                refine wpAnyH_done (by kernel_rfl) ?_ _
                                go_wp2
                                go_meet
                                refine ⟨wa2.heap.size, some ⟨wa3.heap.size, 0, none⟩, 2, rfl, by omega, (((F3.out.set 0 (.int .i64 (pickedZ s.a 4))).set 1 (.int .i64 (1 + 3 * (i : Int) + (k : Int)))).set 2 (.slice (some ⟨wa3.heap.size, 0, none⟩) 2 2)), ?_, (((HBwa4.out.setCell (p := ⟨wa2.heap.size, 0, none⟩) (by simp; omega) (.int .i64 (pickedZ s.a 4))).setCell (p := ⟨wa2.heap.size, 1, none⟩) (by simp; omega) (.int .i64 (1 + 3 * (i : Int) + (k : Int)))).setCell (p := ⟨wa2.heap.size, 2, none⟩) (by simp; omega) (.slice (some ⟨wa3.heap.size, 0, none⟩) 2 2))⟩
                                rw [HTX.out]
                                exact RdS.of_box (l := [[b0], [b1, b2]]) (cap := 2) ((((F4.out.setOther (p := ⟨wa2.heap.size, 0, none⟩) (by simp; omega) (.int .i64 (pickedZ s.a 4))).setOther (p := ⟨wa2.heap.size, 1, none⟩) (by simp; omega) (.int .i64 (1 + 3 * (i : Int) + (k : Int)))).setOther (p := ⟨wa2.heap.size, 2, none⟩) (by simp; omega) (.slice (some ⟨wa3.heap.size, 0, none⟩) 2 2))) ⟨by omega, by omega⟩ (by simp) (by unfold maxLen; simp)
                              exact AllReadyH.nil
                            exact AllReadyH.nil
                        exact AllReadyH.nil
                    refine AllReadyH.cons rfl (fun K hK => ?_) ?_
                    · as_aux_lemma =>
                        rw [if_pos (by rfl)]
                        go_simp
                        show K _ _
                        refine hK.out _ _ (by exact ⟨(F1.out.alloc _), (HBwa1.out.alloc (Below.size HBwa1.out) _)⟩) (fun hHeld => ?_)
                        clear hK K
                        try simp only [Act.put, List.getElem_toArray, List.getElem_cons_succ, List.getElem_cons_zero, List.setIfInBounds_toArray, List.set_cons_zero, List.set_cons_succ]
                        obtain ⟨wa2, hwn⟩ : ∃ wa2, wa2 = wa1.alloc (.cells #[.int .i64 0, .int .i64 0, .slice none 0 0] 58) := ⟨_, rfl⟩
                        have F2 := Lib.hid (show BoxAt wa2 (wa1.heap.size) [.int .i64 0, .int .i64 0, .slice none 0 0] 58 by rw [hwn]; exact BoxAt.newAt wa1 [.int .i64 0, .int .i64 0, .slice none 0 0] 58 rfl)
                        replace F1 := Lib.hid (show BoxAt wa2 (wd.heap.size) [.int .u8 (b1.toNat : Int), .int .u8 (b2.toNat : Int)] 5 by rw [hwn]; exact F1.out.alloc _)
                        have HBwa2 := Lib.hid (show Below wr.heap.size wr wa2 by rw [hwn]; exact HBwa1.out.alloc (Below.size HBwa1.out) _)
                        rw [← hwn] at hHeld ⊢
                        clear hwn
                        have zwa2 := F2.out.lt
                        refine wpAnyH_ready (rs := [10]) (by kernel_rfl) (by simp) ?_
                        refine AllReadyH.cons rfl (fun K hK => ?_) ?_
                        · rw [if_pos (by rfl)]
                          go_simp
                          show K _ _
                          refine hK.out _ _ (by exact ⟨(F1.out.alloc _), (HBwa2.out.alloc (Below.size HBwa2.out) _)⟩) (fun hHeld => ?_)
                          clear hK K
                          try simp only [Act.put, List.getElem_toArray, List.getElem_cons_succ, List.getElem_cons_zero, List.setIfInBounds_toArray, List.set_cons_zero, List.set_cons_succ]
                          obtain ⟨wa3, hwn⟩ : ∃ wa3, wa3 = wa2.alloc (.cells #[.int .u8 (b0.toNat : Int)] 5) := ⟨_, rfl⟩
                          have F3 := Lib.hid (show BoxAt wa3 (wa2.heap.size) [.int .u8 (b0.toNat : Int)] 5 by rw [hwn]; exact BoxAt.newAt wa2 [.int .u8 (b0.toNat : Int)] 5 rfl)
                          replace F1 := Lib.hid (show BoxAt wa3 (wd.heap.size) [.int .u8 (b1.toNat : Int), .int .u8 (b2.toNat : Int)] 5 by rw [hwn]; exact F1.out.alloc _)
                          replace F2 := Lib.hid (show BoxAt wa3 (wa1.heap.size) [.int .i64 0, .int .i64 0, .slice none 0 0] 58 by rw [hwn]; exact F2.out.alloc _)
                          have HBwa3 := Lib.hid (show Below wr.heap.size wr wa3 by rw [hwn]; exact HBwa2.out.alloc (Below.size HBwa2.out) _)
                          rw [← hwn] at hHeld ⊢
                          clear hwn
                          have zwa3 := F3.out.lt
                          refine wpAnyH_strong (S' := fun w' => BoxAt w' (wa2.heap.size) [.int .u8 (b0.toNat : Int)] 5 ∧ (BoxAt w' (wd.heap.size) [.int .u8 (b1.toNat : Int), .int .u8 (b2.toNat : Int)] 5 ∧ (Below wr.heap.size wr w'))) (fun _ h => h.2) _ _ _ _ ?_
                          replace hHeld := And.intro F3.out hHeld
                          refine wpAnyH_take (i := 11) (v := strV [b0]) rfl (by kernel_rfl) (by kernel_rfl) (by kernel_rfl) (fun _ _ _ h => h) (Or.inl ⟨by rfl, fun w hSw => ?_⟩) hHeld ?_
                          · have hcv : (convert 39 9 (.slice (some ⟨wa2.heap.size, 0, none⟩) 1 1)).run Tryd.prog w = .ok (strV [b0]) w := conv_bytes_str (P := Tryd.prog) Tryd.underlying39 Tryd.underlying5 Tryd.underlying9 (RdS.of_box (G := fun _ => True) (l := [b0]) (cap := 1) hSw.1 trivial (by simp) (by unfold maxLen; simp)); clear hSw; go_simp
                          try simp only [Act.put, List.getElem_toArray, List.getElem_cons_succ, List.getElem_cons_zero, List.setIfInBounds_toArray, List.set_cons_zero, List.set_cons_succ]
                          refine wpAnyH_ready (rs := [25]) (by kernel_rfl) (by simp) ?_
                          refine AllReadyH.cons rfl (fun K hK => ?_) ?_
                          · rw [if_pos (by rfl)]
                            go_simp
                            show K _ _
                            refine hK.out _ _ (by exact ⟨(F3.out.alloc _), (F1.out.alloc _), (HBwa3.out.alloc (Below.size HBwa3.out) _)⟩) (fun hHeld => ?_)
                            clear hK K
                            try simp only [Act.put, List.getElem_toArray, List.getElem_cons_succ, List.getElem_cons_zero, List.setIfInBounds_toArray, List.set_cons_zero, List.set_cons_succ]
                            obtain ⟨wa4, hwn⟩ : ∃ wa4, wa4 = wa3.alloc (.cells #[strV [b0], strV [b1, b2]] 9) := ⟨_, rfl⟩
                            have F4 := Lib.hid (show BoxAt wa4 (wa3.heap.size) [strV [b0], strV [b1, b2]] 9 by rw [hwn]; exact BoxAt.newAt wa3 [strV [b0], strV [b1, b2]] 9 rfl)
                            replace F1 := Lib.hid (show BoxAt wa4 (wd.heap.size) [.int .u8 (b1.toNat : Int), .int .u8 (b2.toNat : Int)] 5 by rw [hwn]; exact F1.out.alloc _)
                            replace F2 := Lib.hid (show BoxAt wa4 (wa1.heap.size) [.int .i64 0, .int .i64 0, .slice none 0 0] 58 by rw [hwn]; exact F2.out.alloc _)
                            replace F3 := Lib.hid (show BoxAt wa4 (wa2.heap.size) [.int .u8 (b0.toNat : Int)] 5 by rw [hwn]; exact F3.out.alloc _)
                            have HBwa4 := Lib.hid (show Below wr.heap.size wr wa4 by rw [hwn]; exact HBwa3.out.alloc (Below.size HBwa3.out) _)
                            rw [← hwn] at hHeld ⊢
                            clear hwn
                            have zwa4 := F4.out.lt
                            refine wpAnyH_take (i := 26) (v := .agg #[.int .i64 (pickedZ s.a 4), .int .i64 (1 + 3 * (i : Int) + (k : Int)), .slice (some ⟨wa3.heap.size, 0, none⟩) 2 2]) rfl (by kernel_rfl) (by kernel_rfl) (by kernel_rfl) (fun _ _ _ h => h) (Or.inl ⟨by rfl, fun w hSw => ?_⟩) hHeld ?_
                            · clear hSw; go_simp; all_goals (try first | rfl | omega)
                            try simp only [Act.put, List.getElem_toArray, List.getElem_cons_succ, List.getElem_cons_zero, List.setIfInBounds_toArray, List.set_cons_zero, List.set_cons_succ]
                            refine wpAnyH_ready (rs := [28]) (by kernel_rfl) (by simp) ?_
                            refine AllReadyH.cons rfl (fun K hK => ?_) ?_
                            · rw [if_pos (by rfl)]
                              have q0 := F2.out.cell 0 rfl
                              have q1 := F2.out.cell 1 rfl
                              have q2 := F2.out.cell 2 rfl
                              have qf0 := F2.out.free 0
                              have qf1 := F2.out.free 1
                              have qf2 := F2.out.free 2
                              go_simp
                              show K _ _
                              refine hK.out _ _ (by exact ⟨(((F3.out.setOther (p := ⟨wa1.heap.size, 0, none⟩) (by simp; omega) (.int .i64 (pickedZ s.a 4))).setOther (p := ⟨wa1.heap.size, 1, none⟩) (by simp; omega) (.int .i64 (1 + 3 * (i : Int) + (k : Int)))).setOther (p := ⟨wa1.heap.size, 2, none⟩) (by simp; omega) (.slice (some ⟨wa3.heap.size, 0, none⟩) 2 2)), (((F1.out.setOther (p := ⟨wa1.heap.size, 0, none⟩) (by simp; omega) (.int .i64 (pickedZ s.a 4))).setOther (p := ⟨wa1.heap.size, 1, none⟩) (by simp; omega) (.int .i64 (1 + 3 * (i : Int) + (k : Int)))).setOther (p := ⟨wa1.heap.size, 2, none⟩) (by simp; omega) (.slice (some ⟨wa3.heap.size, 0, none⟩) 2 2)), (((HBwa4.out.setCell (p := ⟨wa1.heap.size, 0, none⟩) (by simp; omega) (.int .i64 (pickedZ s.a 4))).setCell (p := ⟨wa1.heap.size, 1, none⟩) (by simp; omega) (.int .i64 (1 + 3 * (i : Int) + (k : Int)))).setCell (p := ⟨wa1.heap.size, 2, none⟩) (by simp; omega) (.slice (some ⟨wa3.heap.size, 0, none⟩) 2 2))⟩) (fun hHeld => ?_)
                              clear hK K
                              try simp only [Act.put, List.getElem_toArray, List.getElem_cons_succ, List.getElem_cons_zero, List.setIfInBounds_toArray, List.set_cons_zero, List.set_cons_succ]
                              refine wpAnyH_done (by kernel_rfl) ?_ _
                              go_wp2
                              go_meet
                              refine ⟨wa1.heap.size, some ⟨wa3.heap.size, 0, none⟩, 2, rfl, by omega, (((F2.out.set 0 (.int .i64 (pickedZ s.a 4))).set 1 (.int .i64 (1 + 3 * (i : Int) + (k : Int)))).set 2 (.slice (some ⟨wa3.heap.size, 0, none⟩) 2 2)), ?_, (((HBwa4.out.setCell (p := ⟨wa1.heap.size, 0, none⟩) (by simp; omega) (.int .i64 (pickedZ s.a 4))).setCell (p := ⟨wa1.heap.size, 1, none⟩) (by simp; omega) (.int .i64 (1 + 3 * (i : Int) + (k : Int)))).setCell (p := ⟨wa1.heap.size, 2, none⟩) (by simp; omega) (.slice (some ⟨wa3.heap.size, 0, none⟩) 2 2))⟩
                              rw [HTX.out]
                              exact RdS.of_box (l := [[b0], [b1, b2]]) (cap := 2) ((((F4.out.setOther (p := ⟨wa1.heap.size, 0, none⟩) (by simp; omega) (.int .i64 (pickedZ s.a 4))).setOther (p := ⟨wa1.heap.size, 1, none⟩) (by simp; omega) (.int .i64 (1 + 3 * (i : Int) + (k : Int)))).setOther (p := ⟨wa1.heap.size, 2, none⟩) (by simp; omega) (.slice (some ⟨wa3.heap.size, 0, none⟩) 2 2))) ⟨by omega, by omega⟩ (by simp) (by unfold maxLen; simp)
                            exact AllReadyH.nil
                          exact AllReadyH.nil
                        exact AllReadyH.nil
                    exact AllReadyH.nil
                refine AllReadyH.cons rfl (fun K hK => ?_) ?_
                · as_aux_lemma =>
                    rw [if_pos (by rfl)]
                    go_simp
                    show K _ _
                    refine hK.out _ _ (by exact (HBd.out.alloc (Below.size HBd.out) _)) (fun hHeld => ?_)
                    clear hK K
                    try simp only [Act.put, List.getElem_toArray, List.getElem_cons_succ, List.getElem_cons_zero, List.setIfInBounds_toArray, List.set_cons_zero, List.set_cons_succ]
                    obtain ⟨wa1, hwn⟩ : ∃ wa1, wa1 = wd.alloc (.cells #[.int .i64 0, .int .i64 0, .slice none 0 0] 58) := ⟨_, rfl⟩
                    have F1 := Lib.hid (show BoxAt wa1 (wd.heap.size) [.int .i64 0, .int .i64 0, .slice none 0 0] 58 by rw [hwn]; exact BoxAt.newAt wd [.int .i64 0, .int .i64 0, .slice none 0 0] 58 rfl)
                    have HBwa1 := Lib.hid (show Below wr.heap.size wr wa1 by rw [hwn]; exact HBd.out.alloc (Below.size HBd.out) _)
                    rw [← hwn] at hHeld ⊢
                    clear hwn
                    have zwa1 := F1.out.lt
                    refine wpAnyH_ready (rs := [10, 23]) (by kernel_rfl) (by simp) ?_
                    refine AllReadyH.cons rfl (fun K hK => ?_) ?_
                    · as_aux_lemma =>
                        rw [if_pos (by rfl)]
                        go_simp
                        show K _ _
                        refine hK.out _ _ (by exact (HBwa1.out.alloc (Below.size HBwa1.out) _)) (fun hHeld => ?_)
                        clear hK K
                        try simp only [Act.put, List.getElem_toArray, List.getElem_cons_succ, List.getElem_cons_zero, List.setIfInBounds_toArray, List.set_cons_zero, List.set_cons_succ]
                        obtain ⟨wa2, hwn⟩ : ∃ wa2, wa2 = wa1.alloc (.cells #[.int .u8 (b0.toNat : Int)] 5) := ⟨_, rfl⟩
                        have F2 := Lib.hid (show BoxAt wa2 (wa1.heap.size) [.int .u8 (b0.toNat : Int)] 5 by rw [hwn]; exact BoxAt.newAt wa1 [.int .u8 (b0.toNat : Int)] 5 rfl)
                        replace F1 := Lib.hid (show BoxAt wa2 (wd.heap.size) [.int .i64 0, .int .i64 0, .slice none 0 0] 58 by rw [hwn]; exact F1.out.alloc _)
                        have HBwa2 := Lib.hid (show Below wr.heap.size wr wa2 by rw [hwn]; exact HBwa1.out.alloc (Below.size HBwa1.out) _)
                        rw [← hwn] at hHeld ⊢
                        clear hwn
                        have zwa2 := F2.out.lt
                        refine wpAnyH_strong (S' := fun w' => BoxAt w' (wa1.heap.size) [.int .u8 (b0.toNat : Int)] 5 ∧ (Below wr.heap.size wr w')) (fun _ h => h.2) _ _ _ _ ?_
                        replace hHeld := And.intro F2.out hHeld
                        refine wpAnyH_take (i := 11) (v := strV [b0]) rfl (by kernel_rfl) (by kernel_rfl) (by kernel_rfl) (fun _ _ _ h => h) (Or.inl ⟨by rfl, fun w hSw => ?_⟩) hHeld ?_
                        · have hcv : (convert 39 9 (.slice (some ⟨wa1.heap.size, 0, none⟩) 1 1)).run Tryd.prog w = .ok (strV [b0]) w := conv_bytes_str (P := Tryd.prog) Tryd.underlying39 Tryd.underlying5 Tryd.underlying9 (RdS.of_box (G := fun _ => True) (l := [b0]) (cap := 1) hSw.1 trivial (by simp) (by unfold maxLen; simp)); clear hSw; go_simp
                        try simp only [Act.put, List.getElem_toArray, List.getElem_cons_succ, List.getElem_cons_zero, List.setIfInBounds_toArray, List.set_cons_zero, List.set_cons_succ]
                        refine wpAnyH_ready (rs := [23]) (by kernel_rfl) (by simp) ?_
                        refine AllReadyH.cons rfl (fun K hK => ?_) ?_
                        · rw [if_pos (by rfl)]
                          go_simp
                          show K _ _
                          refine hK.out _ _ (by exact ⟨(F2.out.alloc _), (HBwa2.out.alloc (Below.size HBwa2.out) _)⟩) (fun hHeld => ?_)
                          clear hK K
                          try simp only [Act.put, List.getElem_toArray, List.getElem_cons_succ, List.getElem_cons_zero, List.setIfInBounds_toArray, List.set_cons_zero, List.set_cons_succ]
                          obtain ⟨wa3, hwn⟩ : ∃ wa3, wa3 = wa2.alloc (.cells #[.int .u8 (b1.toNat : Int), .int .u8 (b2.toNat : Int)] 5) := ⟨_, rfl⟩
                          have F3 := Lib.hid (show BoxAt wa3 (wa2.heap.size) [.int .u8 (b1.toNat : Int), .int .u8 (b2.toNat : Int)] 5 by rw [hwn]; exact BoxAt.newAt wa2 [.int .u8 (b1.toNat : Int), .int .u8 (b2.toNat : Int)] 5 rfl)
                          replace F1 := Lib.hid (show BoxAt wa3 (wd.heap.size) [.int .i64 0, .int .i64 0, .slice none 0 0] 58 by rw [hwn]; exact F1.out.alloc _)
                          replace F2 := Lib.hid (show BoxAt wa3 (wa1.heap.size) [.int .u8 (b0.toNat : Int)] 5 by rw [hwn]; exact F2.out.alloc _)
                          have HBwa3 := Lib.hid (show Below wr.heap.size wr wa3 by rw [hwn]; exact HBwa2.out.alloc (Below.size HBwa2.out) _)
                          rw [← hwn] at hHeld ⊢
                          clear hwn
                          have zwa3 := F3.out.lt
                          refine wpAnyH_strong (S' := fun w' => BoxAt w' (wa2.heap.size) [.int .u8 (b1.toNat : Int), .int .u8 (b2.toNat : Int)] 5 ∧ (BoxAt w' (wa1.heap.size) [.int .u8 (b0.toNat : Int)] 5 ∧ (Below wr.heap.size wr w'))) (fun _ h => h.2) _ _ _ _ ?_
                          replace hHeld := And.intro F3.out hHeld
                          refine wpAnyH_take (i := 24) (v := strV [b1, b2]) rfl (by kernel_rfl) (by kernel_rfl) (by kernel_rfl) (fun _ _ _ h => h) (Or.inl ⟨by rfl, fun w hSw => ?_⟩) hHeld ?_
                          · have hcv : (convert 39 9 (.slice (some ⟨wa2.heap.size, 0, none⟩) 2 2)).run Tryd.prog w = .ok (strV [b1, b2]) w := conv_bytes_str (P := Tryd.prog) Tryd.underlying39 Tryd.underlying5 Tryd.underlying9 (RdS.of_box (G := fun _ => True) (l := [b1, b2]) (cap := 2) hSw.1 trivial (by simp) (by unfold maxLen; simp)); clear hSw; go_simp
                          try simp only [Act.put, List.getElem_toArray, List.getElem_cons_succ, List.getElem_cons_zero, List.setIfInBounds_toArray, List.set_cons_zero, List.set_cons_succ]
                          refine wpAnyH_ready (rs := [25]) (by kernel_rfl) (by simp) ?_
                          refine AllReadyH.cons rfl (fun K hK => ?_) ?_
                          · rw [if_pos (by rfl)]
                            go_simp
                            show K _ _
                            refine hK.out _ _ (by exact ⟨(F3.out.alloc _), (F2.out.alloc _), (HBwa3.out.alloc (Below.size HBwa3.out) _)⟩) (fun hHeld => ?_)
                            clear hK K
                            try simp only [Act.put, List.getElem_toArray, List.getElem_cons_succ, List.getElem_cons_zero, List.setIfInBounds_toArray, List.set_cons_zero, List.set_cons_succ]
                            obtain ⟨wa4, hwn⟩ : ∃ wa4, wa4 = wa3.alloc (.cells #[strV [b0], strV [b1, b2]] 9) := ⟨_, rfl⟩
                            have F4 := Lib.hid (show BoxAt wa4 (wa3.heap.size) [strV [b0], strV [b1, b2]] 9 by rw [hwn]; exact BoxAt.newAt wa3 [strV [b0], strV [b1, b2]] 9 rfl)
                            replace F1 := Lib.hid (show BoxAt wa4 (wd.heap.size) [.int .i64 0, .int .i64 0, .slice none 0 0] 58 by rw [hwn]; exact F1.out.alloc _)
                            replace F2 := Lib.hid (show BoxAt wa4 (wa1.heap.size) [.int .u8 (b0.toNat : Int)] 5 by rw [hwn]; exact F2.out.alloc _)
                            replace F3 := Lib.hid (show BoxAt wa4 (wa2.heap.size) [.int .u8 (b1.toNat : Int), .int .u8 (b2.toNat : Int)] 5 by rw [hwn]; exact F3.out.alloc _)
                            have HBwa4 := Lib.hid (show Below wr.heap.size wr wa4 by rw [hwn]; exact HBwa3.out.alloc (Below.size HBwa3.out) _)
                            rw [← hwn] at hHeld ⊢
                            clear hwn
                            have zwa4 := F4.out.lt
                            refine wpAnyH_take (i := 26) (v := .agg #[.int .i64 (pickedZ s.a 4), .int .i64 (1 + 3 * (i : Int) + (k : Int)), .slice (some ⟨wa3.heap.size, 0, none⟩) 2 2]) rfl (by kernel_rfl) (by kernel_rfl) (by kernel_rfl) (fun _ _ _ h => h) (Or.inl ⟨by rfl, fun w hSw => ?_⟩) hHeld ?_
                            · clear hSw; go_simp; all_goals (try first | rfl | omega)
                            try simp only [Act.put, List.getElem_toArray, List.getElem_cons_succ, List.getElem_cons_zero, List.setIfInBounds_toArray, List.set_cons_zero, List.set_cons_succ]
                            refine wpAnyH_ready (rs := [28]) (by kernel_rfl) (by simp) ?_
                            refine AllReadyH.cons rfl (fun K hK => ?_) ?_
                            · rw [if_pos (by rfl)]
                              have q0 := F1.out.cell 0 rfl
                              have q1 := F1.out.cell 1 rfl
                              have q2 := F1.out.cell 2 rfl
                              have qf0 := F1.out.free 0
                              have qf1 := F1.out.free 1
                              have qf2 := F1.out.free 2
                              go_simp
                              show K _ _
                              refine hK.out _ _ (by exact ⟨(((F3.out.setOther (p := ⟨wd.heap.size, 0, none⟩) (by simp; omega) (.int .i64 (pickedZ s.a 4))).setOther (p := ⟨wd.heap.size, 1, none⟩) (by simp; omega) (.int .i64 (1 + 3 * (i : Int) + (k : Int)))).setOther (p := ⟨wd.heap.size, 2, none⟩) (by simp; omega) (.slice (some ⟨wa3.heap.size, 0, none⟩) 2 2)), (((F2.out.setOther (p := ⟨wd.heap.size, 0, none⟩) (by simp; omega) (.int .i64 (pickedZ s.a 4))).setOther (p := ⟨wd.heap.size, 1, none⟩) (by simp; omega) (.int .i64 (1 + 3 * (i : Int) + (k : Int)))).setOther (p := ⟨wd.heap.size, 2, none⟩) (by simp; omega) (.slice (some ⟨wa3.heap.size, 0, none⟩) 2 2)), (((HBwa4.out.setCell (p := ⟨wd.heap.size, 0, none⟩) (by simp; omega) (.int .i64 (pickedZ s.a 4))).setCell (p := ⟨wd.heap.size, 1, none⟩) (by simp; omega) (.int .i64 (1 + 3 * (i : Int) + (k : Int)))).setCell (p := ⟨wd.heap.size, 2, none⟩) (by simp; omega) (.slice (some ⟨wa3.heap.size, 0, none⟩) 2 2))⟩) (fun hHeld => ?_)
                              clear hK K
                              try simp only [Act.put, List.getElem_toArray, List.getElem_cons_succ, List.getElem_cons_zero, List.setIfInBounds_toArray, List.set_cons_zero, List.set_cons_succ]
                              refine wpAnyH_done (by kernel_rfl) ?_ _
                              go_wp2
                              go_meet
                              refine ⟨wd.heap.size, some ⟨wa3.heap.size, 0, none⟩, 2, rfl, by omega, (((F1.out.set 0 (.int .i64 (pickedZ s.a 4))).set 1 (.int .i64 (1 + 3 * (i : Int) + (k : Int)))).set 2 (.slice (some ⟨wa3.heap.size, 0, none⟩) 2 2)), ?_, (((HBwa4.out.setCell (p := ⟨wd.heap.size, 0, none⟩) (by simp; omega) (.int .i64 (pickedZ s.a 4))).setCell (p := ⟨wd.heap.size, 1, none⟩) (by simp; omega) (.int .i64 (1 + 3 * (i : Int) + (k : Int)))).setCell (p := ⟨wd.heap.size, 2, none⟩) (by simp; omega) (.slice (some ⟨wa3.heap.size, 0, none⟩) 2 2))⟩
                              rw [HTX.out]
                              exact RdS.of_box (l := [[b0], [b1, b2]]) (cap := 2) ((((F4.out.setOther (p := ⟨wd.heap.size, 0, none⟩) (by simp; omega) (.int .i64 (pickedZ s.a 4))).setOther (p := ⟨wd.heap.size, 1, none⟩) (by simp; omega) (.int .i64 (1 + 3 * (i : Int) + (k : Int)))).setOther (p := ⟨wd.heap.size, 2, none⟩) (by simp; omega) (.slice (some ⟨wa3.heap.size, 0, none⟩) 2 2))) ⟨by omega, by omega⟩ (by simp) (by unfold maxLen; simp)
                            exact AllReadyH.nil
                          exact AllReadyH.nil
                        exact AllReadyH.nil
                    refine AllReadyH.cons rfl (fun K hK => ?_) ?_
                    · as_aux_lemma =>
                        rw [if_pos (by rfl)]
                        go_simp
                        show K _ _
                        refine hK.out _ _ (by exact (HBwa1.out.alloc (Below.size HBwa1.out) _)) (fun hHeld => ?_)
                        clear hK K
                        try simp only [Act.put, List.getElem_toArray, List.getElem_cons_succ, List.getElem_cons_zero, List.setIfInBounds_toArray, List.set_cons_zero, List.set_cons_succ]
                        obtain ⟨wa2, hwn⟩ : ∃ wa2, wa2 = wa1.alloc (.cells #[.int .u8 (b1.toNat : Int), .int .u8 (b2.toNat : Int)] 5) := ⟨_, rfl⟩
                        have F2 := Lib.hid (show BoxAt wa2 (wa1.heap.size) [.int .u8 (b1.toNat : Int), .int .u8 (b2.toNat : Int)] 5 by rw [hwn]; exact BoxAt.newAt wa1 [.int .u8 (b1.toNat : Int), .int .u8 (b2.toNat : Int)] 5 rfl)
                        replace F1 := Lib.hid (show BoxAt wa2 (wd.heap.size) [.int .i64 0, .int .i64 0, .slice none 0 0] 58 by rw [hwn]; exact F1.out.alloc _)
                        have HBwa2 := Lib.hid (show Below wr.heap.size wr wa2 by rw [hwn]; exact HBwa1.out.alloc (Below.size HBwa1.out) _)
                        rw [← hwn] at hHeld ⊢
                        clear hwn
                        have zwa2 := F2.out.lt
                        refine wpAnyH_strong (S' := fun w' => BoxAt w' (wa1.heap.size) [.int .u8 (b1.toNat : Int), .int .u8 (b2.toNat : Int)] 5 ∧ (Below wr.heap.size wr w')) (fun _ h => h.2) _ _ _ _ ?_
                        replace hHeld := And.intro F2.out hHeld
                        refine wpAnyH_take (i := 24) (v := strV [b1, b2]) rfl (by kernel_rfl) (by kernel_rfl) (by kernel_rfl) (fun _ _ _ h => h) (Or.inl ⟨by rfl, fun w hSw => ?_⟩) hHeld ?_
                        · have hcv : (convert 39 9 (.slice (some ⟨wa1.heap.size, 0, none⟩) 2 2)).run Tryd.prog w = .ok (strV [b1, b2]) w := conv_bytes_str (P := Tryd.prog) Tryd.underlying39 Tryd.underlying5 Tryd.underlying9 (RdS.of_box (G := fun _ => True) (l := [b1, b2]) (cap := 2) hSw.1 trivial (by simp) (by unfold maxLen; simp)); clear hSw; go_simp
                        try simp only [Act.put, List.getElem_toArray, List.getElem_cons_succ, List.getElem_cons_zero, List.setIfInBounds_toArray, List.set_cons_zero, List.set_cons_succ]
                        refine wpAnyH_ready (rs := [10]) (by kernel_rfl) (by simp) ?_
                        refine AllReadyH.cons rfl (fun K hK => ?_) ?_
                        · rw [if_pos (by rfl)]
                          go_simp
                          show K _ _
                          refine hK.out _ _ (by exact ⟨(F2.out.alloc _), (HBwa2.out.alloc (Below.size HBwa2.out) _)⟩) (fun hHeld => ?_)
                          clear hK K
                          try simp only [Act.put, List.getElem_toArray, List.getElem_cons_succ, List.getElem_cons_zero, List.setIfInBounds_toArray, List.set_cons_zero, List.set_cons_succ]
                          obtain ⟨wa3, hwn⟩ : ∃ wa3, wa3 = wa2.alloc (.cells #[.int .u8 (b0.toNat : Int)] 5) := ⟨_, rfl⟩
                          have F3 := Lib.hid (show BoxAt wa3 (wa2.heap.size) [.int .u8 (b0.toNat : Int)] 5 by rw [hwn]; exact BoxAt.newAt wa2 [.int .u8 (b0.toNat : Int)] 5 rfl)
                          replace F1 := Lib.hid (show BoxAt wa3 (wd.heap.size) [.int .i64 0, .int .i64 0, .slice none 0 0] 58 by rw [hwn]; exact F1.out.alloc _)
                          replace F2 := Lib.hid (show BoxAt wa3 (wa1.heap.size) [.int .u8 (b1.toNat : Int), .int .u8 (b2.toNat : Int)] 5 by rw [hwn]; exact F2.out.alloc _)
                          have HBwa3 := Lib.hid (show Below wr.heap.size wr wa3 by rw [hwn]; exact HBwa2.out.alloc (Below.size HBwa2.out) _)
                          rw [← hwn] at hHeld ⊢
                          clear hwn
                          have zwa3 := F3.out.lt
                          refine wpAnyH_strong (S' := fun w' => BoxAt w' (wa2.heap.size) [.int .u8 (b0.toNat : Int)] 5 ∧ (BoxAt w' (wa1.heap.size) [.int .u8 (b1.toNat : Int), .int .u8 (b2.toNat : Int)] 5 ∧ (Below wr.heap.size wr w'))) (fun _ h => h.2) _ _ _ _ ?_
                          replace hHeld := And.intro F3.out hHeld
                          refine wpAnyH_take (i := 11) (v := strV [b0]) rfl (by kernel_rfl) (by kernel_rfl) (by kernel_rfl) (fun _ _ _ h => h) (Or.inl ⟨by rfl, fun w hSw => ?_⟩) hHeld ?_
                          · have hcv : (convert 39 9 (.slice (some ⟨wa2.heap.size, 0, none⟩) 1 1)).run Tryd.prog w = .ok (strV [b0]) w := conv_bytes_str (P := Tryd.prog) Tryd.underlying39 Tryd.underlying5 Tryd.underlying9 (RdS.of_box (G := fun _ => True) (l := [b0]) (cap := 1) hSw.1 trivial (by simp) (by unfold maxLen; simp)); clear hSw; go_simp
                          try simp only [Act.put, List.getElem_toArray, List.getElem_cons_succ, List.getElem_cons_zero, List.setIfInBounds_toArray, List.set_cons_zero, List.set_cons_succ]
                          refine wpAnyH_ready (rs := [25]) (by kernel_rfl) (by simp) ?_
                          refine AllReadyH.cons rfl (fun K hK => ?_) ?_
                          · rw [if_pos (by rfl)]
                            go_simp
                            show K _ _
                            refine hK.out _ _ (by exact ⟨(F3.out.alloc _), (F2.out.alloc _), (HBwa3.out.alloc (Below.size HBwa3.out) _)⟩) (fun hHeld => ?_)
                            clear hK K
                            try simp only [Act.put, List.getElem_toArray, List.getElem_cons_succ, List.getElem_cons_zero, List.setIfInBounds_toArray, List.set_cons_zero, List.set_cons_succ]
                            obtain ⟨wa4, hwn⟩ : ∃ wa4, wa4 = wa3.alloc (.cells #[strV [b0], strV [b1, b2]] 9) := ⟨_, rfl⟩
                            have F4 := Lib.hid (show BoxAt wa4 (wa3.heap.size) [strV [b0], strV [b1, b2]] 9 by rw [hwn]; exact BoxAt.newAt wa3 [strV [b0], strV [b1, b2]] 9 rfl)
                            replace F1 := Lib.hid (show BoxAt wa4 (wd.heap.size) [.int .i64 0, .int .i64 0, .slice none 0 0] 58 by rw [hwn]; exact F1.out.alloc _)
                            replace F2 := Lib.hid (show BoxAt wa4 (wa1.heap.size) [.int .u8 (b1.toNat : Int), .int .u8 (b2.toNat : Int)] 5 by rw [hwn]; exact F2.out.alloc _)
                            replace F3 := Lib.hid (show BoxAt wa4 (wa2.heap.size) [.int .u8 (b0.toNat : Int)] 5 by rw [hwn]; exact F3.out.alloc _)
                            have HBwa4 := Lib.hid (show Below wr.heap.size wr wa4 by rw [hwn]; exact HBwa3.out.alloc (Below.size HBwa3.out) _)
                            rw [← hwn] at hHeld ⊢
                            clear hwn
                            have zwa4 := F4.out.lt
                            refine wpAnyH_take (i := 26) (v := .agg #[.int .i64 (pickedZ s.a 4), .int .i64 (1 + 3 * (i : Int) + (k : Int)), .slice (some ⟨wa3.heap.size, 0, none⟩) 2 2]) rfl (by kernel_rfl) (by kernel_rfl) (by kernel_rfl) (fun _ _ _ h => h) (Or.inl ⟨by rfl, fun w hSw => ?_⟩) hHeld ?_
                            · clear hSw; go_simp; all_goals (try first | rfl | omega)
                            try simp only [Act.put, List.getElem_toArray, List.getElem_cons_succ, List.getElem_cons_zero, List.setIfInBounds_toArray, List.set_cons_zero, List.set_cons_succ]
                            refine wpAnyH_ready (rs := [28]) (by kernel_rfl) (by simp) ?_
                            refine AllReadyH.cons rfl (fun K hK => ?_) ?_
                            · rw [if_pos (by rfl)]
                              have q0 := F1.out.cell 0 rfl
                              have q1 := F1.out.cell 1 rfl
                              have q2 := F1.out.cell 2 rfl
                              have qf0 := F1.out.free 0
                              have qf1 := F1.out.free 1
                              have qf2 := F1.out.free 2
                              go_simp
                              show K _ _
                              refine hK.out _ _ (by exact ⟨(((F3.out.setOther (p := ⟨wd.heap.size, 0, none⟩) (by simp; omega) (.int .i64 (pickedZ s.a 4))).setOther (p := ⟨wd.heap.size, 1, none⟩) (by simp; omega) (.int .i64 (1 + 3 * (i : Int) + (k : Int)))).setOther (p := ⟨wd.heap.size, 2, none⟩) (by simp; omega) (.slice (some ⟨wa3.heap.size, 0, none⟩) 2 2)), (((F2.out.setOther (p := ⟨wd.heap.size, 0, none⟩) (by simp; omega) (.int .i64 (pickedZ s.a 4))).setOther (p := ⟨wd.heap.size, 1, none⟩) (by simp; omega) (.int .i64 (1 + 3 * (i : Int) + (k : Int)))).setOther (p := ⟨wd.heap.size, 2, none⟩) (by simp; omega) (.slice (some ⟨wa3.heap.size, 0, none⟩) 2 2)), (((HBwa4.out.setCell (p := ⟨wd.heap.size, 0, none⟩) (by simp; omega) (.int .i64 (pickedZ s.a 4))).setCell (p := ⟨wd.heap.size, 1, none⟩) (by simp; omega) (.int .i64 (1 + 3 * (i : Int) + (k : Int)))).setCell (p := ⟨wd.heap.size, 2, none⟩) (by simp; omega) (.slice (some ⟨wa3.heap.size, 0, none⟩) 2 2))⟩) (fun hHeld => ?_)
                              clear hK K
                              try simp only [Act.put, List.getElem_toArray, List.getElem_cons_succ, List.getElem_cons_zero, List.setIfInBounds_toArray, List.set_cons_zero, List.set_cons_succ]
                              refine wpAnyH_done (by kernel_rfl) ?_ _
                              go_wp2
                              go_meet
                              refine ⟨wd.heap.size, some ⟨wa3.heap.size, 0, none⟩, 2, rfl, by omega, (((F1.out.set 0 (.int .i64 (pickedZ s.a 4))).set 1 (.int .i64 (1 + 3 * (i : Int) + (k : Int)))).set 2 (.slice (some ⟨wa3.heap.size, 0, none⟩) 2 2)), ?_, (((HBwa4.out.setCell (p := ⟨wd.heap.size, 0, none⟩) (by simp; omega) (.int .i64 (pickedZ s.a 4))).setCell (p := ⟨wd.heap.size, 1, none⟩) (by simp; omega) (.int .i64 (1 + 3 * (i : Int) + (k : Int)))).setCell (p := ⟨wd.heap.size, 2, none⟩) (by simp; omega) (.slice (some ⟨wa3.heap.size, 0, none⟩) 2 2))⟩
                              rw [HTX.out]
                              exact RdS.of_box (l := [[b0], [b1, b2]]) (cap := 2) ((((F4.out.setOther (p := ⟨wd.heap.size, 0, none⟩) (by simp; omega) (.int .i64 (pickedZ s.a 4))).setOther (p := ⟨wd.heap.size, 1, none⟩) (by simp; omega) (.int .i64 (1 + 3 * (i : Int) + (k : Int)))).setOther (p := ⟨wd.heap.size, 2, none⟩) (by simp; omega) (.slice (some ⟨wa3.heap.size, 0, none⟩) 2 2))) ⟨by omega, by omega⟩ (by simp) (by unfold maxLen; simp)
                            exact AllReadyH.nil
                          exact AllReadyH.nil
                        exact AllReadyH.nil
                    exact AllReadyH.nil
                exact AllReadyH.nil
            refine AllReadyH.cons rfl (fun K hK => ?_) ?_
            · as_aux_lemma =>
                rw [if_pos (by rfl)]
                go_simp
                show K _ _
                refine hK.out _ _ (by exact (HBd.out.alloc (Below.size HBd.out) _)) (fun hHeld => ?_)
                clear hK K
                try simp only [Act.put, List.getElem_toArray, List.getElem_cons_succ, List.getElem_cons_zero, List.setIfInBounds_toArray, List.set_cons_zero, List.set_cons_succ]
                obtain ⟨wa1, hwn⟩ : ∃ wa1, wa1 = wd.alloc (.cells #[.int .i64 0, .int .i64 0, .slice none 0 0] 58) := ⟨_, rfl⟩
                have F1 := Lib.hid (show BoxAt wa1 (wd.heap.size) [.int .i64 0, .int .i64 0, .slice none 0 0] 58 by rw [hwn]; exact BoxAt.newAt wd [.int .i64 0, .int .i64 0, .slice none 0 0] 58 rfl)
                have HBwa1 := Lib.hid (show Below wr.heap.size wr wa1 by rw [hwn]; exact HBd.out.alloc (Below.size HBd.out) _)
                rw [← hwn] at hHeld ⊢
                clear hwn
                have zwa1 := F1.out.lt
                refine wpAnyH_ready (rs := [10, 17]) (by kernel_rfl) (by simp) ?_
                refine AllReadyH.cons rfl (fun K hK => ?_) ?_
                · as_aux_lemma =>
                    rw [if_pos (by rfl)]
                    go_simp
                    show K _ _
                    refine hK.out _ _ (by exact (HBwa1.out.alloc (Below.size HBwa1.out) _)) (fun hHeld => ?_)
                    clear hK K
                    try simp only [Act.put, List.getElem_toArray, List.getElem_cons_succ, List.getElem_cons_zero, List.setIfInBounds_toArray, List.set_cons_zero, List.set_cons_succ]
                    obtain ⟨wa2, hwn⟩ : ∃ wa2, wa2 = wa1.alloc (.cells #[.int .u8 (b0.toNat : Int)] 5) := ⟨_, rfl⟩
                    have F2 := Lib.hid (show BoxAt wa2 (wa1.heap.size) [.int .u8 (b0.toNat : Int)] 5 by rw [hwn]; exact BoxAt.newAt wa1 [.int .u8 (b0.toNat : Int)] 5 rfl)
                    replace F1 := Lib.hid (show BoxAt wa2 (wd.heap.size) [.int .i64 0, .int .i64 0, .slice none 0 0] 58 by rw [hwn]; exact F1.out.alloc _)
                    have HBwa2 := Lib.hid (show Below wr.heap.size wr wa2 by rw [hwn]; exact HBwa1.out.alloc (Below.size HBwa1.out) _)
                    rw [← hwn] at hHeld ⊢
                    clear hwn
                    have zwa2 := F2.out.lt
                    refine wpAnyH_strong (S' := fun w' => BoxAt w' (wa1.heap.size) [.int .u8 (b0.toNat : Int)] 5 ∧ (Below wr.heap.size wr w')) (fun _ h => h.2) _ _ _ _ ?_
                    replace hHeld := And.intro F2.out hHeld
                    refine wpAnyH_take (i := 11) (v := strV [b0]) rfl (by kernel_rfl) (by kernel_rfl) (by kernel_rfl) (fun _ _ _ h => h) (Or.inl ⟨by rfl, fun w hSw => ?_⟩) hHeld ?_
                    · have hcv : (convert 39 9 (.slice (some ⟨wa1.heap.size, 0, none⟩) 1 1)).run Tryd.prog w = .ok (strV [b0]) w := conv_bytes_str (P := Tryd.prog) Tryd.underlying39 Tryd.underlying5 Tryd.underlying9 (RdS.of_box (G := fun _ => True) (l := [b0]) (cap := 1) hSw.1 trivial (by simp) (by unfold maxLen; simp)); clear hSw; go_simp
                    try simp only [Act.put, List.getElem_toArray, List.getElem_cons_succ, List.getElem_cons_zero, List.setIfInBounds_toArray, List.set_cons_zero, List.set_cons_succ]
                    refine wpAnyH_ready (rs := [17]) (by kernel_rfl) (by simp) ?_
                    refine AllReadyH.cons rfl (fun K hK => ?_) ?_
                    · rw [if_pos (by rfl)]
                      go_simp
                      go_at_call 29
                      refine (picked_any s.b 7 _ sb1 sb2 (by omega) (by omega)).mono ?_
                      rintro e w' ⟨rfl, rfl⟩
                      show K _ _
                      refine hK.out _ _ (by exact hHeld) (fun hHeld => ?_)
                      clear hK K
                      try simp only [Act.put, List.getElem_toArray, List.getElem_cons_succ, List.getElem_cons_zero, List.setIfInBounds_toArray, List.set_cons_zero, List.set_cons_succ]
                      refine wpAnyH_take (i := 18) (v := .int .i64 (65 + pickedZ s.b 7)) rfl (by kernel_rfl) (by kernel_rfl) (by kernel_rfl) (fun _ _ _ h => h) (Or.inl ⟨by rfl, fun w hSw => ?_⟩) hHeld ?_
                      · clear hSw; go_simp; all_goals (try first | rfl | omega)
                      try simp only [Act.put, List.getElem_toArray, List.getElem_cons_succ, List.getElem_cons_zero, List.setIfInBounds_toArray, List.set_cons_zero, List.set_cons_succ]
                      refine wpAnyH_take (i := 19) (v := .int .u8 (b1.toNat : Int)) rfl (by kernel_rfl) (by kernel_rfl) (by kernel_rfl) (fun _ _ _ h => h) (Or.inl ⟨by rfl, fun w hSw => ?_⟩) hHeld ?_
                      · clear hSw; go_simp; all_goals (try first | rfl | omega)
                      try simp only [Act.put, List.getElem_toArray, List.getElem_cons_succ, List.getElem_cons_zero, List.setIfInBounds_toArray, List.set_cons_zero, List.set_cons_succ]
                      refine wpAnyH_ready (rs := [23]) (by kernel_rfl) (by simp) ?_
                      refine AllReadyH.cons rfl (fun K hK => ?_) ?_
                      · rw [if_pos (by rfl)]
                        go_simp
                        show K _ _
                        refine hK.out _ _ (by exact ⟨(F2.out.alloc _), (HBwa2.out.alloc (Below.size HBwa2.out) _)⟩) (fun hHeld => ?_)
                        clear hK K
                        try simp only [Act.put, List.getElem_toArray, List.getElem_cons_succ, List.getElem_cons_zero, List.setIfInBounds_toArray, List.set_cons_zero, List.set_cons_succ]
                        obtain ⟨wa3, hwn⟩ : ∃ wa3, wa3 = wa2.alloc (.cells #[.int .u8 (b1.toNat : Int), .int .u8 (b2.toNat : Int)] 5) := ⟨_, rfl⟩
                        have F3 := Lib.hid (show BoxAt wa3 (wa2.heap.size) [.int .u8 (b1.toNat : Int), .int .u8 (b2.toNat : Int)] 5 by rw [hwn]; exact BoxAt.newAt wa2 [.int .u8 (b1.toNat : Int), .int .u8 (b2.toNat : Int)] 5 rfl)
                        replace F1 := Lib.hid (show BoxAt wa3 (wd.heap.size) [.int .i64 0, .int .i64 0, .slice none 0 0] 58 by rw [hwn]; exact F1.out.alloc _)
                        replace F2 := Lib.hid (show BoxAt wa3 (wa1.heap.size) [.int .u8 (b0.toNat : Int)] 5 by rw [hwn]; exact F2.out.alloc _)
                        have HBwa3 := Lib.hid (show Below wr.heap.size wr wa3 by rw [hwn]; exact HBwa2.out.alloc (Below.size HBwa2.out) _)
                        rw [← hwn] at hHeld ⊢
                        clear hwn
                        have zwa3 := F3.out.lt
                        refine wpAnyH_strong (S' := fun w' => BoxAt w' (wa2.heap.size) [.int .u8 (b1.toNat : Int), .int .u8 (b2.toNat : Int)] 5 ∧ (BoxAt w' (wa1.heap.size) [.int .u8 (b0.toNat : Int)] 5 ∧ (Below wr.heap.size wr w'))) (fun _ h => h.2) _ _ _ _ ?_
                        replace hHeld := And.intro F3.out hHeld
                        refine wpAnyH_take (i := 24) (v := strV [b1, b2]) rfl (by kernel_rfl) (by kernel_rfl) (by kernel_rfl) (fun _ _ _ h => h) (Or.inl ⟨by rfl, fun w hSw => ?_⟩) hHeld ?_
                        · have hcv : (convert 39 9 (.slice (some ⟨wa2.heap.size, 0, none⟩) 2 2)).run Tryd.prog w = .ok (strV [b1, b2]) w := conv_bytes_str (P := Tryd.prog) Tryd.underlying39 Tryd.underlying5 Tryd.underlying9 (RdS.of_box (G := fun _ => True) (l := [b1, b2]) (cap := 2) hSw.1 trivial (by simp) (by unfold maxLen; simp)); clear hSw; go_simp
                        try simp only [Act.put, List.getElem_toArray, List.getElem_cons_succ, List.getElem_cons_zero, List.setIfInBounds_toArray, List.set_cons_zero, List.set_cons_succ]
                        refine wpAnyH_ready (rs := [25]) (by kernel_rfl) (by simp) ?_
                        refine AllReadyH.cons rfl (fun K hK => ?_) ?_
                        · rw [if_pos (by rfl)]
                          go_simp
                          show K _ _
                          refine hK.out _ _ (by exact ⟨(F3.out.alloc _), (F2.out.alloc _), (HBwa3.out.alloc (Below.size HBwa3.out) _)⟩) (fun hHeld => ?_)
                          clear hK K
                          try simp only [Act.put, List.getElem_toArray, List.getElem_cons_succ, List.getElem_cons_zero, List.setIfInBounds_toArray, List.set_cons_zero, List.set_cons_succ]
                          obtain ⟨wa4, hwn⟩ : ∃ wa4, wa4 = wa3.alloc (.cells #[strV [b0], strV [b1, b2]] 9) := ⟨_, rfl⟩
                          have F4 := Lib.hid (show BoxAt wa4 (wa3.heap.size) [strV [b0], strV [b1, b2]] 9 by rw [hwn]; exact BoxAt.newAt wa3 [strV [b0], strV [b1, b2]] 9 rfl)
                          replace F1 := Lib.hid (show BoxAt wa4 (wd.heap.size) [.int .i64 0, .int .i64 0, .slice none 0 0] 58 by rw [hwn]; exact F1.out.alloc _)
                          replace F2 := Lib.hid (show BoxAt wa4 (wa1.heap.size) [.int .u8 (b0.toNat : Int)] 5 by rw [hwn]; exact F2.out.alloc _)
                          replace F3 := Lib.hid (show BoxAt wa4 (wa2.heap.size) [.int .u8 (b1.toNat : Int), .int .u8 (b2.toNat : Int)] 5 by rw [hwn]; exact F3.out.alloc _)
                          have HBwa4 := Lib.hid (show Below wr.heap.size wr wa4 by rw [hwn]; exact HBwa3.out.alloc (Below.size HBwa3.out) _)
                          rw [← hwn] at hHeld ⊢
                          clear hwn
                          have zwa4 := F4.out.lt
                          refine wpAnyH_take (i := 26) (v := .agg #[.int .i64 (pickedZ s.a 4), .int .i64 (1 + 3 * (i : Int) + (k : Int)), .slice (some ⟨wa3.heap.size, 0, none⟩) 2 2]) rfl (by kernel_rfl) (by kernel_rfl) (by kernel_rfl) (fun _ _ _ h => h) (Or.inl ⟨by rfl, fun w hSw => ?_⟩) hHeld ?_
                          · clear hSw; go_simp; all_goals (try first | rfl | omega)
                          try simp only [Act.put, List.getElem_toArray, List.getElem_cons_succ, List.getElem_cons_zero, List.setIfInBounds_toArray, List.set_cons_zero, List.set_cons_succ]
                          refine wpAnyH_ready (rs := [28]) (by kernel_rfl) (by simp) ?_
                          refine AllReadyH.cons rfl (fun K hK => ?_) ?_
                          · rw [if_pos (by rfl)]
                            have q0 := F1.out.cell 0 rfl
                            have q1 := F1.out.cell 1 rfl
                            have q2 := F1.out.cell 2 rfl
                            have qf0 := F1.out.free 0
                            have qf1 := F1.out.free 1
                            have qf2 := F1.out.free 2
                            go_simp
                            show K _ _
                            refine hK.out _ _ (by exact ⟨(((F3.out.setOther (p := ⟨wd.heap.size, 0, none⟩) (by simp; omega) (.int .i64 (pickedZ s.a 4))).setOther (p := ⟨wd.heap.size, 1, none⟩) (by simp; omega) (.int .i64 (1 + 3 * (i : Int) + (k : Int)))).setOther (p := ⟨wd.heap.size, 2, none⟩) (by simp; omega) (.slice (some ⟨wa3.heap.size, 0, none⟩) 2 2)), (((F2.out.setOther (p := ⟨wd.heap.size, 0, none⟩) (by simp; omega) (.int .i64 (pickedZ s.a 4))).setOther (p := ⟨wd.heap.size, 1, none⟩) (by simp; omega) (.int .i64 (1 + 3 * (i : Int) + (k : Int)))).setOther (p := ⟨wd.heap.size, 2, none⟩) (by simp; omega) (.slice (some ⟨wa3.heap.size, 0, none⟩) 2 2)), (((HBwa4.out.setCell (p := ⟨wd.heap.size, 0, none⟩) (by simp; omega) (.int .i64 (pickedZ s.a 4))).setCell (p := ⟨wd.heap.size, 1, none⟩) (by simp; omega) (.int .i64 (1 + 3 * (i : Int) + (k : Int)))).setCell (p := ⟨wd.heap.size, 2, none⟩) (by simp; omega) (.slice (some ⟨wa3.heap.size, 0, none⟩) 2 2))⟩) (fun hHeld => ?_)
                            clear hK K
                            try simp only [Act.put, List.getElem_toArray, List.getElem_cons_succ, List.getElem_cons_zero, List.setIfInBounds_toArray, List.set_cons_zero, List.set_cons_succ]
                            refine wpAnyH_done (by kernel_rfl) ?_ _
                            go_wp2
                            go_meet
                            refine ⟨wd.heap.size, some ⟨wa3.heap.size, 0, none⟩, 2, rfl, by omega, (((F1.out.set 0 (.int .i64 (pickedZ s.a 4))).set 1 (.int .i64 (1 + 3 * (i : Int) + (k : Int)))).set 2 (.slice (some ⟨wa3.heap.size, 0, none⟩) 2 2)), ?_, (((HBwa4.out.setCell (p := ⟨wd.heap.size, 0, none⟩) (by simp; omega) (.int .i64 (pickedZ s.a 4))).setCell (p := ⟨wd.heap.size, 1, none⟩) (by simp; omega) (.int .i64 (1 + 3 * (i : Int) + (k : Int)))).setCell (p := ⟨wd.heap.size, 2, none⟩) (by simp; omega) (.slice (some ⟨wa3.heap.size, 0, none⟩) 2 2))⟩
                            rw [HTX.out]
                            exact RdS.of_box (l := [[b0], [b1, b2]]) (cap := 2) ((((F4.out.setOther (p := ⟨wd.heap.size, 0, none⟩) (by simp; omega) (.int .i64 (pickedZ s.a 4))).setOther (p := ⟨wd.heap.size, 1, none⟩) (by simp; omega) (.int .i64 (1 + 3 * (i : Int) + (k : Int)))).setOther (p := ⟨wd.heap.size, 2, none⟩) (by simp; omega) (.slice (some ⟨wa3.heap.size, 0, none⟩) 2 2))) ⟨by omega, by omega⟩ (by simp) (by unfold maxLen; simp)
                          exact AllReadyH.nil
                        exact AllReadyH.nil
                      exact AllReadyH.nil
                    exact AllReadyH.nil
                refine AllReadyH.cons rfl (fun K hK => ?_) ?_
                · as_aux_lemma =>
                    rw [if_pos (by rfl)]
                    go_simp
                    go_at_call 29
                    refine (picked_any s.b 7 _ sb1 sb2 (by omega) (by omega)).mono ?_
                    rintro e w' ⟨rfl, rfl⟩
                    show K _ _
                    refine hK.out _ _ (by exact hHeld) (fun hHeld => ?_)
                    clear hK K
                    try simp only [Act.put, List.getElem_toArray, List.getElem_cons_succ, List.getElem_cons_zero, List.setIfInBounds_toArray, List.set_cons_zero, List.set_cons_succ]
                    refine wpAnyH_take (i := 18) (v := .int .i64 (65 + pickedZ s.b 7)) rfl (by kernel_rfl) (by kernel_rfl) (by kernel_rfl) (fun _ _ _ h => h) (Or.inl ⟨by rfl, fun w hSw => ?_⟩) hHeld ?_
                    · clear hSw; go_simp; all_goals (try first | rfl | omega)
                    try simp only [Act.put, List.getElem_toArray, List.getElem_cons_succ, List.getElem_cons_zero, List.setIfInBounds_toArray, List.set_cons_zero, List.set_cons_succ]
                    refine wpAnyH_take (i := 19) (v := .int .u8 (b1.toNat : Int)) rfl (by kernel_rfl) (by kernel_rfl) (by kernel_rfl) (fun _ _ _ h => h) (Or.inl ⟨by rfl, fun w hSw => ?_⟩) hHeld ?_
                    · clear hSw; go_simp; all_goals (try first | rfl | omega)
                    try simp only [Act.put, List.getElem_toArray, List.getElem_cons_succ, List.getElem_cons_zero, List.setIfInBounds_toArray, List.set_cons_zero, List.set_cons_succ]
                    refine wpAnyH_ready (rs := [10, 23]) (by kernel_rfl) (by simp) ?_
                    refine AllReadyH.cons rfl (fun K hK => ?_) ?_
                    · as_aux_lemma =>
                        rw [if_pos (by rfl)]
                        go_simp
                        show K _ _
                        refine hK.out _ _ (by exact (HBwa1.out.alloc (Below.size HBwa1.out) _)) (fun hHeld => ?_)
                        clear hK K
                        try simp only [Act.put, List.getElem_toArray, List.getElem_cons_succ, List.getElem_cons_zero, List.setIfInBounds_toArray, List.set_cons_zero, List.set_cons_succ]
                        obtain ⟨wa2, hwn⟩ : ∃ wa2, wa2 = wa1.alloc (.cells #[.int .u8 (b0.toNat : Int)] 5) := ⟨_, rfl⟩
                        have F2 := Lib.hid (show BoxAt wa2 (wa1.heap.size) [.int .u8 (b0.toNat : Int)] 5 by rw [hwn]; exact BoxAt.newAt wa1 [.int .u8 (b0.toNat : Int)] 5 rfl)
                        replace F1 := Lib.hid (show BoxAt wa2 (wd.heap.size) [.int .i64 0, .int .i64 0, .slice none 0 0] 58 by rw [hwn]; exact F1.out.alloc _)
                        have HBwa2 := Lib.hid (show Below wr.heap.size wr wa2 by rw [hwn]; exact HBwa1.out.alloc (Below.size HBwa1.out) _)
                        rw [← hwn] at hHeld ⊢
                        clear hwn
                        have zwa2 := F2.out.lt
                        refine wpAnyH_strong (S' := fun w' => BoxAt w' (wa1.heap.size) [.int .u8 (b0.toNat : Int)] 5 ∧ (Below wr.heap.size wr w')) (fun _ h => h.2) _ _ _ _ ?_
                        replace hHeld := And.intro F2.out hHeld
                        refine wpAnyH_take (i := 11) (v := strV [b0]) rfl (by kernel_rfl) (by kernel_rfl) (by kernel_rfl) (fun _ _ _ h => h) (Or.inl ⟨by rfl, fun w hSw => ?_⟩) hHeld ?_
                        · have hcv : (convert 39 9 (.slice (some ⟨wa1.heap.size, 0, none⟩) 1 1)).run Tryd.prog w = .ok (strV [b0]) w := conv_bytes_str (P := Tryd.prog) Tryd.underlying39 Tryd.underlying5 Tryd.underlying9 (RdS.of_box (G := fun _ => True) (l := [b0]) (cap := 1) hSw.1 trivial (by simp) (by unfold maxLen; simp)); clear hSw; go_simp
                        try simp only [Act.put, List.getElem_toArray, List.getElem_cons_succ, List.getElem_cons_zero, List.setIfInBounds_toArray, List.set_cons_zero, List.set_cons_succ]
                        refine wpAnyH_ready (rs := [23]) (by kernel_rfl) (by simp) ?_
                        refine AllReadyH.cons rfl (fun K hK => ?_) ?_
                        · rw [if_pos (by rfl)]
                          go_simp
                          show K _ _
                          refine hK.out _ _ (by exact ⟨(F2.out.alloc _), (HBwa2.out.alloc (Below.size HBwa2.out) _)⟩) (fun hHeld => ?_)
                          clear hK K
                          try simp only [Act.put, List.getElem_toArray, List.getElem_cons_succ, List.getElem_cons_zero, List.setIfInBounds_toArray, List.set_cons_zero, List.set_cons_succ]
                          obtain ⟨wa3, hwn⟩ : ∃ wa3, wa3 = wa2.alloc (.cells #[.int .u8 (b1.toNat : Int), .int .u8 (b2.toNat : Int)] 5) := ⟨_, rfl⟩
                          have F3 := Lib.hid (show BoxAt wa3 (wa2.heap.size) [.int .u8 (b1.toNat : Int), .int .u8 (b2.toNat : Int)] 5 by rw [hwn]; exact BoxAt.newAt wa2 [.int .u8 (b1.toNat : Int), .int .u8 (b2.toNat : Int)] 5 rfl)
                          replace F1 := Lib.hid (show BoxAt wa3 (wd.heap.size) [.int .i64 0, .int .i64 0, .slice none 0 0] 58 by rw [hwn]; exact F1.out.alloc _)
                          replace F2 := Lib.hid (show BoxAt wa3 (wa1.heap.size) [.int .u8 (b0.toNat : Int)] 5 by rw [hwn]; exact F2.out.alloc _)
                          have HBwa3 := Lib.hid (show Below wr.heap.size wr wa3 by rw [hwn]; exact HBwa2.out.alloc (Below.size HBwa2.out) _)
                          rw [← hwn] at hHeld ⊢
                          clear hwn
                          have zwa3 := F3.out.lt
                          refine wpAnyH_strong (S' := fun w' => BoxAt w' (wa2.heap.size) [.int .u8 (b1.toNat : Int), .int .u8 (b2.toNat : Int)] 5 ∧ (BoxAt w' (wa1.heap.size) [.int .u8 (b0.toNat : Int)] 5 ∧ (Below wr.heap.size wr w'))) (fun _ h => h.2) _ _ _ _ ?_
                          replace hHeld := And.intro F3.out hHeld
                          refine wpAnyH_take (i := 24) (v := strV [b1, b2]) rfl (by kernel_rfl) (by kernel_rfl) (by kernel_rfl) (fun _ _ _ h => h) (Or.inl ⟨by rfl, fun w hSw => ?_⟩) hHeld ?_
                          · have hcv : (convert 39 9 (.slice (some ⟨wa2.heap.size, 0, none⟩) 2 2)).run Tryd.prog w = .ok (strV [b1, b2]) w := conv_bytes_str (P := Tryd.prog) Tryd.underlying39 Tryd.underlying5 Tryd.underlying9 (RdS.of_box (G := fun _ => True) (l := [b1, b2]) (cap := 2) hSw.1 trivial (by simp) (by unfold maxLen; simp)); clear hSw; go_simp
                          try simp only [Act.put, List.getElem_toArray, List.getElem_cons_succ, List.getElem_cons_zero, List.setIfInBounds_toArray, List.set_cons_zero, List.set_cons_succ]
                          refine wpAnyH_ready (rs := [25]) (by kernel_rfl) (by simp) ?_
                          refine AllReadyH.cons rfl (fun K hK => ?_) ?_
                          · rw [if_pos (by rfl)]
                            go_simp
                            show K _ _
                            refine hK.out _ _ (by exact ⟨(F3.out.alloc _), (F2.out.alloc _), (HBwa3.out.alloc (Below.size HBwa3.out) _)⟩) (fun hHeld => ?_)
                            clear hK K
                            try simp only [Act.put, List.getElem_toArray, List.getElem_cons_succ, List.getElem_cons_zero, List.setIfInBounds_toArray, List.set_cons_zero, List.set_cons_succ]
                            obtain ⟨wa4, hwn⟩ : ∃ wa4, wa4 = wa3.alloc (.cells #[strV [b0], strV [b1, b2]] 9) := ⟨_, rfl⟩
                            have F4 := Lib.hid (show BoxAt wa4 (wa3.heap.size) [strV [b0], strV [b1, b2]] 9 by rw [hwn]; exact BoxAt.newAt wa3 [strV [b0], strV [b1, b2]] 9 rfl)
                            replace F1 := Lib.hid (show BoxAt wa4 (wd.heap.size) [.int .i64 0, .int .i64 0, .slice none 0 0] 58 by rw [hwn]; exact F1.out.alloc _)
                            replace F2 := Lib.hid (show BoxAt wa4 (wa1.heap.size) [.int .u8 (b0.toNat : Int)] 5 by rw [hwn]; exact F2.out.alloc _)
                            replace F3 := Lib.hid (show BoxAt wa4 (wa2.heap.size) [.int .u8 (b1.toNat : Int), .int .u8 (b2.toNat : Int)] 5 by rw [hwn]; exact F3.out.alloc _)
                            have HBwa4 := Lib.hid (show Below wr.heap.size wr wa4 by rw [hwn]; exact HBwa3.out.alloc (Below.size HBwa3.out) _)
                            rw [← hwn] at hHeld ⊢
                            clear hwn
                            have zwa4 := F4.out.lt
                            refine wpAnyH_take (i := 26) (v := .agg #[.int .i64 (pickedZ s.a 4), .int .i64 (1 + 3 * (i : Int) + (k : Int)), .slice (some ⟨wa3.heap.size, 0, none⟩) 2 2]) rfl (by kernel_rfl) (by kernel_rfl) (by kernel_rfl) (fun _ _ _ h => h) (Or.inl ⟨by rfl, fun w hSw => ?_⟩) hHeld ?_
                            · clear hSw; go_simp; all_goals (try first | rfl | omega)
                            try simp only [Act.put, List.getElem_toArray, List.getElem_cons_succ, List.getElem_cons_zero, List.setIfInBounds_toArray, List.set_cons_zero, List.set_cons_succ]
                            refine wpAnyH_ready (rs := [28]) (by kernel_rfl) (by simp) ?_
                            refine AllReadyH.cons rfl (fun K hK => ?_) ?_
                            · rw [if_pos (by rfl)]
                              have q0 := F1.out.cell 0 rfl
                              have q1 := F1.out.cell 1 rfl
                              have q2 := F1.out.cell 2 rfl
                              have qf0 := F1.out.free 0
                              have qf1 := F1.out.free 1
                              have qf2 := F1.out.free 2
                              go_simp
                              show K _ _
                              refine hK.out _ _ (by exact ⟨(((F3.out.setOther (p := ⟨wd.heap.size, 0, none⟩) (by simp; omega) (.int .i64 (pickedZ s.a 4))).setOther (p := ⟨wd.heap.size, 1, none⟩) (by simp; omega) (.int .i64 (1 + 3 * (i : Int) + (k : Int)))).setOther (p := ⟨wd.heap.size, 2, none⟩) (by simp; omega) (.slice (some ⟨wa3.heap.size, 0, none⟩) 2 2)), (((F2.out.setOther (p := ⟨wd.heap.size, 0, none⟩) (by simp; omega) (.int .i64 (pickedZ s.a 4))).setOther (p := ⟨wd.heap.size, 1, none⟩) (by simp; omega) (.int .i64 (1 + 3 * (i : Int) + (k : Int)))).setOther (p := ⟨wd.heap.size, 2, none⟩) (by simp; omega) (.slice (some ⟨wa3.heap.size, 0, none⟩) 2 2)), (((HBwa4.out.setCell (p := ⟨wd.heap.size, 0, none⟩) (by simp; omega) (.int .i64 (pickedZ s.a 4))).setCell (p := ⟨wd.heap.size, 1, none⟩) (by simp; omega) (.int .i64 (1 + 3 * (i : Int) + (k : Int)))).setCell (p := ⟨wd.heap.size, 2, none⟩) (by simp; omega) (.slice (some ⟨wa3.heap.size, 0, none⟩) 2 2))⟩) (fun hHeld => ?_)
                              clear hK K
                              try simp only [Act.put, List.getElem_toArray, List.getElem_cons_succ, List.getElem_cons_zero, List.setIfInBounds_toArray, List.set_cons_zero, List.set_cons_succ]
                              refine wpAnyH_done (by kernel_rfl) ?_ _
                              go_wp2
                              go_meet
                              refine ⟨wd.heap.size, some ⟨wa3.heap.size, 0, none⟩, 2, rfl, by omega, (((F1.out.set 0 (.int .i64 (pickedZ s.a 4))).set 1 (.int .i64 (1 + 3 * (i : Int) + (k : Int)))).set 2 (.slice (some ⟨wa3.heap.size, 0, none⟩) 2 2)), ?_, (((HBwa4.out.setCell (p := ⟨wd.heap.size, 0, none⟩) (by simp; omega) (.int .i64 (pickedZ s.a 4))).setCell (p := ⟨wd.heap.size, 1, none⟩) (by simp; omega) (.int .i64 (1 + 3 * (i : Int) + (k : Int)))).setCell (p := ⟨wd.heap.size, 2, none⟩) (by simp; omega) (.slice (some ⟨wa3.heap.size, 0, none⟩) 2 2))⟩
                              rw [HTX.out]
                              exact RdS.of_box (l := [[b0], [b1, b2]]) (cap := 2) ((((F4.out.setOther (p := ⟨wd.heap.size, 0, none⟩) (by simp; omega) (.int .i64 (pickedZ s.a 4))).setOther (p := ⟨wd.heap.size, 1, none⟩) (by simp; omega) (.int .i64 (1 + 3 * (i : Int) + (k : Int)))).setOther (p := ⟨wd.heap.size, 2, none⟩) (by simp; omega) (.slice (some ⟨wa3.heap.size, 0, none⟩) 2 2))) ⟨by omega, by omega⟩ (by simp) (by unfold maxLen; simp)
                            exact AllReadyH.nil
                          exact AllReadyH.nil
                        exact AllReadyH.nil
                    refine AllReadyH.cons rfl (fun K hK => ?_) ?_
                    · as_aux_lemma =>
                        rw [if_pos (by rfl)]
                        go_simp
                        show K _ _
                        refine hK.out _ _ (by exact (HBwa1.out.alloc (Below.size HBwa1.out) _)) (fun hHeld => ?_)
                        clear hK K
                        try simp only [Act.put, List.getElem_toArray, List.getElem_cons_succ, List.getElem_cons_zero, List.setIfInBounds_toArray, List.set_cons_zero, List.set_cons_succ]
                        obtain ⟨wa2, hwn⟩ : ∃ wa2, wa2 = wa1.alloc (.cells #[.int .u8 (b1.toNat : Int), .int .u8 (b2.toNat : Int)] 5) := ⟨_, rfl⟩
                        have F2 := Lib.hid (show BoxAt wa2 (wa1.heap.size) [.int .u8 (b1.toNat : Int), .int .u8 (b2.toNat : Int)] 5 by rw [hwn]; exact BoxAt.newAt wa1 [.int .u8 (b1.toNat : Int), .int .u8 (b2.toNat : Int)] 5 rfl)
                        replace F1 := Lib.hid (show BoxAt wa2 (wd.heap.size) [.int .i64 0, .int .i64 0, .slice none 0 0] 58 by rw [hwn]; exact F1.out.alloc _)
                        have HBwa2 := Lib.hid (show Below wr.heap.size wr wa2 by rw [hwn]; exact HBwa1.out.alloc (Below.size HBwa1.out) _)
                        rw [← hwn] at hHeld ⊢
                        clear hwn
                        have zwa2 := F2.out.lt
                        refine wpAnyH_strong (S' := fun w' => BoxAt w' (wa1.heap.size) [.int .u8 (b1.toNat : Int), .int .u8 (b2.toNat : Int)] 5 ∧ (Below wr.heap.size wr w')) (fun _ h => h.2) _ _ _ _ ?_
                        replace hHeld := And.intro F2.out hHeld
                        refine wpAnyH_take (i := 24) (v := strV [b1, b2]) rfl (by kernel_rfl) (by kernel_rfl) (by kernel_rfl) (fun _ _ _ h => h) (Or.inl ⟨by rfl, fun w hSw => ?_⟩) hHeld ?_
                        · have hcv : (convert 39 9 (.slice (some ⟨wa1.heap.size, 0, none⟩) 2 2)).run Tryd.prog w = .ok (strV [b1, b2]) w := conv_bytes_str (P := Tryd.prog) Tryd.underlying39 Tryd.underlying5 Tryd.underlying9 (RdS.of_box (G := fun _ => True) (l := [b1, b2]) (cap := 2) hSw.1 trivial (by simp) (by unfold maxLen; simp)); clear hSw; go_simp
                        try simp only [Act.put, List.getElem_toArray, List.getElem_cons_succ, List.getElem_cons_zero, List.setIfInBounds_toArray, List.set_cons_zero, List.set_cons_succ]
                        refine wpAnyH_ready (rs := [10]) (by kernel_rfl) (by simp) ?_
                        refine AllReadyH.cons rfl (fun K hK => ?_) ?_
                        · rw [if_pos (by rfl)]
                          go_simp
                          show K _ _
                          refine hK.out _ _ (by exact ⟨(F2.out.alloc _), (HBwa2.out.alloc (Below.size HBwa2.out) _)⟩) (fun hHeld => ?_)
                          clear hK K
                          try simp only [Act.put, List.getElem_toArray, List.getElem_cons_succ, List.getElem_cons_zero, List.setIfInBounds_toArray, List.set_cons_zero, List.set_cons_succ]
                          obtain ⟨wa3, hwn⟩ : ∃ wa3, wa3 = wa2.alloc (.cells #[.int .u8 (b0.toNat : Int)] 5) := ⟨_, rfl⟩
                          have F3 := Lib.hid (show BoxAt wa3 (wa2.heap.size) [.int .u8 (b0.toNat : Int)] 5 by rw [hwn]; exact BoxAt.newAt wa2 [.int .u8 (b0.toNat : Int)] 5 rfl)
                          replace F1 := Lib.hid (show BoxAt wa3 (wd.heap.size) [.int .i64 0, .int .i64 0, .slice none 0 0] 58 by rw [hwn]; exact F1.out.alloc _)
                          replace F2 := Lib.hid (show BoxAt wa3 (wa1.heap.size) [.int .u8 (b1.toNat : Int), .int .u8 (b2.toNat : Int)] 5 by rw [hwn]; exact F2.out.alloc _)
                          have HBwa3 := Lib.hid (show Below wr.heap.size wr wa3 by rw [hwn]; exact HBwa2.out.alloc (Below.size HBwa2.out) _)
                          rw [← hwn] at hHeld ⊢
                          clear hwn
                          have zwa3 := F3.out.lt
                          refine wpAnyH_strong (S' := fun w' => BoxAt w' (wa2.heap.size) [.int .u8 (b0.toNat : Int)] 5 ∧ (BoxAt w' (wa1.heap.size) [.int .u8 (b1.toNat : Int), .int .u8 (b2.toNat : Int)] 5 ∧ (Below wr.heap.size wr w'))) (fun _ h => h.2) _ _ _ _ ?_
                          replace hHeld := And.intro F3.out hHeld
                          refine wpAnyH_take (i := 11) (v := strV [b0]) rfl (by kernel_rfl) (by kernel_rfl) (by kernel_rfl) (fun _ _ _ h => h) (Or.inl ⟨by rfl, fun w hSw => ?_⟩) hHeld ?_
                          · have hcv : (convert 39 9 (.slice (some ⟨wa2.heap.size, 0, none⟩) 1 1)).run Tryd.prog w = .ok (strV [b0]) w := conv_bytes_str (P := Tryd.prog) Tryd.underlying39 Tryd.underlying5 Tryd.underlying9 (RdS.of_box (G := fun _ => True) (l := [b0]) (cap := 1) hSw.1 trivial (by simp) (by unfold maxLen; simp)); clear hSw; go_simp
                          try simp only [Act.put, List.getElem_toArray, List.getElem_cons_succ, List.getElem_cons_zero, List.setIfInBounds_toArray, List.set_cons_zero, List.set_cons_succ]
                          refine wpAnyH_ready (rs := [25]) (by kernel_rfl) (by simp) ?_
                          refine AllReadyH.cons rfl (fun K hK => ?_) ?_
                          · rw [if_pos (by rfl)]
                            go_simp
                            show K _ _
                            refine hK.out _ _ (by exact ⟨(F3.out.alloc _), (F2.out.alloc _), (HBwa3.out.alloc (Below.size HBwa3.out) _)⟩) (fun hHeld => ?_)
                            clear hK K
                            try simp only [Act.put, List.getElem_toArray, List.getElem_cons_succ, List.getElem_cons_zero, List.setIfInBounds_toArray, List.set_cons_zero, List.set_cons_succ]
                            obtain ⟨wa4, hwn⟩ : ∃ wa4, wa4 = wa3.alloc (.cells #[strV [b0], strV [b1, b2]] 9) := ⟨_, rfl⟩
                            have F4 := Lib.hid (show BoxAt wa4 (wa3.heap.size) [strV [b0], strV [b1, b2]] 9 by rw [hwn]; exact BoxAt.newAt wa3 [strV [b0], strV [b1, b2]] 9 rfl)
                            replace F1 := Lib.hid (show BoxAt wa4 (wd.heap.size) [.int .i64 0, .int .i64 0, .slice none 0 0] 58 by rw [hwn]; exact F1.out.alloc _)
                            replace F2 := Lib.hid (show BoxAt wa4 (wa1.heap.size) [.int .u8 (b1.toNat : Int), .int .u8 (b2.toNat : Int)] 5 by rw [hwn]; exact F2.out.alloc _)
                            replace F3 := Lib.hid (show BoxAt wa4 (wa2.heap.size) [.int .u8 (b0.toNat : Int)] 5 by rw [hwn]; exact F3.out.alloc _)
                            have HBwa4 := Lib.hid (show Below wr.heap.size wr wa4 by rw [hwn]; exact HBwa3.out.alloc (Below.size HBwa3.out) _)
                            rw [← hwn] at hHeld ⊢
                            clear hwn
                            have zwa4 := F4.out.lt
                            refine wpAnyH_take (i := 26) (v := .agg #[.int .i64 (pickedZ s.a 4), .int .i64 (1 + 3 * (i : Int) + (k : Int)), .slice (some ⟨wa3.heap.size, 0, none⟩) 2 2]) rfl (by kernel_rfl) (by kernel_rfl) (by kernel_rfl) (fun _ _ _ h => h) (Or.inl ⟨by rfl, fun w hSw => ?_⟩) hHeld ?_
                            · clear hSw; go_simp; all_goals (try first | rfl | omega)
                            try simp only [Act.put, List.getElem_toArray, List.getElem_cons_succ, List.getElem_cons_zero, List.setIfInBounds_toArray, List.set_cons_zero, List.set_cons_succ]
                            refine wpAnyH_ready (rs := [28]) (by kernel_rfl) (by simp) ?_
                            refine AllReadyH.cons rfl (fun K hK => ?_) ?_
                            · rw [if_pos (by rfl)]
                              have q0 := F1.out.cell 0 rfl
                              have q1 := F1.out.cell 1 rfl
                              have q2 := F1.out.cell 2 rfl
                              have qf0 := F1.out.free 0
                              have qf1 := F1.out.free 1
                              have qf2 := F1.out.free 2
                              go_simp
                              show K _ _
                              refine hK.out _ _ (by exact ⟨(((F3.out.setOther (p := ⟨wd.heap.size, 0, none⟩) (by simp; omega) (.int .i64 (pickedZ s.a 4))).setOther (p := ⟨wd.heap.size, 1, none⟩) (by simp; omega) (.int .i64 (1 + 3 * (i : Int) + (k : Int)))).setOther (p := ⟨wd.heap.size, 2, none⟩) (by simp; omega) (.slice (some ⟨wa3.heap.size, 0, none⟩) 2 2)), (((F2.out.setOther (p := ⟨wd.heap.size, 0, none⟩) (by simp; omega) (.int .i64 (pickedZ s.a 4))).setOther (p := ⟨wd.heap.size, 1, none⟩) (by simp; omega) (.int .i64 (1 + 3 * (i : Int) + (k : Int)))).setOther (p := ⟨wd.heap.size, 2, none⟩) (by simp; omega) (.slice (some ⟨wa3.heap.size, 0, none⟩) 2 2)), (((HBwa4.out.setCell (p := ⟨wd.heap.size, 0, none⟩) (by simp; omega) (.int .i64 (pickedZ s.a 4))).setCell (p := ⟨wd.heap.size, 1, none⟩) (by simp; omega) (.int .i64 (1 + 3 * (i : Int) + (k : Int)))).setCell (p := ⟨wd.heap.size, 2, none⟩) (by simp; omega) (.slice (some ⟨wa3.heap.size, 0, none⟩) 2 2))⟩) (fun hHeld => ?_)
                              clear hK K
                              try simp only [Act.put, List.getElem_toArray, List.getElem_cons_succ, List.getElem_cons_zero, List.setIfInBounds_toArray, List.set_cons_zero, List.set_cons_succ]
                              refine wpAnyH_done (by kernel_rfl) ?_ _
                              go_wp2
                              go_meet
                              refine ⟨wd.heap.size, some ⟨wa3.heap.size, 0, none⟩, 2, rfl, by omega, (((F1.out.set 0 (.int .i64 (pickedZ s.a 4))).set 1 (.int .i64 (1 + 3 * (i : Int) + (k : Int)))).set 2 (.slice (some ⟨wa3.heap.size, 0, none⟩) 2 2)), ?_, (((HBwa4.out.setCell (p := ⟨wd.heap.size, 0, none⟩) (by simp; omega) (.int .i64 (pickedZ s.a 4))).setCell (p := ⟨wd.heap.size, 1, none⟩) (by simp; omega) (.int .i64 (1 + 3 * (i : Int) + (k : Int)))).setCell (p := ⟨wd.heap.size, 2, none⟩) (by simp; omega) (.slice (some ⟨wa3.heap.size, 0, none⟩) 2 2))⟩
                              rw [HTX.out]
                              exact RdS.of_box (l := [[b0], [b1, b2]]) (cap := 2) ((((F4.out.setOther (p := ⟨wd.heap.size, 0, none⟩) (by simp; omega) (.int .i64 (pickedZ s.a 4))).setOther (p := ⟨wd.heap.size, 1, none⟩) (by simp; omega) (.int .i64 (1 + 3 * (i : Int) + (k : Int)))).setOther (p := ⟨wd.heap.size, 2, none⟩) (by simp; omega) (.slice (some ⟨wa3.heap.size, 0, none⟩) 2 2))) ⟨by omega, by omega⟩ (by simp) (by unfold maxLen; simp)
                            exact AllReadyH.nil
                          exact AllReadyH.nil
                        exact AllReadyH.nil
                    exact AllReadyH.nil
                exact AllReadyH.nil
            exact AllReadyH.nil
          case rest =>
          obtain ⟨P, at1, ct, rfl, hP, hBP, hTX, hBc⟩ := hcut
          have HI2 := Lib.hid (HI.out.below hBc)
          have HSr2 := Lib.hid (HSr.out.below hBc)
          have BP := Lib.hid hBP
          have HTXT := Lib.hid hTX
          have hzc := hBc.size
          have hzP := hBP.lt
          clear hBc hBP hTX HI HSr HB9
          clear wm3 wm4 wm5 wm6 wm7 wm8 b0e b1e b2e
          have p0 := BP.out.cell 0 rfl
          have p1 := BP.out.cell 1 rfl
          have p2 := BP.out.cell 2 rfl
          have wk : IntKind.i64.wrap ((k : Int) + 1) = (k : Int) + 1 := IntWalk.i64_in _ (by omega)
          go_wp2_with fail
          refine (batchDigest_ok (stpB i s k) _ _ HTXT.out HBK.out (HT.out.belowS HI2.out.bel)).mono ?_
          rintro e wg ⟨vg, rfl, hg, hbg⟩
          obtain ⟨adg, capg, rfl, -, -⟩ := hg.form
          have HI3 := Lib.hid (HI2.out.below hbg)
          have HSr3 := Lib.hid (HSr2.out.below hbg)
          have BP3 := Lib.hid (BP.out.belowS hbg)
          have HTX3 := Lib.hid ((HTXT.out.low (by decide)).below hbg (fun _ h => h))
          have HG3 := Lib.hid (show RdB (fun b => wc.heap.size ≤ b ∧ b < wg.heap.size) wg (.slice adg (batSum (stpB i s k)).length capg) (batSum (stpB i s k)) from hg.low (by decide))
          have hzg := hbg.size
          clear p0 p1 p2 hg hbg HI2 HSr2 BP HTXT
          have p0 := BP3.out.cell 0 rfl
          have p1 := BP3.out.cell 1 rfl
          have p2 := BP3.out.cell 2 rfl
          obtain ⟨vals, hV⟩ := HI3.out.l5.valsOf
          have HV5 := Lib.hid hV
          clear hV
          have hzP3 := BP3.out.lt
          go_upto_region 24 with (at_builtin; refine wpList_append_one rfl _ _ 31 rfl elemBatD (w.heap.size + 2) _ BL.length vals rfl (by exact (HV5.out.alloc (.cells #[.int .i64 (pickedZ s.a 4), .int .i64 (1 + 3 * (i : Int) + (k : Int)), .slice at1 2 ct] 58)).own) wg.heap.size 58 [.int .i64 (pickedZ s.a 4), .int .i64 (1 + 3 * (i : Int) + (k : Int)), .slice at1 2 ct] rfl (BoxAt.new wg [_, _, _] _) rfl (by simp [Value.oneCell']) (by unfold maxLen; omega) (by omega) (by simp; omega) ?_; intro g5 cap6 w6 hown6 hgr6 hat6 hlt6)
          have HBX := Lib.hid ((Below.refl wg.heap.size wg).alloc (Nat.le_refl _) (.cells #[.int .i64 (pickedZ s.a 4), .int .i64 (1 + 3 * (i : Int) + (k : Int)), .slice at1 2 ct] 58))
          have hx : RBat.rd (fun b => Calm w.heap.size (w.heap.size + 1) w1.heap.size (.slice a5 BL.length p5) (.slice aq k pq) b ∧ b < (wg.alloc (.cells #[.int .i64 (pickedZ s.a 4), .int .i64 (1 + 3 * (i : Int) + (k : Int)), .slice at1 2 ct] 58)).heap.size ∧ (Value.slice a5 BL.length p5).ownBlock ≠ some b) (wg.alloc (.cells #[.int .i64 (pickedZ s.a 4), .int .i64 (1 + 3 * (i : Int) + (k : Int)), .slice at1 2 ct] 58)) [.int .i64 (pickedZ s.a 4), .int .i64 (1 + 3 * (i : Int) + (k : Int)), .slice at1 2 ct] (stpB i s k) := ⟨_, rfl, HTX3.out.keep (Keep.alloc _ _ _) (fun b hb => by have h1 : wr.heap.size ≤ b := hb.1.1; have h2 : b < wc.heap.size := hb.2; exact ⟨⟨by omega, by omega, by omega, fun e => by have := (hv5 b e).2; omega, fun e => by have := (hvq b e).2; omega⟩, by simp; omega, fun e => by have := (hv5 b e).2; omega⟩), fun t ht => by rw [HTX.out] at ht; simp only [List.mem_cons, List.not_mem_nil, or_false] at ht; rcases ht with rfl | rfl <;> simp⟩
          have HI6 := Lib.hid ((HI3.out.below HBX.out).push5 (HV5.out.alloc _) hx hown6 hgr6 hat6)
          have hat6' : ∀ b, (Value.slice (some ⟨g5, 0, none⟩) (BL.length + 1) cap6).ownBlock = some b → b < wr.heap.size ∨ wg.heap.size ≤ b := fun b e => by
                have e' : g5 = b := by simpa [Value.ownBlock] using e
                subst e'
                rcases hat6 with q | q
                · exact .inl (hv5 _ q).2
                · right; rw [q]; simp
          have HG6 := Lib.hid ((HG3.out.keep (Keep.alloc _ _ (.cells #[.int .i64 (pickedZ s.a 4), .int .i64 (1 + 3 * (i : Int) + (k : Int)), .slice at1 2 ct] 58)) (fun _ h => h)).keep (Keep.grown hgr6 (fun k hk hb => by have h0 := (hv5 k hk).2; have h1 : wc.heap.size ≤ k := hb.1; omega)) (fun _ h => h))
          have hz6 := hgr6.size
          have hz6' : wg.heap.size ≤ w6.heap.size := by simp at hz6; omega
          have hv5g := HI6.out.l5.lt
          have hvq6 := HI6.out.lq.lt
          obtain ⟨valsq, hVq⟩ := HI6.out.lq.valsOf
          have HVq := Lib.hid hVq
          clear hVq hown6 hgr6 hat6 hx HBX p0 p1 p2
          have c92 := HI6.out.b9.cell 2 rfl
          have z96 := HI6.out.z
          go_wp2_with (at_builtin; refine wpList_append_one rfl _ _ 34 rfl elemBY (w1.heap.size + 1) _ k valsq rfl (by have q := (HVq.out.alloc (.cells #[.slice adg (batSum (stpB i s k)).length capg] 39)).own; rw [HQL.out] at q; exact q) w6.heap.size 39 [.slice adg (batSum (stpB i s k)).length capg] rfl (BoxAt.new w6 [_] _) rfl (by simp [Value.oneCell']) (by unfold maxLen; omega) (by omega) (by simp; omega) ?_; intro g7 cap7 w7 hown7 hgr7 hat7 hlt7; have hb97 := (HI6.out.b9.alloc (.cells #[.slice adg (batSum (stpB i s k)).length capg] 39)).grown hgr7 (fun e => by have := (hvq6 _ e).1; omega); have s92 := hb97.cell 2 rfl; have sf92 := hb97.free 2; have sl92 := hb97.lt)
          have hxq : RBytes.rd (fun b => Calm w.heap.size (w.heap.size + 1) w1.heap.size (.slice (some ⟨g5, 0, none⟩) (BL.length + 1) cap6) (.slice aq k pq) b ∧ b < (w6.alloc (.cells #[.slice adg (batSum (stpB i s k)).length capg] 39)).heap.size ∧ (Value.slice aq k pq).ownBlock ≠ some b) (w6.alloc (.cells #[.slice adg (batSum (stpB i s k)).length capg] 39)) [.slice adg (batSum (stpB i s k)).length capg] (batSum (stpB i s k)) :=
            ⟨_, rfl, HG6.out.keep (Keep.alloc _ _ _) (fun b hb => by have h1 : wc.heap.size ≤ b := hb.1; have h2 : b < wg.heap.size := hb.2; exact ⟨⟨by omega, by omega, by omega, fun e => by have h3 := hat6' b e; omega, fun e => by have := (hvq b e).2; omega⟩, by simp; omega, fun e => by have := (hvq b e).2; omega⟩)⟩
          have hown7' : w7.ownsRow (w1.heap.size + 1) 39 1 (.slice (some ⟨g7, 0, none⟩) (QL.length + 1) cap7) (QL.length + 1) (valsq ++ [.slice adg (batSum (stpB i s k)).length capg]) := by rw [HQL.out]; exact hown7
          have hI7 := (HI6.out.below ((Below.refl w6.heap.size w6).alloc (Nat.le_refl _) (.cells #[.slice adg (batSum (stpB i s k)).length capg] 39))).pushq (HVq.out.alloc _) hxq hown7' hgr7 hat7
          rw [HQL.out] at hI7
          have HI7 := Lib.hid hI7
          clear hI7 hxq hown7 hown7' hgr7 hat7 s92 sf92 sl92 hb97 c92
          go_wp2
          go_roundw
          case rel =>
            refine ⟨k + 1, some ⟨g5, 0, none⟩, cap6, some ⟨g7, 0, none⟩, cap7, by omega, by go_num, by rw [HSUC5.out, List.length_append]; rfl, HSTW.out _ HI7.out.bel, ?_⟩
            rw [HSUC5.out, HSUCQ.out, List.length_append]
            exact HI7.out
          case measure => simp [intOf]; omega
        · obtain rfl : k = stpN s := by omega
          have k0' : ¬ ((stpN s : Nat) : Int) < pickedZ s.b 3 := by rw [HN.out]; omega
          have HCC := Lib.hid (show stpC D i s = ⟨⟨pickedZ s.a 4, R', (stpBs i s (stpN s)).map batSum, PS⟩, [0, 1, 2]⟩ by unfold stpC; rw [HPS.out])
          have HQL := Lib.hid (show ((stpBs i s (stpN s)).map batSum).length = stpN s by rw [List.length_map, stpBs_len])
          generalize (stpBs i s (stpN s)).map batSum = QL at *
          obtain ⟨BL, hBL0⟩ : ∃ BL, BL = Bs ++ stpBs i s (stpN s) := ⟨_, rfl⟩
          rw [← hBL0] at HI ⊢
          have HBL := Lib.hid hBL0
          clear hBL0
          have x4 := HI.out.b4.cell 0 rfl
          have y0 := HI.out.b9.cell 0 rfl
          have y1 := HI.out.b9.cell 1 rfl
          have y2 := HI.out.b9.cell 2 rfl
          have y3 := HI.out.b9.cell 3 rfl
          have hBv : Below wr.heap.size wr (wr.alloc (.cells #[.int .i64 0, .int .i64 1, .int .i64 2] 3)) := (Below.refl _ _).alloc (Nat.le_refl _) _
          have HVo := Lib.hid (show RdI (fun _ => True) (wr.alloc (.cells #[.int .i64 0, .int .i64 1, .int .i64 2] 3)) (.slice (some ⟨wr.heap.size, 0, none⟩) 3 3) [0, 1, 2] from RdS.of_box (f := Value.int .i64) (l := [0, 1, 2]) (cap := 3) (BoxAt.new wr [.int .i64 0, .int .i64 1, .int .i64 2] 3) trivial (by simp) (by unfold maxLen; simp))
          have HQo := Lib.hid (show RdBB (fun _ => True) (wr.alloc (.cells #[.int .i64 0, .int .i64 1, .int .i64 2] 3)) (.slice aq (stpN s) pq) QL from ((HI.out.lq.rd (by decide) (fun _ _ _ => trivial) (fun _ _ _ => trivial)).below hBv (fun _ h => h)))
          have HPo := Lib.hid (show RdBB (fun _ => True) (wr.alloc (.cells #[.int .i64 0, .int .i64 1, .int .i64 2] 3)) (.slice adp PS.length capp) PS from (HI.out.ps.mono (fun _ _ => trivial)).below hBv (fun _ h => h))
          have HDo := Lib.hid (show RdS RCert (fun _ => True) (wr.alloc (.cells #[.int .i64 0, .int .i64 1, .int .i64 2] 3)) (.slice add D.length capd) D from (HI.out.d.mono (fun _ _ => trivial)).below hBv (fun _ h => h))
          have HTo := Lib.hid (show Tabs (wr.alloc (.cells #[.int .i64 0, .int .i64 1, .int .i64 2] 3)) from HT.out.belowS (HI.out.bel.trans (hBv.mono HI.out.bel.size)))
          have HOo := Lib.hid (HI.out.out.below hBv)
          have hv5 := HI.out.l5.lt
          go_wp2_with (go_at_call 29; refine (picked_any _ _ _ sb1 sb2 (by omega) (by omega)).mono ?_; rintro e w' ⟨rfl, rfl⟩)
          refine (dagInsert_any ⟨⟨pickedZ s.a 4, R', QL, PS⟩, [0, 1, 2]⟩ _ _ _ _ _ HDo.out HQo.out HPo.out HVo.out HTo.out).mono ?_
          rintro e wI ⟨vI, rfl, hDI, hbI⟩
          obtain ⟨adI, capI, rfl, -, -⟩ := hDI.form
          rw [← HCC.out] at hDI ⊢
          have HOI := Lib.hid (HOo.out.below hbI)
          have HDI := Lib.hid (hDI.mono (G' := fun b => wr.heap.size ≤ b) (fun b hb => by have h0 : (wr.alloc (.cells #[.int .i64 0, .int .i64 1, .int .i64 2] 3)).heap.size ≤ b := hb; simp at h0; omega))
          have HSTEP := Lib.hid (show dagStep D i s = if insCode D (stpC D i s) = 0 then D ++ [stpC D i s] else D from rfl)
          have HIL := Lib.hid (show insL D (stpC D i s) = if insCode D (stpC D i s) = 0 then D ++ [stpC D i s] else [] from rfl)
          obtain ⟨q, hq0⟩ : ∃ q, q = insCode D (stpC D i s) := ⟨_, rfl⟩
          rw [← hq0] at HSTEP HIL ⊢
          clear hq0
          obtain ⟨IL, hIL⟩ : ∃ IL, IL = insL D (stpC D i s) := ⟨_, rfl⟩
          rw [← hIL] at HDI HIL ⊢
          clear hIL
          clear hDI hbI x4 y0 y1 y2 y3 hBv HVo HQo HPo HDo HTo HOo HI
          have x4 := HOI.out.b4.cell 0 rfl
          have xf4 := HOI.out.b4.free 0
          have xz4 := HOI.out.b4.lt
          have wi1 : IntKind.i64.wrap ((i : Int) + 1) = (i : Int) + 1 := IntWalk.i64_in _ (by omega)
          have HBN := Lib.hid (show batTo l (i + 1) = BL by rw [HBS.out, HBL.out])
          by_cases hq : q = 0
          · have hqt : (q == 0) = true := by simp [hq]
            have HDN := Lib.hid (show dagTo l (i + 1) = IL by rw [HDS.out, HSTEP.out, if_pos hq, HIL.out, if_pos hq])
            clear hq
            go_wp2
            go_roundw
            case rel =>
              refine ⟨i + 1, adI, capI, a5, p5, by omega, by go_num, by rw [HBN.out], ?_⟩
              rw [HDN.out, HBN.out]
              exact (HOI.out.put HDI.out (by omega) (fun k hk => (hv5 k hk).2)).below ((Below.refl _ _).alloc (Nat.le_refl _) _)
            case measure => simp [intOf]; omega
          · have hqt : (q == 0) = false := by simp [hq]
            have HDN := Lib.hid (show dagTo l (i + 1) = D by rw [HDS.out, HSTEP.out, if_neg hq])
            clear hq
            go_wp2
            go_roundw
            case rel =>
              refine ⟨i + 1, add, capd, a5, p5, by omega, by go_num, by rw [HBN.out], ?_⟩
              rw [HDN.out, HBN.out]
              exact HOI.out.below ((Below.refl _ _).alloc (Nat.le_refl _) _)
            case measure => simp [intOf]; omega
    · obtain rfl : i = stpMany l := by omega
      have HO := Lib.hid hO
      have x4 := HO.out.b4.cell 0 rfl
      have y2 := HO.out.b2.cell 0 rfl
      have yf := HO.out.b2.free 0
      have yz := HO.out.b2.lt
      have hz := HO.out.z
      have h5 := HO.out.l5.lt
      have HZ := Lib.hid (HO.out.b2.set 0 (.slice add (dagTo l (stpMany l)).length capd))
      have g0 := HZ.out.cell 0 rfl
      have HDF := Lib.hid (show RdS RCert (fun b => w.heap.size ≤ b) (wr.setCell ⟨w.heap.size, 0, none⟩ (.slice add (dagTo l (stpMany l)).length capd)) (.slice add (dagTo l (stpMany l)).length capd) (dagL l) from HO.out.d.keep (Keep.setCell (fun h => Nat.lt_irrefl _ h.1) _) (fun b hb => by have := hb.1; omega))
      have HBF := Lib.hid (show RdS RBat (fun b => w.heap.size ≤ b) (wr.setCell ⟨w.heap.size, 0, none⟩ (.slice add (dagTo l (stpMany l)).length capd)) (.slice ad5 (batTo l (stpMany l)).length cap5) (dagBs l) from (HO.out.l5.rd (G' := fun b => w.heap.size < b) (by decide) (fun b h1 h2 => by omega) (fun b h1 h2 => h1.1)).keep (Keep.setCell (by simp) _) (fun b hb => by omega))
      have HBE := Lib.hid (HO.out.bel.setCell (p := ⟨w.heap.size, 0, none⟩) (by simp) (.slice add (dagTo l (stpMany l)).length capd))
      have hm : stpMany l = min l.length 24 := rfl
      generalize dagTo l (stpMany l) = D at *
      generalize batTo l (stpMany l) = Bs at *
      rcases Nat.lt_or_ge 24 l.length with h24 | h24
      · have i1 : ((stpMany l : Nat) : Int) < (l.length : Int) := by omega
        have i2 : ¬ ((stpMany l : Nat) : Int) < 24 := by omega
        clear hO hm h24
        go_wp2
        refine bodyPost_ret (v := .tuple #[.agg #[.slice add D.length capd], .slice ad5 Bs.length cap5]) (by simp [results, Tryd.results35, go_sem, g0]) rfl ⟨_, _, rfl, HDF.out, HBF.out, HBE.out⟩
      · have i1 : ¬ ((stpMany l : Nat) : Int) < (l.length : Int) := by omega
        clear hO hm h24
        go_wp2
        refine bodyPost_ret (v := .tuple #[.agg #[.slice add D.length capd], .slice ad5 Bs.length cap5]) (by simp [results, Tryd.results35, go_sem, g0]) rfl ⟨_, _, rfl, HDF.out, HBF.out, HBE.out⟩
end Go.Proofs.YtpfmmncnhlfdgaaDoor
