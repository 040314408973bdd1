/- HistoryClosed: the walk. -/
import Derived.Test.YtpfmmncnhlfdgaaDoorHistAll
/- historyClosed: the walk. -/
set_option linter.unusedVariables false
set_option linter.unusedSimpArgs false
attribute [local go_sem ↓] Go.wp_at_zero Go.wp_at_succ
namespace Go.Proofs.YtpfmmncnhlfdgaaDoor
open Go Go.RowKit

theorem dig_place {L : List Crt} {d : Bytes} (h : 0 ≤ idxP (isB d) (crtSums L)) : digP L (placeP L d) = d := by
  obtain ⟨n, hn, hin, hpn, -⟩ := idxP_at h
  have : placeP L d = n := by unfold placeP; omega
  rw [this]
  have hnl : n < L.length := by rw [crtSums_len] at hn; exact hn
  rw [digP_at hnl]
  have e : (crtSums L)[n] = crtSum L[n] := by simp [crtSums]
  rw [← e]
  unfold isB at hpn
  exact of_decide_eq_true hpn
theorem histD_at {L : List Crt} {M : List Nat} {j : Nat} (h : j < (histD L M).length) : (histD L M)[j] = digP L (M[j]'(by rw [histD_len] at h; exact h)) := by simp [histD]
/-- What Find hands back of a digest of a history. -/
theorem hist_find {L : List Crt} {j : Nat} (hj : j < L.length) : findCode L (digP L j) = 0 ∧ (∃ k : Nat, ∃ h : k < L.length, findCrt L (digP L j) = L[k]) ∧ ((crtSums L).Nodup → findCrt L (digP L j) = L[j]) := by
  have h0 : 0 ≤ idxP (isB (digP L j)) (crtSums L) := idxP_ge.2 ⟨digP L j, by rw [digP_at hj]; exact List.mem_map.2 ⟨_, List.getElem_mem hj, rfl⟩, by unfold isB; exact decide_eq_true rfl⟩
  obtain ⟨k, hk, hik, -, -⟩ := idxP_at h0
  have hkl : k < L.length := by rw [crtSums_len] at hk; exact hk
  have e := find_yes hkl hik
  refine ⟨e.1, ⟨k, hkl, e.2⟩, fun hn => ?_⟩
  rw [digP_at hj]
  exact (find_yes hj (find_clear hn hj)).2
def keyTo (L : List Crt) (M : List Nat) (i : Nat) (last : Int) : Prop := ∀ (j : Nat) (hj : j < M.length), i ≤ j → last < keyC (L.getD M[j] crtZ)
theorem keyTo_zero {L : List Crt} (hok : dagOk L = true) {i : Nat} {M : List Nat} (hM : IsHist L i M) : keyTo L M 0 0 := fun j hj _ => by
  have hl := hM.lt _ (List.getElem_mem hj)
  rw [getD_at hl]
  have := hdr_aur (crt_partsP ((dagOk_iff.1 hok).2.1 _ (List.getElem_mem hl))).1
  unfold keyC; omega
theorem keyTo_next {L : List Crt} {i : Nat} {M : List Nat} (hM : IsHist L i M) {j : Nat} (hj : j < M.length) : keyTo L M (j + 1) (keyC (L.getD M[j] crtZ)) := fun k hk hjk => (hM.key hj hk).2 (by omega)
theorem par_found {L : List Crt} (hok : dagOk L = true) {i : Nat} {M : List Nat} (hM : IsHist L i M) {a : Nat} (ha : a < M.length) (hl : M[a] < L.length) {p : Bytes} (hp : p ∈ L[M[a]].h.ps) : 0 ≤ idxP (isB p) ((histD L M).take a) := by
  obtain ⟨b, hb, hba, -, hd⟩ := hM.par hok ha hl hp
  refine idxP_ge.2 ⟨p, ?_, by unfold isB; exact decide_eq_true rfl⟩
  rw [List.mem_take_iff_getElem]
  refine ⟨b, by rw [histD_len]; omega, ?_⟩
  rw [histD_at]; exact hd
set_option maxRecDepth 100000 in
set_option maxHeartbeats 8000000 in
theorem historyClosed_any (v : Value) (l : List Stp) (n : Int) (w : World) (hv : RdS RStp (fun _ => True) w v l) (hz : l.length * 24 ≤ reachBytes) (n1 : -9223372036854775808 ≤ n) (n2 : n ≤ 9223372036854775807) (ht : Tabs w) :
    Calls Tryd.prog 13 #[v, .int .i64 n] w fun e w' => ∃ b, e = .returned (.bool b) ∧ ((crtSums (grownL l)).Nodup → b = true) ∧ Below w.heap.size w w' := by
  have HT := Lib.hid ht
  go_enter Tryd.func13, Tryd.ntmps13
  go_wp2_with fail
  refine (grown_any _ _ hv hz ht).mono ?_
  rintro e w1 ⟨vd, vb, rfl, hd, -, hb1⟩
  obtain ⟨add, capd, rfl, -, -⟩ := hd.form
  have HD1 := Lib.hid hd
  have HB1 := Lib.hid hb1
  clear hd hb1 ht hv
  go_upto_region 2 with fail
  obtain ⟨w2, hw2⟩ : ∃ w2, w2 = w1.alloc (.cells #[.slice add (grownL l).length capd] 30) := ⟨_, rfl⟩
  have HX := Lib.hid (show BoxAt w2 w1.heap.size [.slice add (grownL l).length capd] 30 by rw [hw2]; exact BoxAt.new w1 [_] _)
  have hB2 : Below w1.heap.size w1 w2 := by rw [hw2]; exact (Below.refl _ _).alloc (Nat.le_refl _) _
  rw [← hw2]
  have HD := Lib.hid ((HD1.out.mono (G' := fun _ => True) (fun _ _ => trivial)).below hB2 (fun _ h => h))
  have HB := Lib.hid (HB1.out.trans (hB2.mono HB1.out.size))
  have HOK := Lib.hid (grown_ok l)
  have hz2 := HX.out.lt
  have hzw2 := HB.out.size
  clear hw2 hB2 HD1 HB1
  have hg4 := grown_len l
  have hgp := grown_pos l
  generalize hLL : grownL l = L at *
  have HLL := Lib.hid hLL
  clear hLL
  have HH := Lib.hid (fun c (hc : c ∈ L) => (crt_partsP ((dagOk_iff.1 HOK.out).2.1 c hc)).1)
  replace HD := Lib.hid ((HD.out.low (by decide)).mono (G' := fun b => b < w2.heap.size) (fun b hb => hb.2))
  have x0 := HX.out.cell 0 rfl
  go_wp2_with fail
  refine (digestsOf_any _ _ HD.out HH.out (by omega) (HT.out.belowS HB.out)).mono ?_
  rintro e w3 ⟨vs, rfl, hS, hb3⟩
  obtain ⟨ads, caps, rfl, hcs, hms⟩ := hS.form
  unfold maxLen at hms
  have hSL := crtSums_len L
  have HS := Lib.hid (hS.mono (G' := fun _ => True) (fun _ _ => trivial))
  replace HX := Lib.hid (HX.out.belowS hb3)
  replace HD := Lib.hid (HD.out.below hb3 (fun _ h => h))
  replace HB := Lib.hid (HB.out.trans (hb3.mono HB.out.size))
  replace HD := Lib.hid (HD.out.mono (G' := fun _ => True) (fun _ _ => trivial))
  clear x0 hS hb3
  obtain ⟨DS, hDS⟩ : ∃ DS, DS = crtSums L := ⟨_, rfl⟩
  rw [← hDS] at HS hSL ⊢
  have HDS := Lib.hid hDS
  have hSL1 : DS.length ≤ L.length := by omega
  have hSL2 : L.length ≤ DS.length := by omega
  clear hDS hSL hcs
  have hzw3 := HB.out.size
  have hl0 : (0 : Int) < (DS.length : Int) := by omega
  have hl1 : DS.length ≤ 9223372036854775807 := by omega
  have q0 : ((DS.length : Int) == 0) = false := by rw [beq_eq_false_iff_ne]; omega
  obtain ⟨p0A, p1A⟩ := pickedZ_range n (DS.length : Int) (by omega)
  have HPA := Lib.hid (show ((pickedZ n (DS.length : Int)).toNat : Int) = pickedZ n (DS.length : Int) by omega)
  obtain ⟨pa, hpa⟩ : ∃ pa, pa = (pickedZ n (DS.length : Int)).toNat := ⟨_, rfl⟩
  rw [← hpa] at HPA
  have pal : pa < DS.length := by omega
  have paL : pa < L.length := by omega
  clear hpa p0A p1A
  have pa0 : (0 : Int) ≤ (pa : Int) := by omega
  have pa1 : (pa : Int) < (DS.length : Int) := by omega
  have HFA := Lib.hid (show (0 : Int) ≤ idxP (isB DS[pa]) (crtSums L) by have := HDS.out; subst this; exact idx_self (by omega))
  obtain ⟨bA, oA, vA, rsA, -, esA, hsA⟩ := HS.out.cellS pa pal
  subst rsA
  obtain ⟨adA, capA, rfl, -, -⟩ := hsA.form
  have HDKA := Lib.hid hsA
  have HEA := Lib.hid esA
  have hbkA : bA < _ := World.block_lt_of_cell? _ _ esA
  clear hsA esA
  have eA := HEA.out
  go_wp2_with fail
  refine (picked_any n (DS.length : Int) _ n1 n2 (by omega) (by omega)).mono ?_
  rintro e w' ⟨rfl, rfl⟩
  rw [← HPA.out]
  have x0 := HX.out.cell 0 rfl
  go_wp2_with fail
  refine (oHistory_any _ _ _ HD.out HDKA.out (HT.out.belowS HB.out) HOK.out).mono ?_
  rintro e w4 ⟨vh, MA, rfl, hM1, hM2, hR, hb4⟩
  have hyy := findCode_yes (HFA.out)
  rw [hyy.1]
  have HMA := Lib.hid (hM1 HFA.out)
  have hpl := hyy.2.1
  obtain ⟨ah, ch, rfl, hch, hmh⟩ := hR.form
  rw [histD_len] at hch hR ⊢
  unfold maxLen at hmh
  have HRA := Lib.hid (hR.mono (G' := fun _ => True) (fun _ _ => trivial))
  replace HX := Lib.hid (HX.out.belowS hb4)
  replace HD := Lib.hid (HD.out.below hb4 (fun _ h => h))
  replace HS := Lib.hid (HS.out.below hb4 (fun _ h => h))
  replace HDKA := Lib.hid (HDKA.out.below hb4 (fun _ h => h))
  replace HB := Lib.hid (HB.out.trans (hb4.mono HB.out.size))
  clear hM1 hM2 hR hyy hb4 x0 eA
  have HF1 := Lib.hid (closed_one L)
  have HI1 := Lib.hid (show idxP (isB [1]) (crtSums L) < 0 by
    by_cases q : 0 ≤ idxP (isB [1]) (crtSums L)
    · have := (findCode_yes q).1; rw [HF1.out.1] at this; omega
    · omega)
  have hB9 : Below w4.heap.size w4 (w4.alloc (.cells #[.int .u8 1] 5)) := (Below.refl _ _).alloc (Nat.le_refl _) _
  have H1o := Lib.hid (show RdB (fun _ => True) (w4.alloc (.cells #[.int .u8 1] 5)) (.slice (some ⟨w4.heap.size, 0, none⟩) 1 1) [1] from RdS.of_box (l := [1]) (cap := 1) (BoxAt.new w4 [.int .u8 1] _) trivial (by simp) (by unfold maxLen; simp))
  have HDo := Lib.hid (HD.out.below hB9 (fun _ h => h))
  have HTo := Lib.hid (show Tabs (w4.alloc (.cells #[.int .u8 1] 5)) from HT.out.belowS (HB.out.trans (hB9.mono (Below.size HB.out))))
  have x0 := HX.out.cell 0 rfl
  go_wp2_with fail
  refine (oHistory_any _ _ _ HDo.out H1o.out HTo.out HOK.out).mono ?_
  rintro e w5 ⟨vh1, M1, rfl, -, hM2, hR1, hb5⟩
  have hM0 := hM2 HI1.out
  subst hM0
  rw [HF1.out.1]
  obtain ⟨ah1, ch1, rfl, -, -⟩ := hR1.form
  have hB5 := hB9.trans (hb5.mono hB9.size)
  replace HX := Lib.hid (HX.out.belowS hB5)
  replace HD := Lib.hid (HD.out.below hB5 (fun _ h => h))
  replace HS := Lib.hid (HS.out.below hB5 (fun _ h => h))
  replace HDKA := Lib.hid (HDKA.out.below hB5 (fun _ h => h))
  replace HRA := Lib.hid (HRA.out.below hB5 (fun _ h => h))
  replace HB := Lib.hid (HB.out.trans (hB5.mono HB.out.size))
  clear hM2 hR1 hb5 hB5 hB9 H1o HDo HTo x0
  have hpa := HMA.out.pos
  have hla := HMA.out.len
  have a1 : (0 : Int) < (MA.length : Int) := by omega
  have a2 : ((MA.length : Int) == 0) = false := by rw [beq_eq_false_iff_ne]; omega
  have hlst : MA.length - 1 < (histD L MA).length := by rw [histD_len]; omega
  have a3 : IntKind.i64.wrap ((MA.length : Int) - 1) = ((MA.length - 1 : Nat) : Int) := by rw [show (MA.length : Int) - 1 = ((MA.length - 1 : Nat) : Int) by omega]; exact IntWalk.i64_in _ (by omega)
  have a4 : (0 : Int) ≤ ((MA.length - 1 : Nat) : Int) := by omega
  have a5 : ((MA.length - 1 : Nat) : Int) < (MA.length : Int) := by omega
  obtain ⟨bh, oh, vl, rfl, -, eL, hL⟩ := HRA.out.cellS (MA.length - 1) hlst
  obtain ⟨adl, capl, rfl, -, -⟩ := hL.form
  have HLD := Lib.hid (show (histD L MA)[MA.length - 1]'hlst = DS[pa] by rw [histD_at, HMA.out.last HOK.out hpl]; exact dig_place HFA.out)
  rw [HLD.out] at hL eL
  have HLL2 := Lib.hid hL
  clear hL
  obtain ⟨q, hq⟩ : ∃ q, q = MA.length - 1 := ⟨_, rfl⟩
  rw [← hq] at eL a3 a4 a5
  clear hq hlst HLD
  go_wp2_with fail
  refine (same_any _ _ _ HLL2.out HDKA.out).mono ?_
  rintro e w' ⟨rfl, rfl⟩
  rw [decide_eq_true (rfl : DS[pa] = DS[pa])]
  clear eL a3 a4 a5 HLL2
  generalize hAA : histD L MA = QA at *
  have HAA := Lib.hid hAA
  have lAA : QA.length = MA.length := by rw [← hAA, histD_len]
  have lA1 : QA.length ≤ MA.length := by omega
  have lA2 : MA.length ≤ QA.length := by omega
  clear hAA lAA
  go_wp2_with fail
  go_loopw [13, 14] (fun la u wr => ∃ (i : Nat) (last : Int), i ≤ MA.length ∧ u = .int .i64 i ∧ la = .int .i64 last ∧ ((crtSums L).Nodup → keyTo L MA i last) ∧ Below w5.heap.size w5 wr) (fun _ u _ => MA.length - (intOf u).toNat)
  case atStart => exact ⟨0, 0, Nat.zero_le _, rfl, rfl, fun _ => keyTo_zero HOK.out HMA.out, Below.refl _ _⟩
  case round =>
    obtain ⟨i, last, hi, rfl, rfl, hkey, hBr⟩ := hrel
    have HKEY := Lib.hid hkey
    have HBr := Lib.hid hBr
    have HXr := Lib.hid (HX.out.belowS hBr)
    have HDr := Lib.hid (HD.out.below hBr (fun _ h => h))
    have HRAr := Lib.hid (HRA.out.below hBr (fun _ h => h))
    have hzr := hBr.size
    clear hkey hBr
    by_cases hlt : i < MA.length
    · have i0 : (0 : Int) ≤ (i : Int) := by omega
      have i1 : (i : Int) < (MA.length : Int) := by omega
      have wi : IntKind.i64.wrap ((i : Int) + 1) = (i : Int) + 1 := IntWalk.i64_in _ (by omega)
      have hltQ : i < QA.length := by omega
      obtain ⟨bq, oq, vq, rq, -, es, hq⟩ := HRAr.out.cellS i hltQ
      simp only [Option.some.injEq, Addr.mk.injEq, and_true] at rq
      obtain ⟨ebq, eoq⟩ := rq
      subst ebq eoq
      obtain ⟨adk, capk, rfl, -, -⟩ := hq.form
      have HDK := Lib.hid hq
      have HES := Lib.hid es
      have hbq : bh < wr.heap.size := World.block_lt_of_cell? wr _ es
      have hzx := HXr.out.lt
      have HML := Lib.hid (HMA.out.lt _ (List.getElem_mem hlt))
      have HFi := Lib.hid (show findCode L QA[i] = 0 ∧ (∃ k : Nat, ∃ h : k < L.length, findCrt L QA[i] = L[k]) ∧ ((crtSums L).Nodup → findCrt L QA[i] = L[MA[i]]'(HML.out)) by have := HAA.out; subst this; rw [histD_at]; exact hist_find HML.out)
      clear hq es
      generalize QA[i] = dk at *
      go_upto_region 14 with fail
      go_cut [15, 16] (fun p e wx => ∃ (P : Nat) (ab ap av : Option Addr) (cb cp cv : Nat), p = .pointer (some ⟨P, 0, none⟩) ∧ e = .int .i64 0 ∧ BoxAt wx P [.int .i64 (findCrt L dk).h.a, .int .i64 (findCrt L dk).h.r, .slice ab (findCrt L dk).h.bs.length cb, .slice ap (findCrt L dk).h.ps.length cp, .slice av (findCrt L dk).vs.length cv] 45 ∧ wr.heap.size ≤ P ∧ RdBB (fun _ => True) wx (.slice ab (findCrt L dk).h.bs.length cb) (findCrt L dk).h.bs ∧ RdBB (fun _ => True) wx (.slice ap (findCrt L dk).h.ps.length cp) (findCrt L dk).h.ps ∧ RdI (fun _ => True) wx (.slice av (findCrt L dk).vs.length cv) (findCrt L dk).vs ∧ Below wr.heap.size wr wx)
      case first =>
        refine wp_region_held_drew (S := fun w' => Below wr.heap.size wr w') (by kernel_rfl) (by exact (Below.refl _ _).drew) (fun hHeld => ?_)
        obtain ⟨wd, hwd⟩ : ∃ wd, wd = wr.drew := ⟨_, rfl⟩
        rw [← hwd] at hHeld ⊢
        have HBd := Lib.hid (show Below wr.heap.size wr wd from hHeld)
        have zwd : wr.heap.size ≤ wd.heap.size := by rw [hwd]; exact Nat.le_refl _
        clear hwd
        refine wpAnyH_take (i := 0) (v := .agg #[.slice add L.length capd]) rfl (by kernel_rfl) (by kernel_rfl) (by kernel_rfl) (fun _ _ _ h => h) (Or.inl ⟨by rfl, fun w hSw => ?_⟩) hHeld ?_
        · have q0 := (HXr.out.belowS hSw).cell 0 rfl; clear hSw; go_simp
        try simp only [Act.put, List.getElem_toArray, List.getElem_cons_succ, List.getElem_cons_zero, List.setIfInBounds_toArray, List.set_cons_zero, List.set_cons_succ]
        refine wpAnyH_take (i := 1) (v := .slice (some ⟨bh, oh, none⟩) MA.length ch) rfl (by kernel_rfl) (by kernel_rfl) (by kernel_rfl) (fun _ _ _ h => h) (Or.inl ⟨by rfl, fun w hSw => ?_⟩) hHeld ?_
        · clear hSw; go_simp; all_goals (try first | rfl | omega)
        try simp only [Act.put, List.getElem_toArray, List.getElem_cons_succ, List.getElem_cons_zero, List.setIfInBounds_toArray, List.set_cons_zero, List.set_cons_succ]
        refine wpAnyH_take (i := 2) (v := .int .i64 (i : Int)) rfl (by kernel_rfl) (by kernel_rfl) (by kernel_rfl) (fun _ _ _ h => h) (Or.inl ⟨by rfl, fun w hSw => ?_⟩) hHeld ?_
        · clear hSw; go_simp; all_goals (try first | rfl | omega)
        try simp only [Act.put, List.getElem_toArray, List.getElem_cons_succ, List.getElem_cons_zero, List.setIfInBounds_toArray, List.set_cons_zero, List.set_cons_succ]
        refine wpAnyH_take (i := 3) (v := .pointer (some ⟨bh, oh + i, none⟩)) rfl (by kernel_rfl) (by kernel_rfl) (by kernel_rfl) (fun _ _ _ h => h) (Or.inl ⟨by rfl, fun w hSw => ?_⟩) hHeld ?_
        · clear hSw; go_simp; all_goals (try first | rfl | omega)
        try simp only [Act.put, List.getElem_toArray, List.getElem_cons_succ, List.getElem_cons_zero, List.setIfInBounds_toArray, List.set_cons_zero, List.set_cons_succ]
        refine wpAnyH_take (i := 4) (v := .slice adk dk.length capk) rfl (by kernel_rfl) (by kernel_rfl) (by kernel_rfl) (fun _ _ _ h => h) (Or.inl ⟨by rfl, fun w hSw => ?_⟩) hHeld ?_
        · have q3 := (Below.cell hSw (p := ⟨bh, oh + i, none⟩) hbq).trans HES.out; clear hSw; go_simp
        try simp only [Act.put, List.getElem_toArray, List.getElem_cons_succ, List.getElem_cons_zero, List.setIfInBounds_toArray, List.set_cons_zero, List.set_cons_succ]
        refine wpAnyH_ready (rs := [5, 9]) (by kernel_rfl) (by simp) ?_
        refine AllReadyH.cons rfl (fun K hK => ?_) ?_
        · rw [if_pos (by rfl)]
          go_simp
          go_at_call 24
          refine (dagFind_any _ _ _ (HDr.out.below HBd.out (fun _ h => h)) (HDK.out.below HBd.out (fun _ h => h)) (HT.out.belowS ((HB.out.trans (HBr.out.mono HB.out.size)).trans (HBd.out.mono (Below.size (HB.out.trans (HBr.out.mono HB.out.size)))))) HOK.out).mono ?_
          rintro e wf ⟨vb, vp, vv, rfl, hvb, hvp, hvv, hb_wf⟩
          rw [HFi.out.1]
          obtain ⟨ab, cb, rfl, -, -⟩ := hvb.form
          obtain ⟨ap, cp, rfl, -, -⟩ := hvp.form
          obtain ⟨av, cv, rfl, -, -⟩ := hvv.form
          have HVB := Lib.hid (show RdBB (fun b => wr.heap.size ≤ b ∧ b ≠ wf.heap.size) _ _ (findCrt L dk).h.bs from (hvb.low (by decide)).mono (fun b hb => ⟨by have := hb.1; have := Below.size HBd.out; omega, by have h0 := hb.2; omega⟩))
          have HVP := Lib.hid (show RdBB (fun b => wr.heap.size ≤ b ∧ b ≠ wf.heap.size) _ _ (findCrt L dk).h.ps from (hvp.low (by decide)).mono (fun b hb => ⟨by have := hb.1; have := Below.size HBd.out; omega, by have h0 := hb.2; omega⟩))
          have HVV := Lib.hid (show RdI (fun b => wr.heap.size ≤ b ∧ b ≠ wf.heap.size) _ _ (findCrt L dk).vs from (hvv.low (by decide)).mono (fun b hb => ⟨by have := hb.1; have := Below.size HBd.out; omega, by have h0 := hb.2; omega⟩))
          clear hvb hvp hvv
          have HBwf := Lib.hid (HBd.out.trans (hb_wf.mono (Below.size HBd.out)))
          have zwf := hb_wf.size
          clear hb_wf
          show K _ _
          refine hK.out _ _ (by exact HBwf.out) (fun hHeld => ?_)
          clear hK K
          try simp only [Act.put, List.getElem_toArray, List.getElem_cons_succ, List.getElem_cons_zero, List.setIfInBounds_toArray, List.set_cons_zero, List.set_cons_succ]
          refine wpAnyH_take (i := 6) (v := .tuple #[.agg #[.int .i64 (findCrt L dk).h.a, .int .i64 (findCrt L dk).h.r, .slice ab (findCrt L dk).h.bs.length cb, .slice ap (findCrt L dk).h.ps.length cp, .slice av (findCrt L dk).vs.length cv], .int .i64 0]) rfl (by kernel_rfl) (by kernel_rfl) (by kernel_rfl) (fun _ _ _ h => h) (Or.inl ⟨by rfl, fun w hSw => ?_⟩) hHeld ?_
          · clear hSw; go_simp; all_goals (try first | rfl | omega)
          try simp only [Act.put, List.getElem_toArray, List.getElem_cons_succ, List.getElem_cons_zero, List.setIfInBounds_toArray, List.set_cons_zero, List.set_cons_succ]
          refine wpAnyH_take (i := 7) (v := .agg #[.int .i64 (findCrt L dk).h.a, .int .i64 (findCrt L dk).h.r, .slice ab (findCrt L dk).h.bs.length cb, .slice ap (findCrt L dk).h.ps.length cp, .slice av (findCrt L dk).vs.length cv]) rfl (by kernel_rfl) (by kernel_rfl) (by kernel_rfl) (fun _ _ _ h => h) (Or.inl ⟨by rfl, fun w hSw => ?_⟩) hHeld ?_
          · clear hSw; go_simp; all_goals (try first | rfl | omega)
          try simp only [Act.put, List.getElem_toArray, List.getElem_cons_succ, List.getElem_cons_zero, List.setIfInBounds_toArray, List.set_cons_zero, List.set_cons_succ]
          refine wpAnyH_take (i := 8) (v := .int .i64 0) rfl (by kernel_rfl) (by kernel_rfl) (by kernel_rfl) (fun _ _ _ h => h) (Or.inl ⟨by rfl, fun w hSw => ?_⟩) hHeld ?_
          · clear hSw; go_simp; all_goals (try first | rfl | omega)
          try simp only [Act.put, List.getElem_toArray, List.getElem_cons_succ, List.getElem_cons_zero, List.setIfInBounds_toArray, List.set_cons_zero, List.set_cons_succ]
          refine wpAnyH_ready (rs := [9]) (by kernel_rfl) (by simp) ?_
          refine AllReadyH.cons rfl (fun K hK => ?_) ?_
          · rw [if_pos (by rfl)]
            go_simp
            show K _ _
            refine hK.out _ _ (by exact (HBwf.out.alloc (Below.size HBwf.out) _)) (fun hHeld => ?_)
            clear hK K
            try simp only [Act.put, List.getElem_toArray, List.getElem_cons_succ, List.getElem_cons_zero, List.setIfInBounds_toArray, List.set_cons_zero, List.set_cons_succ]
            obtain ⟨wa1, hwn⟩ : ∃ wa1, wa1 = wf.alloc (.cells #[.int .i64 0, .int .i64 0, .slice none 0 0, .slice none 0 0, .slice none 0 0] 45) := ⟨_, rfl⟩
            have FA1 := Lib.hid (show BoxAt wa1 (wf.heap.size) [.int .i64 0, .int .i64 0, .slice none 0 0, .slice none 0 0, .slice none 0 0] 45 by rw [hwn]; exact BoxAt.newAt wf [.int .i64 0, .int .i64 0, .slice none 0 0, .slice none 0 0, .slice none 0 0] 45 rfl)
            have HBwa1 := Lib.hid (show Below wr.heap.size wr wa1 by rw [hwn]; exact HBwf.out.alloc (Below.size HBwf.out) _)
            have HKL := Lib.hid (show Keep (fun b => wr.heap.size ≤ b ∧ b ≠ wf.heap.size) wf wa1 by rw [hwn]; exact Keep.alloc _ _ _)
            rw [← hwn] at hHeld ⊢
            clear hwn
            have zwa1 := FA1.out.lt
            refine wpAnyH_ready (rs := [10]) (by kernel_rfl) (by simp) ?_
            refine AllReadyH.cons rfl (fun K hK => ?_) ?_
            · rw [if_pos (by rfl)]
              have q0 := FA1.out.cell 0 rfl
              have q1 := FA1.out.cell 1 rfl
              have q2 := FA1.out.cell 2 rfl
              have q3 := FA1.out.cell 3 rfl
              have q4 := FA1.out.cell 4 rfl
              have qf0 := FA1.out.free 0
              have qf1 := FA1.out.free 1
              have qf2 := FA1.out.free 2
              have qf3 := FA1.out.free 3
              have qf4 := FA1.out.free 4
              have qz := FA1.out.lt
              go_simp
              show K _ _
              refine hK.out _ _ (by exact (((((HBwa1.out.setCell (p := ⟨wf.heap.size, 0, none⟩) (by simp; omega) (.int .i64 (findCrt L dk).h.a)).setCell (p := ⟨wf.heap.size, 1, none⟩) (by simp; omega) (.int .i64 (findCrt L dk).h.r)).setCell (p := ⟨wf.heap.size, 2, none⟩) (by simp; omega) (.slice ab (findCrt L dk).h.bs.length cb)).setCell (p := ⟨wf.heap.size, 3, none⟩) (by simp; omega) (.slice ap (findCrt L dk).h.ps.length cp)).setCell (p := ⟨wf.heap.size, 4, none⟩) (by simp; omega) (.slice av (findCrt L dk).vs.length cv))) (fun hHeld => ?_)
              clear hK K
              try simp only [Act.put, List.getElem_toArray, List.getElem_cons_succ, List.getElem_cons_zero, List.setIfInBounds_toArray, List.set_cons_zero, List.set_cons_succ]
              refine wpAnyH_take (i := 11) (v := .int .i64 0) rfl (by kernel_rfl) (by kernel_rfl) (by kernel_rfl) (fun _ _ _ h => h) (Or.inl ⟨by rfl, fun w hSw => ?_⟩) hHeld ?_
              · clear hSw; go_simp; all_goals (try first | rfl | omega)
              try simp only [Act.put, List.getElem_toArray, List.getElem_cons_succ, List.getElem_cons_zero, List.setIfInBounds_toArray, List.set_cons_zero, List.set_cons_succ]
              refine wpAnyH_done (by kernel_rfl) ?_ _
              obtain ⟨wz, hwz⟩ : ∃ wz, wz = (((((wa1.setCell ⟨wf.heap.size, 0, none⟩ (.int .i64 (findCrt L dk).h.a)).setCell ⟨wf.heap.size, 1, none⟩ (.int .i64 (findCrt L dk).h.r)).setCell ⟨wf.heap.size, 2, none⟩ (.slice ab (findCrt L dk).h.bs.length cb)).setCell ⟨wf.heap.size, 3, none⟩ (.slice ap (findCrt L dk).h.ps.length cp)).setCell ⟨wf.heap.size, 4, none⟩ (.slice av (findCrt L dk).vs.length cv)) := ⟨_, rfl⟩
              have HKz : Keep (fun b => wr.heap.size ≤ b ∧ b ≠ wf.heap.size) wa1 wz := by rw [hwz]; exact ((((Keep.setCell (by simp) _).trans (Keep.setCell (by simp) _)).trans (Keep.setCell (by simp) _)).trans (Keep.setCell (by simp) _)).trans (Keep.setCell (by simp) _)
              have HZ := Lib.hid (show BoxAt wz (wf.heap.size) [.int .i64 (findCrt L dk).h.a, .int .i64 (findCrt L dk).h.r, .slice ab (findCrt L dk).h.bs.length cb, .slice ap (findCrt L dk).h.ps.length cp, .slice av (findCrt L dk).vs.length cv] 45 by rw [hwz]; exact (((((FA1.out.set 0 (.int .i64 (findCrt L dk).h.a)).set 1 (.int .i64 (findCrt L dk).h.r)).set 2 (.slice ab (findCrt L dk).h.bs.length cb)).set 3 (.slice ap (findCrt L dk).h.ps.length cp)).set 4 (.slice av (findCrt L dk).vs.length cv)))
              have HBz := Lib.hid (show Below wr.heap.size wr wz by rw [hwz]; exact (((((HBwa1.out.setCell (p := ⟨wf.heap.size, 0, none⟩) (by simp; omega) (.int .i64 (findCrt L dk).h.a)).setCell (p := ⟨wf.heap.size, 1, none⟩) (by simp; omega) (.int .i64 (findCrt L dk).h.r)).setCell (p := ⟨wf.heap.size, 2, none⟩) (by simp; omega) (.slice ab (findCrt L dk).h.bs.length cb)).setCell (p := ⟨wf.heap.size, 3, none⟩) (by simp; omega) (.slice ap (findCrt L dk).h.ps.length cp)).setCell (p := ⟨wf.heap.size, 4, none⟩) (by simp; omega) (.slice av (findCrt L dk).vs.length cv)))
              have hq0 : Keep (fun b => wr.heap.size ≤ b ∧ b ≠ wf.heap.size) wf wa1 := HKL.out
              have HVBz := Lib.hid ((HVB.out.keep (hq0.trans HKz) (fun _ h => h)).mono (G' := fun _ => True) (fun _ _ => trivial))
              have HVPz := Lib.hid ((HVP.out.keep (hq0.trans HKz) (fun _ h => h)).mono (G' := fun _ => True) (fun _ _ => trivial))
              have HVVz := Lib.hid ((HVV.out.keep (hq0.trans HKz) (fun _ h => h)).mono (G' := fun _ => True) (fun _ _ => trivial))
              go_wp2
              rw [← hwz]
              clear hwz HKz
              go_meet
              exact ⟨wf.heap.size, ab, ap, av, cb, cp, cv, rfl, rfl, HZ.out, by omega, HVBz.out, HVPz.out, HVVz.out, HBz.out⟩
            exact AllReadyH.nil
          exact AllReadyH.nil
        refine AllReadyH.cons rfl (fun K hK => ?_) ?_
        · rw [if_pos (by rfl)]
          go_simp
          show K _ _
          refine hK.out _ _ (by exact (HBd.out.alloc (Below.size HBd.out) _)) (fun hHeld => ?_)
          clear hK K
          try simp only [Act.put, List.getElem_toArray, List.getElem_cons_succ, List.getElem_cons_zero, List.setIfInBounds_toArray, List.set_cons_zero, List.set_cons_succ]
          obtain ⟨wa1, hwn⟩ : ∃ wa1, wa1 = wd.alloc (.cells #[.int .i64 0, .int .i64 0, .slice none 0 0, .slice none 0 0, .slice none 0 0] 45) := ⟨_, rfl⟩
          have FA1 := Lib.hid (show BoxAt wa1 (wd.heap.size) [.int .i64 0, .int .i64 0, .slice none 0 0, .slice none 0 0, .slice none 0 0] 45 by rw [hwn]; exact BoxAt.newAt wd [.int .i64 0, .int .i64 0, .slice none 0 0, .slice none 0 0, .slice none 0 0] 45 rfl)
          have HBwa1 := Lib.hid (show Below wr.heap.size wr wa1 by rw [hwn]; exact HBd.out.alloc (Below.size HBd.out) _)
          rw [← hwn] at hHeld ⊢
          clear hwn
          have zwa1 := FA1.out.lt
          refine wpAnyH_ready (rs := [5]) (by kernel_rfl) (by simp) ?_
          refine AllReadyH.cons rfl (fun K hK => ?_) ?_
          · rw [if_pos (by rfl)]
            go_simp
            go_at_call 24
            refine (dagFind_any _ _ _ (HDr.out.below HBwa1.out (fun _ h => h)) (HDK.out.below HBwa1.out (fun _ h => h)) (HT.out.belowS ((HB.out.trans (HBr.out.mono HB.out.size)).trans (HBwa1.out.mono (Below.size (HB.out.trans (HBr.out.mono HB.out.size)))))) HOK.out).mono ?_
            rintro e wf ⟨vb, vp, vv, rfl, hvb, hvp, hvv, hb_wf⟩
            rw [HFi.out.1]
            obtain ⟨ab, cb, rfl, -, -⟩ := hvb.form
            obtain ⟨ap, cp, rfl, -, -⟩ := hvp.form
            obtain ⟨av, cv, rfl, -, -⟩ := hvv.form
            have HVB := Lib.hid (show RdBB (fun b => wr.heap.size ≤ b ∧ b ≠ wd.heap.size) _ _ (findCrt L dk).h.bs from (hvb.low (by decide)).mono (fun b hb => ⟨by have := hb.1; have := Below.size HBwa1.out; omega, by have h0 := hb.1; have := FA1.out.lt; omega⟩))
            have HVP := Lib.hid (show RdBB (fun b => wr.heap.size ≤ b ∧ b ≠ wd.heap.size) _ _ (findCrt L dk).h.ps from (hvp.low (by decide)).mono (fun b hb => ⟨by have := hb.1; have := Below.size HBwa1.out; omega, by have h0 := hb.1; have := FA1.out.lt; omega⟩))
            have HVV := Lib.hid (show RdI (fun b => wr.heap.size ≤ b ∧ b ≠ wd.heap.size) _ _ (findCrt L dk).vs from (hvv.low (by decide)).mono (fun b hb => ⟨by have := hb.1; have := Below.size HBwa1.out; omega, by have h0 := hb.1; have := FA1.out.lt; omega⟩))
            clear hvb hvp hvv
            have HBwf := Lib.hid (HBwa1.out.trans (hb_wf.mono (Below.size HBwa1.out)))
            replace FA1 := Lib.hid (FA1.out.belowS hb_wf)
            have zwf := hb_wf.size
            clear hb_wf
            show K _ _
            refine hK.out _ _ (by exact HBwf.out) (fun hHeld => ?_)
            clear hK K
            try simp only [Act.put, List.getElem_toArray, List.getElem_cons_succ, List.getElem_cons_zero, List.setIfInBounds_toArray, List.set_cons_zero, List.set_cons_succ]
            refine wpAnyH_take (i := 6) (v := .tuple #[.agg #[.int .i64 (findCrt L dk).h.a, .int .i64 (findCrt L dk).h.r, .slice ab (findCrt L dk).h.bs.length cb, .slice ap (findCrt L dk).h.ps.length cp, .slice av (findCrt L dk).vs.length cv], .int .i64 0]) rfl (by kernel_rfl) (by kernel_rfl) (by kernel_rfl) (fun _ _ _ h => h) (Or.inl ⟨by rfl, fun w hSw => ?_⟩) hHeld ?_
            · clear hSw; go_simp; all_goals (try first | rfl | omega)
            try simp only [Act.put, List.getElem_toArray, List.getElem_cons_succ, List.getElem_cons_zero, List.setIfInBounds_toArray, List.set_cons_zero, List.set_cons_succ]
            refine wpAnyH_take (i := 7) (v := .agg #[.int .i64 (findCrt L dk).h.a, .int .i64 (findCrt L dk).h.r, .slice ab (findCrt L dk).h.bs.length cb, .slice ap (findCrt L dk).h.ps.length cp, .slice av (findCrt L dk).vs.length cv]) rfl (by kernel_rfl) (by kernel_rfl) (by kernel_rfl) (fun _ _ _ h => h) (Or.inl ⟨by rfl, fun w hSw => ?_⟩) hHeld ?_
            · clear hSw; go_simp; all_goals (try first | rfl | omega)
            try simp only [Act.put, List.getElem_toArray, List.getElem_cons_succ, List.getElem_cons_zero, List.setIfInBounds_toArray, List.set_cons_zero, List.set_cons_succ]
            refine wpAnyH_take (i := 8) (v := .int .i64 0) rfl (by kernel_rfl) (by kernel_rfl) (by kernel_rfl) (fun _ _ _ h => h) (Or.inl ⟨by rfl, fun w hSw => ?_⟩) hHeld ?_
            · clear hSw; go_simp; all_goals (try first | rfl | omega)
            try simp only [Act.put, List.getElem_toArray, List.getElem_cons_succ, List.getElem_cons_zero, List.setIfInBounds_toArray, List.set_cons_zero, List.set_cons_succ]
            refine wpAnyH_ready (rs := [10]) (by kernel_rfl) (by simp) ?_
            refine AllReadyH.cons rfl (fun K hK => ?_) ?_
            · rw [if_pos (by rfl)]
              have q0 := FA1.out.cell 0 rfl
              have q1 := FA1.out.cell 1 rfl
              have q2 := FA1.out.cell 2 rfl
              have q3 := FA1.out.cell 3 rfl
              have q4 := FA1.out.cell 4 rfl
              have qf0 := FA1.out.free 0
              have qf1 := FA1.out.free 1
              have qf2 := FA1.out.free 2
              have qf3 := FA1.out.free 3
              have qf4 := FA1.out.free 4
              have qz := FA1.out.lt
              go_simp
              show K _ _
              refine hK.out _ _ (by exact (((((HBwf.out.setCell (p := ⟨wd.heap.size, 0, none⟩) (by simp; omega) (.int .i64 (findCrt L dk).h.a)).setCell (p := ⟨wd.heap.size, 1, none⟩) (by simp; omega) (.int .i64 (findCrt L dk).h.r)).setCell (p := ⟨wd.heap.size, 2, none⟩) (by simp; omega) (.slice ab (findCrt L dk).h.bs.length cb)).setCell (p := ⟨wd.heap.size, 3, none⟩) (by simp; omega) (.slice ap (findCrt L dk).h.ps.length cp)).setCell (p := ⟨wd.heap.size, 4, none⟩) (by simp; omega) (.slice av (findCrt L dk).vs.length cv))) (fun hHeld => ?_)
              clear hK K
              try simp only [Act.put, List.getElem_toArray, List.getElem_cons_succ, List.getElem_cons_zero, List.setIfInBounds_toArray, List.set_cons_zero, List.set_cons_succ]
              refine wpAnyH_take (i := 11) (v := .int .i64 0) rfl (by kernel_rfl) (by kernel_rfl) (by kernel_rfl) (fun _ _ _ h => h) (Or.inl ⟨by rfl, fun w hSw => ?_⟩) hHeld ?_
              · clear hSw; go_simp; all_goals (try first | rfl | omega)
              try simp only [Act.put, List.getElem_toArray, List.getElem_cons_succ, List.getElem_cons_zero, List.setIfInBounds_toArray, List.set_cons_zero, List.set_cons_succ]
              refine wpAnyH_done (by kernel_rfl) ?_ _
              obtain ⟨wz, hwz⟩ : ∃ wz, wz = (((((wf.setCell ⟨wd.heap.size, 0, none⟩ (.int .i64 (findCrt L dk).h.a)).setCell ⟨wd.heap.size, 1, none⟩ (.int .i64 (findCrt L dk).h.r)).setCell ⟨wd.heap.size, 2, none⟩ (.slice ab (findCrt L dk).h.bs.length cb)).setCell ⟨wd.heap.size, 3, none⟩ (.slice ap (findCrt L dk).h.ps.length cp)).setCell ⟨wd.heap.size, 4, none⟩ (.slice av (findCrt L dk).vs.length cv)) := ⟨_, rfl⟩
              have HKz : Keep (fun b => wr.heap.size ≤ b ∧ b ≠ wd.heap.size) wf wz := by rw [hwz]; exact ((((Keep.setCell (by simp) _).trans (Keep.setCell (by simp) _)).trans (Keep.setCell (by simp) _)).trans (Keep.setCell (by simp) _)).trans (Keep.setCell (by simp) _)
              have HZ := Lib.hid (show BoxAt wz (wd.heap.size) [.int .i64 (findCrt L dk).h.a, .int .i64 (findCrt L dk).h.r, .slice ab (findCrt L dk).h.bs.length cb, .slice ap (findCrt L dk).h.ps.length cp, .slice av (findCrt L dk).vs.length cv] 45 by rw [hwz]; exact (((((FA1.out.set 0 (.int .i64 (findCrt L dk).h.a)).set 1 (.int .i64 (findCrt L dk).h.r)).set 2 (.slice ab (findCrt L dk).h.bs.length cb)).set 3 (.slice ap (findCrt L dk).h.ps.length cp)).set 4 (.slice av (findCrt L dk).vs.length cv)))
              have HBz := Lib.hid (show Below wr.heap.size wr wz by rw [hwz]; exact (((((HBwf.out.setCell (p := ⟨wd.heap.size, 0, none⟩) (by simp; omega) (.int .i64 (findCrt L dk).h.a)).setCell (p := ⟨wd.heap.size, 1, none⟩) (by simp; omega) (.int .i64 (findCrt L dk).h.r)).setCell (p := ⟨wd.heap.size, 2, none⟩) (by simp; omega) (.slice ab (findCrt L dk).h.bs.length cb)).setCell (p := ⟨wd.heap.size, 3, none⟩) (by simp; omega) (.slice ap (findCrt L dk).h.ps.length cp)).setCell (p := ⟨wd.heap.size, 4, none⟩) (by simp; omega) (.slice av (findCrt L dk).vs.length cv)))
              have HVBz := Lib.hid ((HVB.out.keep HKz (fun _ h => h)).mono (G' := fun _ => True) (fun _ _ => trivial))
              have HVPz := Lib.hid ((HVP.out.keep HKz (fun _ h => h)).mono (G' := fun _ => True) (fun _ _ => trivial))
              have HVVz := Lib.hid ((HVV.out.keep HKz (fun _ h => h)).mono (G' := fun _ => True) (fun _ _ => trivial))
              go_wp2
              rw [← hwz]
              clear hwz HKz
              go_meet
              exact ⟨wd.heap.size, ab, ap, av, cb, cp, cv, rfl, rfl, HZ.out, by omega, HVBz.out, HVPz.out, HVVz.out, HBz.out⟩
            exact AllReadyH.nil
          exact AllReadyH.nil
        exact AllReadyH.nil
      case rest =>
      obtain ⟨P, ab, ap, av, cb, cp, cv, rfl, rfl, hBP, hPge, hvb, hvp, hvv, hB5⟩ := hcut
      rename World => w6
      have HP := Lib.hid hBP
      have K1 := Lib.hid hvb
      have K2 := Lib.hid hvp
      have K3 := Lib.hid hvv
      clear hBP hvb hvp hvv
      replace HXr := Lib.hid (HXr.out.belowS hB5)
      replace HDr := Lib.hid (HDr.out.below hB5 (fun _ h => h))
      replace HRAr := Lib.hid (HRAr.out.below hB5 (fun _ h => h))
      replace HBr := Lib.hid (HBr.out.trans (hB5.mono HBr.out.size))
      clear hB5 HES HDK
      have HFB := Lib.hid (show hdrCode (findCrt L dk).h = 0 by obtain ⟨k, hk, e⟩ := HFi.out.2.1; rw [e]; exact HH.out _ (List.getElem_mem hk))
      have HFN := Lib.hid HFi.out.2.2
      clear HFi
      generalize findCrt L dk = F at *
      obtain ⟨f1, f2, f3, f4⟩ := hdr_aur HFB.out
      have f5 := (hdr_ps HFB.out).2.1
      have y0 := HP.out.cell 0 rfl
      have y1 := HP.out.cell 1 rfl
      have y3 := HP.out.cell 3 rfl
      have g1 : IntKind.i64.wrap (4 * F.h.r) = 4 * F.h.r := IntWalk.i64_in _ (by omega)
      have g2 : IntKind.i64.wrap (4 * F.h.r + F.h.a) = 4 * F.h.r + F.h.a := IntWalk.i64_in _ (by omega)
      have HBE := Lib.hid (HB.out.trans (HBr.out.mono HB.out.size))
      by_cases hle : 4 * F.h.r + F.h.a ≤ last
      · go_wp2
        go_ret
        refine ⟨false, rfl, fun hn => ?_, HBE.out⟩
        rw [HLL.out] at hn
        have h1 := HKEY.out hn i hlt (Nat.le_refl _)
        rw [getD_at HML.out, ← HFN.out hn] at h1
        unfold keyC at h1
        omega
      · have HNX := Lib.hid (fun (hn : (crtSums L).Nodup) => (show keyTo L MA (i + 1) (4 * F.h.r + F.h.a) from by
          have h2 := keyTo_next HMA.out hlt
          rw [getD_at HML.out, ← HFN.out hn] at h2
          exact h2))
        have HPF := Lib.hid (fun (hn : (crtSums L).Nodup) (p : Bytes) (hp : p ∈ F.h.ps) => (show 0 ≤ idxP (isB p) (QA.take i) from by
          have := HAA.out
          subst this
          rw [HFN.out hn] at hp
          exact par_found HOK.out HMA.out hlt HML.out hp))
        clear HFN
        go_wp2_with fail
        clear y0 y1 y3
        go_loopw [17] (fun u ws => ∃ p : Nat, p ≤ F.h.ps.length ∧ u = .int .i64 p ∧ Below w6.heap.size w6 ws) (fun u _ => F.h.ps.length - (intOf u).toNat)
        case atStart => exact ⟨0, Nat.zero_le _, rfl, Below.refl _ _⟩
        case round =>
          rename World => ws
          obtain ⟨p, hp, rfl, hBs⟩ := hrel
          have HBs := Lib.hid hBs
          have HPs := Lib.hid (HP.out.belowS hBs)
          have K2s := Lib.hid (K2.out.below hBs (fun _ h => h))
          have HRAs := Lib.hid (HRAr.out.below hBs (fun _ h => h))
          clear hBs
          have y3 := HPs.out.cell 3 rfl
          by_cases hpt : p < F.h.ps.length
          · have p0 : (0 : Int) ≤ (p : Int) := by omega
            have p1 : (p : Int) < (F.h.ps.length : Int) := by omega
            have wp : IntKind.i64.wrap ((p : Int) + 1) = (p : Int) + 1 := IntWalk.i64_in _ (by omega)
            obtain ⟨bp, op, vp, rfl, -, ep, hpp⟩ := K2s.out.cellS p hpt
            obtain ⟨adp, capp, rfl, -, -⟩ := hpp.form
            have HPP := Lib.hid hpp
            have HEP := Lib.hid ep
            have hbp : bp < ws.heap.size := World.block_lt_of_cell? ws _ ep
            have HST := Lib.hid (show RdBB (fun _ => True) ws (.slice (some ⟨bh, oh, none⟩) i ch) (QA.take i) from HRAs.out.take i (by omega))
            have HPQ := Lib.hid (fun hn => HPF.out hn F.h.ps[p] (List.getElem_mem hpt))
            have ic : (i : Int) ≤ (ch : Int) := by omega
            clear hpp ep
            generalize F.h.ps[p] = pj at *
            have HBF := Lib.hid (HBr.out.trans (HBs.out.mono HBr.out.size))
            obtain ⟨kz, hkz⟩ : ∃ kz, kz = idxP (isB pj) (QA.take i) := ⟨_, rfl⟩
            rw [← hkz] at HPQ
            have HKZ := Lib.hid hkz.symm
            clear hkz
            by_cases hneg : kz < 0
            · go_upto_region 21 with fail
              clear y3
              refine wp_region_held_drew (S := fun w' => Below ws.heap.size ws w') (by kernel_rfl) (by exact (Below.refl _ _).drew) (fun hHeld => ?_)
              obtain ⟨wd, hwd⟩ : ∃ wd, wd = ws.drew := ⟨_, rfl⟩
              rw [← hwd] at hHeld ⊢
              have HBd := Lib.hid (show Below ws.heap.size ws wd from hHeld)
              have zwd : ws.heap.size ≤ wd.heap.size := by rw [hwd]; exact Nat.le_refl _
              clear hwd
              refine wpAnyH_take (i := 0) (v := .slice (some ⟨bh, oh, none⟩) MA.length ch) rfl (by kernel_rfl) (by kernel_rfl) (by kernel_rfl) (fun _ _ _ h => h) (Or.inl ⟨by rfl, fun w hSw => ?_⟩) hHeld ?_
              · clear hSw; go_simp; all_goals (try first | rfl | omega)
              try simp only [Act.put, List.getElem_toArray, List.getElem_cons_succ, List.getElem_cons_zero, List.setIfInBounds_toArray, List.set_cons_zero, List.set_cons_succ]
              refine wpAnyH_take (i := 1) (v := .int .i64 (i : Int)) rfl (by kernel_rfl) (by kernel_rfl) (by kernel_rfl) (fun _ _ _ h => h) (Or.inl ⟨by rfl, fun w hSw => ?_⟩) hHeld ?_
              · clear hSw; go_simp; all_goals (try first | rfl | omega)
              try simp only [Act.put, List.getElem_toArray, List.getElem_cons_succ, List.getElem_cons_zero, List.setIfInBounds_toArray, List.set_cons_zero, List.set_cons_succ]
              refine wpAnyH_take (i := 2) (v := .slice (some ⟨bh, oh, none⟩) i ch) rfl (by kernel_rfl) (by kernel_rfl) (by kernel_rfl) (fun _ _ _ h => h) (Or.inl ⟨by rfl, fun w hSw => ?_⟩) hHeld ?_
              · clear hSw; go_simp; all_goals (try first | rfl | omega)
              try simp only [Act.put, List.getElem_toArray, List.getElem_cons_succ, List.getElem_cons_zero, List.setIfInBounds_toArray, List.set_cons_zero, List.set_cons_succ]
              refine wpAnyH_take (i := 3) (v := .pointer (some ⟨P, 0, none⟩)) rfl (by kernel_rfl) (by kernel_rfl) (by kernel_rfl) (fun _ _ _ h => h) (Or.inl ⟨by rfl, fun w hSw => ?_⟩) hHeld ?_
              · clear hSw; go_simp; all_goals (try first | rfl | omega)
              try simp only [Act.put, List.getElem_toArray, List.getElem_cons_succ, List.getElem_cons_zero, List.setIfInBounds_toArray, List.set_cons_zero, List.set_cons_succ]
              refine wpAnyH_take (i := 4) (v := .pointer (some ⟨P, 3, none⟩)) rfl (by kernel_rfl) (by kernel_rfl) (by kernel_rfl) (fun _ _ _ h => h) (Or.inl ⟨by rfl, fun w hSw => ?_⟩) hHeld ?_
              · clear hSw; go_simp; all_goals (try first | rfl | omega)
              try simp only [Act.put, List.getElem_toArray, List.getElem_cons_succ, List.getElem_cons_zero, List.setIfInBounds_toArray, List.set_cons_zero, List.set_cons_succ]
              refine wpAnyH_take (i := 5) (v := .slice (some ⟨bp, op, none⟩) F.h.ps.length cp) rfl (by kernel_rfl) (by kernel_rfl) (by kernel_rfl) (fun _ _ _ h => h) (Or.inl ⟨by rfl, fun w hSw => ?_⟩) hHeld ?_
              · have q0 := (HPs.out.belowS hSw).cell 3 rfl; clear hSw; go_simp
              try simp only [Act.put, List.getElem_toArray, List.getElem_cons_succ, List.getElem_cons_zero, List.setIfInBounds_toArray, List.set_cons_zero, List.set_cons_succ]
              refine wpAnyH_take (i := 6) (v := .int .i64 (p : Int)) rfl (by kernel_rfl) (by kernel_rfl) (by kernel_rfl) (fun _ _ _ h => h) (Or.inl ⟨by rfl, fun w hSw => ?_⟩) hHeld ?_
              · clear hSw; go_simp; all_goals (try first | rfl | omega)
              try simp only [Act.put, List.getElem_toArray, List.getElem_cons_succ, List.getElem_cons_zero, List.setIfInBounds_toArray, List.set_cons_zero, List.set_cons_succ]
              refine wpAnyH_take (i := 7) (v := .pointer (some ⟨bp, op + p, none⟩)) rfl (by kernel_rfl) (by kernel_rfl) (by kernel_rfl) (fun _ _ _ h => h) (Or.inl ⟨by rfl, fun w hSw => ?_⟩) hHeld ?_
              · clear hSw; go_simp; all_goals (try first | rfl | omega)
              try simp only [Act.put, List.getElem_toArray, List.getElem_cons_succ, List.getElem_cons_zero, List.setIfInBounds_toArray, List.set_cons_zero, List.set_cons_succ]
              refine wpAnyH_take (i := 8) (v := .slice adp pj.length capp) rfl (by kernel_rfl) (by kernel_rfl) (by kernel_rfl) (fun _ _ _ h => h) (Or.inl ⟨by rfl, fun w hSw => ?_⟩) hHeld ?_
              · have q0 := (hSw.cell (p := ⟨bp, op + p, none⟩) hbp).trans HEP.out; clear hSw; go_simp
              try simp only [Act.put, List.getElem_toArray, List.getElem_cons_succ, List.getElem_cons_zero, List.setIfInBounds_toArray, List.set_cons_zero, List.set_cons_succ]
              refine wpAnyH_ready (rs := [9]) (by kernel_rfl) (by simp) ?_
              refine AllReadyH.cons rfl (fun K hK => ?_) ?_
              · rw [if_pos (by rfl)]
                go_simp
                go_at_call 30
                refine (sat_any _ _ _ (HST.out.below HBd.out (fun _ h => h)) (HPP.out.below HBd.out (fun _ h => h))).mono ?_
                rintro e w' ⟨rfl, rfl⟩
                rw [HKZ.out]
                show K _ _
                refine hK.out _ _ (by exact hHeld) (fun hHeld => ?_)
                clear hK K
                try simp only [Act.put, List.getElem_toArray, List.getElem_cons_succ, List.getElem_cons_zero, List.setIfInBounds_toArray, List.set_cons_zero, List.set_cons_succ]
                refine wpAnyH_take (i := 10) (v := .bool true) rfl (by kernel_rfl) (by kernel_rfl) (by kernel_rfl) (fun _ _ _ h => h) (Or.inl ⟨by rfl, fun w hSw => ?_⟩) hHeld ?_
                · clear hSw; go_simp; all_goals (try first | rfl | omega)
                try simp only [Act.put, List.getElem_toArray, List.getElem_cons_succ, List.getElem_cons_zero, List.setIfInBounds_toArray, List.set_cons_zero, List.set_cons_succ]
                refine wpAnyH_done (by kernel_rfl) ?_ _
                have HBE := Lib.hid (HB.out.trans ((HBF.out.trans (HBd.out.mono HBF.out.size)).mono HB.out.size))
                clear hHeld
                go_wp2
                go_ret
                exact ⟨false, rfl, fun hn => (by rw [HLL.out] at hn; have := HPQ.out hn; omega), HBE.out⟩
              exact AllReadyH.nil
            · go_upto_region 21 with fail
              clear y3
              refine wp_region_held_drew (S := fun w' => Below ws.heap.size ws w') (by kernel_rfl) (by exact (Below.refl _ _).drew) (fun hHeld => ?_)
              obtain ⟨wd, hwd⟩ : ∃ wd, wd = ws.drew := ⟨_, rfl⟩
              rw [← hwd] at hHeld ⊢
              have HBd := Lib.hid (show Below ws.heap.size ws wd from hHeld)
              have zwd : ws.heap.size ≤ wd.heap.size := by rw [hwd]; exact Nat.le_refl _
              clear hwd
              refine wpAnyH_take (i := 0) (v := .slice (some ⟨bh, oh, none⟩) MA.length ch) rfl (by kernel_rfl) (by kernel_rfl) (by kernel_rfl) (fun _ _ _ h => h) (Or.inl ⟨by rfl, fun w hSw => ?_⟩) hHeld ?_
              · clear hSw; go_simp; all_goals (try first | rfl | omega)
              try simp only [Act.put, List.getElem_toArray, List.getElem_cons_succ, List.getElem_cons_zero, List.setIfInBounds_toArray, List.set_cons_zero, List.set_cons_succ]
              refine wpAnyH_take (i := 1) (v := .int .i64 (i : Int)) rfl (by kernel_rfl) (by kernel_rfl) (by kernel_rfl) (fun _ _ _ h => h) (Or.inl ⟨by rfl, fun w hSw => ?_⟩) hHeld ?_
              · clear hSw; go_simp; all_goals (try first | rfl | omega)
              try simp only [Act.put, List.getElem_toArray, List.getElem_cons_succ, List.getElem_cons_zero, List.setIfInBounds_toArray, List.set_cons_zero, List.set_cons_succ]
              refine wpAnyH_take (i := 2) (v := .slice (some ⟨bh, oh, none⟩) i ch) rfl (by kernel_rfl) (by kernel_rfl) (by kernel_rfl) (fun _ _ _ h => h) (Or.inl ⟨by rfl, fun w hSw => ?_⟩) hHeld ?_
              · clear hSw; go_simp; all_goals (try first | rfl | omega)
              try simp only [Act.put, List.getElem_toArray, List.getElem_cons_succ, List.getElem_cons_zero, List.setIfInBounds_toArray, List.set_cons_zero, List.set_cons_succ]
              refine wpAnyH_take (i := 3) (v := .pointer (some ⟨P, 0, none⟩)) rfl (by kernel_rfl) (by kernel_rfl) (by kernel_rfl) (fun _ _ _ h => h) (Or.inl ⟨by rfl, fun w hSw => ?_⟩) hHeld ?_
              · clear hSw; go_simp; all_goals (try first | rfl | omega)
              try simp only [Act.put, List.getElem_toArray, List.getElem_cons_succ, List.getElem_cons_zero, List.setIfInBounds_toArray, List.set_cons_zero, List.set_cons_succ]
              refine wpAnyH_take (i := 4) (v := .pointer (some ⟨P, 3, none⟩)) rfl (by kernel_rfl) (by kernel_rfl) (by kernel_rfl) (fun _ _ _ h => h) (Or.inl ⟨by rfl, fun w hSw => ?_⟩) hHeld ?_
              · clear hSw; go_simp; all_goals (try first | rfl | omega)
              try simp only [Act.put, List.getElem_toArray, List.getElem_cons_succ, List.getElem_cons_zero, List.setIfInBounds_toArray, List.set_cons_zero, List.set_cons_succ]
              refine wpAnyH_take (i := 5) (v := .slice (some ⟨bp, op, none⟩) F.h.ps.length cp) rfl (by kernel_rfl) (by kernel_rfl) (by kernel_rfl) (fun _ _ _ h => h) (Or.inl ⟨by rfl, fun w hSw => ?_⟩) hHeld ?_
              · have q0 := (HPs.out.belowS hSw).cell 3 rfl; clear hSw; go_simp
              try simp only [Act.put, List.getElem_toArray, List.getElem_cons_succ, List.getElem_cons_zero, List.setIfInBounds_toArray, List.set_cons_zero, List.set_cons_succ]
              refine wpAnyH_take (i := 6) (v := .int .i64 (p : Int)) rfl (by kernel_rfl) (by kernel_rfl) (by kernel_rfl) (fun _ _ _ h => h) (Or.inl ⟨by rfl, fun w hSw => ?_⟩) hHeld ?_
              · clear hSw; go_simp; all_goals (try first | rfl | omega)
              try simp only [Act.put, List.getElem_toArray, List.getElem_cons_succ, List.getElem_cons_zero, List.setIfInBounds_toArray, List.set_cons_zero, List.set_cons_succ]
              refine wpAnyH_take (i := 7) (v := .pointer (some ⟨bp, op + p, none⟩)) rfl (by kernel_rfl) (by kernel_rfl) (by kernel_rfl) (fun _ _ _ h => h) (Or.inl ⟨by rfl, fun w hSw => ?_⟩) hHeld ?_
              · clear hSw; go_simp; all_goals (try first | rfl | omega)
              try simp only [Act.put, List.getElem_toArray, List.getElem_cons_succ, List.getElem_cons_zero, List.setIfInBounds_toArray, List.set_cons_zero, List.set_cons_succ]
              refine wpAnyH_take (i := 8) (v := .slice adp pj.length capp) rfl (by kernel_rfl) (by kernel_rfl) (by kernel_rfl) (fun _ _ _ h => h) (Or.inl ⟨by rfl, fun w hSw => ?_⟩) hHeld ?_
              · have q0 := (hSw.cell (p := ⟨bp, op + p, none⟩) hbp).trans HEP.out; clear hSw; go_simp
              try simp only [Act.put, List.getElem_toArray, List.getElem_cons_succ, List.getElem_cons_zero, List.setIfInBounds_toArray, List.set_cons_zero, List.set_cons_succ]
              refine wpAnyH_ready (rs := [9]) (by kernel_rfl) (by simp) ?_
              refine AllReadyH.cons rfl (fun K hK => ?_) ?_
              · rw [if_pos (by rfl)]
                go_simp
                go_at_call 30
                refine (sat_any _ _ _ (HST.out.below HBd.out (fun _ h => h)) (HPP.out.below HBd.out (fun _ h => h))).mono ?_
                rintro e w' ⟨rfl, rfl⟩
                rw [HKZ.out]
                show K _ _
                refine hK.out _ _ (by exact hHeld) (fun hHeld => ?_)
                clear hK K
                try simp only [Act.put, List.getElem_toArray, List.getElem_cons_succ, List.getElem_cons_zero, List.setIfInBounds_toArray, List.set_cons_zero, List.set_cons_succ]
                refine wpAnyH_take (i := 10) (v := .bool false) rfl (by kernel_rfl) (by kernel_rfl) (by kernel_rfl) (fun _ _ _ h => h) (Or.inl ⟨by rfl, fun w hSw => ?_⟩) hHeld ?_
                · clear hSw; go_simp; all_goals (try first | rfl | omega)
                try simp only [Act.put, List.getElem_toArray, List.getElem_cons_succ, List.getElem_cons_zero, List.setIfInBounds_toArray, List.set_cons_zero, List.set_cons_succ]
                refine wpAnyH_done (by kernel_rfl) ?_ _
                have HBG := Lib.hid (HBs.out.trans (HBd.out.mono HBs.out.size))
                clear hHeld
                go_wp2
                go_roundw
                case rel => exact ⟨p + 1, by omega, by go_num, HBG.out⟩
                case measure => simp [intOf]; omega
              exact AllReadyH.nil
          · obtain rfl : p = F.h.ps.length := by omega
            have HBF := Lib.hid (HBr.out.trans (HBs.out.mono HBr.out.size))
            have t1 : ¬ (F.h.ps.length : Int) < (F.h.ps.length : Int) := by omega
            go_wp2
            go_roundw
            case rel => exact ⟨i + 1, 4 * F.h.r + F.h.a, by omega, by go_num, rfl, HNX.out, HBF.out⟩
            case measure => simp [intOf]; omega
    · obtain rfl : i = MA.length := by omega
      have HBE := Lib.hid (HB.out.trans (HBr.out.mono HB.out.size))
      have t1 : ¬ (MA.length : Int) < (MA.length : Int) := by omega
      go_wp2
      go_ret
      exact .inr ⟨rfl, HBE.out⟩
end Go.Proofs.YtpfmmncnhlfdgaaDoor
namespace Go.Proofs.YtpfmmncnhlfdgaaDoor
open Go Go.RowKit
theorem gsum_nodup {l : List Stp} (h : gsumB l = false) : (crtSums (grownL l)).Nodup := clear_of (grown_ok l) h
set_option maxRecDepth 100000 in
set_option maxHeartbeats 8000000 in
theorem historyClosed_walk (v : Value) (l : List Stp) (n : Int) (w : World) (hv : RdS RStp (fun _ => True) w v l) (hz : l.length * 24 ≤ reachBytes) (n1 : -9223372036854775808 ≤ n) (n2 : n ≤ 9223372036854775807) (ht : Tabs w) :
    Calls Tryd.prog 4 #[v, .int .i64 n] w fun e w' => e = .returned (.bool true) ∧ Below w.heap.size w w' := by
  go_enter Tryd.func4, Tryd.ntmps4
  go_wp2_with fail
  refine (historyClosed_any _ l n _ hv hz n1 n2 ht).mono ?_
  rintro e w1 ⟨b, rfl, hn, hb1⟩
  have HN := Lib.hid hn
  clear hn
  cases b with
  | true =>
    go_wp2
    go_ret
    exact ⟨rfl, hb1⟩
  | false =>
    have hg : gsumB l = true := by
      by_cases q : gsumB l = true
      · exact q
      · have := HN.out (gsum_nodup (by simpa using q)); cases this
    go_wp2_with fail
    refine (grownSum_any _ _ (hv.below hb1 (fun _ h => h)) hz (ht.belowS hb1)).mono ?_
    rintro e w2 ⟨rfl, hb2⟩
    rw [hg]
    go_wp2
    go_ret
    exact ⟨rfl, hb1.trans (hb2.mono hb1.size)⟩
end Go.Proofs.YtpfmmncnhlfdgaaDoor
