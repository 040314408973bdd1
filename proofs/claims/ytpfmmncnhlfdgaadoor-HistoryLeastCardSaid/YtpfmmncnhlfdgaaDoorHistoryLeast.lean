/- HistoryLeast: the walk. -/
import Derived.Test.YtpfmmncnhlfdgaaDoorHistAll
/- historyLeast: the walk. -/
set_option linter.unusedVariables false
set_option linter.unusedSimpArgs false
attribute [local go_sem ↓] Go.wp_at_zero Go.wp_at_succ
namespace Go.Proofs.YtpfmmncnhlfdgaaDoor
open Go Go.RowKit

theorem dig_place {L : List Crt} {d : Bytes} (h : 0 ≤ idxP (isB d) (crtSums L)) : digP L (placeP L d) = d := by
  obtain ⟨n, hn, hin, hpn, -⟩ := idxP_at h
  have : placeP L d = n := by unfold placeP; omega
  rw [this]
  have hnl : n < L.length := by rw [crtSums_len] at hn; exact hn
  rw [digP_at hnl]
  have e : (crtSums L)[n] = crtSum L[n] := by simp [crtSums]
  rw [← e]
  unfold isB at hpn
  exact of_decide_eq_true hpn
theorem histD_at {L : List Crt} {M : List Nat} {j : Nat} (h : j < (histD L M).length) : (histD L M)[j] = digP L (M[j]'(by rw [histD_len] at h; exact h)) := by simp [histD]
/-- What Find hands back of a digest of a history. -/
theorem hist_find {L : List Crt} {j : Nat} (hj : j < L.length) : findCode L (digP L j) = 0 ∧ (∃ k : Nat, ∃ h : k < L.length, findCrt L (digP L j) = L[k]) ∧ ((crtSums L).Nodup → findCrt L (digP L j) = L[j]) := by
  have h0 : 0 ≤ idxP (isB (digP L j)) (crtSums L) := idxP_ge.2 ⟨digP L j, by rw [digP_at hj]; exact List.mem_map.2 ⟨_, List.getElem_mem hj, rfl⟩, by unfold isB; exact decide_eq_true rfl⟩
  obtain ⟨k, hk, hik, -, -⟩ := idxP_at h0
  have hkl : k < L.length := by rw [crtSums_len] at hk; exact hk
  have e := find_yes hkl hik
  refine ⟨e.1, ⟨k, hkl, e.2⟩, fun hn => ?_⟩
  rw [digP_at hj]
  exact (find_yes hj (find_clear hn hj)).2
/-- What stands in a history, but for its own, is wanted by something behind it. -/
theorem least_child {L : List Crt} (hok : dagOk L = true) {i : Nat} (hi : i < L.length) {M : List Nat} (hM : IsHist L i M) {a : Nat} (ha : a + 1 < M.length) :
    ∃ (b : Nat) (hb : b < M.length) (hl : M[b] < L.length), a < b ∧ 0 ≤ idxP (isB (digP L M[a])) L[M[b]].h.ps := by
  obtain ⟨b, hb, hl, hab, hm⟩ := hM.child hok hi ha
  exact ⟨b, hb, hl, hab, idxP_ge.2 ⟨_, hm, by unfold isB; exact decide_eq_true rfl⟩⟩
theorem hist_idx0 {L : List Crt} {j : Nat} (hj : j < L.length) : 0 ≤ idxP (isB (digP L j)) (crtSums L) :=
  idxP_ge.2 ⟨digP L j, by rw [digP_at hj]; exact List.mem_map.2 ⟨_, List.getElem_mem hj, rfl⟩, by unfold isB; exact decide_eq_true rfl⟩
theorem sub_found {L : List Crt} {M N : List Nat} (h : ∀ k ∈ N, k ∈ M) {j : Nat} (hj : j < (histD L N).length) : 0 ≤ idxP (isB (histD L N)[j]) (histD L M) := by
  rw [histD_at]
  exact hist_found (h _ (List.getElem_mem _))
set_option maxRecDepth 100000 in
set_option maxHeartbeats 8000000 in
theorem historyLeast_any (v : Value) (l : List Stp) (n : Int) (m : Int) (w : World) (hv : RdS RStp (fun _ => True) w v l) (hz : l.length * 24 ≤ reachBytes) (n1 : -9223372036854775808 ≤ n) (n2 : n ≤ 9223372036854775807) (m1 : -9223372036854775808 ≤ m) (m2 : m ≤ 9223372036854775807) (ht : Tabs w) :
    Calls Tryd.prog 14 #[v, .int .i64 n, .int .i64 m] w fun e w' => ∃ b, e = .returned (.bool b) ∧ ((crtSums (grownL l)).Nodup → b = true) ∧ Below w.heap.size w w' := by
  have HT := Lib.hid ht
  go_enter Tryd.func14, Tryd.ntmps14
  go_wp2_with fail
  refine (grown_any _ _ hv hz ht).mono ?_
  rintro e w1 ⟨vd, vb, rfl, hd, -, hb1⟩
  obtain ⟨add, capd, rfl, -, -⟩ := hd.form
  have HD1 := Lib.hid hd
  have HB1 := Lib.hid hb1
  clear hd hb1 ht hv
  go_upto_region 2 with fail
  obtain ⟨w2, hw2⟩ : ∃ w2, w2 = w1.alloc (.cells #[.slice add (grownL l).length capd] 30) := ⟨_, rfl⟩
  have HX := Lib.hid (show BoxAt w2 w1.heap.size [.slice add (grownL l).length capd] 30 by rw [hw2]; exact BoxAt.new w1 [_] _)
  have hB2 : Below w1.heap.size w1 w2 := by rw [hw2]; exact (Below.refl _ _).alloc (Nat.le_refl _) _
  rw [← hw2]
  have HD := Lib.hid ((HD1.out.mono (G' := fun _ => True) (fun _ _ => trivial)).below hB2 (fun _ h => h))
  have HB := Lib.hid (HB1.out.trans (hB2.mono HB1.out.size))
  have HOK := Lib.hid (grown_ok l)
  have hz2 := HX.out.lt
  have hzw2 := HB.out.size
  clear hw2 hB2 HD1 HB1
  have hg4 := grown_len l
  have hgp := grown_pos l
  generalize hLL : grownL l = L at *
  have HLL := Lib.hid hLL
  clear hLL
  have HH := Lib.hid (fun c (hc : c ∈ L) => (crt_partsP ((dagOk_iff.1 HOK.out).2.1 c hc)).1)
  replace HD := Lib.hid ((HD.out.low (by decide)).mono (G' := fun b => b < w2.heap.size) (fun b hb => hb.2))
  have x0 := HX.out.cell 0 rfl
  go_wp2_with fail
  refine (digestsOf_any _ _ HD.out HH.out (by omega) (HT.out.belowS HB.out)).mono ?_
  rintro e w3 ⟨vs, rfl, hS, hb3⟩
  obtain ⟨ads, caps, rfl, hcs, hms⟩ := hS.form
  unfold maxLen at hms
  have hSL := crtSums_len L
  have HS := Lib.hid (hS.mono (G' := fun _ => True) (fun _ _ => trivial))
  replace HX := Lib.hid (HX.out.belowS hb3)
  replace HD := Lib.hid (HD.out.below hb3 (fun _ h => h))
  replace HB := Lib.hid (HB.out.trans (hb3.mono HB.out.size))
  replace HD := Lib.hid (HD.out.mono (G' := fun _ => True) (fun _ _ => trivial))
  clear x0 hS hb3
  obtain ⟨DS, hDS⟩ : ∃ DS, DS = crtSums L := ⟨_, rfl⟩
  rw [← hDS] at HS hSL ⊢
  have HDS := Lib.hid hDS
  have hSL1 : DS.length ≤ L.length := by omega
  have hSL2 : L.length ≤ DS.length := by omega
  clear hDS hSL hcs
  have hzw3 := HB.out.size
  have hl0 : (0 : Int) < (DS.length : Int) := by omega
  have hl1 : DS.length ≤ 9223372036854775807 := by omega
  have q0 : ((DS.length : Int) == 0) = false := by rw [beq_eq_false_iff_ne]; omega
  obtain ⟨p0A, p1A⟩ := pickedZ_range n (DS.length : Int) (by omega)
  have HPA := Lib.hid (show ((pickedZ n (DS.length : Int)).toNat : Int) = pickedZ n (DS.length : Int) by omega)
  obtain ⟨pa, hpa⟩ : ∃ pa, pa = (pickedZ n (DS.length : Int)).toNat := ⟨_, rfl⟩
  rw [← hpa] at HPA
  have pal : pa < DS.length := by omega
  have paL : pa < L.length := by omega
  clear hpa p0A p1A
  have pa0 : (0 : Int) ≤ (pa : Int) := by omega
  have pa1 : (pa : Int) < (DS.length : Int) := by omega
  have HFA := Lib.hid (show (0 : Int) ≤ idxP (isB DS[pa]) (crtSums L) by have := HDS.out; subst this; exact idx_self (by omega))
  obtain ⟨bA, oA, vA, rsA, -, esA, hsA⟩ := HS.out.cellS pa pal
  subst rsA
  obtain ⟨adA, capA, rfl, -, -⟩ := hsA.form
  have HDKA := Lib.hid hsA
  have HEA := Lib.hid esA
  have hbkA : bA < _ := World.block_lt_of_cell? _ _ esA
  clear hsA esA
  go_upto_region 5 with fail
  refine wp_region_held_drew (S := fun w' => Below w3.heap.size w3 w') (by kernel_rfl) (by exact (Below.refl _ _).drew) (fun hHeld => ?_)
  obtain ⟨wd, hwd⟩ : ∃ wd, wd = w3.drew := ⟨_, rfl⟩
  rw [← hwd] at hHeld ⊢
  have HBd := Lib.hid (show Below w3.heap.size w3 wd from hHeld)
  have zwd : w3.heap.size ≤ wd.heap.size := by rw [hwd]; exact Nat.le_refl _
  clear hwd
  refine wpAnyH_take (i := 0) (v := .agg #[.slice add L.length capd]) rfl (by kernel_rfl) (by kernel_rfl) (by kernel_rfl) (fun _ _ _ h => h) (Or.inl ⟨by rfl, fun w hSw => ?_⟩) hHeld ?_
  · have q0 := (HX.out.belowS hSw).cell 0 rfl; clear hSw; go_simp
  try simp only [Act.put, List.getElem_toArray, List.getElem_cons_succ, List.getElem_cons_zero, List.setIfInBounds_toArray, List.set_cons_zero, List.set_cons_succ]
  refine wpAnyH_take (i := 1) (v := .slice (some ⟨bA, oA, none⟩) DS.length caps) rfl (by kernel_rfl) (by kernel_rfl) (by kernel_rfl) (fun _ _ _ h => h) (Or.inl ⟨by rfl, fun w hSw => ?_⟩) hHeld ?_
  · clear hSw; go_simp; all_goals (try first | rfl | omega)
  try simp only [Act.put, List.getElem_toArray, List.getElem_cons_succ, List.getElem_cons_zero, List.setIfInBounds_toArray, List.set_cons_zero, List.set_cons_succ]
  refine wpAnyH_take (i := 2) (v := .int .i64 n) rfl (by kernel_rfl) (by kernel_rfl) (by kernel_rfl) (fun _ _ _ h => h) (Or.inl ⟨by rfl, fun w hSw => ?_⟩) hHeld ?_
  · clear hSw; go_simp; all_goals (try first | rfl | omega)
  try simp only [Act.put, List.getElem_toArray, List.getElem_cons_succ, List.getElem_cons_zero, List.setIfInBounds_toArray, List.set_cons_zero, List.set_cons_succ]
  refine wpAnyH_take (i := 3) (v := .slice (some ⟨bA, oA, none⟩) DS.length caps) rfl (by kernel_rfl) (by kernel_rfl) (by kernel_rfl) (fun _ _ _ h => h) (Or.inl ⟨by rfl, fun w hSw => ?_⟩) hHeld ?_
  · clear hSw; go_simp; all_goals (try first | rfl | omega)
  try simp only [Act.put, List.getElem_toArray, List.getElem_cons_succ, List.getElem_cons_zero, List.setIfInBounds_toArray, List.set_cons_zero, List.set_cons_succ]
  refine wpAnyH_take (i := 4) (v := .int .i64 (DS.length : Int)) rfl (by kernel_rfl) (by kernel_rfl) (by kernel_rfl) (fun _ _ _ h => h) (Or.inl ⟨by rfl, fun w hSw => ?_⟩) hHeld ?_
  · clear hSw; go_simp; all_goals (try first | rfl | omega)
  try simp only [Act.put, List.getElem_toArray, List.getElem_cons_succ, List.getElem_cons_zero, List.setIfInBounds_toArray, List.set_cons_zero, List.set_cons_succ]
  refine wpAnyH_ready (rs := [5]) (by kernel_rfl) (by simp) ?_
  refine AllReadyH.cons rfl (fun K hK => ?_) ?_
  · rw [if_pos (by rfl)]
    go_simp
    go_at_call 29
    refine (picked_any n (DS.length : Int) _ n1 n2 (by omega) (by omega)).mono ?_
    rintro e w' ⟨rfl, rfl⟩
    rw [← HPA.out]
    show K _ _
    refine hK.out _ _ (by exact hHeld) (fun hHeld => ?_)
    clear hK K
    try simp only [Act.put, List.getElem_toArray, List.getElem_cons_succ, List.getElem_cons_zero, List.setIfInBounds_toArray, List.set_cons_zero, List.set_cons_succ]
    refine wpAnyH_take (i := 6) (v := .pointer (some ⟨bA, oA + pa, none⟩)) rfl (by kernel_rfl) (by kernel_rfl) (by kernel_rfl) (fun _ _ _ h => h) (Or.inl ⟨by rfl, fun w hSw => ?_⟩) hHeld ?_
    · clear hSw; go_simp; all_goals (try first | rfl | omega)
    try simp only [Act.put, List.getElem_toArray, List.getElem_cons_succ, List.getElem_cons_zero, List.setIfInBounds_toArray, List.set_cons_zero, List.set_cons_succ]
    refine wpAnyH_take (i := 7) (v := .slice adA DS[pa].length capA) rfl (by kernel_rfl) (by kernel_rfl) (by kernel_rfl) (fun _ _ _ h => h) (Or.inl ⟨by rfl, fun w hSw => ?_⟩) hHeld ?_
    · have q3 := (Below.cell hSw (p := ⟨bA, oA + pa, none⟩) hbkA).trans HEA.out; clear hSw; go_simp
    try simp only [Act.put, List.getElem_toArray, List.getElem_cons_succ, List.getElem_cons_zero, List.setIfInBounds_toArray, List.set_cons_zero, List.set_cons_succ]
    refine wpAnyH_ready (rs := [8]) (by kernel_rfl) (by simp) ?_
    refine AllReadyH.cons rfl (fun K hK => ?_) ?_
    · rw [if_pos (by rfl)]
      go_simp
      go_at_call 22
      refine (oHistory_any _ _ _ (HD.out.below HBd.out (fun _ h => h)) (HDKA.out.below HBd.out (fun _ h => h)) (HT.out.belowS (HB.out.trans (HBd.out.mono HB.out.size))) HOK.out).mono ?_
      rintro e wf ⟨vh, MA, rfl, hM1, hM2, hR, hb_wf⟩
      have hyy := findCode_yes (HFA.out)
      rw [hyy.1]
      have HMA := Lib.hid (hM1 HFA.out)
      obtain ⟨ah, ch, rfl, hch, hmh⟩ := hR.form
      rw [histD_len] at hch hR ⊢
      have HRA := Lib.hid (hR.mono (G' := fun _ => True) (fun _ _ => trivial))
      clear hM1 hM2 hR hyy
      have HBwf := Lib.hid (HBd.out.trans (hb_wf.mono (Below.size HBd.out)))
      have zwf := hb_wf.size
      clear hb_wf
      show K _ _
      refine hK.out _ _ (by exact HBwf.out) (fun hHeld => ?_)
      clear hK K
      try simp only [Act.put, List.getElem_toArray, List.getElem_cons_succ, List.getElem_cons_zero, List.setIfInBounds_toArray, List.set_cons_zero, List.set_cons_succ]
      refine wpAnyH_take (i := 9) (v := .tuple #[.slice ah MA.length ch, .int .i64 0]) rfl (by kernel_rfl) (by kernel_rfl) (by kernel_rfl) (fun _ _ _ h => h) (Or.inl ⟨by rfl, fun w hSw => ?_⟩) hHeld ?_
      · clear hSw; go_simp; all_goals (try first | rfl | omega)
      try simp only [Act.put, List.getElem_toArray, List.getElem_cons_succ, List.getElem_cons_zero, List.setIfInBounds_toArray, List.set_cons_zero, List.set_cons_succ]
      refine wpAnyH_take (i := 10) (v := .slice ah MA.length ch) rfl (by kernel_rfl) (by kernel_rfl) (by kernel_rfl) (fun _ _ _ h => h) (Or.inl ⟨by rfl, fun w hSw => ?_⟩) hHeld ?_
      · clear hSw; go_simp; all_goals (try first | rfl | omega)
      try simp only [Act.put, List.getElem_toArray, List.getElem_cons_succ, List.getElem_cons_zero, List.setIfInBounds_toArray, List.set_cons_zero, List.set_cons_succ]
      refine wpAnyH_take (i := 11) (v := .int .i64 0) rfl (by kernel_rfl) (by kernel_rfl) (by kernel_rfl) (fun _ _ _ h => h) (Or.inl ⟨by rfl, fun w hSw => ?_⟩) hHeld ?_
      · clear hSw; go_simp; all_goals (try first | rfl | omega)
      try simp only [Act.put, List.getElem_toArray, List.getElem_cons_succ, List.getElem_cons_zero, List.setIfInBounds_toArray, List.set_cons_zero, List.set_cons_succ]
      refine wpAnyH_take (i := 12) (v := .slice ah MA.length ch) rfl (by kernel_rfl) (by kernel_rfl) (by kernel_rfl) (fun _ _ _ h => h) (Or.inl ⟨by rfl, fun w hSw => ?_⟩) hHeld ?_
      · clear hSw; go_simp; all_goals (try first | rfl | omega)
      try simp only [Act.put, List.getElem_toArray, List.getElem_cons_succ, List.getElem_cons_zero, List.setIfInBounds_toArray, List.set_cons_zero, List.set_cons_succ]
      refine wpAnyH_take (i := 13) (v := .int .i64 0) rfl (by kernel_rfl) (by kernel_rfl) (by kernel_rfl) (fun _ _ _ h => h) (Or.inl ⟨by rfl, fun w hSw => ?_⟩) hHeld ?_
      · clear hSw; go_simp; all_goals (try first | rfl | omega)
      try simp only [Act.put, List.getElem_toArray, List.getElem_cons_succ, List.getElem_cons_zero, List.setIfInBounds_toArray, List.set_cons_zero, List.set_cons_succ]
      refine wpAnyH_done (by kernel_rfl) ?_ _
      obtain ⟨w5, hw5⟩ : ∃ w5, w5 = wf := ⟨_, rfl⟩
      rw [← hw5] at HRA HBwf ⊢
      replace HX := Lib.hid (HX.out.belowS HBwf.out)
      replace HD := Lib.hid (HD.out.below HBwf.out (fun _ h => h))
      replace HB := Lib.hid (HB.out.trans (HBwf.out.mono HB.out.size))
      have hpl := (findCode_yes HFA.out).2.1
      clear hHeld HDKA HEA hw5 HBwf HBd zwd zwf
      have hX5 := HX.out.lt
      have hpa := HMA.out.pos
      have hla := HMA.out.len
      have a1 : (0 : Int) < (MA.length : Int) := by omega
      have a2 : ((MA.length : Int) == 0) = false := by rw [beq_eq_false_iff_ne]; omega
      generalize hAA : histD L MA = QA at *
      have HAA := Lib.hid hAA
      have lAA : QA.length = MA.length := by rw [← hAA, histD_len]
      have lA1 : QA.length ≤ MA.length := by omega
      have lA2 : MA.length ≤ QA.length := by omega
      clear hAA lAA
      obtain ⟨bh, oh, rfl⟩ : ∃ bh oh, ah = some ⟨bh, oh, none⟩ := by
        obtain ⟨b, o, -, q, -⟩ := HRA.out.cellS 0 (by omega)
        exact ⟨b, o, q⟩
      go_wp2_with fail
      go_loopw [12] (fun u wr => ∃ i : Nat, i + 1 ≤ MA.length ∧ u = .int .i64 i ∧ Below w5.heap.size w5 wr) (fun u _ => MA.length - (intOf u).toNat)
      case atStart => exact ⟨0, by omega, rfl, Below.refl _ _⟩
      case round =>
        obtain ⟨i, hi, rfl, hBr⟩ := hrel
        have HBr := Lib.hid hBr
        have HXr := Lib.hid (HX.out.belowS hBr)
        have HDr := Lib.hid (HD.out.below hBr (fun _ h => h))
        have HRAr := Lib.hid (HRA.out.below hBr (fun _ h => h))
        have hzr := hBr.size
        clear hBr
        have wi : IntKind.i64.wrap ((i : Int) + 1) = (i : Int) + 1 := IntWalk.i64_in _ (by omega)
        by_cases hlt : i + 1 < MA.length
        · have i0 : (0 : Int) ≤ (i : Int) := by omega
          have i1 : (i : Int) < (MA.length : Int) := by omega
          have i2 : (i : Int) + 1 < (MA.length : Int) := by omega
          have hltQ : i < QA.length := by omega
          obtain ⟨b0, o0, v0, r0, -, ei, hqi⟩ := HRAr.out.cellS i hltQ
          simp only [Option.some.injEq, Addr.mk.injEq, and_true] at r0
          obtain ⟨eb0, eo0⟩ := r0
          subst eb0 eo0
          obtain ⟨adi, capi, rfl, -, -⟩ := hqi.form
          have HDI := Lib.hid hqi
          have HEI := Lib.hid ei
          have HQI := Lib.hid (show QA[i] = digP L (MA[i]'(by omega)) by have := HAA.out; subst this; rw [histD_at])
          have HCH := Lib.hid (show ∃ (b : Nat) (hb : b < MA.length) (hl : MA[b] < L.length), i < b ∧ 0 ≤ idxP (isB QA[i]) L[MA[b]].h.ps by rw [HQI.out]; exact least_child HOK.out hpl HMA.out hlt)
          clear hqi ei
          generalize QA[i] = di at *
          go_wp2_with fail
          go_loopw [13, 14] (fun wa u ws => ∃ (k : Nat) (x : Bool), i + 1 ≤ k ∧ k ≤ MA.length ∧ u = .int .i64 k ∧ wa = .bool x ∧ ((crtSums L).Nodup → x = true ∨ ∃ (b : Nat) (hb : b < MA.length) (hl : MA[b] < L.length), k ≤ b ∧ 0 ≤ idxP (isB di) L[MA[b]].h.ps) ∧ Below wr.heap.size wr ws) (fun _ u _ => MA.length - (intOf u).toNat)
          case atStart => exact ⟨i + 1, false, Nat.le_refl _, by omega, by go_num, rfl, fun hn => .inr (by obtain ⟨b, hb, hl, h1, h2⟩ := HCH.out; exact ⟨b, hb, hl, h1, h2⟩), Below.refl _ _⟩
          case round =>
            rename World => ws
            obtain ⟨k, x, hk1, hk2, rfl, rfl, hx, hBs⟩ := hrel
            have HXX := Lib.hid hx
            have HBs := Lib.hid hBs
            have HXs := Lib.hid (HXr.out.belowS hBs)
            have HDs := Lib.hid (HDr.out.below hBs (fun _ h => h))
            have HRAs := Lib.hid (HRAr.out.below hBs (fun _ h => h))
            have HDIs := Lib.hid (HDI.out.below hBs (fun _ h => h))
            have HEIs := Lib.hid ((hBs.cell (p := ⟨bh, oh + i, none⟩) (World.block_lt_of_cell? wr _ HEI.out)).trans HEI.out)
            have hzs := hBs.size
            clear hx hBs
            have wk : IntKind.i64.wrap ((k : Int) + 1) = (k : Int) + 1 := IntWalk.i64_in _ (by omega)
            by_cases hkt : k < MA.length
            · have k0 : (0 : Int) ≤ (k : Int) := by omega
              have k1 : (k : Int) < (MA.length : Int) := by omega
              have hktQ : k < QA.length := by omega
              obtain ⟨b0, o0, v0, r0, -, es, hq⟩ := HRAs.out.cellS k hktQ
              simp only [Option.some.injEq, Addr.mk.injEq, and_true] at r0
              obtain ⟨eb0, eo0⟩ := r0
              subst eb0 eo0
              obtain ⟨adk, capk, rfl, -, -⟩ := hq.form
              have HDK := Lib.hid hq
              have HES := Lib.hid es
              have hbq : bh < ws.heap.size := World.block_lt_of_cell? ws _ es
              have hzx := HXs.out.lt
              have HML := Lib.hid (HMA.out.lt _ (List.getElem_mem hkt))
              have HFi := Lib.hid (show findCode L QA[k] = 0 ∧ (∃ q : Nat, ∃ h : q < L.length, findCrt L QA[k] = L[q]) ∧ ((crtSums L).Nodup → findCrt L QA[k] = L[MA[k]]'(HML.out)) by have := HAA.out; subst this; rw [histD_at]; exact hist_find HML.out)
              clear hq es
              generalize QA[k] = dk at *
              go_upto_region 15 with fail
              go_cut [15, 16] (fun p e wx => ∃ (P : Nat) (ab ap av : Option Addr) (cb cp cv : Nat), p = .pointer (some ⟨P, 0, none⟩) ∧ e = .int .i64 0 ∧ BoxAt wx P [.int .i64 (findCrt L dk).h.a, .int .i64 (findCrt L dk).h.r, .slice ab (findCrt L dk).h.bs.length cb, .slice ap (findCrt L dk).h.ps.length cp, .slice av (findCrt L dk).vs.length cv] 45 ∧ ws.heap.size ≤ P ∧ RdBB (fun _ => True) wx (.slice ab (findCrt L dk).h.bs.length cb) (findCrt L dk).h.bs ∧ RdBB (fun _ => True) wx (.slice ap (findCrt L dk).h.ps.length cp) (findCrt L dk).h.ps ∧ RdI (fun _ => True) wx (.slice av (findCrt L dk).vs.length cv) (findCrt L dk).vs ∧ Below ws.heap.size ws wx)
              case first =>
                refine wp_region_held_drew (S := fun w' => Below ws.heap.size ws w') (by kernel_rfl) (by exact (Below.refl _ _).drew) (fun hHeld => ?_)
                obtain ⟨wd, hwd⟩ : ∃ wd, wd = ws.drew := ⟨_, rfl⟩
                rw [← hwd] at hHeld ⊢
                have HBd := Lib.hid (show Below ws.heap.size ws wd from hHeld)
                have zwd : ws.heap.size ≤ wd.heap.size := by rw [hwd]; exact Nat.le_refl _
                clear hwd
                refine wpAnyH_take (i := 0) (v := .agg #[.slice add L.length capd]) rfl (by kernel_rfl) (by kernel_rfl) (by kernel_rfl) (fun _ _ _ h => h) (Or.inl ⟨by rfl, fun w hSw => ?_⟩) hHeld ?_
                · have q0 := (HXs.out.belowS hSw).cell 0 rfl; clear hSw; go_simp
                try simp only [Act.put, List.getElem_toArray, List.getElem_cons_succ, List.getElem_cons_zero, List.setIfInBounds_toArray, List.set_cons_zero, List.set_cons_succ]
                refine wpAnyH_take (i := 1) (v := .slice (some ⟨bh, oh, none⟩) MA.length ch) rfl (by kernel_rfl) (by kernel_rfl) (by kernel_rfl) (fun _ _ _ h => h) (Or.inl ⟨by rfl, fun w hSw => ?_⟩) hHeld ?_
                · clear hSw; go_simp; all_goals (try first | rfl | omega)
                try simp only [Act.put, List.getElem_toArray, List.getElem_cons_succ, List.getElem_cons_zero, List.setIfInBounds_toArray, List.set_cons_zero, List.set_cons_succ]
                refine wpAnyH_take (i := 2) (v := .int .i64 (k : Int)) rfl (by kernel_rfl) (by kernel_rfl) (by kernel_rfl) (fun _ _ _ h => h) (Or.inl ⟨by rfl, fun w hSw => ?_⟩) hHeld ?_
                · clear hSw; go_simp; all_goals (try first | rfl | omega)
                try simp only [Act.put, List.getElem_toArray, List.getElem_cons_succ, List.getElem_cons_zero, List.setIfInBounds_toArray, List.set_cons_zero, List.set_cons_succ]
                refine wpAnyH_take (i := 3) (v := .pointer (some ⟨bh, oh + k, none⟩)) rfl (by kernel_rfl) (by kernel_rfl) (by kernel_rfl) (fun _ _ _ h => h) (Or.inl ⟨by rfl, fun w hSw => ?_⟩) hHeld ?_
                · clear hSw; go_simp; all_goals (try first | rfl | omega)
                try simp only [Act.put, List.getElem_toArray, List.getElem_cons_succ, List.getElem_cons_zero, List.setIfInBounds_toArray, List.set_cons_zero, List.set_cons_succ]
                refine wpAnyH_take (i := 4) (v := .slice adk dk.length capk) rfl (by kernel_rfl) (by kernel_rfl) (by kernel_rfl) (fun _ _ _ h => h) (Or.inl ⟨by rfl, fun w hSw => ?_⟩) hHeld ?_
                · have q3 := (Below.cell hSw (p := ⟨bh, oh + k, none⟩) hbq).trans HES.out; clear hSw; go_simp
                try simp only [Act.put, List.getElem_toArray, List.getElem_cons_succ, List.getElem_cons_zero, List.setIfInBounds_toArray, List.set_cons_zero, List.set_cons_succ]
                refine wpAnyH_ready (rs := [5, 9]) (by kernel_rfl) (by simp) ?_
                refine AllReadyH.cons rfl (fun K hK => ?_) ?_
                · rw [if_pos (by rfl)]
                  go_simp
                  go_at_call 24
                  refine (dagFind_any _ _ _ (HDs.out.below HBd.out (fun _ h => h)) (HDK.out.below HBd.out (fun _ h => h)) (HT.out.belowS ((HB.out.trans ((HBr.out.trans (HBs.out.mono HBr.out.size)).mono HB.out.size)).trans (HBd.out.mono (Below.size (HB.out.trans ((HBr.out.trans (HBs.out.mono HBr.out.size)).mono HB.out.size)))))) HOK.out).mono ?_
                  rintro e wf ⟨vb, vp, vv, rfl, hvb, hvp, hvv, hb_wf⟩
                  rw [HFi.out.1]
                  obtain ⟨ab, cb, rfl, -, -⟩ := hvb.form
                  obtain ⟨ap, cp, rfl, -, -⟩ := hvp.form
                  obtain ⟨av, cv, rfl, -, -⟩ := hvv.form
                  have HVB := Lib.hid (show RdBB (fun b => ws.heap.size ≤ b ∧ b ≠ wf.heap.size) _ _ (findCrt L dk).h.bs from (hvb.low (by decide)).mono (fun b hb => ⟨by have := hb.1; have := Below.size HBd.out; omega, by have h0 := hb.2; omega⟩))
                  have HVP := Lib.hid (show RdBB (fun b => ws.heap.size ≤ b ∧ b ≠ wf.heap.size) _ _ (findCrt L dk).h.ps from (hvp.low (by decide)).mono (fun b hb => ⟨by have := hb.1; have := Below.size HBd.out; omega, by have h0 := hb.2; omega⟩))
                  have HVV := Lib.hid (show RdI (fun b => ws.heap.size ≤ b ∧ b ≠ wf.heap.size) _ _ (findCrt L dk).vs from (hvv.low (by decide)).mono (fun b hb => ⟨by have := hb.1; have := Below.size HBd.out; omega, by have h0 := hb.2; omega⟩))
                  clear hvb hvp hvv
                  have HBwf := Lib.hid (HBd.out.trans (hb_wf.mono (Below.size HBd.out)))
                  have zwf := hb_wf.size
                  clear hb_wf
                  show K _ _
                  refine hK.out _ _ (by exact HBwf.out) (fun hHeld => ?_)
                  clear hK K
                  try simp only [Act.put, List.getElem_toArray, List.getElem_cons_succ, List.getElem_cons_zero, List.setIfInBounds_toArray, List.set_cons_zero, List.set_cons_succ]
                  refine wpAnyH_take (i := 6) (v := .tuple #[.agg #[.int .i64 (findCrt L dk).h.a, .int .i64 (findCrt L dk).h.r, .slice ab (findCrt L dk).h.bs.length cb, .slice ap (findCrt L dk).h.ps.length cp, .slice av (findCrt L dk).vs.length cv], .int .i64 0]) rfl (by kernel_rfl) (by kernel_rfl) (by kernel_rfl) (fun _ _ _ h => h) (Or.inl ⟨by rfl, fun w hSw => ?_⟩) hHeld ?_
                  · clear hSw; go_simp; all_goals (try first | rfl | omega)
                  try simp only [Act.put, List.getElem_toArray, List.getElem_cons_succ, List.getElem_cons_zero, List.setIfInBounds_toArray, List.set_cons_zero, List.set_cons_succ]
                  refine wpAnyH_take (i := 7) (v := .agg #[.int .i64 (findCrt L dk).h.a, .int .i64 (findCrt L dk).h.r, .slice ab (findCrt L dk).h.bs.length cb, .slice ap (findCrt L dk).h.ps.length cp, .slice av (findCrt L dk).vs.length cv]) rfl (by kernel_rfl) (by kernel_rfl) (by kernel_rfl) (fun _ _ _ h => h) (Or.inl ⟨by rfl, fun w hSw => ?_⟩) hHeld ?_
                  · clear hSw; go_simp; all_goals (try first | rfl | omega)
                  try simp only [Act.put, List.getElem_toArray, List.getElem_cons_succ, List.getElem_cons_zero, List.setIfInBounds_toArray, List.set_cons_zero, List.set_cons_succ]
                  refine wpAnyH_take (i := 8) (v := .int .i64 0) rfl (by kernel_rfl) (by kernel_rfl) (by kernel_rfl) (fun _ _ _ h => h) (Or.inl ⟨by rfl, fun w hSw => ?_⟩) hHeld ?_
                  · clear hSw; go_simp; all_goals (try first | rfl | omega)
                  try simp only [Act.put, List.getElem_toArray, List.getElem_cons_succ, List.getElem_cons_zero, List.setIfInBounds_toArray, List.set_cons_zero, List.set_cons_succ]
                  refine wpAnyH_ready (rs := [9]) (by kernel_rfl) (by simp) ?_
                  refine AllReadyH.cons rfl (fun K hK => ?_) ?_
                  · rw [if_pos (by rfl)]
                    go_simp
                    show K _ _
                    refine hK.out _ _ (by exact (HBwf.out.alloc (Below.size HBwf.out) _)) (fun hHeld => ?_)
                    clear hK K
                    try simp only [Act.put, List.getElem_toArray, List.getElem_cons_succ, List.getElem_cons_zero, List.setIfInBounds_toArray, List.set_cons_zero, List.set_cons_succ]
                    obtain ⟨wa1, hwn⟩ : ∃ wa1, wa1 = wf.alloc (.cells #[.int .i64 0, .int .i64 0, .slice none 0 0, .slice none 0 0, .slice none 0 0] 45) := ⟨_, rfl⟩
                    have FA1 := Lib.hid (show BoxAt wa1 (wf.heap.size) [.int .i64 0, .int .i64 0, .slice none 0 0, .slice none 0 0, .slice none 0 0] 45 by rw [hwn]; exact BoxAt.newAt wf [.int .i64 0, .int .i64 0, .slice none 0 0, .slice none 0 0, .slice none 0 0] 45 rfl)
                    have HBwa1 := Lib.hid (show Below ws.heap.size ws wa1 by rw [hwn]; exact HBwf.out.alloc (Below.size HBwf.out) _)
                    have HKL := Lib.hid (show Keep (fun b => ws.heap.size ≤ b ∧ b ≠ wf.heap.size) wf wa1 by rw [hwn]; exact Keep.alloc _ _ _)
                    rw [← hwn] at hHeld ⊢
                    clear hwn
                    have zwa1 := FA1.out.lt
                    refine wpAnyH_ready (rs := [10]) (by kernel_rfl) (by simp) ?_
                    refine AllReadyH.cons rfl (fun K hK => ?_) ?_
                    · rw [if_pos (by rfl)]
                      have q0 := FA1.out.cell 0 rfl
                      have q1 := FA1.out.cell 1 rfl
                      have q2 := FA1.out.cell 2 rfl
                      have q3 := FA1.out.cell 3 rfl
                      have q4 := FA1.out.cell 4 rfl
                      have qf0 := FA1.out.free 0
                      have qf1 := FA1.out.free 1
                      have qf2 := FA1.out.free 2
                      have qf3 := FA1.out.free 3
                      have qf4 := FA1.out.free 4
                      have qz := FA1.out.lt
                      go_simp
                      show K _ _
                      refine hK.out _ _ (by exact (((((HBwa1.out.setCell (p := ⟨wf.heap.size, 0, none⟩) (by simp; omega) (.int .i64 (findCrt L dk).h.a)).setCell (p := ⟨wf.heap.size, 1, none⟩) (by simp; omega) (.int .i64 (findCrt L dk).h.r)).setCell (p := ⟨wf.heap.size, 2, none⟩) (by simp; omega) (.slice ab (findCrt L dk).h.bs.length cb)).setCell (p := ⟨wf.heap.size, 3, none⟩) (by simp; omega) (.slice ap (findCrt L dk).h.ps.length cp)).setCell (p := ⟨wf.heap.size, 4, none⟩) (by simp; omega) (.slice av (findCrt L dk).vs.length cv))) (fun hHeld => ?_)
                      clear hK K
                      try simp only [Act.put, List.getElem_toArray, List.getElem_cons_succ, List.getElem_cons_zero, List.setIfInBounds_toArray, List.set_cons_zero, List.set_cons_succ]
                      refine wpAnyH_take (i := 11) (v := .int .i64 0) rfl (by kernel_rfl) (by kernel_rfl) (by kernel_rfl) (fun _ _ _ h => h) (Or.inl ⟨by rfl, fun w hSw => ?_⟩) hHeld ?_
                      · clear hSw; go_simp; all_goals (try first | rfl | omega)
                      try simp only [Act.put, List.getElem_toArray, List.getElem_cons_succ, List.getElem_cons_zero, List.setIfInBounds_toArray, List.set_cons_zero, List.set_cons_succ]
                      refine wpAnyH_done (by kernel_rfl) ?_ _
                      obtain ⟨wz, hwz⟩ : ∃ wz, wz = (((((wa1.setCell ⟨wf.heap.size, 0, none⟩ (.int .i64 (findCrt L dk).h.a)).setCell ⟨wf.heap.size, 1, none⟩ (.int .i64 (findCrt L dk).h.r)).setCell ⟨wf.heap.size, 2, none⟩ (.slice ab (findCrt L dk).h.bs.length cb)).setCell ⟨wf.heap.size, 3, none⟩ (.slice ap (findCrt L dk).h.ps.length cp)).setCell ⟨wf.heap.size, 4, none⟩ (.slice av (findCrt L dk).vs.length cv)) := ⟨_, rfl⟩
                      have HKz : Keep (fun b => ws.heap.size ≤ b ∧ b ≠ wf.heap.size) wa1 wz := by rw [hwz]; exact ((((Keep.setCell (by simp) _).trans (Keep.setCell (by simp) _)).trans (Keep.setCell (by simp) _)).trans (Keep.setCell (by simp) _)).trans (Keep.setCell (by simp) _)
                      have HZ := Lib.hid (show BoxAt wz (wf.heap.size) [.int .i64 (findCrt L dk).h.a, .int .i64 (findCrt L dk).h.r, .slice ab (findCrt L dk).h.bs.length cb, .slice ap (findCrt L dk).h.ps.length cp, .slice av (findCrt L dk).vs.length cv] 45 by rw [hwz]; exact (((((FA1.out.set 0 (.int .i64 (findCrt L dk).h.a)).set 1 (.int .i64 (findCrt L dk).h.r)).set 2 (.slice ab (findCrt L dk).h.bs.length cb)).set 3 (.slice ap (findCrt L dk).h.ps.length cp)).set 4 (.slice av (findCrt L dk).vs.length cv)))
                      have HBz := Lib.hid (show Below ws.heap.size ws wz by rw [hwz]; exact (((((HBwa1.out.setCell (p := ⟨wf.heap.size, 0, none⟩) (by simp; omega) (.int .i64 (findCrt L dk).h.a)).setCell (p := ⟨wf.heap.size, 1, none⟩) (by simp; omega) (.int .i64 (findCrt L dk).h.r)).setCell (p := ⟨wf.heap.size, 2, none⟩) (by simp; omega) (.slice ab (findCrt L dk).h.bs.length cb)).setCell (p := ⟨wf.heap.size, 3, none⟩) (by simp; omega) (.slice ap (findCrt L dk).h.ps.length cp)).setCell (p := ⟨wf.heap.size, 4, none⟩) (by simp; omega) (.slice av (findCrt L dk).vs.length cv)))
                      have hq0 : Keep (fun b => ws.heap.size ≤ b ∧ b ≠ wf.heap.size) wf wa1 := HKL.out
                      have HVBz := Lib.hid ((HVB.out.keep (hq0.trans HKz) (fun _ h => h)).mono (G' := fun _ => True) (fun _ _ => trivial))
                      have HVPz := Lib.hid ((HVP.out.keep (hq0.trans HKz) (fun _ h => h)).mono (G' := fun _ => True) (fun _ _ => trivial))
                      have HVVz := Lib.hid ((HVV.out.keep (hq0.trans HKz) (fun _ h => h)).mono (G' := fun _ => True) (fun _ _ => trivial))
                      go_wp2
                      rw [← hwz]
                      clear hwz HKz
                      go_meet
                      exact ⟨wf.heap.size, ab, ap, av, cb, cp, cv, rfl, rfl, HZ.out, by omega, HVBz.out, HVPz.out, HVVz.out, HBz.out⟩
                    exact AllReadyH.nil
                  exact AllReadyH.nil
                refine AllReadyH.cons rfl (fun K hK => ?_) ?_
                · rw [if_pos (by rfl)]
                  go_simp
                  show K _ _
                  refine hK.out _ _ (by exact (HBd.out.alloc (Below.size HBd.out) _)) (fun hHeld => ?_)
                  clear hK K
                  try simp only [Act.put, List.getElem_toArray, List.getElem_cons_succ, List.getElem_cons_zero, List.setIfInBounds_toArray, List.set_cons_zero, List.set_cons_succ]
                  obtain ⟨wa1, hwn⟩ : ∃ wa1, wa1 = wd.alloc (.cells #[.int .i64 0, .int .i64 0, .slice none 0 0, .slice none 0 0, .slice none 0 0] 45) := ⟨_, rfl⟩
                  have FA1 := Lib.hid (show BoxAt wa1 (wd.heap.size) [.int .i64 0, .int .i64 0, .slice none 0 0, .slice none 0 0, .slice none 0 0] 45 by rw [hwn]; exact BoxAt.newAt wd [.int .i64 0, .int .i64 0, .slice none 0 0, .slice none 0 0, .slice none 0 0] 45 rfl)
                  have HBwa1 := Lib.hid (show Below ws.heap.size ws wa1 by rw [hwn]; exact HBd.out.alloc (Below.size HBd.out) _)
                  rw [← hwn] at hHeld ⊢
                  clear hwn
                  have zwa1 := FA1.out.lt
                  refine wpAnyH_ready (rs := [5]) (by kernel_rfl) (by simp) ?_
                  refine AllReadyH.cons rfl (fun K hK => ?_) ?_
                  · rw [if_pos (by rfl)]
                    go_simp
                    go_at_call 24
                    refine (dagFind_any _ _ _ (HDs.out.below HBwa1.out (fun _ h => h)) (HDK.out.below HBwa1.out (fun _ h => h)) (HT.out.belowS ((HB.out.trans ((HBr.out.trans (HBs.out.mono HBr.out.size)).mono HB.out.size)).trans (HBwa1.out.mono (Below.size (HB.out.trans ((HBr.out.trans (HBs.out.mono HBr.out.size)).mono HB.out.size)))))) HOK.out).mono ?_
                    rintro e wf ⟨vb, vp, vv, rfl, hvb, hvp, hvv, hb_wf⟩
                    rw [HFi.out.1]
                    obtain ⟨ab, cb, rfl, -, -⟩ := hvb.form
                    obtain ⟨ap, cp, rfl, -, -⟩ := hvp.form
                    obtain ⟨av, cv, rfl, -, -⟩ := hvv.form
                    have HVB := Lib.hid (show RdBB (fun b => ws.heap.size ≤ b ∧ b ≠ wd.heap.size) _ _ (findCrt L dk).h.bs from (hvb.low (by decide)).mono (fun b hb => ⟨by have := hb.1; have := Below.size HBwa1.out; omega, by have h0 := hb.1; have := FA1.out.lt; omega⟩))
                    have HVP := Lib.hid (show RdBB (fun b => ws.heap.size ≤ b ∧ b ≠ wd.heap.size) _ _ (findCrt L dk).h.ps from (hvp.low (by decide)).mono (fun b hb => ⟨by have := hb.1; have := Below.size HBwa1.out; omega, by have h0 := hb.1; have := FA1.out.lt; omega⟩))
                    have HVV := Lib.hid (show RdI (fun b => ws.heap.size ≤ b ∧ b ≠ wd.heap.size) _ _ (findCrt L dk).vs from (hvv.low (by decide)).mono (fun b hb => ⟨by have := hb.1; have := Below.size HBwa1.out; omega, by have h0 := hb.1; have := FA1.out.lt; omega⟩))
                    clear hvb hvp hvv
                    have HBwf := Lib.hid (HBwa1.out.trans (hb_wf.mono (Below.size HBwa1.out)))
                    replace FA1 := Lib.hid (FA1.out.belowS hb_wf)
                    have zwf := hb_wf.size
                    clear hb_wf
                    show K _ _
                    refine hK.out _ _ (by exact HBwf.out) (fun hHeld => ?_)
                    clear hK K
                    try simp only [Act.put, List.getElem_toArray, List.getElem_cons_succ, List.getElem_cons_zero, List.setIfInBounds_toArray, List.set_cons_zero, List.set_cons_succ]
                    refine wpAnyH_take (i := 6) (v := .tuple #[.agg #[.int .i64 (findCrt L dk).h.a, .int .i64 (findCrt L dk).h.r, .slice ab (findCrt L dk).h.bs.length cb, .slice ap (findCrt L dk).h.ps.length cp, .slice av (findCrt L dk).vs.length cv], .int .i64 0]) rfl (by kernel_rfl) (by kernel_rfl) (by kernel_rfl) (fun _ _ _ h => h) (Or.inl ⟨by rfl, fun w hSw => ?_⟩) hHeld ?_
                    · clear hSw; go_simp; all_goals (try first | rfl | omega)
                    try simp only [Act.put, List.getElem_toArray, List.getElem_cons_succ, List.getElem_cons_zero, List.setIfInBounds_toArray, List.set_cons_zero, List.set_cons_succ]
                    refine wpAnyH_take (i := 7) (v := .agg #[.int .i64 (findCrt L dk).h.a, .int .i64 (findCrt L dk).h.r, .slice ab (findCrt L dk).h.bs.length cb, .slice ap (findCrt L dk).h.ps.length cp, .slice av (findCrt L dk).vs.length cv]) rfl (by kernel_rfl) (by kernel_rfl) (by kernel_rfl) (fun _ _ _ h => h) (Or.inl ⟨by rfl, fun w hSw => ?_⟩) hHeld ?_
                    · clear hSw; go_simp; all_goals (try first | rfl | omega)
                    try simp only [Act.put, List.getElem_toArray, List.getElem_cons_succ, List.getElem_cons_zero, List.setIfInBounds_toArray, List.set_cons_zero, List.set_cons_succ]
                    refine wpAnyH_take (i := 8) (v := .int .i64 0) rfl (by kernel_rfl) (by kernel_rfl) (by kernel_rfl) (fun _ _ _ h => h) (Or.inl ⟨by rfl, fun w hSw => ?_⟩) hHeld ?_
                    · clear hSw; go_simp; all_goals (try first | rfl | omega)
                    try simp only [Act.put, List.getElem_toArray, List.getElem_cons_succ, List.getElem_cons_zero, List.setIfInBounds_toArray, List.set_cons_zero, List.set_cons_succ]
                    refine wpAnyH_ready (rs := [10]) (by kernel_rfl) (by simp) ?_
                    refine AllReadyH.cons rfl (fun K hK => ?_) ?_
                    · rw [if_pos (by rfl)]
                      have q0 := FA1.out.cell 0 rfl
                      have q1 := FA1.out.cell 1 rfl
                      have q2 := FA1.out.cell 2 rfl
                      have q3 := FA1.out.cell 3 rfl
                      have q4 := FA1.out.cell 4 rfl
                      have qf0 := FA1.out.free 0
                      have qf1 := FA1.out.free 1
                      have qf2 := FA1.out.free 2
                      have qf3 := FA1.out.free 3
                      have qf4 := FA1.out.free 4
                      have qz := FA1.out.lt
                      go_simp
                      show K _ _
                      refine hK.out _ _ (by exact (((((HBwf.out.setCell (p := ⟨wd.heap.size, 0, none⟩) (by simp; omega) (.int .i64 (findCrt L dk).h.a)).setCell (p := ⟨wd.heap.size, 1, none⟩) (by simp; omega) (.int .i64 (findCrt L dk).h.r)).setCell (p := ⟨wd.heap.size, 2, none⟩) (by simp; omega) (.slice ab (findCrt L dk).h.bs.length cb)).setCell (p := ⟨wd.heap.size, 3, none⟩) (by simp; omega) (.slice ap (findCrt L dk).h.ps.length cp)).setCell (p := ⟨wd.heap.size, 4, none⟩) (by simp; omega) (.slice av (findCrt L dk).vs.length cv))) (fun hHeld => ?_)
                      clear hK K
                      try simp only [Act.put, List.getElem_toArray, List.getElem_cons_succ, List.getElem_cons_zero, List.setIfInBounds_toArray, List.set_cons_zero, List.set_cons_succ]
                      refine wpAnyH_take (i := 11) (v := .int .i64 0) rfl (by kernel_rfl) (by kernel_rfl) (by kernel_rfl) (fun _ _ _ h => h) (Or.inl ⟨by rfl, fun w hSw => ?_⟩) hHeld ?_
                      · clear hSw; go_simp; all_goals (try first | rfl | omega)
                      try simp only [Act.put, List.getElem_toArray, List.getElem_cons_succ, List.getElem_cons_zero, List.setIfInBounds_toArray, List.set_cons_zero, List.set_cons_succ]
                      refine wpAnyH_done (by kernel_rfl) ?_ _
                      obtain ⟨wz, hwz⟩ : ∃ wz, wz = (((((wf.setCell ⟨wd.heap.size, 0, none⟩ (.int .i64 (findCrt L dk).h.a)).setCell ⟨wd.heap.size, 1, none⟩ (.int .i64 (findCrt L dk).h.r)).setCell ⟨wd.heap.size, 2, none⟩ (.slice ab (findCrt L dk).h.bs.length cb)).setCell ⟨wd.heap.size, 3, none⟩ (.slice ap (findCrt L dk).h.ps.length cp)).setCell ⟨wd.heap.size, 4, none⟩ (.slice av (findCrt L dk).vs.length cv)) := ⟨_, rfl⟩
                      have HKz : Keep (fun b => ws.heap.size ≤ b ∧ b ≠ wd.heap.size) wf wz := by rw [hwz]; exact ((((Keep.setCell (by simp) _).trans (Keep.setCell (by simp) _)).trans (Keep.setCell (by simp) _)).trans (Keep.setCell (by simp) _)).trans (Keep.setCell (by simp) _)
                      have HZ := Lib.hid (show BoxAt wz (wd.heap.size) [.int .i64 (findCrt L dk).h.a, .int .i64 (findCrt L dk).h.r, .slice ab (findCrt L dk).h.bs.length cb, .slice ap (findCrt L dk).h.ps.length cp, .slice av (findCrt L dk).vs.length cv] 45 by rw [hwz]; exact (((((FA1.out.set 0 (.int .i64 (findCrt L dk).h.a)).set 1 (.int .i64 (findCrt L dk).h.r)).set 2 (.slice ab (findCrt L dk).h.bs.length cb)).set 3 (.slice ap (findCrt L dk).h.ps.length cp)).set 4 (.slice av (findCrt L dk).vs.length cv)))
                      have HBz := Lib.hid (show Below ws.heap.size ws wz by rw [hwz]; exact (((((HBwf.out.setCell (p := ⟨wd.heap.size, 0, none⟩) (by simp; omega) (.int .i64 (findCrt L dk).h.a)).setCell (p := ⟨wd.heap.size, 1, none⟩) (by simp; omega) (.int .i64 (findCrt L dk).h.r)).setCell (p := ⟨wd.heap.size, 2, none⟩) (by simp; omega) (.slice ab (findCrt L dk).h.bs.length cb)).setCell (p := ⟨wd.heap.size, 3, none⟩) (by simp; omega) (.slice ap (findCrt L dk).h.ps.length cp)).setCell (p := ⟨wd.heap.size, 4, none⟩) (by simp; omega) (.slice av (findCrt L dk).vs.length cv)))
                      have HVBz := Lib.hid ((HVB.out.keep HKz (fun _ h => h)).mono (G' := fun _ => True) (fun _ _ => trivial))
                      have HVPz := Lib.hid ((HVP.out.keep HKz (fun _ h => h)).mono (G' := fun _ => True) (fun _ _ => trivial))
                      have HVVz := Lib.hid ((HVV.out.keep HKz (fun _ h => h)).mono (G' := fun _ => True) (fun _ _ => trivial))
                      go_wp2
                      rw [← hwz]
                      clear hwz HKz
                      go_meet
                      exact ⟨wd.heap.size, ab, ap, av, cb, cp, cv, rfl, rfl, HZ.out, by omega, HVBz.out, HVPz.out, HVVz.out, HBz.out⟩
                    exact AllReadyH.nil
                  exact AllReadyH.nil
                exact AllReadyH.nil
              case rest =>
              obtain ⟨P, ab, ap, av, cb, cp, cv, rfl, rfl, hBP, hPge, hvb, hvp, hvv, hB5⟩ := hcut
              rename World => w6
              have HP := Lib.hid hBP
              have K1 := Lib.hid hvb
              have K2 := Lib.hid hvp
              have K3 := Lib.hid hvv
              clear hBP hvb hvp hvv
              replace HXs := Lib.hid (HXs.out.belowS hB5)
              replace HDs := Lib.hid (HDs.out.below hB5 (fun _ h => h))
              replace HRAs := Lib.hid (HRAs.out.below hB5 (fun _ h => h))
              replace HDIs := Lib.hid (HDIs.out.below hB5 (fun _ h => h))
              replace HBs := Lib.hid (HBs.out.trans (hB5.mono HBs.out.size))
              replace HEIs := Lib.hid ((hB5.cell (p := ⟨bh, oh + i, none⟩) (World.block_lt_of_cell? ws _ HEIs.out)).trans HEIs.out)
              clear hB5 HES HDK
              have HFN := Lib.hid (fun (hn : (crtSums L).Nodup) (b : Nat) (hb : b < MA.length) (hl : MA[b] < L.length) (e : b = k) (h0 : 0 ≤ idxP (isB di) L[MA[b]].h.ps) => (show 0 ≤ idxP (isB di) (findCrt L dk).h.ps by subst e; rw [HFi.out.2.2 hn]; exact h0))
              have HPL := Lib.hid (show (findCrt L dk).h.ps.length ≤ 4 by obtain ⟨k, hk, e⟩ := HFi.out.2.1; rw [e]; exact (hdr_ps (HH.out _ (List.getElem_mem hk))).2.1)
              clear HFi
              generalize findCrt L dk = F at *
              have hbi6 : bh < w6.heap.size := World.block_lt_of_cell? w6 _ HEIs.out
              obtain ⟨kz, hkz⟩ : ∃ kz, kz = idxP (isB di) F.h.ps := ⟨_, rfl⟩
              rw [← hkz] at HFN
              have HKZ := Lib.hid hkz.symm
              clear hkz
              go_upto_region 16 with fail
              cases x with
              | true =>
                refine wp_region_held_drew (S := fun w' => Below w6.heap.size w6 w') (by kernel_rfl) (by exact (Below.refl _ _).drew) (fun hHeld => ?_)
                obtain ⟨wd, hwd⟩ : ∃ wd, wd = w6.drew := ⟨_, rfl⟩
                rw [← hwd] at hHeld ⊢
                have HBd := Lib.hid (show Below w6.heap.size w6 wd from hHeld)
                have zwd : w6.heap.size ≤ wd.heap.size := by rw [hwd]; exact Nat.le_refl _
                clear hwd
                refine wpAnyH_take (i := 0) (v := .bool true) rfl (by kernel_rfl) (by kernel_rfl) (by kernel_rfl) (fun _ _ _ h => h) (Or.inl ⟨by rfl, fun w hSw => ?_⟩) hHeld ?_
                · clear hSw; go_simp; all_goals (try first | rfl | omega)
                try simp only [Act.put, List.getElem_toArray, List.getElem_cons_succ, List.getElem_cons_zero, List.setIfInBounds_toArray, List.set_cons_zero, List.set_cons_succ]
                refine wpAnyH_take (i := 1) (v := .bool true) rfl (by kernel_rfl) (by kernel_rfl) (by kernel_rfl) (fun _ _ _ h => h) (Or.inl ⟨by rfl, fun w hSw => ?_⟩) hHeld ?_
                · clear hSw; go_simp; all_goals (try first | rfl | omega)
                try simp only [Act.put, List.getElem_toArray, List.getElem_cons_succ, List.getElem_cons_zero, List.setIfInBounds_toArray, List.set_cons_zero, List.set_cons_succ]
                refine wpAnyH_take (i := 2) (v := undef) rfl (by kernel_rfl) (by kernel_rfl) (by kernel_rfl) (fun _ _ _ h => h) (Or.inr ⟨by rfl, rfl⟩) hHeld ?_
                try simp only [Act.put, List.getElem_toArray, List.getElem_cons_succ, List.getElem_cons_zero, List.setIfInBounds_toArray, List.set_cons_zero, List.set_cons_succ]
                refine wpAnyH_take (i := 3) (v := undef) rfl (by kernel_rfl) (by kernel_rfl) (by kernel_rfl) (fun _ _ _ h => h) (Or.inr ⟨by rfl, rfl⟩) hHeld ?_
                try simp only [Act.put, List.getElem_toArray, List.getElem_cons_succ, List.getElem_cons_zero, List.setIfInBounds_toArray, List.set_cons_zero, List.set_cons_succ]
                refine wpAnyH_take (i := 4) (v := undef) rfl (by kernel_rfl) (by kernel_rfl) (by kernel_rfl) (fun _ _ _ h => h) (Or.inr ⟨by rfl, rfl⟩) hHeld ?_
                try simp only [Act.put, List.getElem_toArray, List.getElem_cons_succ, List.getElem_cons_zero, List.setIfInBounds_toArray, List.set_cons_zero, List.set_cons_succ]
                refine wpAnyH_take (i := 5) (v := undef) rfl (by kernel_rfl) (by kernel_rfl) (by kernel_rfl) (fun _ _ _ h => h) (Or.inr ⟨by rfl, rfl⟩) hHeld ?_
                try simp only [Act.put, List.getElem_toArray, List.getElem_cons_succ, List.getElem_cons_zero, List.setIfInBounds_toArray, List.set_cons_zero, List.set_cons_succ]
                refine wpAnyH_take (i := 6) (v := undef) rfl (by kernel_rfl) (by kernel_rfl) (by kernel_rfl) (fun _ _ _ h => h) (Or.inr ⟨by rfl, rfl⟩) hHeld ?_
                try simp only [Act.put, List.getElem_toArray, List.getElem_cons_succ, List.getElem_cons_zero, List.setIfInBounds_toArray, List.set_cons_zero, List.set_cons_succ]
                refine wpAnyH_take (i := 7) (v := undef) rfl (by kernel_rfl) (by kernel_rfl) (by kernel_rfl) (fun _ _ _ h => h) (Or.inr ⟨by rfl, rfl⟩) hHeld ?_
                try simp only [Act.put, List.getElem_toArray, List.getElem_cons_succ, List.getElem_cons_zero, List.setIfInBounds_toArray, List.set_cons_zero, List.set_cons_succ]
                refine wpAnyH_take (i := 8) (v := undef) rfl (by kernel_rfl) (by kernel_rfl) (by kernel_rfl) (fun _ _ _ h => h) (Or.inr ⟨by rfl, rfl⟩) hHeld ?_
                try simp only [Act.put, List.getElem_toArray, List.getElem_cons_succ, List.getElem_cons_zero, List.setIfInBounds_toArray, List.set_cons_zero, List.set_cons_succ]
                refine wpAnyH_take (i := 9) (v := undef) rfl (by kernel_rfl) (by kernel_rfl) (by kernel_rfl) (fun _ _ _ h => h) (Or.inr ⟨by rfl, rfl⟩) hHeld ?_
                try simp only [Act.put, List.getElem_toArray, List.getElem_cons_succ, List.getElem_cons_zero, List.setIfInBounds_toArray, List.set_cons_zero, List.set_cons_succ]
                refine wpAnyH_take (i := 10) (v := undef) rfl (by kernel_rfl) (by kernel_rfl) (by kernel_rfl) (fun _ _ _ h => h) (Or.inr ⟨by rfl, rfl⟩) hHeld ?_
                try simp only [Act.put, List.getElem_toArray, List.getElem_cons_succ, List.getElem_cons_zero, List.setIfInBounds_toArray, List.set_cons_zero, List.set_cons_succ]
                refine wpAnyH_take (i := 11) (v := undef) rfl (by kernel_rfl) (by kernel_rfl) (by kernel_rfl) (fun _ _ _ h => h) (Or.inr ⟨by rfl, rfl⟩) hHeld ?_
                try simp only [Act.put, List.getElem_toArray, List.getElem_cons_succ, List.getElem_cons_zero, List.setIfInBounds_toArray, List.set_cons_zero, List.set_cons_succ]
                refine wpAnyH_take (i := 12) (v := undef) rfl (by kernel_rfl) (by kernel_rfl) (by kernel_rfl) (fun _ _ _ h => h) (Or.inr ⟨by rfl, rfl⟩) hHeld ?_
                try simp only [Act.put, List.getElem_toArray, List.getElem_cons_succ, List.getElem_cons_zero, List.setIfInBounds_toArray, List.set_cons_zero, List.set_cons_succ]
                refine wpAnyH_take (i := 13) (v := undef) rfl (by kernel_rfl) (by kernel_rfl) (by kernel_rfl) (fun _ _ _ h => h) (Or.inr ⟨by rfl, rfl⟩) hHeld ?_
                try simp only [Act.put, List.getElem_toArray, List.getElem_cons_succ, List.getElem_cons_zero, List.setIfInBounds_toArray, List.set_cons_zero, List.set_cons_succ]
                refine wpAnyH_take (i := 14) (v := undef) rfl (by kernel_rfl) (by kernel_rfl) (by kernel_rfl) (fun _ _ _ h => h) (Or.inr ⟨by rfl, rfl⟩) hHeld ?_
                try simp only [Act.put, List.getElem_toArray, List.getElem_cons_succ, List.getElem_cons_zero, List.setIfInBounds_toArray, List.set_cons_zero, List.set_cons_succ]
                refine wpAnyH_take (i := 15) (v := .bool true) rfl (by kernel_rfl) (by kernel_rfl) (by kernel_rfl) (fun _ _ _ h => h) (Or.inl ⟨by rfl, fun w hSw => ?_⟩) hHeld ?_
                · clear hSw; go_simp; all_goals (try first | rfl | omega)
                try simp only [Act.put, List.getElem_toArray, List.getElem_cons_succ, List.getElem_cons_zero, List.setIfInBounds_toArray, List.set_cons_zero, List.set_cons_succ]
                refine wpAnyH_take (i := 16) (v := .bool true) rfl (by kernel_rfl) (by kernel_rfl) (by kernel_rfl) (fun _ _ _ h => h) (Or.inl ⟨by rfl, fun w hSw => ?_⟩) hHeld ?_
                · clear hSw; go_simp; all_goals (try first | rfl | omega)
                try simp only [Act.put, List.getElem_toArray, List.getElem_cons_succ, List.getElem_cons_zero, List.setIfInBounds_toArray, List.set_cons_zero, List.set_cons_succ]
                refine wpAnyH_done (by kernel_rfl) ?_ _
                have HBG := Lib.hid (HBs.out.trans (HBd.out.mono HBs.out.size))
                clear hHeld
                go_wp2
                go_roundw
                case rel => exact ⟨k + 1, true, by omega, by omega, by go_num, rfl, fun _ => .inl rfl, HBG.out⟩
                case measure => simp [intOf]; omega
              | false =>
                have HN2 := Lib.hid (show (crtSums L).Nodup → ¬ 0 ≤ kz → ∃ (b : Nat) (hb : b < MA.length) (hl : MA[b] < L.length), k + 1 ≤ b ∧ 0 ≤ idxP (isB di) L[MA[b]].h.ps from fun hn hz => by
                  rcases HXX.out hn with q | ⟨b, hb, hl, h1, h2⟩
                  · cases q
                  · refine ⟨b, hb, hl, ?_, h2⟩
                    by_cases e : b = k
                    · exact absurd (HFN.out hn b hb hl e h2) hz
                    · omega)
                by_cases hneg : 0 ≤ kz
                · have hdz : decide (0 ≤ kz) = true := decide_eq_true hneg
                  refine wp_region_held_drew (S := fun w' => Below w6.heap.size w6 w') (by kernel_rfl) (by exact (Below.refl _ _).drew) (fun hHeld => ?_)
                  obtain ⟨wd, hwd⟩ : ∃ wd, wd = w6.drew := ⟨_, rfl⟩
                  rw [← hwd] at hHeld ⊢
                  have HBd := Lib.hid (show Below w6.heap.size w6 wd from hHeld)
                  have zwd : w6.heap.size ≤ wd.heap.size := by rw [hwd]; exact Nat.le_refl _
                  clear hwd
                  refine wpAnyH_take (i := 0) (v := .bool false) rfl (by kernel_rfl) (by kernel_rfl) (by kernel_rfl) (fun _ _ _ h => h) (Or.inl ⟨by rfl, fun w hSw => ?_⟩) hHeld ?_
                  · clear hSw; go_simp; all_goals (try first | rfl | omega)
                  try simp only [Act.put, List.getElem_toArray, List.getElem_cons_succ, List.getElem_cons_zero, List.setIfInBounds_toArray, List.set_cons_zero, List.set_cons_succ]
                  refine wpAnyH_take (i := 1) (v := .bool false) rfl (by kernel_rfl) (by kernel_rfl) (by kernel_rfl) (fun _ _ _ h => h) (Or.inl ⟨by rfl, fun w hSw => ?_⟩) hHeld ?_
                  · clear hSw; go_simp; all_goals (try first | rfl | omega)
                  try simp only [Act.put, List.getElem_toArray, List.getElem_cons_succ, List.getElem_cons_zero, List.setIfInBounds_toArray, List.set_cons_zero, List.set_cons_succ]
                  refine wpAnyH_take (i := 2) (v := .int .i64 0) rfl (by kernel_rfl) (by kernel_rfl) (by kernel_rfl) (fun _ _ _ h => h) (Or.inl ⟨by rfl, fun w hSw => ?_⟩) hHeld ?_
                  · clear hSw; go_simp; all_goals (try first | rfl | omega)
                  try simp only [Act.put, List.getElem_toArray, List.getElem_cons_succ, List.getElem_cons_zero, List.setIfInBounds_toArray, List.set_cons_zero, List.set_cons_succ]
                  refine wpAnyH_take (i := 3) (v := .bool true) rfl (by kernel_rfl) (by kernel_rfl) (by kernel_rfl) (fun _ _ _ h => h) (Or.inl ⟨by rfl, fun w hSw => ?_⟩) hHeld ?_
                  · clear hSw; go_simp; all_goals (try first | rfl | omega)
                  try simp only [Act.put, List.getElem_toArray, List.getElem_cons_succ, List.getElem_cons_zero, List.setIfInBounds_toArray, List.set_cons_zero, List.set_cons_succ]
                  refine wpAnyH_take (i := 4) (v := .bool true) rfl (by kernel_rfl) (by kernel_rfl) (by kernel_rfl) (fun _ _ _ h => h) (Or.inl ⟨by rfl, fun w hSw => ?_⟩) hHeld ?_
                  · clear hSw; go_simp; all_goals (try first | rfl | omega)
                  try simp only [Act.put, List.getElem_toArray, List.getElem_cons_succ, List.getElem_cons_zero, List.setIfInBounds_toArray, List.set_cons_zero, List.set_cons_succ]
                  refine wpAnyH_take (i := 5) (v := .pointer (some ⟨P, 0, none⟩)) rfl (by kernel_rfl) (by kernel_rfl) (by kernel_rfl) (fun _ _ _ h => h) (Or.inl ⟨by rfl, fun w hSw => ?_⟩) hHeld ?_
                  · clear hSw; go_simp; all_goals (try first | rfl | omega)
                  try simp only [Act.put, List.getElem_toArray, List.getElem_cons_succ, List.getElem_cons_zero, List.setIfInBounds_toArray, List.set_cons_zero, List.set_cons_succ]
                  refine wpAnyH_take (i := 6) (v := .pointer (some ⟨P, 3, none⟩)) rfl (by kernel_rfl) (by kernel_rfl) (by kernel_rfl) (fun _ _ _ h => h) (Or.inl ⟨by rfl, fun w hSw => ?_⟩) hHeld ?_
                  · clear hSw; go_simp; all_goals (try first | rfl | omega)
                  try simp only [Act.put, List.getElem_toArray, List.getElem_cons_succ, List.getElem_cons_zero, List.setIfInBounds_toArray, List.set_cons_zero, List.set_cons_succ]
                  refine wpAnyH_take (i := 7) (v := .slice ap F.h.ps.length cp) rfl (by kernel_rfl) (by kernel_rfl) (by kernel_rfl) (fun _ _ _ h => h) (Or.inl ⟨by rfl, fun w hSw => ?_⟩) hHeld ?_
                  · have q0 := (HP.out.belowS hSw).cell 3 rfl; clear hSw; go_simp
                  try simp only [Act.put, List.getElem_toArray, List.getElem_cons_succ, List.getElem_cons_zero, List.setIfInBounds_toArray, List.set_cons_zero, List.set_cons_succ]
                  refine wpAnyH_take (i := 8) (v := .slice (some ⟨bh, oh, none⟩) MA.length ch) rfl (by kernel_rfl) (by kernel_rfl) (by kernel_rfl) (fun _ _ _ h => h) (Or.inl ⟨by rfl, fun w hSw => ?_⟩) hHeld ?_
                  · clear hSw; go_simp; all_goals (try first | rfl | omega)
                  try simp only [Act.put, List.getElem_toArray, List.getElem_cons_succ, List.getElem_cons_zero, List.setIfInBounds_toArray, List.set_cons_zero, List.set_cons_succ]
                  refine wpAnyH_take (i := 9) (v := .int .i64 (i : Int)) rfl (by kernel_rfl) (by kernel_rfl) (by kernel_rfl) (fun _ _ _ h => h) (Or.inl ⟨by rfl, fun w hSw => ?_⟩) hHeld ?_
                  · clear hSw; go_simp; all_goals (try first | rfl | omega)
                  try simp only [Act.put, List.getElem_toArray, List.getElem_cons_succ, List.getElem_cons_zero, List.setIfInBounds_toArray, List.set_cons_zero, List.set_cons_succ]
                  refine wpAnyH_take (i := 10) (v := .pointer (some ⟨bh, oh + i, none⟩)) rfl (by kernel_rfl) (by kernel_rfl) (by kernel_rfl) (fun _ _ _ h => h) (Or.inl ⟨by rfl, fun w hSw => ?_⟩) hHeld ?_
                  · clear hSw; go_simp; all_goals (try first | rfl | omega)
                  try simp only [Act.put, List.getElem_toArray, List.getElem_cons_succ, List.getElem_cons_zero, List.setIfInBounds_toArray, List.set_cons_zero, List.set_cons_succ]
                  refine wpAnyH_take (i := 11) (v := .slice adi di.length capi) rfl (by kernel_rfl) (by kernel_rfl) (by kernel_rfl) (fun _ _ _ h => h) (Or.inl ⟨by rfl, fun w hSw => ?_⟩) hHeld ?_
                  · have q0 := (hSw.cell (p := ⟨bh, oh + i, none⟩) hbi6).trans HEIs.out; clear hSw; go_simp
                  try simp only [Act.put, List.getElem_toArray, List.getElem_cons_succ, List.getElem_cons_zero, List.setIfInBounds_toArray, List.set_cons_zero, List.set_cons_succ]
                  refine wpAnyH_ready (rs := [12]) (by kernel_rfl) (by simp) ?_
                  refine AllReadyH.cons rfl (fun K hK => ?_) ?_
                  · rw [if_pos (by rfl)]
                    go_simp
                    go_at_call 30
                    refine (sat_any _ _ _ (K2.out.below HBd.out (fun _ h => h)) (HDIs.out.below HBd.out (fun _ h => h))).mono ?_
                    rintro e w' ⟨rfl, rfl⟩
                    rw [HKZ.out]
                    show K _ _
                    refine hK.out _ _ (by exact hHeld) (fun hHeld => ?_)
                    clear hK K
                    try simp only [Act.put, List.getElem_toArray, List.getElem_cons_succ, List.getElem_cons_zero, List.setIfInBounds_toArray, List.set_cons_zero, List.set_cons_succ]
                    refine wpAnyH_take (i := 13) (v := .bool true) rfl (by kernel_rfl) (by kernel_rfl) (by kernel_rfl) (fun _ _ _ h => h) (Or.inl ⟨by rfl, fun w hSw => ?_⟩) hHeld ?_
                    · clear hSw; go_simp; all_goals (try first | rfl | omega)
                    try simp only [Act.put, List.getElem_toArray, List.getElem_cons_succ, List.getElem_cons_zero, List.setIfInBounds_toArray, List.set_cons_zero, List.set_cons_succ]
                    refine wpAnyH_take (i := 14) (v := .bool true) rfl (by kernel_rfl) (by kernel_rfl) (by kernel_rfl) (fun _ _ _ h => h) (Or.inl ⟨by rfl, fun w hSw => ?_⟩) hHeld ?_
                    · clear hSw; go_simp; all_goals (try first | rfl | omega)
                    try simp only [Act.put, List.getElem_toArray, List.getElem_cons_succ, List.getElem_cons_zero, List.setIfInBounds_toArray, List.set_cons_zero, List.set_cons_succ]
                    refine wpAnyH_take (i := 15) (v := .bool true) rfl (by kernel_rfl) (by kernel_rfl) (by kernel_rfl) (fun _ _ _ h => h) (Or.inl ⟨by rfl, fun w hSw => ?_⟩) hHeld ?_
                    · clear hSw; go_simp; all_goals (try first | rfl | omega)
                    try simp only [Act.put, List.getElem_toArray, List.getElem_cons_succ, List.getElem_cons_zero, List.setIfInBounds_toArray, List.set_cons_zero, List.set_cons_succ]
                    refine wpAnyH_take (i := 16) (v := .bool true) rfl (by kernel_rfl) (by kernel_rfl) (by kernel_rfl) (fun _ _ _ h => h) (Or.inl ⟨by rfl, fun w hSw => ?_⟩) hHeld ?_
                    · clear hSw; go_simp; all_goals (try first | rfl | omega)
                    try simp only [Act.put, List.getElem_toArray, List.getElem_cons_succ, List.getElem_cons_zero, List.setIfInBounds_toArray, List.set_cons_zero, List.set_cons_succ]
                    refine wpAnyH_done (by kernel_rfl) ?_ _
                    have HBG := Lib.hid (HBs.out.trans (HBd.out.mono HBs.out.size))
                    clear hHeld
                    go_wp2
                    go_roundw
                    case rel => exact ⟨k + 1, true, by omega, by omega, by go_num, rfl, fun _ => .inl rfl, HBG.out⟩
                    case measure => simp [intOf]; omega
                  exact AllReadyH.nil
                · have hdz : decide (0 ≤ kz) = false := decide_eq_false hneg
                  refine wp_region_held_drew (S := fun w' => Below w6.heap.size w6 w') (by kernel_rfl) (by exact (Below.refl _ _).drew) (fun hHeld => ?_)
                  obtain ⟨wd, hwd⟩ : ∃ wd, wd = w6.drew := ⟨_, rfl⟩
                  rw [← hwd] at hHeld ⊢
                  have HBd := Lib.hid (show Below w6.heap.size w6 wd from hHeld)
                  have zwd : w6.heap.size ≤ wd.heap.size := by rw [hwd]; exact Nat.le_refl _
                  clear hwd
                  refine wpAnyH_take (i := 0) (v := .bool false) rfl (by kernel_rfl) (by kernel_rfl) (by kernel_rfl) (fun _ _ _ h => h) (Or.inl ⟨by rfl, fun w hSw => ?_⟩) hHeld ?_
                  · clear hSw; go_simp; all_goals (try first | rfl | omega)
                  try simp only [Act.put, List.getElem_toArray, List.getElem_cons_succ, List.getElem_cons_zero, List.setIfInBounds_toArray, List.set_cons_zero, List.set_cons_succ]
                  refine wpAnyH_take (i := 1) (v := .bool false) rfl (by kernel_rfl) (by kernel_rfl) (by kernel_rfl) (fun _ _ _ h => h) (Or.inl ⟨by rfl, fun w hSw => ?_⟩) hHeld ?_
                  · clear hSw; go_simp; all_goals (try first | rfl | omega)
                  try simp only [Act.put, List.getElem_toArray, List.getElem_cons_succ, List.getElem_cons_zero, List.setIfInBounds_toArray, List.set_cons_zero, List.set_cons_succ]
                  refine wpAnyH_take (i := 2) (v := .int .i64 0) rfl (by kernel_rfl) (by kernel_rfl) (by kernel_rfl) (fun _ _ _ h => h) (Or.inl ⟨by rfl, fun w hSw => ?_⟩) hHeld ?_
                  · clear hSw; go_simp; all_goals (try first | rfl | omega)
                  try simp only [Act.put, List.getElem_toArray, List.getElem_cons_succ, List.getElem_cons_zero, List.setIfInBounds_toArray, List.set_cons_zero, List.set_cons_succ]
                  refine wpAnyH_take (i := 3) (v := .bool true) rfl (by kernel_rfl) (by kernel_rfl) (by kernel_rfl) (fun _ _ _ h => h) (Or.inl ⟨by rfl, fun w hSw => ?_⟩) hHeld ?_
                  · clear hSw; go_simp; all_goals (try first | rfl | omega)
                  try simp only [Act.put, List.getElem_toArray, List.getElem_cons_succ, List.getElem_cons_zero, List.setIfInBounds_toArray, List.set_cons_zero, List.set_cons_succ]
                  refine wpAnyH_take (i := 4) (v := .bool true) rfl (by kernel_rfl) (by kernel_rfl) (by kernel_rfl) (fun _ _ _ h => h) (Or.inl ⟨by rfl, fun w hSw => ?_⟩) hHeld ?_
                  · clear hSw; go_simp; all_goals (try first | rfl | omega)
                  try simp only [Act.put, List.getElem_toArray, List.getElem_cons_succ, List.getElem_cons_zero, List.setIfInBounds_toArray, List.set_cons_zero, List.set_cons_succ]
                  refine wpAnyH_take (i := 5) (v := .pointer (some ⟨P, 0, none⟩)) rfl (by kernel_rfl) (by kernel_rfl) (by kernel_rfl) (fun _ _ _ h => h) (Or.inl ⟨by rfl, fun w hSw => ?_⟩) hHeld ?_
                  · clear hSw; go_simp; all_goals (try first | rfl | omega)
                  try simp only [Act.put, List.getElem_toArray, List.getElem_cons_succ, List.getElem_cons_zero, List.setIfInBounds_toArray, List.set_cons_zero, List.set_cons_succ]
                  refine wpAnyH_take (i := 6) (v := .pointer (some ⟨P, 3, none⟩)) rfl (by kernel_rfl) (by kernel_rfl) (by kernel_rfl) (fun _ _ _ h => h) (Or.inl ⟨by rfl, fun w hSw => ?_⟩) hHeld ?_
                  · clear hSw; go_simp; all_goals (try first | rfl | omega)
                  try simp only [Act.put, List.getElem_toArray, List.getElem_cons_succ, List.getElem_cons_zero, List.setIfInBounds_toArray, List.set_cons_zero, List.set_cons_succ]
                  refine wpAnyH_take (i := 7) (v := .slice ap F.h.ps.length cp) rfl (by kernel_rfl) (by kernel_rfl) (by kernel_rfl) (fun _ _ _ h => h) (Or.inl ⟨by rfl, fun w hSw => ?_⟩) hHeld ?_
                  · have q0 := (HP.out.belowS hSw).cell 3 rfl; clear hSw; go_simp
                  try simp only [Act.put, List.getElem_toArray, List.getElem_cons_succ, List.getElem_cons_zero, List.setIfInBounds_toArray, List.set_cons_zero, List.set_cons_succ]
                  refine wpAnyH_take (i := 8) (v := .slice (some ⟨bh, oh, none⟩) MA.length ch) rfl (by kernel_rfl) (by kernel_rfl) (by kernel_rfl) (fun _ _ _ h => h) (Or.inl ⟨by rfl, fun w hSw => ?_⟩) hHeld ?_
                  · clear hSw; go_simp; all_goals (try first | rfl | omega)
                  try simp only [Act.put, List.getElem_toArray, List.getElem_cons_succ, List.getElem_cons_zero, List.setIfInBounds_toArray, List.set_cons_zero, List.set_cons_succ]
                  refine wpAnyH_take (i := 9) (v := .int .i64 (i : Int)) rfl (by kernel_rfl) (by kernel_rfl) (by kernel_rfl) (fun _ _ _ h => h) (Or.inl ⟨by rfl, fun w hSw => ?_⟩) hHeld ?_
                  · clear hSw; go_simp; all_goals (try first | rfl | omega)
                  try simp only [Act.put, List.getElem_toArray, List.getElem_cons_succ, List.getElem_cons_zero, List.setIfInBounds_toArray, List.set_cons_zero, List.set_cons_succ]
                  refine wpAnyH_take (i := 10) (v := .pointer (some ⟨bh, oh + i, none⟩)) rfl (by kernel_rfl) (by kernel_rfl) (by kernel_rfl) (fun _ _ _ h => h) (Or.inl ⟨by rfl, fun w hSw => ?_⟩) hHeld ?_
                  · clear hSw; go_simp; all_goals (try first | rfl | omega)
                  try simp only [Act.put, List.getElem_toArray, List.getElem_cons_succ, List.getElem_cons_zero, List.setIfInBounds_toArray, List.set_cons_zero, List.set_cons_succ]
                  refine wpAnyH_take (i := 11) (v := .slice adi di.length capi) rfl (by kernel_rfl) (by kernel_rfl) (by kernel_rfl) (fun _ _ _ h => h) (Or.inl ⟨by rfl, fun w hSw => ?_⟩) hHeld ?_
                  · have q0 := (hSw.cell (p := ⟨bh, oh + i, none⟩) hbi6).trans HEIs.out; clear hSw; go_simp
                  try simp only [Act.put, List.getElem_toArray, List.getElem_cons_succ, List.getElem_cons_zero, List.setIfInBounds_toArray, List.set_cons_zero, List.set_cons_succ]
                  refine wpAnyH_ready (rs := [12]) (by kernel_rfl) (by simp) ?_
                  refine AllReadyH.cons rfl (fun K hK => ?_) ?_
                  · rw [if_pos (by rfl)]
                    go_simp
                    go_at_call 30
                    refine (sat_any _ _ _ (K2.out.below HBd.out (fun _ h => h)) (HDIs.out.below HBd.out (fun _ h => h))).mono ?_
                    rintro e w' ⟨rfl, rfl⟩
                    rw [HKZ.out]
                    show K _ _
                    refine hK.out _ _ (by exact hHeld) (fun hHeld => ?_)
                    clear hK K
                    try simp only [Act.put, List.getElem_toArray, List.getElem_cons_succ, List.getElem_cons_zero, List.setIfInBounds_toArray, List.set_cons_zero, List.set_cons_succ]
                    refine wpAnyH_take (i := 13) (v := .bool false) rfl (by kernel_rfl) (by kernel_rfl) (by kernel_rfl) (fun _ _ _ h => h) (Or.inl ⟨by rfl, fun w hSw => ?_⟩) hHeld ?_
                    · clear hSw; go_simp; all_goals (try first | rfl | omega)
                    try simp only [Act.put, List.getElem_toArray, List.getElem_cons_succ, List.getElem_cons_zero, List.setIfInBounds_toArray, List.set_cons_zero, List.set_cons_succ]
                    refine wpAnyH_take (i := 14) (v := .bool false) rfl (by kernel_rfl) (by kernel_rfl) (by kernel_rfl) (fun _ _ _ h => h) (Or.inl ⟨by rfl, fun w hSw => ?_⟩) hHeld ?_
                    · clear hSw; go_simp; all_goals (try first | rfl | omega)
                    try simp only [Act.put, List.getElem_toArray, List.getElem_cons_succ, List.getElem_cons_zero, List.setIfInBounds_toArray, List.set_cons_zero, List.set_cons_succ]
                    refine wpAnyH_take (i := 15) (v := .bool false) rfl (by kernel_rfl) (by kernel_rfl) (by kernel_rfl) (fun _ _ _ h => h) (Or.inl ⟨by rfl, fun w hSw => ?_⟩) hHeld ?_
                    · clear hSw; go_simp; all_goals (try first | rfl | omega)
                    try simp only [Act.put, List.getElem_toArray, List.getElem_cons_succ, List.getElem_cons_zero, List.setIfInBounds_toArray, List.set_cons_zero, List.set_cons_succ]
                    refine wpAnyH_take (i := 16) (v := .bool false) rfl (by kernel_rfl) (by kernel_rfl) (by kernel_rfl) (fun _ _ _ h => h) (Or.inl ⟨by rfl, fun w hSw => ?_⟩) hHeld ?_
                    · clear hSw; go_simp; all_goals (try first | rfl | omega)
                    try simp only [Act.put, List.getElem_toArray, List.getElem_cons_succ, List.getElem_cons_zero, List.setIfInBounds_toArray, List.set_cons_zero, List.set_cons_succ]
                    refine wpAnyH_done (by kernel_rfl) ?_ _
                    have HBG := Lib.hid (HBs.out.trans (HBd.out.mono HBs.out.size))
                    clear hHeld
                    go_wp2
                    go_roundw
                    case rel => exact ⟨k + 1, false, by omega, by omega, by go_num, rfl, fun hn => .inr (HN2.out hn hneg), HBG.out⟩
                    case measure => simp [intOf]; omega
                  exact AllReadyH.nil
            · obtain rfl : k = MA.length := by omega
              have t1 : ¬ (MA.length : Int) < (MA.length : Int) := by omega
              have HBF := Lib.hid (HBr.out.trans (HBs.out.mono HBr.out.size))
              have HBE := Lib.hid (HB.out.trans (HBF.out.mono HB.out.size))
              cases x with
              | true =>
                go_wp2
                go_roundw
                case rel => exact ⟨i + 1, by omega, by go_num, HBF.out⟩
                case measure => simp [intOf]; omega
              | false =>
                go_wp2
                go_ret
                exact .inl ⟨rfl, fun hn => (HXX.out (HLL.out ▸ hn)).elim (fun q => absurd q (by decide)) (fun ⟨b, hb, hl, h1, h2⟩ => by omega), HBE.out⟩
        · have hE : i + 1 = MA.length := by omega
          have hEq : ¬ (i : Int) + 1 < (MA.length : Int) := by omega
          have HE2 := Lib.hid hE
          clear hE hi hlt
          have hl0' : (0 : Int) < (MA.length : Int) := by omega
          obtain ⟨p0B, p1B⟩ := pickedZ_range m (MA.length : Int) (by omega)
          have HPB := Lib.hid (show ((pickedZ m (MA.length : Int)).toNat : Int) = pickedZ m (MA.length : Int) by omega)
          obtain ⟨pb, hpb⟩ : ∃ pb, pb = (pickedZ m (MA.length : Int)).toNat := ⟨_, rfl⟩
          rw [← hpb] at HPB
          have pbl : pb < MA.length := by omega
          clear hpb p0B p1B
          have pb0 : (0 : Int) ≤ (pb : Int) := by omega
          have pb1 : (pb : Int) < (MA.length : Int) := by omega
          have pbQ : pb < QA.length := by omega
          have HMB := Lib.hid (HMA.out.lt _ (List.getElem_mem pbl))
          have HQB := Lib.hid (show QA[pb] = digP L MA[pb] by have := HAA.out; subst this; rw [histD_at])
          have HFB := Lib.hid (show (0 : Int) ≤ idxP (isB QA[pb]) (crtSums L) by rw [HQB.out]; exact hist_idx0 HMB.out)
          have HIX := Lib.hid (show (crtSums L).Nodup → placeP L QA[pb] = MA[pb] from fun hn => by rw [HQB.out]; exact placeP_dig hn HMB.out)
          obtain ⟨bB, oB, vB, rsB, -, esB, hsB⟩ := HRAr.out.cellS pb (by omega)
          simp only [Option.some.injEq, Addr.mk.injEq, and_true] at rsB
          obtain ⟨eb9, eo9⟩ := rsB
          subst eb9 eo9
          obtain ⟨adB, capB, rfl, -, -⟩ := hsB.form
          have HDKB := Lib.hid hsB
          have HEB := Lib.hid esB
          have hbkB : bh < _ := World.block_lt_of_cell? _ _ esB
          clear hsB esB
          generalize QA[pb] = dB at *
          have hzX := HXr.out.lt
          go_upto_region 19 with fail
          refine wp_region_held_drew (S := fun w' => Below wr.heap.size wr w') (by kernel_rfl) (by exact (Below.refl _ _).drew) (fun hHeld => ?_)
          obtain ⟨wd, hwd⟩ : ∃ wd, wd = wr.drew := ⟨_, rfl⟩
          rw [← hwd] at hHeld ⊢
          have HBd := Lib.hid (show Below wr.heap.size wr wd from hHeld)
          have zwd : wr.heap.size ≤ wd.heap.size := by rw [hwd]; exact Nat.le_refl _
          clear hwd
          refine wpAnyH_take (i := 0) (v := .agg #[.slice add L.length capd]) rfl (by kernel_rfl) (by kernel_rfl) (by kernel_rfl) (fun _ _ _ h => h) (Or.inl ⟨by rfl, fun w hSw => ?_⟩) hHeld ?_
          · have q0 := (HXr.out.belowS hSw).cell 0 rfl; clear hSw; go_simp
          try simp only [Act.put, List.getElem_toArray, List.getElem_cons_succ, List.getElem_cons_zero, List.setIfInBounds_toArray, List.set_cons_zero, List.set_cons_succ]
          refine wpAnyH_take (i := 1) (v := .slice (some ⟨bh, oh, none⟩) MA.length ch) rfl (by kernel_rfl) (by kernel_rfl) (by kernel_rfl) (fun _ _ _ h => h) (Or.inl ⟨by rfl, fun w hSw => ?_⟩) hHeld ?_
          · clear hSw; go_simp; all_goals (try first | rfl | omega)
          try simp only [Act.put, List.getElem_toArray, List.getElem_cons_succ, List.getElem_cons_zero, List.setIfInBounds_toArray, List.set_cons_zero, List.set_cons_succ]
          refine wpAnyH_take (i := 2) (v := .int .i64 m) rfl (by kernel_rfl) (by kernel_rfl) (by kernel_rfl) (fun _ _ _ h => h) (Or.inl ⟨by rfl, fun w hSw => ?_⟩) hHeld ?_
          · clear hSw; go_simp; all_goals (try first | rfl | omega)
          try simp only [Act.put, List.getElem_toArray, List.getElem_cons_succ, List.getElem_cons_zero, List.setIfInBounds_toArray, List.set_cons_zero, List.set_cons_succ]
          refine wpAnyH_take (i := 3) (v := .slice (some ⟨bh, oh, none⟩) MA.length ch) rfl (by kernel_rfl) (by kernel_rfl) (by kernel_rfl) (fun _ _ _ h => h) (Or.inl ⟨by rfl, fun w hSw => ?_⟩) hHeld ?_
          · clear hSw; go_simp; all_goals (try first | rfl | omega)
          try simp only [Act.put, List.getElem_toArray, List.getElem_cons_succ, List.getElem_cons_zero, List.setIfInBounds_toArray, List.set_cons_zero, List.set_cons_succ]
          refine wpAnyH_take (i := 4) (v := .int .i64 (MA.length : Int)) rfl (by kernel_rfl) (by kernel_rfl) (by kernel_rfl) (fun _ _ _ h => h) (Or.inl ⟨by rfl, fun w hSw => ?_⟩) hHeld ?_
          · clear hSw; go_simp; all_goals (try first | rfl | omega)
          try simp only [Act.put, List.getElem_toArray, List.getElem_cons_succ, List.getElem_cons_zero, List.setIfInBounds_toArray, List.set_cons_zero, List.set_cons_succ]
          refine wpAnyH_ready (rs := [5]) (by kernel_rfl) (by simp) ?_
          refine AllReadyH.cons rfl (fun K hK => ?_) ?_
          · rw [if_pos (by rfl)]
            go_simp
            go_at_call 29
            refine (picked_any m (MA.length : Int) _ m1 m2 (by omega) (by omega)).mono ?_
            rintro e w' ⟨rfl, rfl⟩
            rw [← HPB.out]
            show K _ _
            refine hK.out _ _ (by exact hHeld) (fun hHeld => ?_)
            clear hK K
            try simp only [Act.put, List.getElem_toArray, List.getElem_cons_succ, List.getElem_cons_zero, List.setIfInBounds_toArray, List.set_cons_zero, List.set_cons_succ]
            refine wpAnyH_take (i := 6) (v := .pointer (some ⟨bh, oh + pb, none⟩)) rfl (by kernel_rfl) (by kernel_rfl) (by kernel_rfl) (fun _ _ _ h => h) (Or.inl ⟨by rfl, fun w hSw => ?_⟩) hHeld ?_
            · clear hSw; go_simp; all_goals (try first | rfl | omega)
            try simp only [Act.put, List.getElem_toArray, List.getElem_cons_succ, List.getElem_cons_zero, List.setIfInBounds_toArray, List.set_cons_zero, List.set_cons_succ]
            refine wpAnyH_take (i := 7) (v := .slice adB dB.length capB) rfl (by kernel_rfl) (by kernel_rfl) (by kernel_rfl) (fun _ _ _ h => h) (Or.inl ⟨by rfl, fun w hSw => ?_⟩) hHeld ?_
            · have q3 := (Below.cell hSw (p := ⟨bh, oh + pb, none⟩) hbkB).trans HEB.out; clear hSw; go_simp
            try simp only [Act.put, List.getElem_toArray, List.getElem_cons_succ, List.getElem_cons_zero, List.setIfInBounds_toArray, List.set_cons_zero, List.set_cons_succ]
            refine wpAnyH_ready (rs := [8]) (by kernel_rfl) (by simp) ?_
            refine AllReadyH.cons rfl (fun K hK => ?_) ?_
            · rw [if_pos (by rfl)]
              go_simp
              go_at_call 22
              refine (oHistory_any _ _ _ (HDr.out.below HBd.out (fun _ h => h)) (HDKB.out.below HBd.out (fun _ h => h)) (HT.out.belowS ((HB.out.trans (HBr.out.mono HB.out.size)).trans (HBd.out.mono (Below.size (HB.out.trans (HBr.out.mono HB.out.size)))))) HOK.out).mono ?_
              rintro e wg ⟨vh, MB, rfl, hM1, hM2, hR, hb_wg⟩
              have hyy := findCode_yes (HFB.out)
              rw [hyy.1]
              have HNB := Lib.hid (hM1 HFB.out)
              obtain ⟨ag, cg, rfl, hcg, hmg⟩ := hR.form
              rw [histD_len] at hcg hR ⊢
              have HRB := Lib.hid (hR.mono (G' := fun _ => True) (fun _ _ => trivial))
              clear hM1 hM2 hR hyy
              have HBwg := Lib.hid (HBd.out.trans (hb_wg.mono (Below.size HBd.out)))
              have zwg := hb_wg.size
              clear hb_wg
              show K _ _
              refine hK.out _ _ (by exact HBwg.out) (fun hHeld => ?_)
              clear hK K
              try simp only [Act.put, List.getElem_toArray, List.getElem_cons_succ, List.getElem_cons_zero, List.setIfInBounds_toArray, List.set_cons_zero, List.set_cons_succ]
              refine wpAnyH_take (i := 9) (v := .tuple #[.slice ag MB.length cg, .int .i64 0]) rfl (by kernel_rfl) (by kernel_rfl) (by kernel_rfl) (fun _ _ _ h => h) (Or.inl ⟨by rfl, fun w hSw => ?_⟩) hHeld ?_
              · clear hSw; go_simp; all_goals (try first | rfl | omega)
              try simp only [Act.put, List.getElem_toArray, List.getElem_cons_succ, List.getElem_cons_zero, List.setIfInBounds_toArray, List.set_cons_zero, List.set_cons_succ]
              refine wpAnyH_take (i := 10) (v := .slice ag MB.length cg) rfl (by kernel_rfl) (by kernel_rfl) (by kernel_rfl) (fun _ _ _ h => h) (Or.inl ⟨by rfl, fun w hSw => ?_⟩) hHeld ?_
              · clear hSw; go_simp; all_goals (try first | rfl | omega)
              try simp only [Act.put, List.getElem_toArray, List.getElem_cons_succ, List.getElem_cons_zero, List.setIfInBounds_toArray, List.set_cons_zero, List.set_cons_succ]
              refine wpAnyH_take (i := 11) (v := .int .i64 0) rfl (by kernel_rfl) (by kernel_rfl) (by kernel_rfl) (fun _ _ _ h => h) (Or.inl ⟨by rfl, fun w hSw => ?_⟩) hHeld ?_
              · clear hSw; go_simp; all_goals (try first | rfl | omega)
              try simp only [Act.put, List.getElem_toArray, List.getElem_cons_succ, List.getElem_cons_zero, List.setIfInBounds_toArray, List.set_cons_zero, List.set_cons_succ]
              refine wpAnyH_take (i := 12) (v := .slice ag MB.length cg) rfl (by kernel_rfl) (by kernel_rfl) (by kernel_rfl) (fun _ _ _ h => h) (Or.inl ⟨by rfl, fun w hSw => ?_⟩) hHeld ?_
              · clear hSw; go_simp; all_goals (try first | rfl | omega)
              try simp only [Act.put, List.getElem_toArray, List.getElem_cons_succ, List.getElem_cons_zero, List.setIfInBounds_toArray, List.set_cons_zero, List.set_cons_succ]
              refine wpAnyH_take (i := 13) (v := .int .i64 0) rfl (by kernel_rfl) (by kernel_rfl) (by kernel_rfl) (fun _ _ _ h => h) (Or.inl ⟨by rfl, fun w hSw => ?_⟩) hHeld ?_
              · clear hSw; go_simp; all_goals (try first | rfl | omega)
              try simp only [Act.put, List.getElem_toArray, List.getElem_cons_succ, List.getElem_cons_zero, List.setIfInBounds_toArray, List.set_cons_zero, List.set_cons_succ]
              refine wpAnyH_done (by kernel_rfl) ?_ _
              have HBg := Lib.hid (HBr.out.trans (HBwg.out.mono HBr.out.size))
              have HRAg := Lib.hid (HRAr.out.below HBwg.out (fun _ h => h))
              have HSUB := Lib.hid (show (crtSums L).Nodup → ∀ k ∈ MB, k ∈ MA from fun hn => by
                have h1 := HNB.out
                rw [HIX.out hn] at h1
                exact HMA.out.sub (List.getElem_mem pbl) h1)
              have hlb := HNB.out.len
              clear hHeld HDKB HEB HIX HBwg HBd zwd zwg
              generalize hBB : histD L MB = QB at *
              have HBB := Lib.hid hBB
              have lBB : QB.length = MB.length := by rw [← hBB, histD_len]
              have lB1 : QB.length ≤ MB.length := by omega
              have lB2 : MB.length ≤ QB.length := by omega
              clear hBB lBB
              go_wp2_with fail
              go_loopw [19] (fun u ws => ∃ j : Nat, j ≤ MB.length ∧ u = .int .i64 j ∧ Below wg.heap.size wg ws) (fun u _ => MB.length - (intOf u).toNat)
              case atStart => exact ⟨0, Nat.zero_le _, rfl, Below.refl _ _⟩
              case round =>
                rename World => ws
                obtain ⟨j, hj, rfl, hBs⟩ := hrel
                have HBs := Lib.hid hBs
                have HRAs := Lib.hid (HRAg.out.below hBs (fun _ h => h))
                have HRBs := Lib.hid (HRB.out.below hBs (fun _ h => h))
                clear hBs
                have HBF := Lib.hid (HBg.out.trans (HBs.out.mono HBg.out.size))
                have HBE := Lib.hid (HB.out.trans (HBF.out.mono HB.out.size))
                by_cases hjt : j < MB.length
                · have j0 : (0 : Int) ≤ (j : Int) := by omega
                  have j1 : (j : Int) < (MB.length : Int) := by omega
                  have wj : IntKind.i64.wrap ((j : Int) + 1) = (j : Int) + 1 := IntWalk.i64_in _ (by omega)
                  have hjQ : j < QB.length := by omega
                  obtain ⟨bj, oj, vj, rfl, -, ej, hqj⟩ := HRBs.out.cellS j hjQ
                  obtain ⟨adj, capj, rfl, -, -⟩ := hqj.form
                  have HDJ := Lib.hid hqj
                  have HFD := Lib.hid (show (crtSums L).Nodup → 0 ≤ idxP (isB QB[j]) QA from fun hn => by
                    have e1 := HBB.out
                    have e2 := HAA.out
                    subst e1 e2
                    exact sub_found (HSUB.out hn) hjQ)
                  clear hqj
                  generalize QB[j] = dj at *
                  obtain ⟨kz, hkz⟩ : ∃ kz, kz = idxP (isB dj) QA := ⟨_, rfl⟩
                  rw [← hkz] at HFD
                  have HKZ := Lib.hid hkz.symm
                  clear hkz
                  go_wp2_with fail
                  refine (sat_any _ _ _ HRAs.out HDJ.out).mono ?_
                  rintro e w' ⟨rfl, rfl⟩
                  rw [HKZ.out]
                  by_cases hneg : kz < 0
                  · go_wp2
                    go_ret
                    exact ⟨false, rfl, fun hn => (by rw [HLL.out] at hn; have := HFD.out hn; omega), HBE.out⟩
                  · go_wp2
                    go_roundw
                    case rel => exact ⟨j + 1, by omega, by go_num, HBs.out⟩
                    case measure => simp [intOf]; omega
                · obtain rfl : j = MB.length := by omega
                  have t1 : ¬ (MB.length : Int) < (MB.length : Int) := by omega
                  go_wp2
                  go_ret
                  exact .inr ⟨rfl, HBE.out⟩
            exact AllReadyH.nil
          exact AllReadyH.nil
    exact AllReadyH.nil
  exact AllReadyH.nil
end Go.Proofs.YtpfmmncnhlfdgaaDoor
namespace Go.Proofs.YtpfmmncnhlfdgaaDoor
open Go Go.RowKit
theorem gsum_nodup {l : List Stp} (h : gsumB l = false) : (crtSums (grownL l)).Nodup := clear_of (grown_ok l) h
set_option maxRecDepth 100000 in
set_option maxHeartbeats 8000000 in
theorem historyLeast_walk (v : Value) (l : List Stp) (n : Int) (m : Int) (w : World) (hv : RdS RStp (fun _ => True) w v l) (hz : l.length * 24 ≤ reachBytes) (n1 : -9223372036854775808 ≤ n) (n2 : n ≤ 9223372036854775807) (m1 : -9223372036854775808 ≤ m) (m2 : m ≤ 9223372036854775807) (ht : Tabs w) :
    Calls Tryd.prog 5 #[v, .int .i64 n, .int .i64 m] w fun e w' => e = .returned (.bool true) ∧ Below w.heap.size w w' := by
  go_enter Tryd.func5, Tryd.ntmps5
  go_wp2_with fail
  refine (historyLeast_any _ l n m _ hv hz n1 n2 m1 m2 ht).mono ?_
  rintro e w1 ⟨b, rfl, hn, hb1⟩
  have HN := Lib.hid hn
  clear hn
  cases b with
  | true =>
    go_wp2
    go_ret
    exact ⟨rfl, hb1⟩
  | false =>
    have hg : gsumB l = true := by
      by_cases q : gsumB l = true
      · exact q
      · have := HN.out (gsum_nodup (by simpa using q)); cases this
    go_wp2_with fail
    refine (grownSum_any _ _ (hv.below hb1 (fun _ h => h)) hz (ht.belowS hb1)).mono ?_
    rintro e w2 ⟨rfl, hb2⟩
    rw [hg]
    go_wp2
    go_ret
    exact ⟨rfl, hb1.trans (hb2.mono hb1.size)⟩
end Go.Proofs.YtpfmmncnhlfdgaaDoor
