/- DagVoters: the walk. -/
import Derived.Test.YtlailhhffejbbaaDoorVotLaw
import Derived.Test.YtlailhhffejbbaaDoorSome
import Derived.Test.YtlailhhffejbbaaDoorGrown
set_option linter.unusedVariables false
set_option linter.unusedSimpArgs false
attribute [local go_sem ↓] Go.wp_at_zero Go.wp_at_succ
namespace Go.Proofs.YtlailhhffejbbaaDoor
open Go Go.RowKit

theorem ownsRow_some {w : World} {base e size n : Nat} {v : Value} {xs : List Value} (h : w.ownsRow base e size v n xs) (hn : 0 < n) : ∃ g cap, v = .slice (some ⟨g, 0, none⟩) n cap := by
  rcases h.2 with ⟨-, h0⟩ | ⟨g, cap, cur, hv, -⟩
  · omega
  · exact ⟨g, cap, hv⟩
theorem LstV.setCellB {α : Type} {R : Rel α} {G : Nat → Prop} {base e : Nat} {w : World} {v : Value} {l : List α} {vs : List Value} (h : LstV R G base e w v l vs) {p : Addr} (hp : p.block < base) (hG : ¬ G p.block) (u : Value) : LstV R G base e (w.setCell p u) v l vs := by
  refine ⟨ownsRow_setCell h.1 hp u, fun j x hx => R.keep (h.2 j x hx) (Keep.setCell (fun h => hG h.1) u) (fun b hb => ⟨hb.1, ?_, hb.2.2⟩)⟩
  have : (w.setCell p u).heap.size = w.heap.size := by simp [World.setCell]
  omega
theorem LstV.some4 {G : Nat → Prop} {base e g n cap : Nat} {w : World} {l : List Crt} {vals : List Value} (h : LstV RCert G base e w (.slice (some ⟨g, 0, none⟩) n cap) l vals) {j : Nat} (hj : j < l.length) :
    ∃ c, w.cell? ⟨g, j * 5 + 4, none⟩ = some c ∧ w.frozen? ⟨g, j * 5 + 4, none⟩ = false := by
  have hr := RCert.len (h.2 j l[j] (List.getElem?_eq_getElem hj))
  have h4 : 4 < ((vals.drop (j * RCert.size)).take RCert.size).length := by rw [hr]; decide
  exact ⟨_, h.cellOf (j := j) (t := 4) hj (by decide) (List.getElem?_eq_getElem h4)⟩
set_option maxRecDepth 100000 in
set_option maxHeartbeats 8000000 in
theorem dagVoters_walk (v : Value) (l : List Stp) (n m : Int) (w : World) (hv : RdS RStp (fun _ => True) w v l) (hz : l.length * 24 ≤ reachBytes) (n1 : -9223372036854775808 ≤ n) (n2 : n ≤ 9223372036854775807) (m1 : -9223372036854775808 ≤ m) (m2 : m ≤ 9223372036854775807) (ht : Tabs w) :
    Calls Tryd.prog 5 #[v, .int .i64 n, .int .i64 m] w fun e w' => e = .returned (.bool true) ∧ Below w.heap.size w w' := by
  have HT := Lib.hid ht
  go_enter Tryd.func5, Tryd.ntmps5
  go_wp2_with fail
  refine (grown_any _ _ hv hz ht).mono ?_
  rintro e w1 ⟨vd, vb, rfl, hd, -, hb1⟩
  obtain ⟨add, capd, rfl, -, -⟩ := hd.form
  have HD1 := Lib.hid hd
  have HB1 := Lib.hid hb1
  clear hd hb1 ht hv
  go_upto_region 2 with fail
  obtain ⟨w2, hw2⟩ : ∃ w2, w2 = w1.alloc (.cells #[.slice add (grownL l).length capd] 27) := ⟨_, rfl⟩
  have HX := Lib.hid (show BoxAt w2 w1.heap.size [.slice add (grownL l).length capd] 27 by rw [hw2]; exact BoxAt.new w1 [_] _)
  have hB2 : Below w1.heap.size w1 w2 := by rw [hw2]; exact (Below.refl _ _).alloc (Nat.le_refl _) _
  rw [← hw2]
  have HD := Lib.hid ((HD1.out.mono (G' := fun _ => True) (fun _ _ => trivial)).below hB2 (fun _ h => h))
  have HB := Lib.hid (HB1.out.trans (hB2.mono HB1.out.size))
  have HOK := Lib.hid (grown_ok l)
  have hz2 := HX.out.lt
  have hzw2 := HB.out.size
  clear hw2 hB2 HD1 HB1
  have hg4 := grown_len l
  have hgp := grown_pos l
  generalize grownL l = L at *
  have HH := Lib.hid (fun c (hc : c ∈ L) => (crt_partsP ((dagOk_iff.1 HOK.out).2.1 c hc)).1)
  replace HD := Lib.hid ((HD.out.low (by decide)).mono (G' := fun b => b < w2.heap.size) (fun b hb => hb.2))
  have x0 := HX.out.cell 0 rfl
  have e0 : ((L.length : Int) == 0) = false := by rw [beq_eq_false_iff_ne]; omega
  obtain ⟨r1, r2⟩ := pickedZ_range n (L.length : Int) (by omega)
  obtain ⟨i, hi'⟩ : ∃ i : Nat, (i : Int) = pickedZ n (L.length : Int) := ⟨(pickedZ n (L.length : Int)).toNat, by omega⟩
  rw [← hi'] at r1 r2
  have HPK := Lib.hid hi'.symm
  clear hi' r1
  have hi : i < L.length := by omega
  obtain ⟨M, hM⟩ : ∃ M, M = L.set i ⟨L[i].h, votersL m⟩ := ⟨_, rfl⟩
  have HVA := Lib.hid (vot_all HOK.out hi m)
  have HMi := Lib.hid (show M[i]? = some ⟨L[i].h, votersL m⟩ by rw [hM]; exact List.getElem?_set_self hi)
  go_upto_region 5 with (go_at_call 19; refine (picked_any n (L.length : Int) _ n1 n2 (by omega) (by omega)).mono ?_; rintro e w' ⟨rfl, rfl⟩; rw [HPK.out])
  clear e0 HPK
  go_upto_region 6 with fail
  obtain ⟨w3, hwl⟩ : ∃ w3, w3 = (w2.alloc (.cells #[.slice add L.length capd] 27)) := ⟨_, rfl⟩
  have hBl : Below w2.heap.size w2 w3 := by rw [hwl]; exact ((Below.refl _ _).alloc (by first | exact Nat.le_refl _ | (simp; done) | (simp; omega)) _)
  have HX2 := Lib.hid (show BoxAt w3 w2.heap.size [.slice add L.length capd] 27 by rw [hwl]; exact BoxAt.new w2 [.slice add L.length capd] _)
  rw [← hwl]
  replace HX := Lib.hid (HX.out.belowS hBl)
  replace HD := Lib.hid (HD.out.below hBl (fun _ h => h))
  replace HB := Lib.hid (HB.out.trans (hBl.mono HB.out.size))
  clear hwl hBl
  clear x0
  have x0 := HX.out.cell 0 rfl
  have z3 := HX2.out.lt
  have zx := HX.out.lt
  have zb3 := HB.out.size
  obtain ⟨vals, hsc, hon, hco⟩ := HD.out.copyOf (by decide) RCert_one 38
  have HSC := Lib.hid hsc
  have HON := Lib.hid hon
  have HCO := Lib.hid hco
  clear hsc hon hco
  go_upto_region 7 with (at_builtin; refine wpList_append_sl rfl _ _ 25 rfl elemCrt w3.heap.size (.slice none 0 0) rfl 0 [] (World.ownsRow_nil _ _ _ _) _ rfl L.length vals HSC.out HON.out (by unfold maxLen; omega) (by omega) (Nat.le_refl _) ?_; intro v4 w4 hown4 hgr4; have hLV := HCO.out w3 w4 v4 (Below.refl _ _) hown4 hgr4; rw [Nat.zero_add] at hown4; obtain ⟨g, cap4, rfl⟩ := ownsRow_some hown4 (by omega); have hb4 : Below w3.heap.size w3 w4 := (Below.refl _ _).grown hgr4 (Nat.le_refl _) (fun k hk => by simp [Value.ownBlock] at hk); have hx4 := HX2.out.belowS hb4; have xc := hx4.cell 0 rfl; have xf := hx4.free 0; have xl := hx4.lt; clear hown4 hgr4)
  have zg := hLV.lt g rfl
  obtain ⟨w5, hw5⟩ : ∃ w5, w5 = w4.setCell ⟨w2.heap.size, 0, none⟩ (.slice (some ⟨g, 0, none⟩) L.length cap4) := ⟨_, rfl⟩
  have hz45 : w5.heap.size = w4.heap.size := by rw [hw5]; simp [World.setCell]
  have HL := Lib.hid (show LstV RCert _ w3.heap.size 38 w5 (.slice (some ⟨g, 0, none⟩) L.length cap4) L vals by rw [hw5]; exact hLV.setCellB z3 (fun q => q.elim (fun q => absurd q.1 (Nat.lt_irrefl _)) (fun q => absurd z3 (Nat.not_lt.2 q))) _)
  replace HX2 := Lib.hid (show BoxAt w5 w2.heap.size [.slice (some ⟨g, 0, none⟩) L.length cap4] 27 by rw [hw5]; exact hx4.set 0 _)
  replace HX := Lib.hid (show BoxAt w5 w1.heap.size [.slice add L.length capd] 27 by rw [hw5]; exact (HX.out.belowS hb4).setOther (by show w1.heap.size ≠ w2.heap.size; omega) _)
  replace HD := Lib.hid (show RdS RCert (fun b => b < w2.heap.size) w5 (.slice add L.length capd) L by rw [hw5]; exact (HD.out.below hb4 (fun _ h => h)).keep (Keep.setCell (by simp) _) (fun _ h => h))
  replace HB := Lib.hid (show Below w.heap.size w w5 by rw [hw5]; exact (HB.out.trans (hb4.mono HB.out.size)).setCell (by show w.heap.size ≤ w2.heap.size; omega) _)
  rw [← hw5]
  have z35 : w3.heap.size ≤ w5.heap.size := by rw [hz45]; exact hb4.size
  have zg1 := zg.1
  have zg2 : g < w5.heap.size := by rw [hz45]; exact zg.2
  clear hw5 hLV hb4 hx4 xc xf xl x0 zg hz45 HSC HON HCO
  refine wp_region_held_drew (S := fun w' => Below w3.heap.size w5 w') (by kernel_rfl) (by exact (Below.refl _ _).drew) (fun hHeld => ?_)
  refine wpAnyH_take (i := 0) (v := .pointer (some ⟨w2.heap.size, 0, none⟩)) rfl (by kernel_rfl) (by kernel_rfl) (by kernel_rfl) (fun _ _ _ h => h) (Or.inl ⟨by rfl, fun w hSw => ?_⟩) hHeld ?_
  · clear hSw; go_simp; all_goals (try first | rfl | omega)
  try simp only [Act.put, List.getElem_toArray, List.getElem_cons_succ, List.getElem_cons_zero, List.setIfInBounds_toArray, List.set_cons_zero, List.set_cons_succ]
  refine wpAnyH_take (i := 1) (v := .slice (some ⟨g, 0, none⟩) L.length cap4) rfl (by kernel_rfl) (by kernel_rfl) (by kernel_rfl) (fun _ _ _ h => h) (Or.inl ⟨by rfl, fun w hSw => ?_⟩) hHeld ?_
  · have q0 := (HX2.out.below hSw z3).cell 0 rfl; clear hSw; go_simp
  try simp only [Act.put, List.getElem_toArray, List.getElem_cons_succ, List.getElem_cons_zero, List.setIfInBounds_toArray, List.set_cons_zero, List.set_cons_succ]
  refine wpAnyH_take (i := 2) (v := .int .i64 (i : Int)) rfl (by kernel_rfl) (by kernel_rfl) (by kernel_rfl) (fun _ _ _ h => h) (Or.inl ⟨by rfl, fun w hSw => ?_⟩) hHeld ?_
  · clear hSw; go_simp; all_goals (try first | rfl | omega)
  try simp only [Act.put, List.getElem_toArray, List.getElem_cons_succ, List.getElem_cons_zero, List.setIfInBounds_toArray, List.set_cons_zero, List.set_cons_succ]
  refine wpAnyH_take (i := 3) (v := .int .i64 m) rfl (by kernel_rfl) (by kernel_rfl) (by kernel_rfl) (fun _ _ _ h => h) (Or.inl ⟨by rfl, fun w hSw => ?_⟩) hHeld ?_
  · clear hSw; go_simp; all_goals (try first | rfl | omega)
  try simp only [Act.put, List.getElem_toArray, List.getElem_cons_succ, List.getElem_cons_zero, List.setIfInBounds_toArray, List.set_cons_zero, List.set_cons_succ]
  refine wpAnyH_ready (rs := [4]) (by kernel_rfl) (by simp) ?_
  refine AllReadyH.cons rfl (fun K hK => ?_) ?_
  · rw [if_pos (by rfl)]
    go_simp
    go_at_call 20
    refine (voters_any m _ m1 m2).mono ?_
    rintro e wv ⟨vv, rfl, hov, hb_wv⟩
    obtain ⟨adv, capv, rfl⟩ := ownsRow_form hov
    have hb7 : Below w5.heap.size w5 wv := ((Below.refl w5.heap.size w5).drew).trans hb_wv
    have HRV := Lib.hid (show RdI (fun b => b ≠ g) wv (.slice adv (votersL m).length capv) (votersL m) from RdS.of_owns hov (fun b hb => by have h0 : w5.heap.size ≤ b := hb; omega))
    have HLw := Lib.hid (HL.out.below hb7)
    have HBw := Lib.hid hb7
    have zgw : g < wv.heap.size := Nat.lt_of_lt_of_le zg2 hb7.size
    clear hov hb_wv hb7
    show K _ _
    refine hK.out _ _ (by exact HBw.out.mono z35) (fun hHeld => ?_)
    clear hK K
    try simp only [Act.put, List.getElem_toArray, List.getElem_cons_succ, List.getElem_cons_zero, List.setIfInBounds_toArray, List.set_cons_zero, List.set_cons_succ]
    refine wpAnyH_take (i := 5) (v := .pointer (some ⟨g, i * 5, none⟩)) rfl (by kernel_rfl) (by kernel_rfl) (by kernel_rfl) (fun _ _ _ h => h) (Or.inl ⟨by rfl, fun w hSw => ?_⟩) hHeld ?_
    · clear hSw; go_simp; all_goals (try first | rfl | omega)
    try simp only [Act.put, List.getElem_toArray, List.getElem_cons_succ, List.getElem_cons_zero, List.setIfInBounds_toArray, List.set_cons_zero, List.set_cons_succ]
    refine wpAnyH_take (i := 6) (v := .pointer (some ⟨g, i * 5 + 4, none⟩)) rfl (by kernel_rfl) (by kernel_rfl) (by kernel_rfl) (fun _ _ _ h => h) (Or.inl ⟨by rfl, fun w hSw => ?_⟩) hHeld ?_
    · clear hSw; go_simp; all_goals (try first | rfl | omega)
    try simp only [Act.put, List.getElem_toArray, List.getElem_cons_succ, List.getElem_cons_zero, List.setIfInBounds_toArray, List.set_cons_zero, List.set_cons_succ]
    refine wpAnyH_ready (rs := [7]) (by kernel_rfl) (by simp) ?_
    refine AllReadyH.cons rfl (fun K hK => ?_) ?_
    · rw [if_pos (by rfl)]
      obtain ⟨oc, qc, qf⟩ := HLw.out.some4 hi
      go_simp
      show K _ _
      refine hK.out _ _ (by exact Below.setCell (HBw.out.mono z35) (p := ⟨g, i * 5 + 4, none⟩) zg1 _) (fun hHeld => ?_)
      clear hK K
      try simp only [Act.put, List.getElem_toArray, List.getElem_cons_succ, List.getElem_cons_zero, List.setIfInBounds_toArray, List.set_cons_zero, List.set_cons_succ]
      refine wpAnyH_done (by kernel_rfl) ?_ _
      obtain ⟨w7, hwz⟩ : ∃ w7, w7 = wv.setCell ⟨g, i * 5 + 4, none⟩ (.slice adv (votersL m).length capv) := ⟨_, rfl⟩
      have HMM := Lib.hid (show RdS RCert (fun _ => True) w7 (.slice (some ⟨g, 0, none⟩) L.length cap4) M by rw [hwz, hM]; exact HLw.out.setCrt hi HRV.out)
      have hbz : Below w3.heap.size w5 w7 := by rw [hwz]; exact Below.setCell (HBw.out.mono z35) (p := ⟨g, i * 5 + 4, none⟩) zg1 _
      rw [← hwz]
      replace HX := Lib.hid (HX.out.below hbz (by omega))
      replace HX2 := Lib.hid (HX2.out.below hbz z3)
      replace HD := Lib.hid (HD.out.keep (Keep.belowB hbz (fun b h => Nat.lt_trans h z3)) (fun _ h => h))
      replace HB := Lib.hid (HB.out.trans (hbz.mono zb3))
      clear hwz hbz hHeld HL HLw HBw HRV
      have HML := Lib.hid (show M.length = L.length by rw [hM]; exact HVA.out.1)
      have HMO := Lib.hid (show dagOk M = true by rw [hM]; exact HVA.out.2.1)
      have HMS := Lib.hid (show crtSums M = crtSums L by rw [hM]; exact HVA.out.2.2.1)
      have HMR := Lib.hid (show roundL M = roundL L by rw [hM]; exact HVA.out.2.2.2.1)
      have HMH := Lib.hid (show ∀ c ∈ M, hdrCode c.h = 0 by rw [hM]; exact HVA.out.2.2.2.2.1)
      have HIN := Lib.hid HVA.out.2.2.2.2.2
      clear hM HVA
      have x0 := HX.out.cell 0 rfl
      go_wp2_with fail
      refine (digestsOf_any _ _ HD.out HH.out (by omega) (HT.out.belowS HB.out)).mono ?_
      rintro e w8 ⟨va, rfl, hS, hb8⟩
      obtain ⟨ada, capa, rfl, -, hma⟩ := hS.form
      unfold maxLen at hma
      have HS := Lib.hid (hS.mono (G' := fun _ => True) (fun _ _ => trivial))
      replace HX := Lib.hid (HX.out.belowS hb8)
      replace HX2 := Lib.hid (HX2.out.belowS hb8)
      replace HD := Lib.hid (HD.out.below hb8 (fun _ h => h))
      replace HMM := Lib.hid (HMM.out.below hb8 (fun _ h => h))
      replace HB := Lib.hid (HB.out.trans (hb8.mono HB.out.size))
      have hSL := crtSums_len L
      clear hb8 hS x0
      obtain ⟨DS, hDS⟩ : ∃ DS, DS = crtSums L := ⟨_, rfl⟩
      have HDS := Lib.hid hDS
      rw [← hDS] at HS hSL HMS ⊢
      have hSL1 : DS.length ≤ L.length := by omega
      have hSL2 : L.length ≤ DS.length := by omega
      clear hDS hSL
      have x0 := HX.out.cell 0 rfl
      have y0 := HX2.out.cell 0 rfl
      go_wp2_with fail
      refine (digestsOf_any _ _ HMM.out HMH.out (by rw [HML.out]; omega) (HT.out.belowS HB.out)).mono ?_
      rintro e w9 ⟨vb2, rfl, hS, hb9⟩
      rw [HMS.out] at hS
      obtain ⟨adb2, capb2, rfl, -, hmb⟩ := hS.form
      unfold maxLen at hmb
      have HS2 := Lib.hid (hS.mono (G' := fun _ => True) (fun _ _ => trivial))
      replace HX := Lib.hid (HX.out.belowS hb9)
      replace HX2 := Lib.hid (HX2.out.belowS hb9)
      replace HD := Lib.hid (HD.out.below hb9 (fun _ h => h))
      replace HMM := Lib.hid (HMM.out.below hb9 (fun _ h => h))
      replace HB := Lib.hid (HB.out.trans (hb9.mono HB.out.size))
      replace HS := Lib.hid (HS.out.below hb9 (fun _ h => h))
      clear hb9 hS x0 y0
      have hiM : i < M.length := by rw [HML.out]; exact hi
      obtain ⟨bc, oc, xb, xp, xv, hbo, -, c0, c1, c2, c3, c4, hxb, hxp, hxv⟩ := HMM.out.crt i hiM
      simp only [Option.some.injEq, Addr.mk.injEq, and_true] at hbo
      obtain ⟨rfl, rfl⟩ := hbo
      have hMe : M[i] = ⟨L[i].h, votersL m⟩ := by have := HMi.out; rw [List.getElem?_eq_getElem hiM] at this; exact Option.some.inj this
      rw [hMe] at c0 c1 hxb hxp hxv
      simp only [Nat.zero_add] at c0 c1 c2 c3 c4
      clear hMe hiM HMi
      generalize L[i].h = h at *
      generalize votersL m = V at *
      obtain ⟨ub, ubc, rfl, -, -⟩ := hxb.form
      obtain ⟨up, upc, rfl, -, -⟩ := hxp.form
      obtain ⟨uv, uvc, rfl, -, -⟩ := hxv.form
      have H1 := Lib.hid hxb
      have H2 := Lib.hid hxp
      have H3 := Lib.hid hxv
      have HE := Lib.hid (And.intro c0 (And.intro c1 (And.intro c2 (And.intro c3 c4))))
      have hgw : g < w9.heap.size := World.block_lt_of_cell? w9 _ c0
      clear hxb hxp hxv c0 c1 c2 c3 c4
      go_upto_region 10 with fail
      go_cut [14] (fun e wx => e = .int .i64 7 ∧ Below w9.heap.size w9 wx)
      case first =>
        refine wp_region_held_drew (S := fun w' => Below w9.heap.size w9 w') (by kernel_rfl) (by exact (Below.refl _ _).drew) (fun hHeld => ?_)
        obtain ⟨wd, hwd⟩ : ∃ wd, wd = w9.drew := ⟨_, rfl⟩
        rw [← hwd] at hHeld ⊢
        have HBd := Lib.hid (show Below w9.heap.size w9 wd from hHeld)
        have zwd : w9.heap.size ≤ wd.heap.size := by rw [hwd]; exact Nat.le_refl _
        clear hwd
        refine wpAnyH_take (i := 0) (v := .agg #[.slice add L.length capd]) rfl (by kernel_rfl) (by kernel_rfl) (by kernel_rfl) (fun _ _ _ h => h) (Or.inl ⟨by rfl, fun w hSw => ?_⟩) hHeld ?_
        · have q0 := (HX.out.belowS hSw).cell 0 rfl; clear hSw; go_simp
        try simp only [Act.put, List.getElem_toArray, List.getElem_cons_succ, List.getElem_cons_zero, List.setIfInBounds_toArray, List.set_cons_zero, List.set_cons_succ]
        refine wpAnyH_take (i := 1) (v := .pointer (some ⟨w2.heap.size, 0, none⟩)) rfl (by kernel_rfl) (by kernel_rfl) (by kernel_rfl) (fun _ _ _ h => h) (Or.inl ⟨by rfl, fun w hSw => ?_⟩) hHeld ?_
        · clear hSw; go_simp; all_goals (try first | rfl | omega)
        try simp only [Act.put, List.getElem_toArray, List.getElem_cons_succ, List.getElem_cons_zero, List.setIfInBounds_toArray, List.set_cons_zero, List.set_cons_succ]
        refine wpAnyH_take (i := 2) (v := .slice (some ⟨g, 0, none⟩) L.length cap4) rfl (by kernel_rfl) (by kernel_rfl) (by kernel_rfl) (fun _ _ _ h => h) (Or.inl ⟨by rfl, fun w hSw => ?_⟩) hHeld ?_
        · have q0 := (HX2.out.belowS hSw).cell 0 rfl; clear hSw; go_simp
        try simp only [Act.put, List.getElem_toArray, List.getElem_cons_succ, List.getElem_cons_zero, List.setIfInBounds_toArray, List.set_cons_zero, List.set_cons_succ]
        refine wpAnyH_take (i := 3) (v := .int .i64 (i : Int)) rfl (by kernel_rfl) (by kernel_rfl) (by kernel_rfl) (fun _ _ _ h => h) (Or.inl ⟨by rfl, fun w hSw => ?_⟩) hHeld ?_
        · clear hSw; go_simp; all_goals (try first | rfl | omega)
        try simp only [Act.put, List.getElem_toArray, List.getElem_cons_succ, List.getElem_cons_zero, List.setIfInBounds_toArray, List.set_cons_zero, List.set_cons_succ]
        refine wpAnyH_take (i := 4) (v := .pointer (some ⟨g, i * 5, none⟩)) rfl (by kernel_rfl) (by kernel_rfl) (by kernel_rfl) (fun _ _ _ h => h) (Or.inl ⟨by rfl, fun w hSw => ?_⟩) hHeld ?_
        · clear hSw; go_simp; all_goals (try first | rfl | omega)
        try simp only [Act.put, List.getElem_toArray, List.getElem_cons_succ, List.getElem_cons_zero, List.setIfInBounds_toArray, List.set_cons_zero, List.set_cons_succ]
        refine wpAnyH_take (i := 5) (v := .agg #[.int .i64 h.a, .int .i64 h.r, .slice ub h.bs.length ubc, .slice up h.ps.length upc, .slice uv V.length uvc]) rfl (by kernel_rfl) (by kernel_rfl) (by kernel_rfl) (fun _ _ _ h => h) (Or.inl ⟨by rfl, fun w hSw => ?_⟩) hHeld ?_
        · have q0 := (hSw.cell (p := ⟨g, i * 5, none⟩) hgw).trans HE.out.1; have q1 := (hSw.cell (p := ⟨g, i * 5 + 1, none⟩) hgw).trans HE.out.2.1; have q2 := (hSw.cell (p := ⟨g, i * 5 + 2, none⟩) hgw).trans HE.out.2.2.1; have q3 := (hSw.cell (p := ⟨g, i * 5 + 3, none⟩) hgw).trans HE.out.2.2.2.1; have q4 := (hSw.cell (p := ⟨g, i * 5 + 4, none⟩) hgw).trans HE.out.2.2.2.2; clear hSw; go_simp
        try simp only [Act.put, List.getElem_toArray, List.getElem_cons_succ, List.getElem_cons_zero, List.setIfInBounds_toArray, List.set_cons_zero, List.set_cons_succ]
        refine wpAnyH_ready (rs := [6, 10]) (by kernel_rfl) (by simp) ?_
        refine AllReadyH.cons rfl (fun K hK => ?_) ?_
        · rw [if_pos (by rfl)]
          go_simp
          go_at_call 22
          refine (dagInsert_any ⟨h, V⟩ _ _ _ _ _ (HD.out.below HBd.out (fun _ h => h)) (H1.out.below HBd.out (fun _ h => h)) (H2.out.below HBd.out (fun _ h => h)) (H3.out.below HBd.out (fun _ h => h)) (HT.out.belowS (HB.out.trans (HBd.out.mono HB.out.size)))).mono ?_
          rintro e wi ⟨vI, rfl, hI, hb_wi⟩
          rw [HIN.out]
          obtain ⟨adI, capI, rfl, -, -⟩ := hI.form
          clear hI
          have HBwi := Lib.hid (HBd.out.trans (hb_wi.mono (Below.size HBd.out)))
          have zwi := hb_wi.size
          clear hb_wi
          show K _ _
          refine hK.out _ _ (by exact HBwi.out) (fun hHeld => ?_)
          clear hK K
          try simp only [Act.put, List.getElem_toArray, List.getElem_cons_succ, List.getElem_cons_zero, List.setIfInBounds_toArray, List.set_cons_zero, List.set_cons_succ]
          refine wpAnyH_take (i := 7) (v := .tuple #[.agg #[.slice adI (insL L ⟨h, V⟩).length capI], .int .i64 7]) rfl (by kernel_rfl) (by kernel_rfl) (by kernel_rfl) (fun _ _ _ h => h) (Or.inl ⟨by rfl, fun w hSw => ?_⟩) hHeld ?_
          · clear hSw; go_simp; all_goals (try first | rfl | omega)
          try simp only [Act.put, List.getElem_toArray, List.getElem_cons_succ, List.getElem_cons_zero, List.setIfInBounds_toArray, List.set_cons_zero, List.set_cons_succ]
          refine wpAnyH_take (i := 8) (v := .agg #[.slice adI (insL L ⟨h, V⟩).length capI]) rfl (by kernel_rfl) (by kernel_rfl) (by kernel_rfl) (fun _ _ _ h => h) (Or.inl ⟨by rfl, fun w hSw => ?_⟩) hHeld ?_
          · clear hSw; go_simp; all_goals (try first | rfl | omega)
          try simp only [Act.put, List.getElem_toArray, List.getElem_cons_succ, List.getElem_cons_zero, List.setIfInBounds_toArray, List.set_cons_zero, List.set_cons_succ]
          refine wpAnyH_take (i := 9) (v := .int .i64 7) rfl (by kernel_rfl) (by kernel_rfl) (by kernel_rfl) (fun _ _ _ h => h) (Or.inl ⟨by rfl, fun w hSw => ?_⟩) hHeld ?_
          · clear hSw; go_simp; all_goals (try first | rfl | omega)
          try simp only [Act.put, List.getElem_toArray, List.getElem_cons_succ, List.getElem_cons_zero, List.setIfInBounds_toArray, List.set_cons_zero, List.set_cons_succ]
          refine wpAnyH_ready (rs := [10]) (by kernel_rfl) (by simp) ?_
          refine AllReadyH.cons rfl (fun K hK => ?_) ?_
          · rw [if_pos (by rfl)]
            go_simp
            show K _ _
            refine hK.out _ _ (by exact (HBwi.out.alloc (Below.size HBwi.out) _)) (fun hHeld => ?_)
            clear hK K
            try simp only [Act.put, List.getElem_toArray, List.getElem_cons_succ, List.getElem_cons_zero, List.setIfInBounds_toArray, List.set_cons_zero, List.set_cons_succ]
            obtain ⟨wa1, hwn⟩ : ∃ wa1, wa1 = wi.alloc (.cells #[.slice none 0 0] 27) := ⟨_, rfl⟩
            have FA1 := Lib.hid (show BoxAt wa1 (wi.heap.size) [.slice none 0 0] 27 by rw [hwn]; exact BoxAt.newAt wi [.slice none 0 0] 27 rfl)
            have HBwa1 := Lib.hid (show Below w9.heap.size w9 wa1 by rw [hwn]; exact HBwi.out.alloc (Below.size HBwi.out) _)
            rw [← hwn] at hHeld ⊢
            clear hwn
            have zwa1 := FA1.out.lt
            refine wpAnyH_ready (rs := [11]) (by kernel_rfl) (by simp) ?_
            refine AllReadyH.cons rfl (fun K hK => ?_) ?_
            · rw [if_pos (by rfl)]
              have q0 := FA1.out.cell 0 rfl
              have qf0 := FA1.out.free 0
              have qz := FA1.out.lt
              go_simp
              show K _ _
              refine hK.out _ _ (by exact (HBwa1.out.setCell (p := ⟨wi.heap.size, 0, none⟩) (by simp; omega) (.slice adI (insL L ⟨h, V⟩).length capI))) (fun hHeld => ?_)
              clear hK K
              try simp only [Act.put, List.getElem_toArray, List.getElem_cons_succ, List.getElem_cons_zero, List.setIfInBounds_toArray, List.set_cons_zero, List.set_cons_succ]
              refine wpAnyH_take (i := 12) (v := .int .i64 7) rfl (by kernel_rfl) (by kernel_rfl) (by kernel_rfl) (fun _ _ _ h => h) (Or.inl ⟨by rfl, fun w hSw => ?_⟩) hHeld ?_
              · clear hSw; go_simp; all_goals (try first | rfl | omega)
              try simp only [Act.put, List.getElem_toArray, List.getElem_cons_succ, List.getElem_cons_zero, List.setIfInBounds_toArray, List.set_cons_zero, List.set_cons_succ]
              refine wpAnyH_done (by kernel_rfl) ?_ _
              obtain ⟨wz, hwz⟩ : ∃ wz, wz = (wa1.setCell ⟨wi.heap.size, 0, none⟩ (.slice adI (insL L ⟨h, V⟩).length capI)) := ⟨_, rfl⟩
              have HBz := Lib.hid (show Below w9.heap.size w9 wz by rw [hwz]; exact (HBwa1.out.setCell (p := ⟨wi.heap.size, 0, none⟩) (by simp; omega) (.slice adI (insL L ⟨h, V⟩).length capI)))
              go_wp2
              rw [← hwz]
              clear hwz
              go_meet
              exact ⟨rfl, HBz.out⟩
            exact AllReadyH.nil
          exact AllReadyH.nil
        refine AllReadyH.cons rfl (fun K hK => ?_) ?_
        · rw [if_pos (by rfl)]
          go_simp
          show K _ _
          refine hK.out _ _ (by exact (HBd.out.alloc (Below.size HBd.out) _)) (fun hHeld => ?_)
          clear hK K
          try simp only [Act.put, List.getElem_toArray, List.getElem_cons_succ, List.getElem_cons_zero, List.setIfInBounds_toArray, List.set_cons_zero, List.set_cons_succ]
          obtain ⟨wa1, hwn⟩ : ∃ wa1, wa1 = wd.alloc (.cells #[.slice none 0 0] 27) := ⟨_, rfl⟩
          have FA1 := Lib.hid (show BoxAt wa1 (wd.heap.size) [.slice none 0 0] 27 by rw [hwn]; exact BoxAt.newAt wd [.slice none 0 0] 27 rfl)
          have HBwa1 := Lib.hid (show Below w9.heap.size w9 wa1 by rw [hwn]; exact HBd.out.alloc (Below.size HBd.out) _)
          rw [← hwn] at hHeld ⊢
          clear hwn
          have zwa1 := FA1.out.lt
          refine wpAnyH_ready (rs := [6]) (by kernel_rfl) (by simp) ?_
          refine AllReadyH.cons rfl (fun K hK => ?_) ?_
          · rw [if_pos (by rfl)]
            go_simp
            go_at_call 22
            refine (dagInsert_any ⟨h, V⟩ _ _ _ _ _ (HD.out.below HBwa1.out (fun _ h => h)) (H1.out.below HBwa1.out (fun _ h => h)) (H2.out.below HBwa1.out (fun _ h => h)) (H3.out.below HBwa1.out (fun _ h => h)) (HT.out.belowS (HB.out.trans (HBwa1.out.mono HB.out.size)))).mono ?_
            rintro e wi ⟨vI, rfl, hI, hb_wi⟩
            rw [HIN.out]
            obtain ⟨adI, capI, rfl, -, -⟩ := hI.form
            clear hI
            have HBwi := Lib.hid (HBwa1.out.trans (hb_wi.mono (Below.size HBwa1.out)))
            replace FA1 := Lib.hid (FA1.out.belowS hb_wi)
            have zwi := hb_wi.size
            clear hb_wi
            show K _ _
            refine hK.out _ _ (by exact HBwi.out) (fun hHeld => ?_)
            clear hK K
            try simp only [Act.put, List.getElem_toArray, List.getElem_cons_succ, List.getElem_cons_zero, List.setIfInBounds_toArray, List.set_cons_zero, List.set_cons_succ]
            refine wpAnyH_take (i := 7) (v := .tuple #[.agg #[.slice adI (insL L ⟨h, V⟩).length capI], .int .i64 7]) rfl (by kernel_rfl) (by kernel_rfl) (by kernel_rfl) (fun _ _ _ h => h) (Or.inl ⟨by rfl, fun w hSw => ?_⟩) hHeld ?_
            · clear hSw; go_simp; all_goals (try first | rfl | omega)
            try simp only [Act.put, List.getElem_toArray, List.getElem_cons_succ, List.getElem_cons_zero, List.setIfInBounds_toArray, List.set_cons_zero, List.set_cons_succ]
            refine wpAnyH_take (i := 8) (v := .agg #[.slice adI (insL L ⟨h, V⟩).length capI]) rfl (by kernel_rfl) (by kernel_rfl) (by kernel_rfl) (fun _ _ _ h => h) (Or.inl ⟨by rfl, fun w hSw => ?_⟩) hHeld ?_
            · clear hSw; go_simp; all_goals (try first | rfl | omega)
            try simp only [Act.put, List.getElem_toArray, List.getElem_cons_succ, List.getElem_cons_zero, List.setIfInBounds_toArray, List.set_cons_zero, List.set_cons_succ]
            refine wpAnyH_take (i := 9) (v := .int .i64 7) rfl (by kernel_rfl) (by kernel_rfl) (by kernel_rfl) (fun _ _ _ h => h) (Or.inl ⟨by rfl, fun w hSw => ?_⟩) hHeld ?_
            · clear hSw; go_simp; all_goals (try first | rfl | omega)
            try simp only [Act.put, List.getElem_toArray, List.getElem_cons_succ, List.getElem_cons_zero, List.setIfInBounds_toArray, List.set_cons_zero, List.set_cons_succ]
            refine wpAnyH_ready (rs := [11]) (by kernel_rfl) (by simp) ?_
            refine AllReadyH.cons rfl (fun K hK => ?_) ?_
            · rw [if_pos (by rfl)]
              have q0 := FA1.out.cell 0 rfl
              have qf0 := FA1.out.free 0
              have qz := FA1.out.lt
              go_simp
              show K _ _
              refine hK.out _ _ (by exact (HBwi.out.setCell (p := ⟨wd.heap.size, 0, none⟩) (by simp; omega) (.slice adI (insL L ⟨h, V⟩).length capI))) (fun hHeld => ?_)
              clear hK K
              try simp only [Act.put, List.getElem_toArray, List.getElem_cons_succ, List.getElem_cons_zero, List.setIfInBounds_toArray, List.set_cons_zero, List.set_cons_succ]
              refine wpAnyH_take (i := 12) (v := .int .i64 7) rfl (by kernel_rfl) (by kernel_rfl) (by kernel_rfl) (fun _ _ _ h => h) (Or.inl ⟨by rfl, fun w hSw => ?_⟩) hHeld ?_
              · clear hSw; go_simp; all_goals (try first | rfl | omega)
              try simp only [Act.put, List.getElem_toArray, List.getElem_cons_succ, List.getElem_cons_zero, List.setIfInBounds_toArray, List.set_cons_zero, List.set_cons_succ]
              refine wpAnyH_done (by kernel_rfl) ?_ _
              obtain ⟨wz, hwz⟩ : ∃ wz, wz = (wi.setCell ⟨wd.heap.size, 0, none⟩ (.slice adI (insL L ⟨h, V⟩).length capI)) := ⟨_, rfl⟩
              have HBz := Lib.hid (show Below w9.heap.size w9 wz by rw [hwz]; exact (HBwi.out.setCell (p := ⟨wd.heap.size, 0, none⟩) (by simp; omega) (.slice adI (insL L ⟨h, V⟩).length capI)))
              go_wp2
              rw [← hwz]
              clear hwz
              go_meet
              exact ⟨rfl, HBz.out⟩
            exact AllReadyH.nil
          exact AllReadyH.nil
        exact AllReadyH.nil
      case rest =>
      obtain ⟨rfl, hb10⟩ := hcut
      rename World => w10
      replace HX := Lib.hid (HX.out.belowS hb10)
      replace HX2 := Lib.hid (HX2.out.belowS hb10)
      replace HD := Lib.hid (HD.out.below hb10 (fun _ h => h))
      replace HMM := Lib.hid (HMM.out.below hb10 (fun _ h => h))
      replace HB := Lib.hid (HB.out.trans (hb10.mono HB.out.size))
      replace HS := Lib.hid (HS.out.below hb10 (fun _ h => h))
      replace HS2 := Lib.hid (HS2.out.below hb10 (fun _ h => h))
      clear hb10 HE H1 H2 H3
      have x0 := HX.out.cell 0 rfl
      go_wp2_with fail
      refine (dagRound_any _ _ HD.out (HT.out.belowS HB.out) HOK.out).mono ?_
      rintro e w11 ⟨rfl, hb11⟩
      replace HX := Lib.hid (HX.out.belowS hb11)
      replace HX2 := Lib.hid (HX2.out.belowS hb11)
      replace HD := Lib.hid (HD.out.below hb11 (fun _ h => h))
      replace HMM := Lib.hid (HMM.out.below hb11 (fun _ h => h))
      replace HB := Lib.hid (HB.out.trans (hb11.mono HB.out.size))
      replace HS := Lib.hid (HS.out.below hb11 (fun _ h => h))
      replace HS2 := Lib.hid (HS2.out.below hb11 (fun _ h => h))
      clear hb11 x0
      have y0 := HX2.out.cell 0 rfl
      go_wp2_with fail
      refine (dagRound_any _ _ HMM.out (HT.out.belowS HB.out) HMO.out).mono ?_
      rintro e w12 ⟨rfl, hb12⟩
      rw [HMR.out]
      replace HB := Lib.hid (HB.out.trans (hb12.mono HB.out.size))
      replace HS := Lib.hid (HS.out.below hb12 (fun _ h => h))
      replace HS2 := Lib.hid (HS2.out.below hb12 (fun _ h => h))
      clear hb12 y0
      have hiD : i < DS.length := by omega
      obtain ⟨bq, oq, vq, rfl, -, es, hs⟩ := HS.out.cellS i hiD
      obtain ⟨adk, capk, rfl, -, -⟩ := hs.form
      have HD32 : ∀ d ∈ DS, d.length = 32 := by
        rw [HDS.out]
        intro d hd
        obtain ⟨cc, -, rfl⟩ := List.mem_map.1 hd
        exact hdrSum_length _
      have h32 := HD32 _ (List.getElem_mem hiD)
      clear HD32
      rw [h32] at es
      have HES := Lib.hid es
      have i0 : (0 : Int) ≤ (i : Int) := by omega
      have i2 : (i : Int) < (DS.length : Int) := by omega
      clear h32 hs es
      generalize roundL L = rr at *
      go_wp2_with (go_at_call 24; refine (sameLists_any (l := DS) (m := DS) _ _ _ HS.out HS2.out).mono ?_; rintro e w' ⟨rfl, mm, rfl⟩; rw [decide_eq_true (rfl : DS = DS)]; have es2 : (w12.drewN mm).cell? ⟨bq, oq + i, none⟩ = some _ := HES.out)
      go_ret
      exact ⟨rfl, below_drewN HB.out _⟩
    exact AllReadyH.nil
  exact AllReadyH.nil
end Go.Proofs.YtlailhhffejbbaaDoor
