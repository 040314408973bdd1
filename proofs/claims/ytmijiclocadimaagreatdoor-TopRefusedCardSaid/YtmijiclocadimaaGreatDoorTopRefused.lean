/- TopRefused: the walk. -/
import Derived.Test.YtmijiclocadimaaGreatDoorTActSl
import Derived.Test.YtmijiclocadimaaGreatDoorTabs
import Derived.Test.YtmijiclocadimaaGreatDoorTRun
set_option linter.unusedVariables false
set_option linter.unusedSimpArgs false
attribute [local go_sem ↓] Go.wp_at_zero Go.wp_at_succ
namespace Go.Proofs.YtmijiclocadimaaGreatDoor
open Go Go.RowKit

theorem bent_len (AS : List LAct) {k : Nat} (hk : k ≤ AS.length) (b : LAct) : (AS.take k ++ [b] ++ AS.drop k).length = AS.length + 1 := by simp; omega
theorem bent_at {AS : List LAct} {k : Nat} (hk : k ≤ AS.length) (b : LAct) (h : k < (AS.take k ++ [b] ++ AS.drop k).length) : (AS.take k ++ [b] ++ AS.drop k)[k] = b := by
  rw [List.getElem_append_left (by simp; omega), List.getElem_append_right (by rw [List.length_take]; omega)]
  simp
theorem bent_lt {AS : List LAct} {k j : Nat} (hk : k ≤ AS.length) (b : LAct) (hj : j < k) (h : j < (AS.take k ++ [b] ++ AS.drop k).length) : (AS.take k ++ [b] ++ AS.drop k)[j] ∈ AS := by
  rw [List.getElem_append_left (by simp; omega), List.getElem_append_left (by simp; omega), List.getElem_take]
  exact List.getElem_mem _
set_option maxRecDepth 100000 in
set_option maxHeartbeats 8000000 in
theorem topRefused_walk (v : Value) (l : List GearD) (n a : Int) (w : World) (hv : RdS RGear (fun _ => True) w v l) (n1 : -9223372036854775808 ≤ n) (n2 : n ≤ 9223372036854775807) (a1 : -9223372036854775808 ≤ a) (a2 : a ≤ 9223372036854775807) (ht : Tabs w) :
    Calls Tryz.prog 5 #[v, .int .i64 n, .int .i64 a] w fun e w' => e = .returned (.bool true) ∧ Below w.heap.size w w' := by
  obtain ⟨cz, hzr, hmk0⟩ := made_acts 3001 (by omega)
  have HZR := Lib.hid hzr
  have hmk : ∀ w : World, (Instr.makeSlice 27 (.int .i64 3001) (.int .i64 3001)).run Tryz.prog w = .ok (.slice (some ⟨w.heap.size, 0, none⟩) 3001 3001) (w.alloc (.cells cz.toArray 30)) := hmk0
  clear hzr hmk0
  have hlz : (List.replicate 3001 actZ).length = 3001 := List.length_replicate
  have HLZ := Lib.hid hlz
  clear hlz
  go_enter Tryz.func5, Tryz.ntmps5
  go_wp2_with fail
  refine (acts_any _ 20 _ hv (by omega) (by omega)).mono ?_
  rintro e w1 ⟨va, rfl, hA, hb1⟩
  obtain ⟨AS, hAS⟩ : ∃ AS, AS = actsL l (20 : Int).toNat := ⟨_, rfl⟩
  rw [← hAS] at hA
  have hal : AS.length ≤ 20 := by rw [hAS, actsL_len]; simp; omega
  have HCD := Lib.hid (show ∀ x ∈ AS, actCode x = 0 by
    rw [hAS]; intro x hx
    obtain ⟨g, -, rfl⟩ := List.mem_map.1 hx
    exact code_gear g)
  have HB := Lib.hid hb1
  have hform : va = .slice none 0 0 ∧ AS.length = 0 ∨ ∃ ga ca, va = .slice (some ⟨ga, 0, none⟩) AS.length ca ∧ AS.length ≤ ca ∧ ca ≤ 9223372036854775807 := by
    obtain ⟨vals, ⟨q1, q2⟩, -⟩ := hA
    rcases q2 with ⟨rfl, q3⟩ | ⟨g, cap, cur, rfl, -, -, k1, k2, -, -⟩
    · exact .inl ⟨rfl, q3⟩
    · exact .inr ⟨g, cap, rfl, k1, by unfold maxLen at k2; omega⟩
  have HA := Lib.hid (hA.rd (G' := fun _ => True) (by decide) (fun _ _ _ => trivial) (fun _ _ _ => trivial))
  clear hAS hA hb1 hv
  obtain ⟨z, hz⟩ : ∃ z, z = pickedZ n 9 := ⟨_, rfl⟩
  have hzr := pickedZ_range n 9 (by omega)
  rw [← hz] at hzr
  obtain ⟨z0, z1⟩ := hzr
  have HZ := Lib.hid hz.symm
  clear hz
  have l1 : IntKind.i64.wrap (4 + z) = 4 + z := IntWalk.i64_in _ (by omega)
  have l2 : IntKind.i64.wrap (-2 - z) = -2 - z := IntWalk.i64_in _ (by omega)
  rcases hform with ⟨rfl, h0⟩ | ⟨ga, ca, rfl, hc1, hc2⟩
  ·
    go_wp2_with fail
    refine (Picked_any n 9 _ n1 n2 (by omega) (by omega)).mono ?_
    rintro e w' ⟨rfl, rfl⟩
    rw [HZ.out]
    go_wp2_with fail
    refine (run_range (4 + z) _ _ (.inr (by omega))).mono ?_
    rintro e w2 ⟨rfl, hb2⟩
    replace HA := Lib.hid (HA.out.below hb2 (fun _ h => h))
    replace HB := Lib.hid (HB.out.trans (hb2.mono HB.out.size))
    clear hb2
    go_upto_region 3 with fail
    obtain ⟨w3, hwl⟩ : ∃ w3, w3 = (w2.alloc (.cells #[.slice none 0 0, .slice none 0 0, .int .i64 0, .slice none 0 0] 36)) := ⟨_, rfl⟩
    have hBl : Below w2.heap.size w2 w3 := by rw [hwl]; exact ((Below.refl _ _).alloc (by first | exact Nat.le_refl _ | (simp; done) | (simp; omega)) _)
    have HO_w3 := Lib.hid (show BoxAt w3 w2.heap.size [.slice none 0 0, .slice none 0 0, .int .i64 0, .slice none 0 0] 36 by rw [hwl]; exact BoxAt.new w2 [_, _, _, _] _)
    rw [← hwl]
    replace HA := Lib.hid (HA.out.below hBl (fun _ h => h))
    replace HB := Lib.hid (HB.out.trans (hBl.mono HB.out.size))
    clear hwl hBl
    go_wp2_with fail
    refine (Picked_any n 9 _ n1 n2 (by omega) (by omega)).mono ?_
    rintro e w' ⟨rfl, rfl⟩
    rw [HZ.out]
    go_wp2_with fail
    refine (run_range (-2 - z) _ _ (.inl (by omega))).mono ?_
    rintro e w5 ⟨rfl, hb5⟩
    replace HA := Lib.hid (HA.out.below hb5 (fun _ h => h))
    replace HB := Lib.hid (HB.out.trans (hb5.mono HB.out.size))
    clear hb5
    go_upto_region 4 with fail
    obtain ⟨w6, hwl⟩ : ∃ w6, w6 = (w5.alloc (.cells #[.slice none 0 0, .slice none 0 0, .int .i64 0, .slice none 0 0] 36)) := ⟨_, rfl⟩
    have hBl : Below w5.heap.size w5 w6 := by rw [hwl]; exact ((Below.refl _ _).alloc (by first | exact Nat.le_refl _ | (simp; done) | (simp; omega)) _)
    have HO_w6 := Lib.hid (show BoxAt w6 w5.heap.size [.slice none 0 0, .slice none 0 0, .int .i64 0, .slice none 0 0] 36 by rw [hwl]; exact BoxAt.new w5 [_, _, _, _] _)
    rw [← hwl]
    replace HA := Lib.hid (HA.out.below hBl (fun _ h => h))
    replace HB := Lib.hid (HB.out.trans (hBl.mono HB.out.size))
    clear hwl hBl
    obtain rfl : AS = [] := List.eq_nil_of_length_eq_zero h0
    have hkr := pickedZ_range a 1 (by omega)
    have HK0 := Lib.hid (show pickedZ a 1 = 0 by omega)
    have l3 : IntKind.i64.wrap ((0 : Int) + 1) = 1 := by decide
    clear hkr
    go_wp2_with fail
    refine (Picked_any a 1 _ a1 a2 (by omega) (by omega)).mono ?_
    rintro e w' ⟨rfl, rfl⟩
    rw [HK0.out]
    have HS1 := Lib.hid (show SlCells w6 (.slice none 0 0) 0 4 (([] : List LAct).flatMap actCells) from acts_sl (RdS.nil RAct (fun _ => True) w6))
    have HS2 := HS1
    go_upto_region 5 with fail
    go_cut [13] (fun x wx => LstO RAct (fun _ => False) w6.heap.size 30 wx x (([] : List LAct) ++ [⟨2, 4, 0, []⟩] ++ ([] : List LAct)) ∧ Below w6.heap.size w6 wx)
    case first =>
      refine wp_region_held_drew (S := fun w' => Below w6.heap.size w6 w') (by kernel_rfl) (by exact (Below.refl _ _).drew) (fun hHeld => ?_)
      obtain ⟨wd, hwd⟩ : ∃ wd, wd = w6.drew := ⟨_, rfl⟩
      rw [← hwd] at hHeld ⊢
      have HBd := Lib.hid (show Below w6.heap.size w6 wd from hHeld)
      have zwd : w6.heap.size ≤ wd.heap.size := by rw [hwd]; exact Nat.le_refl _
      clear hwd
      refine wpAnyH_take (i := 0) (v := .slice none 0 0) rfl (by kernel_rfl) (by kernel_rfl) (by kernel_rfl) (fun _ _ _ h => h) (Or.inl ⟨by rfl, fun w hSw => ?_⟩) hHeld ?_
      · clear hSw; go_simp; all_goals (try first | rfl | omega)
      try simp only [Act.put, List.getElem_toArray, List.getElem_cons_succ, List.getElem_cons_zero, List.setIfInBounds_toArray, List.set_cons_zero, List.set_cons_succ]
      refine wpAnyH_take (i := 1) (v := .int .i64 0) rfl (by kernel_rfl) (by kernel_rfl) (by kernel_rfl) (fun _ _ _ h => h) (Or.inl ⟨by rfl, fun w hSw => ?_⟩) hHeld ?_
      · clear hSw; go_simp; all_goals (try first | rfl | omega)
      try simp only [Act.put, List.getElem_toArray, List.getElem_cons_succ, List.getElem_cons_zero, List.setIfInBounds_toArray, List.set_cons_zero, List.set_cons_succ]
      refine wpAnyH_take (i := 2) (v := .slice none 0 0) rfl (by kernel_rfl) (by kernel_rfl) (by kernel_rfl) (fun _ _ _ h => h) (Or.inl ⟨by rfl, fun w hSw => ?_⟩) hHeld ?_
      · clear hSw; go_simp; all_goals (try first | rfl | omega)
      try simp only [Act.put, List.getElem_toArray, List.getElem_cons_succ, List.getElem_cons_zero, List.setIfInBounds_toArray, List.set_cons_zero, List.set_cons_succ]
      refine wpAnyH_take (i := 4) (v := .agg #[.int .i64 2, .int .i64 4, .int .i64 0, .string ⟨#[]⟩]) rfl (by kernel_rfl) (by kernel_rfl) (by kernel_rfl) (fun _ _ _ h => h) (Or.inl ⟨by rfl, fun w hSw => ?_⟩) hHeld ?_
      · clear hSw; go_simp; all_goals (try first | rfl | omega)
      try simp only [Act.put, List.getElem_toArray, List.getElem_cons_succ, List.getElem_cons_zero, List.setIfInBounds_toArray, List.set_cons_zero, List.set_cons_succ]
      refine wpAnyH_take (i := 7) (v := .slice none 0 0) rfl (by kernel_rfl) (by kernel_rfl) (by kernel_rfl) (fun _ _ _ h => h) (Or.inl ⟨by rfl, fun w hSw => ?_⟩) hHeld ?_
      · clear hSw; go_simp; all_goals (try first | rfl | omega)
      try simp only [Act.put, List.getElem_toArray, List.getElem_cons_succ, List.getElem_cons_zero, List.setIfInBounds_toArray, List.set_cons_zero, List.set_cons_succ]
      refine wpAnyH_take (i := 8) (v := .int .i64 0) rfl (by kernel_rfl) (by kernel_rfl) (by kernel_rfl) (fun _ _ _ h => h) (Or.inl ⟨by rfl, fun w hSw => ?_⟩) hHeld ?_
      · clear hSw; go_simp; all_goals (try first | rfl | omega)
      try simp only [Act.put, List.getElem_toArray, List.getElem_cons_succ, List.getElem_cons_zero, List.setIfInBounds_toArray, List.set_cons_zero, List.set_cons_succ]
      refine wpAnyH_take (i := 9) (v := .slice none 0 0) rfl (by kernel_rfl) (by kernel_rfl) (by kernel_rfl) (fun _ _ _ h => h) (Or.inl ⟨by rfl, fun w hSw => ?_⟩) hHeld ?_
      · clear hSw; go_simp; all_goals (try first | rfl | omega)
      try simp only [Act.put, List.getElem_toArray, List.getElem_cons_succ, List.getElem_cons_zero, List.setIfInBounds_toArray, List.set_cons_zero, List.set_cons_succ]
      refine wpAnyH_ready (rs := [3, 5]) (by kernel_rfl) (by simp) ?_
      refine AllReadyH.cons rfl (fun K hK => ?_) ?_
      · rw [if_pos (by rfl)]
        refine wp_append_sl _ _ _ (by rfl) elemAct w6.heap.size (.slice none 0 0) (by rfl) 0 [] (World.ownsRow_nil _ _ _ _) (.slice none 0 0) (by rfl) 0 (([] : List LAct).flatMap actCells) (HS1.out.below HBd.out) (acts_one _) (by unfold maxLen; omega) (by omega) (Below.size HBd.out) ?_
        intro v44 wk hown hgr
        have HOK2 := Lib.hid (show wk.ownsRow w6.heap.size 30 4 v44 (0 + 0) ([] ++ ([] : List LAct).flatMap actCells) from hown)
        have HBk := Lib.hid (show Below w6.heap.size w6 wk from HBd.out.grown hgr (Below.size HBd.out) (fun k hk => by simp [Value.ownBlock] at hk))
        have zk : wd.heap.size ≤ wk.heap.size := hgr.size
        clear hown hgr
        show K _ _
        refine hK.out _ _ (by exact HBk.out) (fun hHeld => ?_)
        clear hK K
        try simp only [Act.put, List.getElem_toArray, List.getElem_cons_succ, List.getElem_cons_zero, List.setIfInBounds_toArray, List.set_cons_zero, List.set_cons_succ]
        refine wpAnyH_ready (rs := [5]) (by kernel_rfl) (by simp) ?_
        refine AllReadyH.cons rfl (fun K hK => ?_) ?_
        · rw [if_pos (by rfl)]
          go_simp
          show K _ _
          refine hK.out _ _ (by exact (HBk.out.alloc (Below.size HBk.out) _)) (fun hHeld => ?_)
          clear hK K
          try simp only [Act.put, List.getElem_toArray, List.getElem_cons_succ, List.getElem_cons_zero, List.setIfInBounds_toArray, List.set_cons_zero, List.set_cons_succ]
          obtain ⟨wa1, hwn⟩ : ∃ wa1, wa1 = wk.alloc (.cells #[.int .i64 2, .int .i64 4, .int .i64 0, .string ⟨#[]⟩] 30) := ⟨_, rfl⟩
          have FA1 := Lib.hid (show BoxAt wa1 (wk.heap.size) [.int .i64 2, .int .i64 4, .int .i64 0, .string ⟨#[]⟩] 30 by rw [hwn]; exact BoxAt.newAt wk [.int .i64 2, .int .i64 4, .int .i64 0, .string ⟨#[]⟩] 30 rfl)
          have HBwa1 := Lib.hid (show Below w6.heap.size w6 wa1 by rw [hwn]; exact HBk.out.alloc (Below.size HBk.out) _)
          have hqb : Below wk.heap.size wk wa1 := by rw [hwn]; exact (Below.refl _ _).alloc (Nat.le_refl _) _
          replace HOK2 := Lib.hid (ownsRow_below HOK2.out hqb)
          clear hqb
          rw [← hwn] at hHeld ⊢
          clear hwn
          have zwa1 := FA1.out.lt
          refine wpAnyH_ready (rs := [6]) (by kernel_rfl) (by simp) ?_
          refine AllReadyH.cons rfl (fun K hK => ?_) ?_
          · rw [if_pos (by rfl)]
            refine wp_append_one _ _ _ (by rfl) elemAct w6.heap.size v44 (0 + 0) ([] ++ ([] : List LAct).flatMap actCells) (by rfl) HOK2.out (wk.heap.size) 30 [.int .i64 2, .int .i64 4, .int .i64 0, .string ⟨#[]⟩] (by rfl) FA1.out rfl (by simp [Value.oneCell']) (by unfold maxLen; omega) (by omega) (Below.size HBwa1.out) ?_
            intro gm cm wm hownm hgrm hatm hltm
            have HOM := Lib.hid (show wm.ownsRow w6.heap.size 30 4 (.slice (some ⟨gm, 0, none⟩) (0 + 0 + 1) cm) (0 + 0 + 1) ([] ++ ([] : List LAct).flatMap actCells ++ [.int .i64 2, .int .i64 4, .int .i64 0, .string ⟨#[]⟩]) from hownm)
            have HBm := Lib.hid (show Below w6.heap.size w6 wm from HBwa1.out.grown hgrm (Below.size HBwa1.out) (fun k hk => (HOK2.out.lt k hk).1))
            clear hownm hgrm hatm
            show K _ _
            refine hK.out _ _ (by exact HBm.out) (fun hHeld => ?_)
            clear hK K
            try simp only [Act.put, List.getElem_toArray, List.getElem_cons_succ, List.getElem_cons_zero, List.setIfInBounds_toArray, List.set_cons_zero, List.set_cons_succ]
            refine wpAnyH_ready (rs := [10]) (by kernel_rfl) (by simp) ?_
            refine AllReadyH.cons rfl (fun K hK => ?_) ?_
            · rw [if_pos (by rfl)]
              refine wp_append_sl _ _ _ (by rfl) elemAct w6.heap.size (.slice (some ⟨gm, 0, none⟩) (0 + 0 + 1) cm) (by first | rfl | go_simp) (0 + 0 + 1) ([] ++ ([] : List LAct).flatMap actCells ++ [.int .i64 2, .int .i64 4, .int .i64 0, .string ⟨#[]⟩]) HOM.out (.slice none 0 0) (by rfl) (0) (([] : List LAct).flatMap actCells) (HS2.out.below HBm.out) (acts_one _) (by unfold maxLen; omega) (by omega) (Below.size HBm.out) ?_
              intro v51 wz hownz hgrz
              have HOZ := Lib.hid (show LstO RAct (fun _ => False) w6.heap.size 30 wz v51 (([] : List LAct) ++ [⟨2, 4, 0, []⟩] ++ ([] : List LAct)) from acts_lst (by
                have q := hownz
                rw [show (([] : List LAct) ++ [(⟨2, 4, 0, []⟩ : LAct)] ++ ([] : List LAct)).length = 0 + 0 + 1 + (0) by first | (simp; done) | (simp; omega)]
                simpa [actCells, List.flatMap_append] using q))
              have HBz := Lib.hid (show Below w6.heap.size w6 wz from HBm.out.grown hgrz (Below.size HBm.out) (fun k hk => (HOM.out.lt k hk).1))
              clear hownz hgrz
              show K _ _
              refine hK.out _ _ (by exact HBz.out) (fun hHeld => ?_)
              clear hK K
              try simp only [Act.put, List.getElem_toArray, List.getElem_cons_succ, List.getElem_cons_zero, List.setIfInBounds_toArray, List.set_cons_zero, List.set_cons_succ]
              refine wpAnyH_take (i := 11) (v := v51) rfl (by kernel_rfl) (by kernel_rfl) (by kernel_rfl) (fun _ _ _ h => h) (Or.inl ⟨by rfl, fun w hSw => ?_⟩) hHeld ?_
              · clear hSw; go_simp; all_goals (try first | rfl | omega)
              try simp only [Act.put, List.getElem_toArray, List.getElem_cons_succ, List.getElem_cons_zero, List.setIfInBounds_toArray, List.set_cons_zero, List.set_cons_succ]
              refine wpAnyH_done (by kernel_rfl) ?_ _
              go_wp2
              go_meet
              exact ⟨HOZ.out, HBz.out⟩
            exact AllReadyH.nil
          exact AllReadyH.nil
        exact AllReadyH.nil
      refine AllReadyH.cons rfl (fun K hK => ?_) ?_
      · rw [if_pos (by rfl)]
        go_simp
        show K _ _
        refine hK.out _ _ (by exact (HBd.out.alloc (Below.size HBd.out) _)) (fun hHeld => ?_)
        clear hK K
        try simp only [Act.put, List.getElem_toArray, List.getElem_cons_succ, List.getElem_cons_zero, List.setIfInBounds_toArray, List.set_cons_zero, List.set_cons_succ]
        obtain ⟨wa1, hwn⟩ : ∃ wa1, wa1 = wd.alloc (.cells #[.int .i64 2, .int .i64 4, .int .i64 0, .string ⟨#[]⟩] 30) := ⟨_, rfl⟩
        have FA1 := Lib.hid (show BoxAt wa1 (wd.heap.size) [.int .i64 2, .int .i64 4, .int .i64 0, .string ⟨#[]⟩] 30 by rw [hwn]; exact BoxAt.newAt wd [.int .i64 2, .int .i64 4, .int .i64 0, .string ⟨#[]⟩] 30 rfl)
        have HBwa1 := Lib.hid (show Below w6.heap.size w6 wa1 by rw [hwn]; exact HBd.out.alloc (Below.size HBd.out) _)
        rw [← hwn] at hHeld ⊢
        clear hwn
        have zwa1 := FA1.out.lt
        refine wpAnyH_ready (rs := [3]) (by kernel_rfl) (by simp) ?_
        refine AllReadyH.cons rfl (fun K hK => ?_) ?_
        · rw [if_pos (by rfl)]
          refine wp_append_sl _ _ _ (by rfl) elemAct w6.heap.size (.slice none 0 0) (by rfl) 0 [] (World.ownsRow_nil _ _ _ _) (.slice none 0 0) (by rfl) 0 (([] : List LAct).flatMap actCells) (HS1.out.below HBwa1.out) (acts_one _) (by unfold maxLen; omega) (by omega) (Below.size HBwa1.out) ?_
          intro v44 wk hown hgr
          have HOK2 := Lib.hid (show wk.ownsRow w6.heap.size 30 4 v44 (0 + 0) ([] ++ ([] : List LAct).flatMap actCells) from hown)
          have HBk := Lib.hid (show Below w6.heap.size w6 wk from HBwa1.out.grown hgr (Below.size HBwa1.out) (fun k hk => by simp [Value.ownBlock] at hk))
          have zk : wa1.heap.size ≤ wk.heap.size := hgr.size
          replace FA1 := Lib.hid (FA1.out.grown hgr (by simp [Value.ownBlock]))
          clear hown hgr
          show K _ _
          refine hK.out _ _ (by exact HBk.out) (fun hHeld => ?_)
          clear hK K
          try simp only [Act.put, List.getElem_toArray, List.getElem_cons_succ, List.getElem_cons_zero, List.setIfInBounds_toArray, List.set_cons_zero, List.set_cons_succ]
          refine wpAnyH_ready (rs := [6]) (by kernel_rfl) (by simp) ?_
          refine AllReadyH.cons rfl (fun K hK => ?_) ?_
          · rw [if_pos (by rfl)]
            refine wp_append_one _ _ _ (by rfl) elemAct w6.heap.size v44 (0 + 0) ([] ++ ([] : List LAct).flatMap actCells) (by rfl) HOK2.out (wd.heap.size) 30 [.int .i64 2, .int .i64 4, .int .i64 0, .string ⟨#[]⟩] (by rfl) FA1.out rfl (by simp [Value.oneCell']) (by unfold maxLen; omega) (by omega) (Below.size HBk.out) ?_
            intro gm cm wm hownm hgrm hatm hltm
            have HOM := Lib.hid (show wm.ownsRow w6.heap.size 30 4 (.slice (some ⟨gm, 0, none⟩) (0 + 0 + 1) cm) (0 + 0 + 1) ([] ++ ([] : List LAct).flatMap actCells ++ [.int .i64 2, .int .i64 4, .int .i64 0, .string ⟨#[]⟩]) from hownm)
            have HBm := Lib.hid (show Below w6.heap.size w6 wm from HBk.out.grown hgrm (Below.size HBk.out) (fun k hk => (HOK2.out.lt k hk).1))
            clear hownm hgrm hatm
            show K _ _
            refine hK.out _ _ (by exact HBm.out) (fun hHeld => ?_)
            clear hK K
            try simp only [Act.put, List.getElem_toArray, List.getElem_cons_succ, List.getElem_cons_zero, List.setIfInBounds_toArray, List.set_cons_zero, List.set_cons_succ]
            refine wpAnyH_ready (rs := [10]) (by kernel_rfl) (by simp) ?_
            refine AllReadyH.cons rfl (fun K hK => ?_) ?_
            · rw [if_pos (by rfl)]
              refine wp_append_sl _ _ _ (by rfl) elemAct w6.heap.size (.slice (some ⟨gm, 0, none⟩) (0 + 0 + 1) cm) (by first | rfl | go_simp) (0 + 0 + 1) ([] ++ ([] : List LAct).flatMap actCells ++ [.int .i64 2, .int .i64 4, .int .i64 0, .string ⟨#[]⟩]) HOM.out (.slice none 0 0) (by rfl) (0) (([] : List LAct).flatMap actCells) (HS2.out.below HBm.out) (acts_one _) (by unfold maxLen; omega) (by omega) (Below.size HBm.out) ?_
              intro v51 wz hownz hgrz
              have HOZ := Lib.hid (show LstO RAct (fun _ => False) w6.heap.size 30 wz v51 (([] : List LAct) ++ [⟨2, 4, 0, []⟩] ++ ([] : List LAct)) from acts_lst (by
                have q := hownz
                rw [show (([] : List LAct) ++ [(⟨2, 4, 0, []⟩ : LAct)] ++ ([] : List LAct)).length = 0 + 0 + 1 + (0) by first | (simp; done) | (simp; omega)]
                simpa [actCells, List.flatMap_append] using q))
              have HBz := Lib.hid (show Below w6.heap.size w6 wz from HBm.out.grown hgrz (Below.size HBm.out) (fun k hk => (HOM.out.lt k hk).1))
              clear hownz hgrz
              show K _ _
              refine hK.out _ _ (by exact HBz.out) (fun hHeld => ?_)
              clear hK K
              try simp only [Act.put, List.getElem_toArray, List.getElem_cons_succ, List.getElem_cons_zero, List.setIfInBounds_toArray, List.set_cons_zero, List.set_cons_succ]
              refine wpAnyH_take (i := 11) (v := v51) rfl (by kernel_rfl) (by kernel_rfl) (by kernel_rfl) (fun _ _ _ h => h) (Or.inl ⟨by rfl, fun w hSw => ?_⟩) hHeld ?_
              · clear hSw; go_simp; all_goals (try first | rfl | omega)
              try simp only [Act.put, List.getElem_toArray, List.getElem_cons_succ, List.getElem_cons_zero, List.setIfInBounds_toArray, List.set_cons_zero, List.set_cons_succ]
              refine wpAnyH_done (by kernel_rfl) ?_ _
              go_wp2
              go_meet
              exact ⟨HOZ.out, HBz.out⟩
            exact AllReadyH.nil
          exact AllReadyH.nil
        exact AllReadyH.nil
      exact AllReadyH.nil
    case rest =>
      obtain ⟨hLZ, hB7⟩ := hcut
      rename World => w7
      have HL7 := Lib.hid (hLZ.rd (G' := fun _ => True) (by decide) (fun _ _ _ => trivial) (fun _ _ _ => trivial))
      replace HB := Lib.hid (HB.out.trans (hB7.mono HB.out.size))
      clear hLZ hB7
      have hll : (([] : List LAct) ++ [(⟨2, 4, 0, []⟩ : LAct)] ++ ([] : List LAct)).length = 1 := rfl
      have HAT := Lib.hid (show ∀ h : 0 < (([] : List LAct) ++ [(⟨2, 4, 0, []⟩ : LAct)] ++ ([] : List LAct)).length, actCode (([] : List LAct) ++ [(⟨2, 4, 0, []⟩ : LAct)] ++ ([] : List LAct))[0] = 2 from fun h => code_bent)
      generalize ([] : List LAct) ++ [(⟨2, 4, 0, []⟩ : LAct)] ++ ([] : List LAct) = LL at *
      go_wp2_with fail
      refine (run_bad (L := LL) (k := 0) (c := 2) (-1) _ _ HL7.out (by omega) (by omega) (by omega) (by omega) (fun j h => absurd h (Nat.not_lt_zero _)) (HAT.out _) (by decide)).mono ?_
      rintro e w8 ⟨rfl, hb8⟩
      replace HB := Lib.hid (HB.out.trans (hb8.mono HB.out.size))
      clear hb8
      go_upto_region 7 with fail
      obtain ⟨w9, hwl⟩ : ∃ w9, w9 = (w8.alloc (.cells #[.slice none 0 0, .slice none 0 0, .int .i64 0, .slice none 0 0] 36)) := ⟨_, rfl⟩
      have hBl : Below w8.heap.size w8 w9 := by rw [hwl]; exact ((Below.refl _ _).alloc (by first | exact Nat.le_refl _ | (simp; done) | (simp; omega)) _)
      have HO := Lib.hid (show BoxAt w9 w8.heap.size [.slice none 0 0, .slice none 0 0, .int .i64 0, .slice none 0 0] 36 by rw [hwl]; exact BoxAt.new w8 [_, _, _, _] _)
      rw [← hwl]
      replace HB := Lib.hid (HB.out.trans (hBl.mono HB.out.size))
      clear hwl hBl
      go_wp2_with fail
      obtain ⟨wq, hwl⟩ : ∃ wq, wq = (w9.alloc (.cells cz.toArray 30)) := ⟨_, rfl⟩
      have hBl : Below w9.heap.size w9 wq := by rw [hwl]; exact ((Below.refl _ _).alloc (by first | exact Nat.le_refl _ | (simp; done) | (simp; omega)) _)
      have HC := Lib.hid (show BoxAt wq w9.heap.size cz 30 by rw [hwl]; exact BoxAt.new w9 cz _)
      rw [← hwl]
      replace HB := Lib.hid (HB.out.trans (hBl.mono HB.out.size))
      replace HO := Lib.hid (HO.out.belowS hBl)
      clear hwl hBl
      refine (run_size (L := List.replicate 3001 actZ) (-1) _ _ (HZR.out wq _ HC.out) (by omega) (by omega) (by rw [HLZ.out]; omega)).mono ?_
      rintro e wt ⟨rfl, hbt⟩
      replace HB := Lib.hid (HB.out.trans (hbt.mono HB.out.size))
      replace HO := Lib.hid (HO.out.belowS hbt)
      clear hbt
      go_upto_region 8 with fail
      obtain ⟨wu, hwl⟩ : ∃ wu, wu = (wt.alloc (.cells #[.slice none 0 0, .slice none 0 0, .int .i64 0, .slice none 0 0] 36)) := ⟨_, rfl⟩
      have hBl : Below wt.heap.size wt wu := by rw [hwl]; exact ((Below.refl _ _).alloc (by first | exact Nat.le_refl _ | (simp; done) | (simp; omega)) _)
      rw [← hwl]
      replace HB := Lib.hid (HB.out.trans (hBl.mono HB.out.size))
      replace HO := Lib.hid (HO.out.belowS hBl)
      clear hwl hBl
      have o0 := HO.out.cell 0 rfl
      go_wp2
      go_ret
      exact ⟨rfl, HB.out⟩
  ·
    go_wp2_with fail
    refine (Picked_any n 9 _ n1 n2 (by omega) (by omega)).mono ?_
    rintro e w' ⟨rfl, rfl⟩
    rw [HZ.out]
    go_wp2_with fail
    refine (run_range (4 + z) _ _ (.inr (by omega))).mono ?_
    rintro e w2 ⟨rfl, hb2⟩
    replace HA := Lib.hid (HA.out.below hb2 (fun _ h => h))
    replace HB := Lib.hid (HB.out.trans (hb2.mono HB.out.size))
    clear hb2
    go_upto_region 3 with fail
    obtain ⟨w3, hwl⟩ : ∃ w3, w3 = (w2.alloc (.cells #[.slice none 0 0, .slice none 0 0, .int .i64 0, .slice none 0 0] 36)) := ⟨_, rfl⟩
    have hBl : Below w2.heap.size w2 w3 := by rw [hwl]; exact ((Below.refl _ _).alloc (by first | exact Nat.le_refl _ | (simp; done) | (simp; omega)) _)
    have HO_w3 := Lib.hid (show BoxAt w3 w2.heap.size [.slice none 0 0, .slice none 0 0, .int .i64 0, .slice none 0 0] 36 by rw [hwl]; exact BoxAt.new w2 [_, _, _, _] _)
    rw [← hwl]
    replace HA := Lib.hid (HA.out.below hBl (fun _ h => h))
    replace HB := Lib.hid (HB.out.trans (hBl.mono HB.out.size))
    clear hwl hBl
    go_wp2_with fail
    refine (Picked_any n 9 _ n1 n2 (by omega) (by omega)).mono ?_
    rintro e w' ⟨rfl, rfl⟩
    rw [HZ.out]
    go_wp2_with fail
    refine (run_range (-2 - z) _ _ (.inl (by omega))).mono ?_
    rintro e w5 ⟨rfl, hb5⟩
    replace HA := Lib.hid (HA.out.below hb5 (fun _ h => h))
    replace HB := Lib.hid (HB.out.trans (hb5.mono HB.out.size))
    clear hb5
    go_upto_region 4 with fail
    obtain ⟨w6, hwl⟩ : ∃ w6, w6 = (w5.alloc (.cells #[.slice none 0 0, .slice none 0 0, .int .i64 0, .slice none 0 0] 36)) := ⟨_, rfl⟩
    have hBl : Below w5.heap.size w5 w6 := by rw [hwl]; exact ((Below.refl _ _).alloc (by first | exact Nat.le_refl _ | (simp; done) | (simp; omega)) _)
    have HO_w6 := Lib.hid (show BoxAt w6 w5.heap.size [.slice none 0 0, .slice none 0 0, .int .i64 0, .slice none 0 0] 36 by rw [hwl]; exact BoxAt.new w5 [_, _, _, _] _)
    rw [← hwl]
    replace HA := Lib.hid (HA.out.below hBl (fun _ h => h))
    replace HB := Lib.hid (HB.out.trans (hBl.mono HB.out.size))
    clear hwl hBl
    have hkr := pickedZ_range a ((AS.length : Int) + 1) (by omega)
    obtain ⟨k, hkq⟩ : ∃ k : Nat, (k : Int) = pickedZ a ((AS.length : Int) + 1) := ⟨(pickedZ a ((AS.length : Int) + 1)).toNat, by omega⟩
    rw [← hkq] at hkr
    obtain ⟨k0, k1⟩ := hkr
    have HK0 := Lib.hid hkq.symm
    clear hkq
    have hk : k ≤ AS.length := by omega
    have k2 : (k : Int) ≤ (ca : Int) := by omega
    have k3 : (k : Int) ≤ (AS.length : Int) := by omega
    have l3 : IntKind.i64.wrap ((AS.length : Int) + 1) = (AS.length : Int) + 1 := IntWalk.i64_in _ (by omega)
    have HTL := Lib.hid (show (AS.take k).length = k by rw [List.length_take]; omega)
    go_wp2_with fail
    refine (Picked_any a ((AS.length : Int) + 1) _ a1 a2 (by omega) (by omega)).mono ?_
    rintro e w' ⟨rfl, rfl⟩
    rw [HK0.out]
    rcases Nat.lt_or_ge k ca with hq | hq
    ·
      have hne : ¬ ca = k := by omega
      have HS1 := Lib.hid (show SlCells w6 (.slice (some ⟨ga, 0, none⟩) k ca) k 4 ((AS.take k).flatMap actCells) by have q := acts_sl (HA.out.take k hk); rw [HTL.out] at q; exact q)
      have HS2 := Lib.hid (show SlCells w6 (.slice (some ⟨ga, k * 4, none⟩) (AS.length - k) (ca - k)) (AS.length - k) 4 ((AS.drop k).flatMap actCells) by have q := acts_sl (HA.out.drop k hk); rw [List.length_drop, Nat.zero_add] at q; exact q)
      go_upto_region 5 with fail
      go_cut [13] (fun x wx => LstO RAct (fun _ => False) w6.heap.size 30 wx x (AS.take k ++ [⟨2, 4, 0, []⟩] ++ AS.drop k) ∧ Below w6.heap.size w6 wx)
      case first =>
        refine wp_region_held_drew (S := fun w' => Below w6.heap.size w6 w') (by kernel_rfl) (by exact (Below.refl _ _).drew) (fun hHeld => ?_)
        obtain ⟨wd, hwd⟩ : ∃ wd, wd = w6.drew := ⟨_, rfl⟩
        rw [← hwd] at hHeld ⊢
        have HBd := Lib.hid (show Below w6.heap.size w6 wd from hHeld)
        have zwd : w6.heap.size ≤ wd.heap.size := by rw [hwd]; exact Nat.le_refl _
        clear hwd
        refine wpAnyH_take (i := 0) (v := .slice (some ⟨ga, 0, none⟩) AS.length ca) rfl (by kernel_rfl) (by kernel_rfl) (by kernel_rfl) (fun _ _ _ h => h) (Or.inl ⟨by rfl, fun w hSw => ?_⟩) hHeld ?_
        · clear hSw; go_simp; all_goals (try first | rfl | omega)
        try simp only [Act.put, List.getElem_toArray, List.getElem_cons_succ, List.getElem_cons_zero, List.setIfInBounds_toArray, List.set_cons_zero, List.set_cons_succ]
        refine wpAnyH_take (i := 1) (v := .int .i64 (k : Int)) rfl (by kernel_rfl) (by kernel_rfl) (by kernel_rfl) (fun _ _ _ h => h) (Or.inl ⟨by rfl, fun w hSw => ?_⟩) hHeld ?_
        · clear hSw; go_simp; all_goals (try first | rfl | omega)
        try simp only [Act.put, List.getElem_toArray, List.getElem_cons_succ, List.getElem_cons_zero, List.setIfInBounds_toArray, List.set_cons_zero, List.set_cons_succ]
        refine wpAnyH_take (i := 2) (v := .slice (some ⟨ga, 0, none⟩) k ca) rfl (by kernel_rfl) (by kernel_rfl) (by kernel_rfl) (fun _ _ _ h => h) (Or.inl ⟨by rfl, fun w hSw => ?_⟩) hHeld ?_
        · clear hSw; go_simp; all_goals (try first | rfl | omega)
        try simp only [Act.put, List.getElem_toArray, List.getElem_cons_succ, List.getElem_cons_zero, List.setIfInBounds_toArray, List.set_cons_zero, List.set_cons_succ]
        refine wpAnyH_take (i := 4) (v := .agg #[.int .i64 2, .int .i64 4, .int .i64 0, .string ⟨#[]⟩]) rfl (by kernel_rfl) (by kernel_rfl) (by kernel_rfl) (fun _ _ _ h => h) (Or.inl ⟨by rfl, fun w hSw => ?_⟩) hHeld ?_
        · clear hSw; go_simp; all_goals (try first | rfl | omega)
        try simp only [Act.put, List.getElem_toArray, List.getElem_cons_succ, List.getElem_cons_zero, List.setIfInBounds_toArray, List.set_cons_zero, List.set_cons_succ]
        refine wpAnyH_take (i := 7) (v := .slice (some ⟨ga, 0, none⟩) AS.length ca) rfl (by kernel_rfl) (by kernel_rfl) (by kernel_rfl) (fun _ _ _ h => h) (Or.inl ⟨by rfl, fun w hSw => ?_⟩) hHeld ?_
        · clear hSw; go_simp; all_goals (try first | rfl | omega)
        try simp only [Act.put, List.getElem_toArray, List.getElem_cons_succ, List.getElem_cons_zero, List.setIfInBounds_toArray, List.set_cons_zero, List.set_cons_succ]
        refine wpAnyH_take (i := 8) (v := .int .i64 (k : Int)) rfl (by kernel_rfl) (by kernel_rfl) (by kernel_rfl) (fun _ _ _ h => h) (Or.inl ⟨by rfl, fun w hSw => ?_⟩) hHeld ?_
        · clear hSw; go_simp; all_goals (try first | rfl | omega)
        try simp only [Act.put, List.getElem_toArray, List.getElem_cons_succ, List.getElem_cons_zero, List.setIfInBounds_toArray, List.set_cons_zero, List.set_cons_succ]
        refine wpAnyH_take (i := 9) (v := .slice (some ⟨ga, k * 4, none⟩) (AS.length - k) (ca - k)) rfl (by kernel_rfl) (by kernel_rfl) (by kernel_rfl) (fun _ _ _ h => h) (Or.inl ⟨by rfl, fun w hSw => ?_⟩) hHeld ?_
        · clear hSw; go_simp; all_goals (try first | rfl | omega)
        try simp only [Act.put, List.getElem_toArray, List.getElem_cons_succ, List.getElem_cons_zero, List.setIfInBounds_toArray, List.set_cons_zero, List.set_cons_succ]
        refine wpAnyH_ready (rs := [3, 5]) (by kernel_rfl) (by simp) ?_
        refine AllReadyH.cons rfl (fun K hK => ?_) ?_
        · rw [if_pos (by rfl)]
          refine wp_append_sl _ _ _ (by rfl) elemAct w6.heap.size (.slice none 0 0) (by rfl) 0 [] (World.ownsRow_nil _ _ _ _) (.slice (some ⟨ga, 0, none⟩) k ca) (by rfl) k ((AS.take k).flatMap actCells) (HS1.out.below HBd.out) (acts_one _) (by unfold maxLen; omega) (by omega) (Below.size HBd.out) ?_
          intro v44 wk hown hgr
          have HOK2 := Lib.hid (show wk.ownsRow w6.heap.size 30 4 v44 (0 + k) ([] ++ (AS.take k).flatMap actCells) from hown)
          have HBk := Lib.hid (show Below w6.heap.size w6 wk from HBd.out.grown hgr (Below.size HBd.out) (fun k hk => by simp [Value.ownBlock] at hk))
          have zk : wd.heap.size ≤ wk.heap.size := hgr.size
          clear hown hgr
          show K _ _
          refine hK.out _ _ (by exact HBk.out) (fun hHeld => ?_)
          clear hK K
          try simp only [Act.put, List.getElem_toArray, List.getElem_cons_succ, List.getElem_cons_zero, List.setIfInBounds_toArray, List.set_cons_zero, List.set_cons_succ]
          refine wpAnyH_ready (rs := [5]) (by kernel_rfl) (by simp) ?_
          refine AllReadyH.cons rfl (fun K hK => ?_) ?_
          · rw [if_pos (by rfl)]
            go_simp
            show K _ _
            refine hK.out _ _ (by exact (HBk.out.alloc (Below.size HBk.out) _)) (fun hHeld => ?_)
            clear hK K
            try simp only [Act.put, List.getElem_toArray, List.getElem_cons_succ, List.getElem_cons_zero, List.setIfInBounds_toArray, List.set_cons_zero, List.set_cons_succ]
            obtain ⟨wa1, hwn⟩ : ∃ wa1, wa1 = wk.alloc (.cells #[.int .i64 2, .int .i64 4, .int .i64 0, .string ⟨#[]⟩] 30) := ⟨_, rfl⟩
            have FA1 := Lib.hid (show BoxAt wa1 (wk.heap.size) [.int .i64 2, .int .i64 4, .int .i64 0, .string ⟨#[]⟩] 30 by rw [hwn]; exact BoxAt.newAt wk [.int .i64 2, .int .i64 4, .int .i64 0, .string ⟨#[]⟩] 30 rfl)
            have HBwa1 := Lib.hid (show Below w6.heap.size w6 wa1 by rw [hwn]; exact HBk.out.alloc (Below.size HBk.out) _)
            have hqb : Below wk.heap.size wk wa1 := by rw [hwn]; exact (Below.refl _ _).alloc (Nat.le_refl _) _
            replace HOK2 := Lib.hid (ownsRow_below HOK2.out hqb)
            clear hqb
            rw [← hwn] at hHeld ⊢
            clear hwn
            have zwa1 := FA1.out.lt
            refine wpAnyH_ready (rs := [6]) (by kernel_rfl) (by simp) ?_
            refine AllReadyH.cons rfl (fun K hK => ?_) ?_
            · rw [if_pos (by rfl)]
              refine wp_append_one _ _ _ (by rfl) elemAct w6.heap.size v44 (0 + k) ([] ++ (AS.take k).flatMap actCells) (by rfl) HOK2.out (wk.heap.size) 30 [.int .i64 2, .int .i64 4, .int .i64 0, .string ⟨#[]⟩] (by rfl) FA1.out rfl (by simp [Value.oneCell']) (by unfold maxLen; omega) (by omega) (Below.size HBwa1.out) ?_
              intro gm cm wm hownm hgrm hatm hltm
              have HOM := Lib.hid (show wm.ownsRow w6.heap.size 30 4 (.slice (some ⟨gm, 0, none⟩) (0 + k + 1) cm) (0 + k + 1) ([] ++ (AS.take k).flatMap actCells ++ [.int .i64 2, .int .i64 4, .int .i64 0, .string ⟨#[]⟩]) from hownm)
              have HBm := Lib.hid (show Below w6.heap.size w6 wm from HBwa1.out.grown hgrm (Below.size HBwa1.out) (fun k hk => (HOK2.out.lt k hk).1))
              clear hownm hgrm hatm
              show K _ _
              refine hK.out _ _ (by exact HBm.out) (fun hHeld => ?_)
              clear hK K
              try simp only [Act.put, List.getElem_toArray, List.getElem_cons_succ, List.getElem_cons_zero, List.setIfInBounds_toArray, List.set_cons_zero, List.set_cons_succ]
              refine wpAnyH_ready (rs := [10]) (by kernel_rfl) (by simp) ?_
              refine AllReadyH.cons rfl (fun K hK => ?_) ?_
              · rw [if_pos (by rfl)]
                refine wp_append_sl _ _ _ (by rfl) elemAct w6.heap.size (.slice (some ⟨gm, 0, none⟩) (0 + k + 1) cm) (by first | rfl | go_simp) (0 + k + 1) ([] ++ (AS.take k).flatMap actCells ++ [.int .i64 2, .int .i64 4, .int .i64 0, .string ⟨#[]⟩]) HOM.out (.slice (some ⟨ga, k * 4, none⟩) (AS.length - k) (ca - k)) (by rfl) (AS.length - k) ((AS.drop k).flatMap actCells) (HS2.out.below HBm.out) (acts_one _) (by unfold maxLen; omega) (by omega) (Below.size HBm.out) ?_
                intro v51 wz hownz hgrz
                have HOZ := Lib.hid (show LstO RAct (fun _ => False) w6.heap.size 30 wz v51 (AS.take k ++ [⟨2, 4, 0, []⟩] ++ AS.drop k) from acts_lst (by
                  have q := hownz
                  rw [show (AS.take k ++ [(⟨2, 4, 0, []⟩ : LAct)] ++ AS.drop k).length = 0 + k + 1 + (AS.length - k) by first | (simp; done) | (simp; omega)]
                  simpa [actCells, List.flatMap_append] using q))
                have HBz := Lib.hid (show Below w6.heap.size w6 wz from HBm.out.grown hgrz (Below.size HBm.out) (fun k hk => (HOM.out.lt k hk).1))
                clear hownz hgrz
                show K _ _
                refine hK.out _ _ (by exact HBz.out) (fun hHeld => ?_)
                clear hK K
                try simp only [Act.put, List.getElem_toArray, List.getElem_cons_succ, List.getElem_cons_zero, List.setIfInBounds_toArray, List.set_cons_zero, List.set_cons_succ]
                refine wpAnyH_take (i := 11) (v := v51) rfl (by kernel_rfl) (by kernel_rfl) (by kernel_rfl) (fun _ _ _ h => h) (Or.inl ⟨by rfl, fun w hSw => ?_⟩) hHeld ?_
                · clear hSw; go_simp; all_goals (try first | rfl | omega)
                try simp only [Act.put, List.getElem_toArray, List.getElem_cons_succ, List.getElem_cons_zero, List.setIfInBounds_toArray, List.set_cons_zero, List.set_cons_succ]
                refine wpAnyH_done (by kernel_rfl) ?_ _
                go_wp2
                go_meet
                exact ⟨HOZ.out, HBz.out⟩
              exact AllReadyH.nil
            exact AllReadyH.nil
          exact AllReadyH.nil
        refine AllReadyH.cons rfl (fun K hK => ?_) ?_
        · rw [if_pos (by rfl)]
          go_simp
          show K _ _
          refine hK.out _ _ (by exact (HBd.out.alloc (Below.size HBd.out) _)) (fun hHeld => ?_)
          clear hK K
          try simp only [Act.put, List.getElem_toArray, List.getElem_cons_succ, List.getElem_cons_zero, List.setIfInBounds_toArray, List.set_cons_zero, List.set_cons_succ]
          obtain ⟨wa1, hwn⟩ : ∃ wa1, wa1 = wd.alloc (.cells #[.int .i64 2, .int .i64 4, .int .i64 0, .string ⟨#[]⟩] 30) := ⟨_, rfl⟩
          have FA1 := Lib.hid (show BoxAt wa1 (wd.heap.size) [.int .i64 2, .int .i64 4, .int .i64 0, .string ⟨#[]⟩] 30 by rw [hwn]; exact BoxAt.newAt wd [.int .i64 2, .int .i64 4, .int .i64 0, .string ⟨#[]⟩] 30 rfl)
          have HBwa1 := Lib.hid (show Below w6.heap.size w6 wa1 by rw [hwn]; exact HBd.out.alloc (Below.size HBd.out) _)
          rw [← hwn] at hHeld ⊢
          clear hwn
          have zwa1 := FA1.out.lt
          refine wpAnyH_ready (rs := [3]) (by kernel_rfl) (by simp) ?_
          refine AllReadyH.cons rfl (fun K hK => ?_) ?_
          · rw [if_pos (by rfl)]
            refine wp_append_sl _ _ _ (by rfl) elemAct w6.heap.size (.slice none 0 0) (by rfl) 0 [] (World.ownsRow_nil _ _ _ _) (.slice (some ⟨ga, 0, none⟩) k ca) (by rfl) k ((AS.take k).flatMap actCells) (HS1.out.below HBwa1.out) (acts_one _) (by unfold maxLen; omega) (by omega) (Below.size HBwa1.out) ?_
            intro v44 wk hown hgr
            have HOK2 := Lib.hid (show wk.ownsRow w6.heap.size 30 4 v44 (0 + k) ([] ++ (AS.take k).flatMap actCells) from hown)
            have HBk := Lib.hid (show Below w6.heap.size w6 wk from HBwa1.out.grown hgr (Below.size HBwa1.out) (fun k hk => by simp [Value.ownBlock] at hk))
            have zk : wa1.heap.size ≤ wk.heap.size := hgr.size
            replace FA1 := Lib.hid (FA1.out.grown hgr (by simp [Value.ownBlock]))
            clear hown hgr
            show K _ _
            refine hK.out _ _ (by exact HBk.out) (fun hHeld => ?_)
            clear hK K
            try simp only [Act.put, List.getElem_toArray, List.getElem_cons_succ, List.getElem_cons_zero, List.setIfInBounds_toArray, List.set_cons_zero, List.set_cons_succ]
            refine wpAnyH_ready (rs := [6]) (by kernel_rfl) (by simp) ?_
            refine AllReadyH.cons rfl (fun K hK => ?_) ?_
            · rw [if_pos (by rfl)]
              refine wp_append_one _ _ _ (by rfl) elemAct w6.heap.size v44 (0 + k) ([] ++ (AS.take k).flatMap actCells) (by rfl) HOK2.out (wd.heap.size) 30 [.int .i64 2, .int .i64 4, .int .i64 0, .string ⟨#[]⟩] (by rfl) FA1.out rfl (by simp [Value.oneCell']) (by unfold maxLen; omega) (by omega) (Below.size HBk.out) ?_
              intro gm cm wm hownm hgrm hatm hltm
              have HOM := Lib.hid (show wm.ownsRow w6.heap.size 30 4 (.slice (some ⟨gm, 0, none⟩) (0 + k + 1) cm) (0 + k + 1) ([] ++ (AS.take k).flatMap actCells ++ [.int .i64 2, .int .i64 4, .int .i64 0, .string ⟨#[]⟩]) from hownm)
              have HBm := Lib.hid (show Below w6.heap.size w6 wm from HBk.out.grown hgrm (Below.size HBk.out) (fun k hk => (HOK2.out.lt k hk).1))
              clear hownm hgrm hatm
              show K _ _
              refine hK.out _ _ (by exact HBm.out) (fun hHeld => ?_)
              clear hK K
              try simp only [Act.put, List.getElem_toArray, List.getElem_cons_succ, List.getElem_cons_zero, List.setIfInBounds_toArray, List.set_cons_zero, List.set_cons_succ]
              refine wpAnyH_ready (rs := [10]) (by kernel_rfl) (by simp) ?_
              refine AllReadyH.cons rfl (fun K hK => ?_) ?_
              · rw [if_pos (by rfl)]
                refine wp_append_sl _ _ _ (by rfl) elemAct w6.heap.size (.slice (some ⟨gm, 0, none⟩) (0 + k + 1) cm) (by first | rfl | go_simp) (0 + k + 1) ([] ++ (AS.take k).flatMap actCells ++ [.int .i64 2, .int .i64 4, .int .i64 0, .string ⟨#[]⟩]) HOM.out (.slice (some ⟨ga, k * 4, none⟩) (AS.length - k) (ca - k)) (by rfl) (AS.length - k) ((AS.drop k).flatMap actCells) (HS2.out.below HBm.out) (acts_one _) (by unfold maxLen; omega) (by omega) (Below.size HBm.out) ?_
                intro v51 wz hownz hgrz
                have HOZ := Lib.hid (show LstO RAct (fun _ => False) w6.heap.size 30 wz v51 (AS.take k ++ [⟨2, 4, 0, []⟩] ++ AS.drop k) from acts_lst (by
                  have q := hownz
                  rw [show (AS.take k ++ [(⟨2, 4, 0, []⟩ : LAct)] ++ AS.drop k).length = 0 + k + 1 + (AS.length - k) by first | (simp; done) | (simp; omega)]
                  simpa [actCells, List.flatMap_append] using q))
                have HBz := Lib.hid (show Below w6.heap.size w6 wz from HBm.out.grown hgrz (Below.size HBm.out) (fun k hk => (HOM.out.lt k hk).1))
                clear hownz hgrz
                show K _ _
                refine hK.out _ _ (by exact HBz.out) (fun hHeld => ?_)
                clear hK K
                try simp only [Act.put, List.getElem_toArray, List.getElem_cons_succ, List.getElem_cons_zero, List.setIfInBounds_toArray, List.set_cons_zero, List.set_cons_succ]
                refine wpAnyH_take (i := 11) (v := v51) rfl (by kernel_rfl) (by kernel_rfl) (by kernel_rfl) (fun _ _ _ h => h) (Or.inl ⟨by rfl, fun w hSw => ?_⟩) hHeld ?_
                · clear hSw; go_simp; all_goals (try first | rfl | omega)
                try simp only [Act.put, List.getElem_toArray, List.getElem_cons_succ, List.getElem_cons_zero, List.setIfInBounds_toArray, List.set_cons_zero, List.set_cons_succ]
                refine wpAnyH_done (by kernel_rfl) ?_ _
                go_wp2
                go_meet
                exact ⟨HOZ.out, HBz.out⟩
              exact AllReadyH.nil
            exact AllReadyH.nil
          exact AllReadyH.nil
        exact AllReadyH.nil
      case rest =>
        obtain ⟨hLZ, hB7⟩ := hcut
        rename World => w7
        have HL7 := Lib.hid (hLZ.rd (G' := fun _ => True) (by decide) (fun _ _ _ => trivial) (fun _ _ _ => trivial))
        replace HB := Lib.hid (HB.out.trans (hB7.mono HB.out.size))
        clear hLZ hB7
        have hll := bent_len AS hk ⟨2, 4, 0, []⟩
        have HBT := Lib.hid (fun j (h : j < k) hj => HCD.out _ (bent_lt hk ⟨2, 4, 0, []⟩ h hj))
        have HAT := Lib.hid (show ∀ h : k < (AS.take k ++ [(⟨2, 4, 0, []⟩ : LAct)] ++ AS.drop k).length, actCode (AS.take k ++ [(⟨2, 4, 0, []⟩ : LAct)] ++ AS.drop k)[k] = 2 from fun h => by rw [bent_at hk _ h]; exact code_bent)
        generalize AS.take k ++ [(⟨2, 4, 0, []⟩ : LAct)] ++ AS.drop k = LL at *
        go_wp2_with fail
        refine (run_bad (L := LL) (k := k) (c := 2) (-1) _ _ HL7.out (by omega) (by omega) (by omega) (by omega) (fun j h => HBT.out j h _) (HAT.out _) (by decide)).mono ?_
        rintro e w8 ⟨rfl, hb8⟩
        replace HB := Lib.hid (HB.out.trans (hb8.mono HB.out.size))
        clear hb8
        go_upto_region 7 with fail
        obtain ⟨w9, hwl⟩ : ∃ w9, w9 = (w8.alloc (.cells #[.slice none 0 0, .slice none 0 0, .int .i64 0, .slice none 0 0] 36)) := ⟨_, rfl⟩
        have hBl : Below w8.heap.size w8 w9 := by rw [hwl]; exact ((Below.refl _ _).alloc (by first | exact Nat.le_refl _ | (simp; done) | (simp; omega)) _)
        have HO := Lib.hid (show BoxAt w9 w8.heap.size [.slice none 0 0, .slice none 0 0, .int .i64 0, .slice none 0 0] 36 by rw [hwl]; exact BoxAt.new w8 [_, _, _, _] _)
        rw [← hwl]
        replace HB := Lib.hid (HB.out.trans (hBl.mono HB.out.size))
        clear hwl hBl
        go_wp2_with fail
        obtain ⟨wq, hwl⟩ : ∃ wq, wq = (w9.alloc (.cells cz.toArray 30)) := ⟨_, rfl⟩
        have hBl : Below w9.heap.size w9 wq := by rw [hwl]; exact ((Below.refl _ _).alloc (by first | exact Nat.le_refl _ | (simp; done) | (simp; omega)) _)
        have HC := Lib.hid (show BoxAt wq w9.heap.size cz 30 by rw [hwl]; exact BoxAt.new w9 cz _)
        rw [← hwl]
        replace HB := Lib.hid (HB.out.trans (hBl.mono HB.out.size))
        replace HO := Lib.hid (HO.out.belowS hBl)
        clear hwl hBl
        refine (run_size (L := List.replicate 3001 actZ) (-1) _ _ (HZR.out wq _ HC.out) (by omega) (by omega) (by rw [HLZ.out]; omega)).mono ?_
        rintro e wt ⟨rfl, hbt⟩
        replace HB := Lib.hid (HB.out.trans (hbt.mono HB.out.size))
        replace HO := Lib.hid (HO.out.belowS hbt)
        clear hbt
        go_upto_region 8 with fail
        obtain ⟨wu, hwl⟩ : ∃ wu, wu = (wt.alloc (.cells #[.slice none 0 0, .slice none 0 0, .int .i64 0, .slice none 0 0] 36)) := ⟨_, rfl⟩
        have hBl : Below wt.heap.size wt wu := by rw [hwl]; exact ((Below.refl _ _).alloc (by first | exact Nat.le_refl _ | (simp; done) | (simp; omega)) _)
        rw [← hwl]
        replace HB := Lib.hid (HB.out.trans (hBl.mono HB.out.size))
        replace HO := Lib.hid (HO.out.belowS hBl)
        clear hwl hBl
        have o0 := HO.out.cell 0 rfl
        go_wp2
        go_ret
        exact ⟨rfl, HB.out⟩
    ·
      obtain rfl : k = ca := by omega
      have HS1 := Lib.hid (show SlCells w6 (.slice (some ⟨ga, 0, none⟩) k k) k 4 ((AS.take k).flatMap actCells) by have q := acts_sl (HA.out.take k hk); rw [HTL.out] at q; exact q)
      have HS2 := Lib.hid (show SlCells w6 (.slice (some ⟨ga, 0, none⟩) 0 0) 0 4 ((AS.drop k).flatMap actCells) by rw [List.drop_of_length_le (by omega)]; exact ⟨_, _, rfl, fun h => by simp at h, rfl, fun j u h => by simp at h⟩)
      go_upto_region 5 with fail
      go_cut [13] (fun x wx => LstO RAct (fun _ => False) w6.heap.size 30 wx x (AS.take k ++ [⟨2, 4, 0, []⟩] ++ AS.drop k) ∧ Below w6.heap.size w6 wx)
      case first =>
        refine wp_region_held_drew (S := fun w' => Below w6.heap.size w6 w') (by kernel_rfl) (by exact (Below.refl _ _).drew) (fun hHeld => ?_)
        obtain ⟨wd, hwd⟩ : ∃ wd, wd = w6.drew := ⟨_, rfl⟩
        rw [← hwd] at hHeld ⊢
        have HBd := Lib.hid (show Below w6.heap.size w6 wd from hHeld)
        have zwd : w6.heap.size ≤ wd.heap.size := by rw [hwd]; exact Nat.le_refl _
        clear hwd
        refine wpAnyH_take (i := 0) (v := .slice (some ⟨ga, 0, none⟩) AS.length k) rfl (by kernel_rfl) (by kernel_rfl) (by kernel_rfl) (fun _ _ _ h => h) (Or.inl ⟨by rfl, fun w hSw => ?_⟩) hHeld ?_
        · clear hSw; go_simp; all_goals (try first | rfl | omega)
        try simp only [Act.put, List.getElem_toArray, List.getElem_cons_succ, List.getElem_cons_zero, List.setIfInBounds_toArray, List.set_cons_zero, List.set_cons_succ]
        refine wpAnyH_take (i := 1) (v := .int .i64 (k : Int)) rfl (by kernel_rfl) (by kernel_rfl) (by kernel_rfl) (fun _ _ _ h => h) (Or.inl ⟨by rfl, fun w hSw => ?_⟩) hHeld ?_
        · clear hSw; go_simp; all_goals (try first | rfl | omega)
        try simp only [Act.put, List.getElem_toArray, List.getElem_cons_succ, List.getElem_cons_zero, List.setIfInBounds_toArray, List.set_cons_zero, List.set_cons_succ]
        refine wpAnyH_take (i := 2) (v := .slice (some ⟨ga, 0, none⟩) k k) rfl (by kernel_rfl) (by kernel_rfl) (by kernel_rfl) (fun _ _ _ h => h) (Or.inl ⟨by rfl, fun w hSw => ?_⟩) hHeld ?_
        · clear hSw; go_simp; all_goals (try first | rfl | omega)
        try simp only [Act.put, List.getElem_toArray, List.getElem_cons_succ, List.getElem_cons_zero, List.setIfInBounds_toArray, List.set_cons_zero, List.set_cons_succ]
        refine wpAnyH_take (i := 4) (v := .agg #[.int .i64 2, .int .i64 4, .int .i64 0, .string ⟨#[]⟩]) rfl (by kernel_rfl) (by kernel_rfl) (by kernel_rfl) (fun _ _ _ h => h) (Or.inl ⟨by rfl, fun w hSw => ?_⟩) hHeld ?_
        · clear hSw; go_simp; all_goals (try first | rfl | omega)
        try simp only [Act.put, List.getElem_toArray, List.getElem_cons_succ, List.getElem_cons_zero, List.setIfInBounds_toArray, List.set_cons_zero, List.set_cons_succ]
        refine wpAnyH_take (i := 7) (v := .slice (some ⟨ga, 0, none⟩) AS.length k) rfl (by kernel_rfl) (by kernel_rfl) (by kernel_rfl) (fun _ _ _ h => h) (Or.inl ⟨by rfl, fun w hSw => ?_⟩) hHeld ?_
        · clear hSw; go_simp; all_goals (try first | rfl | omega)
        try simp only [Act.put, List.getElem_toArray, List.getElem_cons_succ, List.getElem_cons_zero, List.setIfInBounds_toArray, List.set_cons_zero, List.set_cons_succ]
        refine wpAnyH_take (i := 8) (v := .int .i64 (k : Int)) rfl (by kernel_rfl) (by kernel_rfl) (by kernel_rfl) (fun _ _ _ h => h) (Or.inl ⟨by rfl, fun w hSw => ?_⟩) hHeld ?_
        · clear hSw; go_simp; all_goals (try first | rfl | omega)
        try simp only [Act.put, List.getElem_toArray, List.getElem_cons_succ, List.getElem_cons_zero, List.setIfInBounds_toArray, List.set_cons_zero, List.set_cons_succ]
        refine wpAnyH_take (i := 9) (v := .slice (some ⟨ga, 0, none⟩) 0 0) rfl (by kernel_rfl) (by kernel_rfl) (by kernel_rfl) (fun _ _ _ h => h) (Or.inl ⟨by rfl, fun w hSw => ?_⟩) hHeld ?_
        · clear hSw; go_simp; all_goals (try first | rfl | omega)
        try simp only [Act.put, List.getElem_toArray, List.getElem_cons_succ, List.getElem_cons_zero, List.setIfInBounds_toArray, List.set_cons_zero, List.set_cons_succ]
        refine wpAnyH_ready (rs := [3, 5]) (by kernel_rfl) (by simp) ?_
        refine AllReadyH.cons rfl (fun K hK => ?_) ?_
        · rw [if_pos (by rfl)]
          refine wp_append_sl _ _ _ (by rfl) elemAct w6.heap.size (.slice none 0 0) (by rfl) 0 [] (World.ownsRow_nil _ _ _ _) (.slice (some ⟨ga, 0, none⟩) k k) (by rfl) k ((AS.take k).flatMap actCells) (HS1.out.below HBd.out) (acts_one _) (by unfold maxLen; omega) (by omega) (Below.size HBd.out) ?_
          intro v44 wk hown hgr
          have HOK2 := Lib.hid (show wk.ownsRow w6.heap.size 30 4 v44 (0 + k) ([] ++ (AS.take k).flatMap actCells) from hown)
          have HBk := Lib.hid (show Below w6.heap.size w6 wk from HBd.out.grown hgr (Below.size HBd.out) (fun k hk => by simp [Value.ownBlock] at hk))
          have zk : wd.heap.size ≤ wk.heap.size := hgr.size
          clear hown hgr
          show K _ _
          refine hK.out _ _ (by exact HBk.out) (fun hHeld => ?_)
          clear hK K
          try simp only [Act.put, List.getElem_toArray, List.getElem_cons_succ, List.getElem_cons_zero, List.setIfInBounds_toArray, List.set_cons_zero, List.set_cons_succ]
          refine wpAnyH_ready (rs := [5]) (by kernel_rfl) (by simp) ?_
          refine AllReadyH.cons rfl (fun K hK => ?_) ?_
          · rw [if_pos (by rfl)]
            go_simp
            show K _ _
            refine hK.out _ _ (by exact (HBk.out.alloc (Below.size HBk.out) _)) (fun hHeld => ?_)
            clear hK K
            try simp only [Act.put, List.getElem_toArray, List.getElem_cons_succ, List.getElem_cons_zero, List.setIfInBounds_toArray, List.set_cons_zero, List.set_cons_succ]
            obtain ⟨wa1, hwn⟩ : ∃ wa1, wa1 = wk.alloc (.cells #[.int .i64 2, .int .i64 4, .int .i64 0, .string ⟨#[]⟩] 30) := ⟨_, rfl⟩
            have FA1 := Lib.hid (show BoxAt wa1 (wk.heap.size) [.int .i64 2, .int .i64 4, .int .i64 0, .string ⟨#[]⟩] 30 by rw [hwn]; exact BoxAt.newAt wk [.int .i64 2, .int .i64 4, .int .i64 0, .string ⟨#[]⟩] 30 rfl)
            have HBwa1 := Lib.hid (show Below w6.heap.size w6 wa1 by rw [hwn]; exact HBk.out.alloc (Below.size HBk.out) _)
            have hqb : Below wk.heap.size wk wa1 := by rw [hwn]; exact (Below.refl _ _).alloc (Nat.le_refl _) _
            replace HOK2 := Lib.hid (ownsRow_below HOK2.out hqb)
            clear hqb
            rw [← hwn] at hHeld ⊢
            clear hwn
            have zwa1 := FA1.out.lt
            refine wpAnyH_ready (rs := [6]) (by kernel_rfl) (by simp) ?_
            refine AllReadyH.cons rfl (fun K hK => ?_) ?_
            · rw [if_pos (by rfl)]
              refine wp_append_one _ _ _ (by rfl) elemAct w6.heap.size v44 (0 + k) ([] ++ (AS.take k).flatMap actCells) (by rfl) HOK2.out (wk.heap.size) 30 [.int .i64 2, .int .i64 4, .int .i64 0, .string ⟨#[]⟩] (by rfl) FA1.out rfl (by simp [Value.oneCell']) (by unfold maxLen; omega) (by omega) (Below.size HBwa1.out) ?_
              intro gm cm wm hownm hgrm hatm hltm
              have HOM := Lib.hid (show wm.ownsRow w6.heap.size 30 4 (.slice (some ⟨gm, 0, none⟩) (0 + k + 1) cm) (0 + k + 1) ([] ++ (AS.take k).flatMap actCells ++ [.int .i64 2, .int .i64 4, .int .i64 0, .string ⟨#[]⟩]) from hownm)
              have HBm := Lib.hid (show Below w6.heap.size w6 wm from HBwa1.out.grown hgrm (Below.size HBwa1.out) (fun k hk => (HOK2.out.lt k hk).1))
              clear hownm hgrm hatm
              show K _ _
              refine hK.out _ _ (by exact HBm.out) (fun hHeld => ?_)
              clear hK K
              try simp only [Act.put, List.getElem_toArray, List.getElem_cons_succ, List.getElem_cons_zero, List.setIfInBounds_toArray, List.set_cons_zero, List.set_cons_succ]
              refine wpAnyH_ready (rs := [10]) (by kernel_rfl) (by simp) ?_
              refine AllReadyH.cons rfl (fun K hK => ?_) ?_
              · rw [if_pos (by rfl)]
                refine wp_append_sl _ _ _ (by rfl) elemAct w6.heap.size (.slice (some ⟨gm, 0, none⟩) (0 + k + 1) cm) (by first | rfl | go_simp) (0 + k + 1) ([] ++ (AS.take k).flatMap actCells ++ [.int .i64 2, .int .i64 4, .int .i64 0, .string ⟨#[]⟩]) HOM.out (.slice (some ⟨ga, 0, none⟩) 0 0) (by rfl) 0 ((AS.drop k).flatMap actCells) (HS2.out.below HBm.out) (acts_one _) (by unfold maxLen; omega) (by omega) (Below.size HBm.out) ?_
                intro v51 wz hownz hgrz
                have HOZ := Lib.hid (show LstO RAct (fun _ => False) w6.heap.size 30 wz v51 (AS.take k ++ [⟨2, 4, 0, []⟩] ++ AS.drop k) from acts_lst (by
                  have q := hownz
                  rw [show (AS.take k ++ [(⟨2, 4, 0, []⟩ : LAct)] ++ AS.drop k).length = 0 + k + 1 + 0 by first | (simp; done) | (simp; omega)]
                  simpa [actCells, List.flatMap_append] using q))
                have HBz := Lib.hid (show Below w6.heap.size w6 wz from HBm.out.grown hgrz (Below.size HBm.out) (fun k hk => (HOM.out.lt k hk).1))
                clear hownz hgrz
                show K _ _
                refine hK.out _ _ (by exact HBz.out) (fun hHeld => ?_)
                clear hK K
                try simp only [Act.put, List.getElem_toArray, List.getElem_cons_succ, List.getElem_cons_zero, List.setIfInBounds_toArray, List.set_cons_zero, List.set_cons_succ]
                refine wpAnyH_take (i := 11) (v := v51) rfl (by kernel_rfl) (by kernel_rfl) (by kernel_rfl) (fun _ _ _ h => h) (Or.inl ⟨by rfl, fun w hSw => ?_⟩) hHeld ?_
                · clear hSw; go_simp; all_goals (try first | rfl | omega)
                try simp only [Act.put, List.getElem_toArray, List.getElem_cons_succ, List.getElem_cons_zero, List.setIfInBounds_toArray, List.set_cons_zero, List.set_cons_succ]
                refine wpAnyH_done (by kernel_rfl) ?_ _
                go_wp2
                go_meet
                exact ⟨HOZ.out, HBz.out⟩
              exact AllReadyH.nil
            exact AllReadyH.nil
          exact AllReadyH.nil
        refine AllReadyH.cons rfl (fun K hK => ?_) ?_
        · rw [if_pos (by rfl)]
          go_simp
          show K _ _
          refine hK.out _ _ (by exact (HBd.out.alloc (Below.size HBd.out) _)) (fun hHeld => ?_)
          clear hK K
          try simp only [Act.put, List.getElem_toArray, List.getElem_cons_succ, List.getElem_cons_zero, List.setIfInBounds_toArray, List.set_cons_zero, List.set_cons_succ]
          obtain ⟨wa1, hwn⟩ : ∃ wa1, wa1 = wd.alloc (.cells #[.int .i64 2, .int .i64 4, .int .i64 0, .string ⟨#[]⟩] 30) := ⟨_, rfl⟩
          have FA1 := Lib.hid (show BoxAt wa1 (wd.heap.size) [.int .i64 2, .int .i64 4, .int .i64 0, .string ⟨#[]⟩] 30 by rw [hwn]; exact BoxAt.newAt wd [.int .i64 2, .int .i64 4, .int .i64 0, .string ⟨#[]⟩] 30 rfl)
          have HBwa1 := Lib.hid (show Below w6.heap.size w6 wa1 by rw [hwn]; exact HBd.out.alloc (Below.size HBd.out) _)
          rw [← hwn] at hHeld ⊢
          clear hwn
          have zwa1 := FA1.out.lt
          refine wpAnyH_ready (rs := [3]) (by kernel_rfl) (by simp) ?_
          refine AllReadyH.cons rfl (fun K hK => ?_) ?_
          · rw [if_pos (by rfl)]
            refine wp_append_sl _ _ _ (by rfl) elemAct w6.heap.size (.slice none 0 0) (by rfl) 0 [] (World.ownsRow_nil _ _ _ _) (.slice (some ⟨ga, 0, none⟩) k k) (by rfl) k ((AS.take k).flatMap actCells) (HS1.out.below HBwa1.out) (acts_one _) (by unfold maxLen; omega) (by omega) (Below.size HBwa1.out) ?_
            intro v44 wk hown hgr
            have HOK2 := Lib.hid (show wk.ownsRow w6.heap.size 30 4 v44 (0 + k) ([] ++ (AS.take k).flatMap actCells) from hown)
            have HBk := Lib.hid (show Below w6.heap.size w6 wk from HBwa1.out.grown hgr (Below.size HBwa1.out) (fun k hk => by simp [Value.ownBlock] at hk))
            have zk : wa1.heap.size ≤ wk.heap.size := hgr.size
            replace FA1 := Lib.hid (FA1.out.grown hgr (by simp [Value.ownBlock]))
            clear hown hgr
            show K _ _
            refine hK.out _ _ (by exact HBk.out) (fun hHeld => ?_)
            clear hK K
            try simp only [Act.put, List.getElem_toArray, List.getElem_cons_succ, List.getElem_cons_zero, List.setIfInBounds_toArray, List.set_cons_zero, List.set_cons_succ]
            refine wpAnyH_ready (rs := [6]) (by kernel_rfl) (by simp) ?_
            refine AllReadyH.cons rfl (fun K hK => ?_) ?_
            · rw [if_pos (by rfl)]
              refine wp_append_one _ _ _ (by rfl) elemAct w6.heap.size v44 (0 + k) ([] ++ (AS.take k).flatMap actCells) (by rfl) HOK2.out (wd.heap.size) 30 [.int .i64 2, .int .i64 4, .int .i64 0, .string ⟨#[]⟩] (by rfl) FA1.out rfl (by simp [Value.oneCell']) (by unfold maxLen; omega) (by omega) (Below.size HBk.out) ?_
              intro gm cm wm hownm hgrm hatm hltm
              have HOM := Lib.hid (show wm.ownsRow w6.heap.size 30 4 (.slice (some ⟨gm, 0, none⟩) (0 + k + 1) cm) (0 + k + 1) ([] ++ (AS.take k).flatMap actCells ++ [.int .i64 2, .int .i64 4, .int .i64 0, .string ⟨#[]⟩]) from hownm)
              have HBm := Lib.hid (show Below w6.heap.size w6 wm from HBk.out.grown hgrm (Below.size HBk.out) (fun k hk => (HOK2.out.lt k hk).1))
              clear hownm hgrm hatm
              show K _ _
              refine hK.out _ _ (by exact HBm.out) (fun hHeld => ?_)
              clear hK K
              try simp only [Act.put, List.getElem_toArray, List.getElem_cons_succ, List.getElem_cons_zero, List.setIfInBounds_toArray, List.set_cons_zero, List.set_cons_succ]
              refine wpAnyH_ready (rs := [10]) (by kernel_rfl) (by simp) ?_
              refine AllReadyH.cons rfl (fun K hK => ?_) ?_
              · rw [if_pos (by rfl)]
                refine wp_append_sl _ _ _ (by rfl) elemAct w6.heap.size (.slice (some ⟨gm, 0, none⟩) (0 + k + 1) cm) (by first | rfl | go_simp) (0 + k + 1) ([] ++ (AS.take k).flatMap actCells ++ [.int .i64 2, .int .i64 4, .int .i64 0, .string ⟨#[]⟩]) HOM.out (.slice (some ⟨ga, 0, none⟩) 0 0) (by rfl) 0 ((AS.drop k).flatMap actCells) (HS2.out.below HBm.out) (acts_one _) (by unfold maxLen; omega) (by omega) (Below.size HBm.out) ?_
                intro v51 wz hownz hgrz
                have HOZ := Lib.hid (show LstO RAct (fun _ => False) w6.heap.size 30 wz v51 (AS.take k ++ [⟨2, 4, 0, []⟩] ++ AS.drop k) from acts_lst (by
                  have q := hownz
                  rw [show (AS.take k ++ [(⟨2, 4, 0, []⟩ : LAct)] ++ AS.drop k).length = 0 + k + 1 + 0 by first | (simp; done) | (simp; omega)]
                  simpa [actCells, List.flatMap_append] using q))
                have HBz := Lib.hid (show Below w6.heap.size w6 wz from HBm.out.grown hgrz (Below.size HBm.out) (fun k hk => (HOM.out.lt k hk).1))
                clear hownz hgrz
                show K _ _
                refine hK.out _ _ (by exact HBz.out) (fun hHeld => ?_)
                clear hK K
                try simp only [Act.put, List.getElem_toArray, List.getElem_cons_succ, List.getElem_cons_zero, List.setIfInBounds_toArray, List.set_cons_zero, List.set_cons_succ]
                refine wpAnyH_take (i := 11) (v := v51) rfl (by kernel_rfl) (by kernel_rfl) (by kernel_rfl) (fun _ _ _ h => h) (Or.inl ⟨by rfl, fun w hSw => ?_⟩) hHeld ?_
                · clear hSw; go_simp; all_goals (try first | rfl | omega)
                try simp only [Act.put, List.getElem_toArray, List.getElem_cons_succ, List.getElem_cons_zero, List.setIfInBounds_toArray, List.set_cons_zero, List.set_cons_succ]
                refine wpAnyH_done (by kernel_rfl) ?_ _
                go_wp2
                go_meet
                exact ⟨HOZ.out, HBz.out⟩
              exact AllReadyH.nil
            exact AllReadyH.nil
          exact AllReadyH.nil
        exact AllReadyH.nil
      case rest =>
        obtain ⟨hLZ, hB7⟩ := hcut
        rename World => w7
        have HL7 := Lib.hid (hLZ.rd (G' := fun _ => True) (by decide) (fun _ _ _ => trivial) (fun _ _ _ => trivial))
        replace HB := Lib.hid (HB.out.trans (hB7.mono HB.out.size))
        clear hLZ hB7
        have hll := bent_len AS hk ⟨2, 4, 0, []⟩
        have HBT := Lib.hid (fun j (h : j < k) hj => HCD.out _ (bent_lt hk ⟨2, 4, 0, []⟩ h hj))
        have HAT := Lib.hid (show ∀ h : k < (AS.take k ++ [(⟨2, 4, 0, []⟩ : LAct)] ++ AS.drop k).length, actCode (AS.take k ++ [(⟨2, 4, 0, []⟩ : LAct)] ++ AS.drop k)[k] = 2 from fun h => by rw [bent_at hk _ h]; exact code_bent)
        generalize AS.take k ++ [(⟨2, 4, 0, []⟩ : LAct)] ++ AS.drop k = LL at *
        go_wp2_with fail
        refine (run_bad (L := LL) (k := k) (c := 2) (-1) _ _ HL7.out (by omega) (by omega) (by omega) (by omega) (fun j h => HBT.out j h _) (HAT.out _) (by decide)).mono ?_
        rintro e w8 ⟨rfl, hb8⟩
        replace HB := Lib.hid (HB.out.trans (hb8.mono HB.out.size))
        clear hb8
        go_upto_region 7 with fail
        obtain ⟨w9, hwl⟩ : ∃ w9, w9 = (w8.alloc (.cells #[.slice none 0 0, .slice none 0 0, .int .i64 0, .slice none 0 0] 36)) := ⟨_, rfl⟩
        have hBl : Below w8.heap.size w8 w9 := by rw [hwl]; exact ((Below.refl _ _).alloc (by first | exact Nat.le_refl _ | (simp; done) | (simp; omega)) _)
        have HO := Lib.hid (show BoxAt w9 w8.heap.size [.slice none 0 0, .slice none 0 0, .int .i64 0, .slice none 0 0] 36 by rw [hwl]; exact BoxAt.new w8 [_, _, _, _] _)
        rw [← hwl]
        replace HB := Lib.hid (HB.out.trans (hBl.mono HB.out.size))
        clear hwl hBl
        go_wp2_with fail
        obtain ⟨wq, hwl⟩ : ∃ wq, wq = (w9.alloc (.cells cz.toArray 30)) := ⟨_, rfl⟩
        have hBl : Below w9.heap.size w9 wq := by rw [hwl]; exact ((Below.refl _ _).alloc (by first | exact Nat.le_refl _ | (simp; done) | (simp; omega)) _)
        have HC := Lib.hid (show BoxAt wq w9.heap.size cz 30 by rw [hwl]; exact BoxAt.new w9 cz _)
        rw [← hwl]
        replace HB := Lib.hid (HB.out.trans (hBl.mono HB.out.size))
        replace HO := Lib.hid (HO.out.belowS hBl)
        clear hwl hBl
        refine (run_size (L := List.replicate 3001 actZ) (-1) _ _ (HZR.out wq _ HC.out) (by omega) (by omega) (by rw [HLZ.out]; omega)).mono ?_
        rintro e wt ⟨rfl, hbt⟩
        replace HB := Lib.hid (HB.out.trans (hbt.mono HB.out.size))
        replace HO := Lib.hid (HO.out.belowS hbt)
        clear hbt
        go_upto_region 8 with fail
        obtain ⟨wu, hwl⟩ : ∃ wu, wu = (wt.alloc (.cells #[.slice none 0 0, .slice none 0 0, .int .i64 0, .slice none 0 0] 36)) := ⟨_, rfl⟩
        have hBl : Below wt.heap.size wt wu := by rw [hwl]; exact ((Below.refl _ _).alloc (by first | exact Nat.le_refl _ | (simp; done) | (simp; omega)) _)
        rw [← hwl]
        replace HB := Lib.hid (HB.out.trans (hBl.mono HB.out.size))
        replace HO := Lib.hid (HO.out.belowS hBl)
        clear hwl hBl
        have o0 := HO.out.cell 0 rfl
        go_wp2
        go_ret
        exact ⟨rfl, HB.out⟩
end Go.Proofs.YtmijiclocadimaaGreatDoor
