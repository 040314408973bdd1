/- LinesBack: the walk. -/
import Derived.Test.YtodcebhfkmlmgaaDoorActLaw
import Derived.Test.YtodcebhfkmlmgaaDoorReadL
set_option linter.unusedVariables false
set_option linter.unusedSimpArgs false
namespace Go.Proofs.YtodcebhfkmlmgaaDoor
open Go Go.RowKit

def crashA : LAct := ⟨7, 1, 20, []⟩
theorem crash_show : showR [crashA] = ([99, 114, 97, 115, 104, 32, 49, 32, 50, 48, 10], 0, 0) := by
  rw [showR_ok (by decide) (by intro a ha; obtain rfl := List.mem_singleton.1 ha; decide +kernel)]
  have : showL [crashA] = [99, 114, 97, 115, 104, 32, 49, 32, 50, 48, 10] := by decide +kernel
  rw [this]
set_option maxRecDepth 100000 in
set_option maxHeartbeats 8000000 in
theorem linesBack_walk (v : Value) (l : List FeatD) (w : World) (hv : RdS RFeat (fun _ => True) w v l) (ht : TabR w) :
    Calls Tryd.prog 6 #[v] w fun e w' => e = .returned (.bool true) ∧ Below w.heap.size w w' := by
  obtain ⟨ad, cap, rfl, -, hm1⟩ := hv.form
  unfold maxLen at hm1
  have HT := Lib.hid ht.l
  have HTR := Lib.hid ht
  have HV := Lib.hid hv
  clear ht hv
  go_enter Tryd.func6, Tryd.ntmps6
  by_cases c1 : l.length ≤ 30
  · go_wp2_with fail
    go_loopw [3, 4] (fun o i wr => ∃ (k : Nat) (ado : Option Addr) (capo : Nat), k ≤ l.length ∧ i = .int .i64 k ∧ o = .slice ado k capo ∧ Hid (LstO RAct (fun _ => False) w.heap.size 25 wr (.slice ado k capo) (actsL (l.take k))) ∧ Hid (Below w.heap.size w wr)) (fun _ i _ => l.length - (intOf i).toNat)
    case atStart => exact ⟨0, none, 0, Nat.zero_le _, rfl, rfl, Lib.hid (LstO.nil _ _ _ _ _), Lib.hid (Below.refl _ _)⟩
    case round =>
      obtain ⟨k, ado, capo, hk, rfl, rfl, HL, HBk⟩ := hrel
      have hzk := HBk.out.size
      by_cases hlt : k < l.length
      · have k0 : (0 : Int) ≤ (k : Int) := by omega
        have k1 : (k : Int) < (l.length : Int) := by omega
        have k2 : (k : Int) < 30 := by omega
        have kl : k < l.length := by omega
        have wk : IntKind.i64.wrap ((k : Int) + 1) = (k : Int) + 1 := IntWalk.i64_in _ (by omega)
        have HSU := Lib.hid (actsL_succ kl)
        have HKL := Lib.hid (show (actsL (l.take k)).length = k by rw [actsL_len, List.length_take]; omega)
        obtain ⟨b, o, rfl, e0, e1, e2, e3, hfo⟩ := (HV.out.below HBk.out (fun _ h => h)).feat k kl
        generalize l[k] = f at *
        have HFO := Lib.hid hfo
        clear hfo
        go_wp2_with fail
        refine (act_any f _ HFO.out).mono ?_
        rintro e w91 ⟨rfl, hb1⟩
        have HBk1 := Lib.hid (HBk.out.trans (hb1.mono hzk))
        have HL1 := Lib.hid (HL.out.below hb1)
        have hz1 := HBk1.out.size
        generalize featA f = a at *
        clear hb1 e0 e1 e2 e3 HL HBk
        go_upto_region 6 with fail
        obtain ⟨w92, hwl⟩ : ∃ w92, w92 = (w91.alloc (.cells #[.int .i64 a.k, .int .i64 a.n, .int .i64 a.p, strV a.t] 25)) := ⟨_, rfl⟩
        have hBl : Below w91.heap.size w91 w92 := by rw [hwl]; exact ((Below.refl _ _).alloc (by first | exact Nat.le_refl _ | (simp; done) | (simp; omega)) _)
        have HX := Lib.hid (show BoxAt w92 w91.heap.size [.int .i64 a.k, .int .i64 a.n, .int .i64 a.p, strV a.t] 25 by rw [hwl]; exact BoxAt.new w91 [.int .i64 a.k, .int .i64 a.n, .int .i64 a.p, strV a.t] _)
        rw [← hwl]
        replace HL1 := Lib.hid (HL1.out.below hBl)
        replace HBk1 := Lib.hid (HBk1.out.trans (hBl.mono HBk1.out.size))
        clear hwl hBl
        have x0 := HX.out.cell 0 rfl
        have x1 := HX.out.cell 1 rfl
        have x2 := HX.out.cell 2 rfl
        have x3 := HX.out.cell 3 rfl
        have zx := HX.out.lt
        have hz2 := HBk1.out.size
        obtain ⟨vals, hv⟩ := HL1.out.valsOf
        have hvlt := hv.lt
        have HLv := Lib.hid hv
        clear hv HL1
        go_wp2_with (at_builtin; refine wpList_append_one rfl _ _ 32 rfl elemAct w.heap.size _ k vals rfl (by have h := (HLv.out.alloc (.cells #[.int .i64 a.k, .int .i64 a.n, .int .i64 a.p, strV a.t] 25)).own; rw [HKL.out] at h; exact h) w92.heap.size 25 [.int .i64 a.k, .int .i64 a.n, .int .i64 a.p, strV a.t] rfl (BoxAt.new w92 [.int .i64 a.k, .int .i64 a.n, .int .i64 a.p, strV a.t] _) rfl (by simp [Value.oneCell']) (by unfold maxLen; omega) (by omega) (by simp; omega) ?_; intro g cap6 w6 hown6 hgr6 hat6 hlt6)
        have hP := (HLv.out.alloc (.cells #[.int .i64 a.k, .int .i64 a.n, .int .i64 a.p, strV a.t] 25)).push (x := a) rfl (by rw [HKL.out]; exact hown6) hgr6 hat6
        rw [HKL.out, ← HSU.out] at hP
        have HP := Lib.hid hP
        have HB6 := Lib.hid ((HBk1.out.alloc hz2 (.cells #[.int .i64 a.k, .int .i64 a.n, .int .i64 a.p, strV a.t] 25)).grown hgr6 (by simp; omega) (fun k hk => by have := (hvlt _ hk).1; omega))
        clear hP hown6 hgr6 hat6
        go_wp2
        go_roundw
        case rel => exact ⟨k + 1, some ⟨g, 0, none⟩, cap6, by omega, by go_num, rfl, HP, HB6⟩
        case measure => simp [intOf]; omega
      · obtain rfl : k = l.length := by omega
        have k1 : ¬ ((l.length : Nat) : Int) < (l.length : Int) := by omega
        have HKA := Lib.hid (show (actsL (l.take l.length)).length = l.length by rw [actsL_len, List.length_take]; omega)
        have HOA := Lib.hid (actsL_ok (l.take l.length))
        obtain ⟨wz, rfl⟩ : ∃ wz : World, wz = wr := ⟨_, rfl⟩
        generalize hla : actsL (l.take l.length) = la at *
        clear hla
        have HSA := Lib.hid (showR_ok (l := la) (by rw [HKA.out]; omega) HOA.out)
        have HRA := Lib.hid (readL_show HOA.out (by rw [HKA.out]; omega))
        have hsl := showL_len HOA.out
        rw [HKA.out] at hsl
        have HA := Lib.hid (HL.out.rd (G' := fun _ => True) (by decide) (fun _ _ _ => trivial) (fun _ _ _ => trivial))
        have HB := HBk
        clear HL HBk
        go_wp2_with fail
        refine (lshow_any _ _ HA.out (HT.out.belowS HB.out)).mono ?_
        rintro e w2 ⟨rfl, hb_s⟩
        rw [HSA.out]
        replace HA := Lib.hid (HA.out.below hb_s (fun _ h => h))
        replace HB := Lib.hid (HB.out.trans (hb_s.mono HB.out.size))
        clear hb_s
        go_wp2_with fail
        refine (lread_any (showL la) _ (by omega) (HTR.out.belowS HB.out)).mono ?_
        rintro e w3 ⟨v3, rfl, hrd, hb_s⟩
        rw [HRA.out] at hrd
        rw [HRA.out]
        replace HA := Lib.hid (HA.out.below hb_s (fun _ h => h))
        replace HB := Lib.hid (HB.out.trans (hb_s.mono HB.out.size))
        obtain ⟨ad3, cap3, rfl, -, hm3⟩ := hrd.form
        have HG := Lib.hid (hrd.mono (G' := fun _ => True) (fun _ _ => trivial))
        rw [HKA.out] at HG
        rw [HKA.out]
        unfold maxLen at hm3
        clear hb_s hrd
        have hB4 : Below w3.heap.size w3 (w3.alloc (.cells #[.int .i64 7, .int .i64 1, .int .i64 20, .string ⟨#[]⟩] 25)) := (Below.refl _ _).alloc (Nat.le_refl _) _
        have HRD := Lib.hid (show RdS RAct (fun _ => True) (w3.alloc (.cells #[.int .i64 7, .int .i64 1, .int .i64 20, .string ⟨#[]⟩] 25)) (.slice (some ⟨w3.heap.size, 0, none⟩) 1 1) [crashA] from rdActs (l := [crashA]) (BoxAt.new w3 [.int .i64 7, .int .i64 1, .int .i64 20, .string ⟨#[]⟩] _) trivial (by unfold maxLen; simp))
        have HT4 := Lib.hid (HT.out.belowS (HB.out.trans (hB4.mono HB.out.size)))
        go_wp2_with fail
        refine (lshow_any _ _ HRD.out HT4.out).mono ?_
        rintro e w5 ⟨rfl, hb5⟩
        rw [crash_show]
        have hb_s := hB4.trans (hb5.mono hB4.size)
        replace HA := Lib.hid (HA.out.below hb_s (fun _ h => h))
        replace HB := Lib.hid (HB.out.trans (hb_s.mono HB.out.size))
        replace HG := Lib.hid (HG.out.below hb_s (fun _ h => h))
        clear hb_s hb5 hB4 HRD HT4
        go_wp2_with fail
        go_loopw [15] (fun i wr => ∃ k : Nat, k ≤ l.length ∧ i = .int .i64 k ∧ Hid (Below w5.heap.size w5 wr)) (fun i _ => l.length - (intOf i).toNat)
        case atStart => exact ⟨0, Nat.zero_le _, rfl, Lib.hid (Below.refl _ _)⟩
        case round =>
          obtain ⟨k, hk, rfl, HBr⟩ := hrel
          have wk : k < l.length → IntKind.i64.wrap ((k : Int) + 1) = (k : Int) + 1 := fun h => IntWalk.i64_in _ (by omega)
          by_cases hlt : k < l.length
          · replace wk := wk hlt
            have k0 : (0 : Int) ≤ (k : Int) := by omega
            have k1 : (k : Int) < (l.length : Int) := by omega
            have kl : k < la.length := by rw [HKA.out]; exact hlt
            obtain ⟨ba, oa, rfl, x0, x1, x2, x3⟩ := (HA.out.below HBr.out (fun _ h => h)).act k kl
            obtain ⟨bg, og, rfl, y0, y1, y2, y3⟩ := (HG.out.below HBr.out (fun _ h => h)).act k kl
            generalize la[k] = a at *
            go_wp2
            refine wp_region_held_drew (S := fun w' => Below wr.heap.size wr w') (by kernel_rfl) (by exact (Below.refl _ _).drew) (fun hHeld => ?_)
            obtain ⟨wd, hwd⟩ : ∃ wd, wd = wr.drew := ⟨_, rfl⟩
            rw [← hwd] at hHeld ⊢
            have HBd := Lib.hid (show Below wr.heap.size wr wd from hHeld)
            have zwd : wr.heap.size ≤ wd.heap.size := by rw [hwd]; exact Nat.le_refl _
            clear hwd
            refine wpAnyH_take (i := 0) (v := .slice (some ⟨ba, oa, none⟩) l.length capo) rfl (by kernel_rfl) (by kernel_rfl) (by kernel_rfl) (fun _ _ _ h => h) (Or.inl ⟨by rfl, fun w hSw => ?_⟩) hHeld ?_
            · clear hSw; go_simp; all_goals (try first | rfl | omega)
            try simp only [Act.put, List.getElem_toArray, List.getElem_cons_succ, List.getElem_cons_zero, List.setIfInBounds_toArray, List.set_cons_zero, List.set_cons_succ]
            refine wpAnyH_take (i := 1) (v := .int .i64 (k : Int)) rfl (by kernel_rfl) (by kernel_rfl) (by kernel_rfl) (fun _ _ _ h => h) (Or.inl ⟨by rfl, fun w hSw => ?_⟩) hHeld ?_
            · clear hSw; go_simp; all_goals (try first | rfl | omega)
            try simp only [Act.put, List.getElem_toArray, List.getElem_cons_succ, List.getElem_cons_zero, List.setIfInBounds_toArray, List.set_cons_zero, List.set_cons_succ]
            refine wpAnyH_take (i := 2) (v := .pointer (some ⟨ba, oa + k * 4, none⟩)) rfl (by kernel_rfl) (by kernel_rfl) (by kernel_rfl) (fun _ _ _ h => h) (Or.inl ⟨by rfl, fun w hSw => ?_⟩) hHeld ?_
            · clear hSw; go_simp
            try simp only [Act.put, List.getElem_toArray, List.getElem_cons_succ, List.getElem_cons_zero, List.setIfInBounds_toArray, List.set_cons_zero, List.set_cons_succ]
            refine wpAnyH_take (i := 3) (v := .agg #[.int .i64 a.k, .int .i64 a.n, .int .i64 a.p, strV a.t]) rfl (by kernel_rfl) (by kernel_rfl) (by kernel_rfl) (fun _ _ _ h => h) (Or.inl ⟨by rfl, fun w hSw => ?_⟩) hHeld ?_
            · have q0 := (hSw.cell (p := ⟨_, _, none⟩) (World.block_lt_of_cell? wr _ x0)).trans x0; have q1 := (hSw.cell (p := ⟨_, _, none⟩) (World.block_lt_of_cell? wr _ x1)).trans x1; have q2 := (hSw.cell (p := ⟨_, _, none⟩) (World.block_lt_of_cell? wr _ x2)).trans x2; have q3 := (hSw.cell (p := ⟨_, _, none⟩) (World.block_lt_of_cell? wr _ x3)).trans x3; clear hSw; go_simp
            try simp only [Act.put, List.getElem_toArray, List.getElem_cons_succ, List.getElem_cons_zero, List.setIfInBounds_toArray, List.set_cons_zero, List.set_cons_succ]
            refine wpAnyH_take (i := 4) (v := .slice (some ⟨bg, og, none⟩) l.length cap3) rfl (by kernel_rfl) (by kernel_rfl) (by kernel_rfl) (fun _ _ _ h => h) (Or.inl ⟨by rfl, fun w hSw => ?_⟩) hHeld ?_
            · clear hSw; go_simp; all_goals (try first | rfl | omega)
            try simp only [Act.put, List.getElem_toArray, List.getElem_cons_succ, List.getElem_cons_zero, List.setIfInBounds_toArray, List.set_cons_zero, List.set_cons_succ]
            refine wpAnyH_take (i := 5) (v := .int .i64 (k : Int)) rfl (by kernel_rfl) (by kernel_rfl) (by kernel_rfl) (fun _ _ _ h => h) (Or.inl ⟨by rfl, fun w hSw => ?_⟩) hHeld ?_
            · clear hSw; go_simp; all_goals (try first | rfl | omega)
            try simp only [Act.put, List.getElem_toArray, List.getElem_cons_succ, List.getElem_cons_zero, List.setIfInBounds_toArray, List.set_cons_zero, List.set_cons_succ]
            refine wpAnyH_take (i := 6) (v := .pointer (some ⟨bg, og + k * 4, none⟩)) rfl (by kernel_rfl) (by kernel_rfl) (by kernel_rfl) (fun _ _ _ h => h) (Or.inl ⟨by rfl, fun w hSw => ?_⟩) hHeld ?_
            · clear hSw; go_simp
            try simp only [Act.put, List.getElem_toArray, List.getElem_cons_succ, List.getElem_cons_zero, List.setIfInBounds_toArray, List.set_cons_zero, List.set_cons_succ]
            refine wpAnyH_take (i := 7) (v := .agg #[.int .i64 a.k, .int .i64 a.n, .int .i64 a.p, strV a.t]) rfl (by kernel_rfl) (by kernel_rfl) (by kernel_rfl) (fun _ _ _ h => h) (Or.inl ⟨by rfl, fun w hSw => ?_⟩) hHeld ?_
            · have q0 := (hSw.cell (p := ⟨_, _, none⟩) (World.block_lt_of_cell? wr _ y0)).trans y0; have q1 := (hSw.cell (p := ⟨_, _, none⟩) (World.block_lt_of_cell? wr _ y1)).trans y1; have q2 := (hSw.cell (p := ⟨_, _, none⟩) (World.block_lt_of_cell? wr _ y2)).trans y2; have q3 := (hSw.cell (p := ⟨_, _, none⟩) (World.block_lt_of_cell? wr _ y3)).trans y3; clear hSw; go_simp
            try simp only [Act.put, List.getElem_toArray, List.getElem_cons_succ, List.getElem_cons_zero, List.setIfInBounds_toArray, List.set_cons_zero, List.set_cons_succ]
            refine wpAnyH_take (i := 8) (v := .bool false) rfl (by kernel_rfl) (by kernel_rfl) (by kernel_rfl) (fun _ _ _ h => h) (Or.inl ⟨by rfl, fun w hSw => ?_⟩) hHeld ?_
            · clear hSw; go_simp; all_goals (try first | rfl | omega)
            try simp only [Act.put, List.getElem_toArray, List.getElem_cons_succ, List.getElem_cons_zero, List.setIfInBounds_toArray, List.set_cons_zero, List.set_cons_succ]
            refine wpAnyH_done (by kernel_rfl) ?_ _
            have HBE := Lib.hid (HBr.out.trans (HBd.out.mono HBr.out.size))
            go_wp2
            go_roundw
            case rel => exact ⟨k + 1, by omega, by go_num, HBE⟩
            case measure => simp [intOf]; omega
          · obtain rfl : k = l.length := by omega
            clear wk
            have k1 : ¬ ((l.length : Nat) : Int) < (l.length : Int) := by omega
            go_wp2
            go_ret
            exact ⟨rfl, (HB.out.trans (HBr.out.mono HB.out.size))⟩
  · obtain ⟨N1, hN⟩ : ∃ N1 : Nat, N1 = 30 := ⟨_, rfl⟩
    have N1a : N1 ≤ 30 := by omega
    have N1b : 30 ≤ N1 := by omega
    clear hN
    go_wp2_with fail
    go_loopw [3, 4] (fun o i wr => ∃ (k : Nat) (ado : Option Addr) (capo : Nat), k ≤ N1 ∧ i = .int .i64 k ∧ o = .slice ado k capo ∧ Hid (LstO RAct (fun _ => False) w.heap.size 25 wr (.slice ado k capo) (actsL (l.take k))) ∧ Hid (Below w.heap.size w wr)) (fun _ i _ => N1 - (intOf i).toNat)
    case atStart => exact ⟨0, none, 0, Nat.zero_le _, rfl, rfl, Lib.hid (LstO.nil _ _ _ _ _), Lib.hid (Below.refl _ _)⟩
    case round =>
      obtain ⟨k, ado, capo, hk, rfl, rfl, HL, HBk⟩ := hrel
      have hzk := HBk.out.size
      by_cases hlt : k < N1
      · have k0 : (0 : Int) ≤ (k : Int) := by omega
        have k1 : (k : Int) < (l.length : Int) := by omega
        have k2 : (k : Int) < 30 := by omega
        have kl : k < l.length := by omega
        have wk : IntKind.i64.wrap ((k : Int) + 1) = (k : Int) + 1 := IntWalk.i64_in _ (by omega)
        have HSU := Lib.hid (actsL_succ kl)
        have HKL := Lib.hid (show (actsL (l.take k)).length = k by rw [actsL_len, List.length_take]; omega)
        obtain ⟨b, o, rfl, e0, e1, e2, e3, hfo⟩ := (HV.out.below HBk.out (fun _ h => h)).feat k kl
        generalize l[k] = f at *
        have HFO := Lib.hid hfo
        clear hfo
        go_wp2_with fail
        refine (act_any f _ HFO.out).mono ?_
        rintro e w91 ⟨rfl, hb1⟩
        have HBk1 := Lib.hid (HBk.out.trans (hb1.mono hzk))
        have HL1 := Lib.hid (HL.out.below hb1)
        have hz1 := HBk1.out.size
        generalize featA f = a at *
        clear hb1 e0 e1 e2 e3 HL HBk
        go_upto_region 6 with fail
        obtain ⟨w92, hwl⟩ : ∃ w92, w92 = (w91.alloc (.cells #[.int .i64 a.k, .int .i64 a.n, .int .i64 a.p, strV a.t] 25)) := ⟨_, rfl⟩
        have hBl : Below w91.heap.size w91 w92 := by rw [hwl]; exact ((Below.refl _ _).alloc (by first | exact Nat.le_refl _ | (simp; done) | (simp; omega)) _)
        have HX := Lib.hid (show BoxAt w92 w91.heap.size [.int .i64 a.k, .int .i64 a.n, .int .i64 a.p, strV a.t] 25 by rw [hwl]; exact BoxAt.new w91 [.int .i64 a.k, .int .i64 a.n, .int .i64 a.p, strV a.t] _)
        rw [← hwl]
        replace HL1 := Lib.hid (HL1.out.below hBl)
        replace HBk1 := Lib.hid (HBk1.out.trans (hBl.mono HBk1.out.size))
        clear hwl hBl
        have x0 := HX.out.cell 0 rfl
        have x1 := HX.out.cell 1 rfl
        have x2 := HX.out.cell 2 rfl
        have x3 := HX.out.cell 3 rfl
        have zx := HX.out.lt
        have hz2 := HBk1.out.size
        obtain ⟨vals, hv⟩ := HL1.out.valsOf
        have hvlt := hv.lt
        have HLv := Lib.hid hv
        clear hv HL1
        go_wp2_with (at_builtin; refine wpList_append_one rfl _ _ 32 rfl elemAct w.heap.size _ k vals rfl (by have h := (HLv.out.alloc (.cells #[.int .i64 a.k, .int .i64 a.n, .int .i64 a.p, strV a.t] 25)).own; rw [HKL.out] at h; exact h) w92.heap.size 25 [.int .i64 a.k, .int .i64 a.n, .int .i64 a.p, strV a.t] rfl (BoxAt.new w92 [.int .i64 a.k, .int .i64 a.n, .int .i64 a.p, strV a.t] _) rfl (by simp [Value.oneCell']) (by unfold maxLen; omega) (by omega) (by simp; omega) ?_; intro g cap6 w6 hown6 hgr6 hat6 hlt6)
        have hP := (HLv.out.alloc (.cells #[.int .i64 a.k, .int .i64 a.n, .int .i64 a.p, strV a.t] 25)).push (x := a) rfl (by rw [HKL.out]; exact hown6) hgr6 hat6
        rw [HKL.out, ← HSU.out] at hP
        have HP := Lib.hid hP
        have HB6 := Lib.hid ((HBk1.out.alloc hz2 (.cells #[.int .i64 a.k, .int .i64 a.n, .int .i64 a.p, strV a.t] 25)).grown hgr6 (by simp; omega) (fun k hk => by have := (hvlt _ hk).1; omega))
        clear hP hown6 hgr6 hat6
        go_wp2
        go_roundw
        case rel => exact ⟨k + 1, some ⟨g, 0, none⟩, cap6, by omega, by go_num, rfl, HP, HB6⟩
        case measure => simp [intOf]; omega
      · obtain rfl : N1 = k := by omega
        have k1 : (N1 : Int) < (l.length : Int) := by omega
        have k2 : ¬ (N1 : Int) < 30 := by omega
        have HKA := Lib.hid (show (actsL (l.take N1)).length = N1 by rw [actsL_len, List.length_take]; omega)
        have HOA := Lib.hid (actsL_ok (l.take N1))
        obtain ⟨wz, rfl⟩ : ∃ wz : World, wz = wr := ⟨_, rfl⟩
        generalize hla : actsL (l.take N1) = la at *
        clear hla
        have HSA := Lib.hid (showR_ok (l := la) (by rw [HKA.out]; omega) HOA.out)
        have HRA := Lib.hid (readL_show HOA.out (by rw [HKA.out]; omega))
        have hsl := showL_len HOA.out
        rw [HKA.out] at hsl
        have HA := Lib.hid (HL.out.rd (G' := fun _ => True) (by decide) (fun _ _ _ => trivial) (fun _ _ _ => trivial))
        have HB := HBk
        clear HL HBk
        go_wp2_with fail
        refine (lshow_any _ _ HA.out (HT.out.belowS HB.out)).mono ?_
        rintro e w2 ⟨rfl, hb_s⟩
        rw [HSA.out]
        replace HA := Lib.hid (HA.out.below hb_s (fun _ h => h))
        replace HB := Lib.hid (HB.out.trans (hb_s.mono HB.out.size))
        clear hb_s
        go_wp2_with fail
        refine (lread_any (showL la) _ (by omega) (HTR.out.belowS HB.out)).mono ?_
        rintro e w3 ⟨v3, rfl, hrd, hb_s⟩
        rw [HRA.out] at hrd
        rw [HRA.out]
        replace HA := Lib.hid (HA.out.below hb_s (fun _ h => h))
        replace HB := Lib.hid (HB.out.trans (hb_s.mono HB.out.size))
        obtain ⟨ad3, cap3, rfl, -, hm3⟩ := hrd.form
        have HG := Lib.hid (hrd.mono (G' := fun _ => True) (fun _ _ => trivial))
        rw [HKA.out] at HG
        rw [HKA.out]
        unfold maxLen at hm3
        clear hb_s hrd
        have hB4 : Below w3.heap.size w3 (w3.alloc (.cells #[.int .i64 7, .int .i64 1, .int .i64 20, .string ⟨#[]⟩] 25)) := (Below.refl _ _).alloc (Nat.le_refl _) _
        have HRD := Lib.hid (show RdS RAct (fun _ => True) (w3.alloc (.cells #[.int .i64 7, .int .i64 1, .int .i64 20, .string ⟨#[]⟩] 25)) (.slice (some ⟨w3.heap.size, 0, none⟩) 1 1) [crashA] from rdActs (l := [crashA]) (BoxAt.new w3 [.int .i64 7, .int .i64 1, .int .i64 20, .string ⟨#[]⟩] _) trivial (by unfold maxLen; simp))
        have HT4 := Lib.hid (HT.out.belowS (HB.out.trans (hB4.mono HB.out.size)))
        go_wp2_with fail
        refine (lshow_any _ _ HRD.out HT4.out).mono ?_
        rintro e w5 ⟨rfl, hb5⟩
        rw [crash_show]
        have hb_s := hB4.trans (hb5.mono hB4.size)
        replace HA := Lib.hid (HA.out.below hb_s (fun _ h => h))
        replace HB := Lib.hid (HB.out.trans (hb_s.mono HB.out.size))
        replace HG := Lib.hid (HG.out.below hb_s (fun _ h => h))
        clear hb_s hb5 hB4 HRD HT4
        go_wp2_with fail
        go_loopw [15] (fun i wr => ∃ k : Nat, k ≤ N1 ∧ i = .int .i64 k ∧ Hid (Below w5.heap.size w5 wr)) (fun i _ => N1 - (intOf i).toNat)
        case atStart => exact ⟨0, Nat.zero_le _, rfl, Lib.hid (Below.refl _ _)⟩
        case round =>
          obtain ⟨k, hk, rfl, HBr⟩ := hrel
          have wk : k < N1 → IntKind.i64.wrap ((k : Int) + 1) = (k : Int) + 1 := fun h => IntWalk.i64_in _ (by omega)
          by_cases hlt : k < N1
          · replace wk := wk hlt
            have k0 : (0 : Int) ≤ (k : Int) := by omega
            have k1 : (k : Int) < (N1 : Int) := by omega
            have kl : k < la.length := by rw [HKA.out]; exact hlt
            obtain ⟨ba, oa, rfl, x0, x1, x2, x3⟩ := (HA.out.below HBr.out (fun _ h => h)).act k kl
            obtain ⟨bg, og, rfl, y0, y1, y2, y3⟩ := (HG.out.below HBr.out (fun _ h => h)).act k kl
            generalize la[k] = a at *
            go_wp2
            refine wp_region_held_drew (S := fun w' => Below wr.heap.size wr w') (by kernel_rfl) (by exact (Below.refl _ _).drew) (fun hHeld => ?_)
            obtain ⟨wd, hwd⟩ : ∃ wd, wd = wr.drew := ⟨_, rfl⟩
            rw [← hwd] at hHeld ⊢
            have HBd := Lib.hid (show Below wr.heap.size wr wd from hHeld)
            have zwd : wr.heap.size ≤ wd.heap.size := by rw [hwd]; exact Nat.le_refl _
            clear hwd
            refine wpAnyH_take (i := 0) (v := .slice (some ⟨ba, oa, none⟩) N1 capo) rfl (by kernel_rfl) (by kernel_rfl) (by kernel_rfl) (fun _ _ _ h => h) (Or.inl ⟨by rfl, fun w hSw => ?_⟩) hHeld ?_
            · clear hSw; go_simp; all_goals (try first | rfl | omega)
            try simp only [Act.put, List.getElem_toArray, List.getElem_cons_succ, List.getElem_cons_zero, List.setIfInBounds_toArray, List.set_cons_zero, List.set_cons_succ]
            refine wpAnyH_take (i := 1) (v := .int .i64 (k : Int)) rfl (by kernel_rfl) (by kernel_rfl) (by kernel_rfl) (fun _ _ _ h => h) (Or.inl ⟨by rfl, fun w hSw => ?_⟩) hHeld ?_
            · clear hSw; go_simp; all_goals (try first | rfl | omega)
            try simp only [Act.put, List.getElem_toArray, List.getElem_cons_succ, List.getElem_cons_zero, List.setIfInBounds_toArray, List.set_cons_zero, List.set_cons_succ]
            refine wpAnyH_take (i := 2) (v := .pointer (some ⟨ba, oa + k * 4, none⟩)) rfl (by kernel_rfl) (by kernel_rfl) (by kernel_rfl) (fun _ _ _ h => h) (Or.inl ⟨by rfl, fun w hSw => ?_⟩) hHeld ?_
            · clear hSw; go_simp
            try simp only [Act.put, List.getElem_toArray, List.getElem_cons_succ, List.getElem_cons_zero, List.setIfInBounds_toArray, List.set_cons_zero, List.set_cons_succ]
            refine wpAnyH_take (i := 3) (v := .agg #[.int .i64 a.k, .int .i64 a.n, .int .i64 a.p, strV a.t]) rfl (by kernel_rfl) (by kernel_rfl) (by kernel_rfl) (fun _ _ _ h => h) (Or.inl ⟨by rfl, fun w hSw => ?_⟩) hHeld ?_
            · have q0 := (hSw.cell (p := ⟨_, _, none⟩) (World.block_lt_of_cell? wr _ x0)).trans x0; have q1 := (hSw.cell (p := ⟨_, _, none⟩) (World.block_lt_of_cell? wr _ x1)).trans x1; have q2 := (hSw.cell (p := ⟨_, _, none⟩) (World.block_lt_of_cell? wr _ x2)).trans x2; have q3 := (hSw.cell (p := ⟨_, _, none⟩) (World.block_lt_of_cell? wr _ x3)).trans x3; clear hSw; go_simp
            try simp only [Act.put, List.getElem_toArray, List.getElem_cons_succ, List.getElem_cons_zero, List.setIfInBounds_toArray, List.set_cons_zero, List.set_cons_succ]
            refine wpAnyH_take (i := 4) (v := .slice (some ⟨bg, og, none⟩) N1 cap3) rfl (by kernel_rfl) (by kernel_rfl) (by kernel_rfl) (fun _ _ _ h => h) (Or.inl ⟨by rfl, fun w hSw => ?_⟩) hHeld ?_
            · clear hSw; go_simp; all_goals (try first | rfl | omega)
            try simp only [Act.put, List.getElem_toArray, List.getElem_cons_succ, List.getElem_cons_zero, List.setIfInBounds_toArray, List.set_cons_zero, List.set_cons_succ]
            refine wpAnyH_take (i := 5) (v := .int .i64 (k : Int)) rfl (by kernel_rfl) (by kernel_rfl) (by kernel_rfl) (fun _ _ _ h => h) (Or.inl ⟨by rfl, fun w hSw => ?_⟩) hHeld ?_
            · clear hSw; go_simp; all_goals (try first | rfl | omega)
            try simp only [Act.put, List.getElem_toArray, List.getElem_cons_succ, List.getElem_cons_zero, List.setIfInBounds_toArray, List.set_cons_zero, List.set_cons_succ]
            refine wpAnyH_take (i := 6) (v := .pointer (some ⟨bg, og + k * 4, none⟩)) rfl (by kernel_rfl) (by kernel_rfl) (by kernel_rfl) (fun _ _ _ h => h) (Or.inl ⟨by rfl, fun w hSw => ?_⟩) hHeld ?_
            · clear hSw; go_simp
            try simp only [Act.put, List.getElem_toArray, List.getElem_cons_succ, List.getElem_cons_zero, List.setIfInBounds_toArray, List.set_cons_zero, List.set_cons_succ]
            refine wpAnyH_take (i := 7) (v := .agg #[.int .i64 a.k, .int .i64 a.n, .int .i64 a.p, strV a.t]) rfl (by kernel_rfl) (by kernel_rfl) (by kernel_rfl) (fun _ _ _ h => h) (Or.inl ⟨by rfl, fun w hSw => ?_⟩) hHeld ?_
            · have q0 := (hSw.cell (p := ⟨_, _, none⟩) (World.block_lt_of_cell? wr _ y0)).trans y0; have q1 := (hSw.cell (p := ⟨_, _, none⟩) (World.block_lt_of_cell? wr _ y1)).trans y1; have q2 := (hSw.cell (p := ⟨_, _, none⟩) (World.block_lt_of_cell? wr _ y2)).trans y2; have q3 := (hSw.cell (p := ⟨_, _, none⟩) (World.block_lt_of_cell? wr _ y3)).trans y3; clear hSw; go_simp
            try simp only [Act.put, List.getElem_toArray, List.getElem_cons_succ, List.getElem_cons_zero, List.setIfInBounds_toArray, List.set_cons_zero, List.set_cons_succ]
            refine wpAnyH_take (i := 8) (v := .bool false) rfl (by kernel_rfl) (by kernel_rfl) (by kernel_rfl) (fun _ _ _ h => h) (Or.inl ⟨by rfl, fun w hSw => ?_⟩) hHeld ?_
            · clear hSw; go_simp; all_goals (try first | rfl | omega)
            try simp only [Act.put, List.getElem_toArray, List.getElem_cons_succ, List.getElem_cons_zero, List.setIfInBounds_toArray, List.set_cons_zero, List.set_cons_succ]
            refine wpAnyH_done (by kernel_rfl) ?_ _
            have HBE := Lib.hid (HBr.out.trans (HBd.out.mono HBr.out.size))
            go_wp2
            go_roundw
            case rel => exact ⟨k + 1, by omega, by go_num, HBE⟩
            case measure => simp [intOf]; omega
          · obtain rfl : N1 = k := by omega
            clear wk
            have k1 : ¬ ((N1 : Nat) : Int) < (N1 : Int) := by omega
            go_wp2
            go_ret
            exact ⟨rfl, (HB.out.trans (HBr.out.mono HB.out.size))⟩
end Go.Proofs.YtodcebhfkmlmgaaDoor
