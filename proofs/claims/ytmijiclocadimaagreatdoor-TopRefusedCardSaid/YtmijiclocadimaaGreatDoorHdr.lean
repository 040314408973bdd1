/- sheaveskeep.Header: what it makes. -/
import Derived.Test.YtmijiclocadimaaGreatDoorSome0
import Derived.Test.YtmijiclocadimaaGreatDoorBas
import Derived.IntWalk
import Derived.Deep.RegionLaw
set_option linter.unusedVariables false
set_option linter.unusedSimpArgs false
attribute [local go_sem ↓] Go.wp_at_zero Go.wp_at_succ
namespace Go.Proofs.YtmijiclocadimaaGreatDoor
open Go Go.RowKit

def hdrB (C : Int) (k : Nat) : List Bytes := (List.range k).map fun (i : Nat) => someL C (i : Int)
def hdrP (A : Int) (k : Nat) : List Bytes := (List.range k).map fun (i : Nat) => someL A (10 + (i : Int))
theorem hdrB_succ (C : Int) (k : Nat) : hdrB C (k + 1) = hdrB C k ++ [someL C (k : Int)] := by unfold hdrB; rw [List.range_succ, List.map_append]; rfl
theorem hdrP_succ (A : Int) (k : Nat) : hdrP A (k + 1) = hdrP A k ++ [someL A (10 + (k : Int))] := by unfold hdrP; rw [List.range_succ, List.map_append]; rfl
theorem hdrB_len (C : Int) (k : Nat) : (hdrB C k).length = k := by simp [hdrB]
theorem hdrP_len (C : Int) (k : Nat) : (hdrP C k).length = k := by simp [hdrP]
/-- The header of raw numbers. -/
def hdrOf (A B C : Int) : Hdr := ⟨pickedZ A 4, 1 + pickedZ B 9, hdrB C (pickedZ C 4).toNat, if 1 < 1 + pickedZ B 9 then hdrP A (3 + pickedZ C 2).toNat else []⟩
theorem elemBB : ElemOk Tryz.prog 60 66 1 24 := elemOk_of (z := .slice none 0 0) (by kernel_rfl) (by kernel_rfl) rfl (by decide)

set_option maxRecDepth 100000 in
set_option maxHeartbeats 2000000 in
theorem header_any (K A B C : Int) (vt : Value) (w : World) (a1 : -9223372036854775808 ≤ A) (a2 : A ≤ 9223372036854775807) (b1 : -9223372036854775808 ≤ B) (b2 : B ≤ 9223372036854775807) (c1 : -9223372036854775808 ≤ C) (c2 : C ≤ 9223372036854775807) (hvt : vt.oneCell' = true) :
    Calls Tryz.prog 77 #[.agg #[.int .i64 K, .int .i64 A, .int .i64 B, .int .i64 C, vt]] w fun e w' => ∃ adb capb adp capp,
      e = .returned (.agg #[.int .i64 (hdrOf A B C).a, .int .i64 (hdrOf A B C).r, .slice adb (hdrOf A B C).bs.length capb, .slice adp (hdrOf A B C).ps.length capp]) ∧
      RdBB (fun b => w.heap.size ≤ b) w' (.slice adb (hdrOf A B C).bs.length capb) (hdrOf A B C).bs ∧ RdBB (fun b => w.heap.size ≤ b) w' (.slice adp (hdrOf A B C).ps.length capp) (hdrOf A B C).ps ∧ Below w.heap.size w w' := by
  obtain ⟨pa1, pa2⟩ := pickedZ_range A 4 (by omega)
  obtain ⟨pb1, pb2⟩ := pickedZ_range B 9 (by omega)
  obtain ⟨pc1, pc2⟩ := pickedZ_range C 4 (by omega)
  obtain ⟨pd1, pd2⟩ := pickedZ_range C 2 (by omega)
  have l1 : IntKind.i64.wrap (1 + pickedZ B 9) = 1 + pickedZ B 9 := IntWalk.i64_in _ (by omega)
  have hq : ∀ L : List Value, (Value.slice none 0 0).oneCell' = true := fun _ => rfl
  clear hq
  obtain ⟨X, hX⟩ : ∃ X, X = w.heap.size + 1 + 1 := ⟨_, rfl⟩
  obtain ⟨nB, hnB⟩ : ∃ nB : Nat, pickedZ C 4 = (nB : Int) := ⟨(pickedZ C 4).toNat, by omega⟩
  obtain ⟨q, hq⟩ : ∃ q : Nat, pickedZ C 2 = (q : Int) := ⟨(pickedZ C 2).toNat, by omega⟩
  obtain ⟨nP, hnP⟩ : ∃ nP : Nat, nP = 3 + q := ⟨_, rfl⟩
  have hnP1 : nP ≤ 3 + q := by omega
  have hnP2 : 3 + q ≤ nP := by omega
  have hq1 : q ≤ 1 := by omega
  have hXl : w.heap.size + 2 = X := by omega
  have HX := Lib.hid hX
  have hnB4 : nB ≤ 4 := by omega
  have hnP5 : nP ≤ 5 := by omega
  have HB := Lib.hid hnB
  have HP := Lib.hid hq
  have HD1 := Lib.hid (show (hdrOf A B C).bs = hdrB C nB by unfold hdrOf; simp only [hnB, Int.toNat_natCast])
  have HD2 := Lib.hid (show 1 < 1 + pickedZ B 9 → (hdrOf A B C).ps = hdrP A nP by intro h; unfold hdrOf; rw [if_pos h, show (3 + pickedZ C 2).toNat = nP by rw [hq]; omega])
  have HD3 := Lib.hid (show ¬ 1 < 1 + pickedZ B 9 → (hdrOf A B C).ps = [] by intro h; unfold hdrOf; simp only [if_neg h])
  have HD4 := Lib.hid (show (hdrOf A B C).a = pickedZ A 4 from rfl)
  have HD5 := Lib.hid (show (hdrOf A B C).r = 1 + pickedZ B 9 from rfl)
  generalize hdrOf A B C = D at *
  clear hnB hnP hq hX hXl
  go_enter Tryz.func77, Tryz.ntmps77
  go_upto_region 1 with fail
  go_cut [3] (fun p wx => p = .pointer (some ⟨X, 0, none⟩) ∧ BoxAt wx X [.int .i64 (pickedZ A 4), .int .i64 (1 + pickedZ B 9), .slice none 0 0, .slice none 0 0] 62 ∧
      BoxAt wx w.heap.size [.int .i64 K, .int .i64 A, .int .i64 B, .int .i64 C, vt] 109 ∧ BoxAt wx (w.heap.size + 1) [.int .i64 0, .int .i64 0, .slice none 0 0, .slice none 0 0] 62 ∧ Below w.heap.size w wx)
  case first =>
    go_region_held3 (fun w' => w'.cell? ⟨w.heap.size, 1, none⟩ = some (.int .i64 A) ∧ w'.cell? ⟨w.heap.size, 2, none⟩ = some (.int .i64 B)) (go_keep)
      ((go_at_call 30; refine (picked_any _ _ _ (by omega) (by omega) (by omega) (by omega)).mono ?_; rintro e w' ⟨rfl, rfl⟩))
    all_goals
      go_wp2_with fail
      go_meet
      refine ⟨by rw [HX.out], ?_, ?_, ?_, ?_⟩
      · rw [HX.out]; exact (BoxAt.newAt ((w.alloc _).alloc _) [_, _, _, _] _ (by simp)).drew
      · exact (((BoxAt.new w [_, _, _, _, _] _).alloc _).alloc _).drew
      · exact ((BoxAt.newAt (w.alloc _) [_, _, _, _] _ (by simp)).alloc _).drew
      · exact ((((Below.refl _ w).alloc (Nat.le_refl _) _).alloc (by simp) _).alloc (by simp; omega) _).drew
  case rest =>
    obtain ⟨rfl, bX, bR, bH, hB⟩ := hcut
    have zX := bX.lt
    have hXw : w.heap.size + 1 < X := by have := HX.out; omega
    go_wp2_with fail
    go_loopw [4] (fun i wr => ∃ (k : Nat) (adb : Option Addr) (capb : Nat), k ≤ nB ∧ i = .int .i64 k ∧ BoxAt wr X [.int .i64 (pickedZ A 4), .int .i64 (1 + pickedZ B 9), .slice adb k capb, .slice none 0 0] 62 ∧
        BoxAt wr w.heap.size [.int .i64 K, .int .i64 A, .int .i64 B, .int .i64 C, vt] 109 ∧ BoxAt wr (w.heap.size + 1) [.int .i64 0, .int .i64 0, .slice none 0 0, .slice none 0 0] 62 ∧ LstO RBytes (fun b => X < b) (X + 1) 66 wr (.slice adb k capb) (hdrB C k) ∧ Below w.heap.size w wr)
      (fun i _ => nB - (intOf i).toNat)
    case atStart => exact ⟨0, none, 0, Nat.zero_le _, rfl, bX, bR, bH, LstO.nil _ _ _ _ _, hB⟩
    case round =>
      clear bX bR bH hB zX
      obtain ⟨k, adb, capb, hk, rfl, bX, bR, bH, hL, hB⟩ := hrel
      have zX := bX.lt
      have HBB := Lib.hid hB
      have HBX := Lib.hid bX
      have HBR := Lib.hid bR
      have HBH := Lib.hid bH
      have p3 := bR.cell 3 rfl
      by_cases hlt : (k : Int) < (nB : Int)
      · obtain ⟨vals, hv⟩ := hL.valsOf
        have HV := Lib.hid hv
        have HVl := Lib.hid (hdrB_len C k)
        have hvlt := hv.lt
        have x2 := bX.cell 2 rfl
        clear hv hL bX bR bH hB
        go_wp2_with (go_at_call 30; refine (picked_any _ _ _ (by omega) (by omega) (by omega) (by omega)).mono ?_; rintro e w' ⟨rfl, rfl⟩; rw [HB.out])
        go_region_law
          (first
            | ((refine step_append_one (by rfl) _ _ _ (by rfl) elemBB (X + 1) _ k vals (by rfl) (by have h := HW1.out.own; rw [HVl.out] at h; first | exact h.alloc _ | exact (h.alloc _).drew) _ 66 [.slice (some ⟨wr.heap.size, 0, none⟩) 32 32] (by rfl) (by first | exact BoxAt.new _ [_] _ | exact (BoxAt.new _ [_] _).drew) rfl (by simp [Value.oneCell']) (by unfold maxLen; omega) (by omega) (by simp; omega) ?_; intro g cap w3 hown3 hgr hat hlt3;
                have bX3 := ((HBX2.out.alloc (.cells #[.slice (some ⟨wr.heap.size, 0, none⟩) 32 32] 66)).grown (w' := w3) hgr (fun e => by have := (hvlt _ e).1; omega));
                have x2 := bX3.cell 2 rfl; have f2 := bX3.free 2; have r3 := ((HBR2.out.alloc (.cells #[.slice (some ⟨wr.heap.size, 0, none⟩) 32 32] 66)).grown (w' := w3) hgr (fun e => by have := (hvlt _ e).1; omega)).cell 3 rfl))
            | ((go_simp; go_at_call 78; refine (some_any _ _ _ (by omega) (by omega)).mono ?_; rintro e w2 ⟨rfl, hbox2, hb2⟩;
                have hb2' : Below wr.heap.size wr w2 := (by first | exact (Below.refl _ _).drew.trans hb2 | exact hb2);
                have HW1 := Lib.hid (HV.out.below hb2'); have HBH2 := Lib.hid (HBH.out.belowS hb2'); have HB2 := Lib.hid (show BoxAt w2 wr.heap.size _ _ from hbox2); have HBX2 := Lib.hid (HBX.out.belowS hb2'); have HBR2 := Lib.hid (HBR.out.belowS hb2'); have HBe := Lib.hid hb2'; have z2 := hb2'.size; have z2' := HB2.out.lt;
                have x2 := HBX2.out.cell 2 rfl; have r3 := HBR2.out.cell 3 rfl; have x2f := HBX2.out.free 2; have y2 := HBX2.out.lt; have y3 := HBR2.out.lt; clear hbox2 hb2 hb2')))
        all_goals
          have bR3 := ((HBR2.out.alloc (.cells #[.slice (some ⟨wr.heap.size, 0, none⟩) 32 32] 66)).grown (w' := w3) hgr (fun e => by have := (hvlt _ e).1; omega))
          have bH3 := ((HBH2.out.alloc (.cells #[.slice (some ⟨wr.heap.size, 0, none⟩) 32 32] 66)).grown (w' := w3) hgr (fun e => by have := (hvlt _ e).1; omega))
          have hx := RdS.of_box (G := fun b => X < b ∧ b < (w2.alloc (.cells #[.slice (some ⟨wr.heap.size, 0, none⟩) 32 32] 66)).heap.size ∧ (Value.slice adb k capb).ownBlock ≠ some b) (cap := 32) (HB2.out.alloc (.cells #[.slice (some ⟨wr.heap.size, 0, none⟩) 32 32] 66)) ⟨zX, by simp; omega, fun e => by have := (hvlt _ e).2; omega⟩ (Nat.le_of_eq (someL_length _ _)) (by unfold maxLen; omega)
          have hP := (HW1.out.alloc (.cells #[.slice (some ⟨wr.heap.size, 0, none⟩) 32 32] 66)).push (x := someL C k) (cs := [.slice (some ⟨wr.heap.size, 0, none⟩) 32 32]) ⟨_, rfl, hx⟩ (by rw [HVl.out]; exact hown3) hgr hat
          rw [HVl.out, ← hdrB_succ] at hP
          have hB3 : Below w.heap.size w w3 := ((HBB.out.trans (HBe.out.mono HBB.out.size)).alloc (by have := HBB.out.size; omega) _).grown hgr (by simp; have := HBB.out.size; omega) (fun k hk => by have := (hvlt _ hk).1; omega)
          have HQ1 := Lib.hid hP
          have HQ2 := Lib.hid hB3
          clear hx hP hB3
          go_wp2
          go_roundw
          case rel => exact ⟨k + 1, some ⟨g, 0, none⟩, cap, by omega, by go_num, bX3.set 2 _, bR3.setOther (by simp; omega) _, bH3.setOther (by simp; omega) _, HQ1.out.setCell (by simp) (by simp) _, HQ2.out.setCell (by simp; omega) _⟩
          case measure => simp [intOf]; omega
      · obtain rfl : k = nB := by omega
        have HRB := Lib.hid (hL.rd (G' := fun b => X < b ∧ b < wr.heap.size) (by decide) (fun b h1 h2 => ⟨h1, h2⟩) (fun b h1 h2 => ⟨h1, h2⟩))
        by_cases hr : 1 < 1 + pickedZ B 9
        · have HLP := Lib.hid (HD2.out hr)
          have x1 := bX.cell 1 rfl
          obtain ⟨w5, rfl⟩ : ∃ w5 : World, w5 = wr := ⟨_, rfl⟩
          clear hL bX bR bH hB
          go_wp2_with (go_at_call 30; refine (picked_any _ _ _ (by omega) (by omega) (by omega) (by omega)).mono ?_; rintro e w' ⟨rfl, rfl⟩; rw [HB.out])
          go_loopw [5] (fun i wr => ∃ (j : Nat) (adp : Option Addr) (capp : Nat), j ≤ nP ∧ i = .int .i64 j ∧ BoxAt wr X [.int .i64 (pickedZ A 4), .int .i64 (1 + pickedZ B 9), .slice adb k capb, .slice adp j capp] 62 ∧
              BoxAt wr w.heap.size [.int .i64 K, .int .i64 A, .int .i64 B, .int .i64 C, vt] 109 ∧ BoxAt wr (w.heap.size + 1) [.int .i64 0, .int .i64 0, .slice none 0 0, .slice none 0 0] 62 ∧ RdBB (fun b => X < b ∧ b < w5.heap.size) wr (.slice adb k capb) (hdrB C k) ∧ LstO RBytes (fun b => w5.heap.size ≤ b) w5.heap.size 66 wr (.slice adp j capp) (hdrP A j) ∧ Below w.heap.size w wr ∧ w5.heap.size ≤ wr.heap.size)
            (fun i _ => nP - (intOf i).toNat)
          case atStart => exact ⟨0, none, 0, Nat.zero_le _, rfl, HBX.out, HBR.out, HBH.out, HRB.out, LstO.nil _ _ _ _ _, HBB.out, Nat.le_refl _⟩
          case round =>
            clear HRB HBX HBR HBH HBB p3 x1
            obtain ⟨j, adp, capp, hj, rfl, bX, bR, bH, hRB, hL, hB, h5⟩ := hrel
            have zX5 := zX
            have zX := bX.lt
            have HBB := Lib.hid hB
            have HBX := Lib.hid bX
            have HBR := Lib.hid bR
            have HBH := Lib.hid bH
            have HRB := Lib.hid hRB
            have p3 := bR.cell 3 rfl
            have p1 := bR.cell 1 rfl
            by_cases hlt : (j : Int) < 3 + (q : Int)
            · obtain ⟨vals, hv⟩ := hL.valsOf
              have HV := Lib.hid hv
              have HVl := Lib.hid (hdrP_len A j)
              have hvlt := hv.lt
              have x3 := bX.cell 3 rfl
              have l2 : IntKind.i64.wrap (10 + (j : Int)) = 10 + (j : Int) := IntWalk.i64_in _ (by omega)
              clear hv hL bX bR bH hB hRB
              go_wp2_with (go_at_call 30; refine (picked_any _ _ _ (by omega) (by omega) (by omega) (by omega)).mono ?_; rintro e w' ⟨rfl, rfl⟩; rw [HP.out])
              go_region_law
                (first
                  | ((refine step_append_one (by rfl) _ _ _ (by rfl) elemBB w5.heap.size _ j vals (by rfl) (by have h := HW1.out.own; rw [HVl.out] at h; first | exact h.alloc _ | exact (h.alloc _).drew) _ 66 [.slice (some ⟨wr.heap.size, 0, none⟩) 32 32] (by rfl) (by first | exact BoxAt.new _ [_] _ | exact (BoxAt.new _ [_] _).drew) rfl (by simp [Value.oneCell']) (by unfold maxLen; omega) (by omega) (by simp; omega) ?_; intro g cap w3 hown3 hgr hat hlt3;
                      have bX3 := ((HBX2.out.alloc (.cells #[.slice (some ⟨wr.heap.size, 0, none⟩) 32 32] 66)).grown (w' := w3) hgr (fun e => by have := (hvlt _ e).1; omega));
                      have x3 := bX3.cell 3 rfl; have f3 := bX3.free 3; have r1 := ((HBR2.out.alloc (.cells #[.slice (some ⟨wr.heap.size, 0, none⟩) 32 32] 66)).grown (w' := w3) hgr (fun e => by have := (hvlt _ e).1; omega)).cell 1 rfl))
                  | ((go_simp; go_at_call 78; refine (some_any _ _ _ (by omega) (by omega)).mono ?_; rintro e w2 ⟨rfl, hbox2, hb2⟩;
                      have hb2' : Below wr.heap.size wr w2 := (by first | exact (Below.refl _ _).drew.trans hb2 | exact hb2);
                      have HW1 := Lib.hid (HV.out.below hb2'); have HBH2 := Lib.hid (HBH.out.belowS hb2'); have HB2 := Lib.hid (show BoxAt w2 wr.heap.size _ _ from hbox2); have HBX2 := Lib.hid (HBX.out.belowS hb2'); have HBR2 := Lib.hid (HBR.out.belowS hb2'); have HRB2 := Lib.hid (HRB.out.below hb2' (fun _ h => h)); have HBe := Lib.hid hb2'; have z2 := hb2'.size; have z2' := HB2.out.lt;
                      have x3 := HBX2.out.cell 3 rfl; have r1 := HBR2.out.cell 1 rfl; have x3f := HBX2.out.free 3; have y2 := HBX2.out.lt; have y3 := HBR2.out.lt; clear hbox2 hb2 hb2')))
              all_goals
                have bR3 := ((HBR2.out.alloc (.cells #[.slice (some ⟨wr.heap.size, 0, none⟩) 32 32] 66)).grown (w' := w3) hgr (fun e => by have := (hvlt _ e).1; omega))
                have bH3 := ((HBH2.out.alloc (.cells #[.slice (some ⟨wr.heap.size, 0, none⟩) 32 32] 66)).grown (w' := w3) hgr (fun e => by have := (hvlt _ e).1; omega))
                have hx := RdS.of_box (G := fun b => w5.heap.size ≤ b ∧ b < (w2.alloc (.cells #[.slice (some ⟨wr.heap.size, 0, none⟩) 32 32] 66)).heap.size ∧ (Value.slice adp j capp).ownBlock ≠ some b) (cap := 32) (HB2.out.alloc (.cells #[.slice (some ⟨wr.heap.size, 0, none⟩) 32 32] 66)) ⟨h5, by simp; omega, fun e => by have := (hvlt _ e).2; omega⟩ (Nat.le_of_eq (someL_length _ _)) (by unfold maxLen; omega)
                have hP := (HW1.out.alloc (.cells #[.slice (some ⟨wr.heap.size, 0, none⟩) 32 32] 66)).push (x := someL A (10 + (j : Int))) (cs := [.slice (some ⟨wr.heap.size, 0, none⟩) 32 32]) ⟨_, rfl, hx⟩ (by rw [HVl.out]; exact hown3) hgr hat
                rw [HVl.out, ← hdrP_succ] at hP
                have hB3 : Below w.heap.size w w3 := ((HBB.out.trans (HBe.out.mono HBB.out.size)).alloc (by have := HBB.out.size; omega) _).grown hgr (by simp; have := HBB.out.size; omega) (fun k hk => by have := (hvlt _ hk).1; omega)
                have hRB3 : RdBB (fun b => X < b ∧ b < w5.heap.size) w3 (.slice adb k capb) (hdrB C k) := (HRB2.out.keep (Keep.alloc _ _ (.cells #[.slice (some ⟨wr.heap.size, 0, none⟩) 32 32] 66)) (fun _ h => h)).keep (Keep.grown hgr (fun k hk hb => by have := (hvlt _ hk).1; omega)) (fun _ h => h)
                have hs3 : w2.heap.size ≤ w3.heap.size := by have := hgr.size; simp at this; omega
                have HQ1 := Lib.hid hP
                have HQ2 := Lib.hid hB3
                have HQ3 := Lib.hid hRB3
                clear hx hP hB3 hRB3
                go_wp2
                go_roundw
                case rel => exact ⟨j + 1, some ⟨g, 0, none⟩, cap, by omega, by go_num, bX3.set 3 _, bR3.setOther (by simp; omega) _, bH3.setOther (by simp; omega) _, HQ3.out.keep (Keep.setCell (by simp) _) (fun _ h => h), HQ1.out.setCell (by simp; omega) (by simp; omega) _, HQ2.out.setCell (by simp; omega) _, by simp; omega⟩
                case measure => simp [intOf]; omega
            · obtain rfl : j = nP := by omega
              have HRP := Lib.hid (hL.rd (G' := fun b => w5.heap.size ≤ b) (by decide) (fun b h1 h2 => h1) (fun b h1 h2 => h1))
              have x0 := bX.cell 0 rfl
              have x1 := bX.cell 1 rfl
              have x2 := bX.cell 2 rfl
              have x3 := bX.cell 3 rfl
              have y0 := bH.cell 0 rfl
              have y1 := bH.cell 1 rfl
              have y2 := bH.cell 2 rfl
              have y3 := bH.cell 3 rfl
              have f0 := bH.free 0
              have f1 := bH.free 1
              have f2 := bH.free 2
              have f3 := bH.free 3
              have ne1 : w.heap.size + 1 ≠ X := by omega
              have ne2 : w.heap.size ≠ w.heap.size + 1 := by omega
              clear bX bR bH hB hL
              go_wp2_with (go_at_call 30; refine (picked_any _ _ _ (by omega) (by omega) (by omega) (by omega)).mono ?_; rintro e w' ⟨rfl, rfl⟩; rw [HP.out])
              refine bodyPost_ret (v := .agg #[.int .i64 (pickedZ A 4), .int .i64 (1 + pickedZ B 9), .slice adb k capb, .slice adp j capp]) (by simp [results, Tryz.results77, go_sem, y0, y1, y2, y3]) rfl ⟨adb, capb, adp, capp, ?_, ?_, ?_, ?_⟩
              · rw [HD4.out, HD5.out, HD1.out, hdrB_len, HLP.out, hdrP_len]
              · rw [HD1.out, hdrB_len]
                refine HRB.out.keep ?_ (fun b hb => by have := hb.1; omega)
                repeat (first | with_reducible exact Keep.refl _ _ | with_reducible refine Keep.setCell' ?_ (by simp; omega) _)
              · rw [HLP.out, hdrP_len]
                refine HRP.out.keep ?_ (fun b hb => by omega)
                repeat (first | with_reducible exact Keep.refl _ _ | with_reducible refine Keep.setCell' ?_ (by simp; omega) _)
              · repeat (first | with_reducible exact HBB.out | with_reducible refine Below.setCell ?_ (by simp) _)
        · have HLP := Lib.hid (HD3.out (by omega))
          have x0 := bX.cell 0 rfl
          have x1 := bX.cell 1 rfl
          have x2 := bX.cell 2 rfl
          have x3 := bX.cell 3 rfl
          have y0 := bH.cell 0 rfl
          have y1 := bH.cell 1 rfl
          have y2 := bH.cell 2 rfl
          have y3 := bH.cell 3 rfl
          have f0 := bH.free 0
          have f1 := bH.free 1
          have f2 := bH.free 2
          have f3 := bH.free 3
          have ne1 : w.heap.size + 1 ≠ X := by omega
          have ne2 : w.heap.size ≠ w.heap.size + 1 := by omega
          clear bX bR bH hB hL
          go_wp2_with (go_at_call 30; refine (picked_any _ _ _ (by omega) (by omega) (by omega) (by omega)).mono ?_; rintro e w' ⟨rfl, rfl⟩; rw [HB.out])
          refine bodyPost_ret (v := .agg #[.int .i64 (pickedZ A 4), .int .i64 (1 + pickedZ B 9), .slice adb k capb, .slice none 0 0]) (by simp [results, Tryz.results77, go_sem, y0, y1, y2, y3]) rfl ⟨adb, capb, none, 0, ?_, ?_, ?_, ?_⟩
          · rw [HD4.out, HD5.out, HD1.out, hdrB_len, HLP.out]; try rfl
          · rw [HD1.out, hdrB_len]
            refine HRB.out.keep ?_ (fun b hb => by have := hb.1; omega)
            repeat (first | with_reducible exact Keep.refl _ _ | with_reducible refine Keep.setCell' ?_ (by simp; omega) _)
          · rw [HLP.out]; exact RdS.nil _ _ _
          · repeat (first | with_reducible exact HBB.out | with_reducible refine Below.setCell ?_ (by simp) _)
end Go.Proofs.YtmijiclocadimaaGreatDoor
