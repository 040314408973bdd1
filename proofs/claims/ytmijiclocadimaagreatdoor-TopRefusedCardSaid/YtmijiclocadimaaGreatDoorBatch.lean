/- sheaveskeep.Batch: a batch of raw numbers. -/
import Derived.Test.YtmijiclocadimaaGreatDoorSome0
import Derived.Test.YtmijiclocadimaaGreatDoorKeepTx
import Derived.Test.YtmijiclocadimaaGreatDoorBas
import Derived.Deep.DeepCutAuto
import Derived.Deep.RegionHeld3
import Derived.Deep.RegionLaw
set_option linter.unusedVariables false
set_option linter.unusedSimpArgs false
attribute [local go_sem ↓] Go.wp_at_zero Go.wp_at_succ
namespace Go.Proofs.YtmijiclocadimaaGreatDoor
open Go Go.RowKit

theorem elemTx : ElemOk Tryz.prog 44 9 1 16 := elemOk_of (z := .string ByteArray.empty) (by kernel_rfl) (by kernel_rfl) rfl (by decide)
/-- The batch of raw numbers and texts. -/
def batTx (l : List Bytes) : List Bytes := (l.take 4).map txOf
def batOf (A B : Int) (l : List Bytes) : Bat := ⟨pickedZ A 4, 1 + pickedZ B 9, if l.length = 0 then [[116]] else batTx l⟩
theorem batTx_take (l : List Bytes) (k : Nat) : ((l.take 4).take k).map txOf = (batTx l).take k := by unfold batTx; rw [List.map_take]

theorem ownsRow_base {w : World} {base base' e size n : Nat} {v : Value} {xs : List Value} (h : w.ownsRow base e size v n xs) (hb : base' ≤ base) : w.ownsRow base' e size v n xs := by
  obtain ⟨h1, h2⟩ := h
  refine ⟨h1, ?_⟩
  rcases h2 with h2 | ⟨g, cap, cur, hv, hg, r⟩
  · exact Or.inl h2
  · exact Or.inr ⟨g, cap, cur, hv, Nat.le_trans hb hg, r⟩
set_option maxRecDepth 100000 in
set_option maxHeartbeats 4000000 in
theorem batch_own {G : Nat → Prop} (K A B C : Int) (vt : Value) (l : List Bytes) (w : World) (a1 : -9223372036854775808 ≤ A) (a2 : A ≤ 9223372036854775807) (b1 : -9223372036854775808 ≤ B) (b2 : B ≤ 9223372036854775807)
    (hr : RdT G w vt l) (hs : ∀ t ∈ l, t.length ≤ 9223372036854775807) :
    Calls Tryz.prog 76 #[.agg #[.int .i64 K, .int .i64 A, .int .i64 B, .int .i64 C, vt]] w fun e w' => ∃ ad cap,
      e = .returned (.agg #[.int .i64 (batOf A B l).a, .int .i64 (batOf A B l).n, .slice ad (batOf A B l).txs.length cap]) ∧
      w'.ownsRow w.heap.size 9 1 (.slice ad (batOf A B l).txs.length cap) (batOf A B l).txs.length ((batOf A B l).txs.map fun s => strV s) ∧ Below w.heap.size w w' := by
  obtain ⟨pa1, pa2⟩ := pickedZ_range A 4 (by omega)
  obtain ⟨pb1, pb2⟩ := pickedZ_range B 9 (by omega)
  have l1 : IntKind.i64.wrap (1 + pickedZ B 9) = 1 + pickedZ B 9 := IntWalk.i64_in _ (by omega)
  obtain ⟨adr, capr, rfl, hlc, hcm⟩ := hr.form
  unfold maxLen at hcm
  have HRD := Lib.hid (hr.low (by decide))
  have HS := Lib.hid hs
  clear hr hs
  obtain ⟨X, hX⟩ : ∃ X, X = w.heap.size + 1 + 1 := ⟨_, rfl⟩
  have hXl : w.heap.size + 2 = X := by omega
  have HX := Lib.hid hX
  clear hX hXl
  go_enter Tryz.func76, Tryz.ntmps76
  go_upto_region 1 with fail
  go_cut [3] (fun p wx => p = .pointer (some ⟨X, 0, none⟩) ∧ BoxAt wx X [.int .i64 (pickedZ A 4), .int .i64 (1 + pickedZ B 9), .slice none 0 0] 55 ∧
      BoxAt wx w.heap.size [.int .i64 K, .int .i64 A, .int .i64 B, .int .i64 C, .slice adr l.length capr] 109 ∧ BoxAt wx (w.heap.size + 1) [.int .i64 0, .int .i64 0, .slice none 0 0] 55 ∧ Below w.heap.size w wx)
  case first =>
    go_region_held3 (fun w' => w'.cell? ⟨w.heap.size, 1, none⟩ = some (.int .i64 A) ∧ w'.cell? ⟨w.heap.size, 2, none⟩ = some (.int .i64 B)) (go_keep)
      ((go_at_call 30; refine (picked_any _ _ _ (by omega) (by omega) (by omega) (by omega)).mono ?_; rintro e w' ⟨rfl, rfl⟩))
    all_goals
      go_wp2_with fail
      go_meet
      refine ⟨by rw [HX.out], ?_, ?_, ?_, ?_⟩
      · rw [HX.out]; exact (BoxAt.newAt ((w.alloc _).alloc _) [_, _, _] _ (by simp)).drew
      · exact (((BoxAt.new w [_, _, _, _, _] _).alloc _).alloc _).drew
      · exact ((BoxAt.newAt (w.alloc _) [_, _, _] _ (by simp)).alloc _).drew
      · exact ((((Below.refl _ w).alloc (Nat.le_refl _) _).alloc (by simp) _).alloc (by simp; omega) _).drew
  case rest =>
    obtain ⟨rfl, bX, bR, bH, hB⟩ := hcut
    have hXw : w.heap.size + 1 < X := by have := HX.out; omega
    go_wp2_with fail
    go_loopw [4] (fun i wr => ∃ (k : Nat) (ad : Option Addr) (cap : Nat), k ≤ l.length ∧ k ≤ 4 ∧ i = .int .i64 k ∧ BoxAt wr X [.int .i64 (pickedZ A 4), .int .i64 (1 + pickedZ B 9), .slice ad k cap] 55 ∧
        BoxAt wr w.heap.size [.int .i64 K, .int .i64 A, .int .i64 B, .int .i64 C, .slice adr l.length capr] 109 ∧ BoxAt wr (w.heap.size + 1) [.int .i64 0, .int .i64 0, .slice none 0 0] 55 ∧
        wr.ownsRow (X + 1) 9 1 (.slice ad k cap) k (((batTx l).take k).map fun s => strV s) ∧ Below w.heap.size w wr)
      (fun i _ => l.length - (intOf i).toNat)
    case atStart => exact ⟨0, none, 0, Nat.zero_le _, Nat.zero_le _, rfl, bX, bR, bH, ⟨by simp, .inl ⟨rfl, rfl⟩⟩, hB⟩
    case round =>
      clear bX bR bH hB
      obtain ⟨k, ad, cap, hk, hk4, rfl, bX, bR, bH, hown, hB⟩ := hrel
      have zX := bX.lt
      have HBX := Lib.hid bX
      have HBR := Lib.hid bR
      have HBH := Lib.hid bH
      have HBW := Lib.hid hB
      have HO := Lib.hid hown
      have hvlt := hown.lt
      by_cases hlt : k < l.length ∧ k < 4
      · obtain ⟨h1, h2⟩ := hlt
        obtain ⟨b, o, rfl, hG, hcl⟩ := HRD.out.cell k h1
        have hcl' : wr.cell? ⟨b, o + k, none⟩ = some (strV l[k]) := by
          rw [hB.cell (p := ⟨b, o + k, none⟩) (World.block_lt_of_cell? w _ hcl)]; exact hcl
        have hbw : b < w.heap.size := hG.2
        have hsk := HS.out l[k] (List.getElem_mem h1)
        have hT := fun w => ktx_any l[k] w hsk
        have HTK := Lib.hid (show (batTx l).take (k + 1) = (batTx l).take k ++ [txOf l[k]] by
          have hkl : k < (batTx l).length := by unfold batTx; simp; omega
          rw [List.take_succ_eq_append_getElem hkl]; congr 2; unfold batTx; simp)
        generalize txOf l[k] = t at *
        generalize hlk : l[k] = s at *
        have HTT := Lib.hid hT
        have x2 := bX.cell 2 rfl
        have x2f := bX.free 2
        have r4 := bR.cell 4 rfl
        have i0 : (k : Int) < (l.length : Int) := by omega
        have i1 : (k : Int) < 4 := by omega
        have i2 : (0 : Int) ≤ (k : Int) := by omega
        have nX : X ≠ w.heap.size := by omega
        have nXb : b ≠ X := by omega
        clear hT hlk hcl hown bX bR bH hB
        go_wp2_with fail
        go_region_law
          (first
            | ((refine step_append_one (by rfl) _ _ _ (by rfl) elemTx (X + 1) (.slice ad k cap) k _ (by rfl) (by exact ownsRow_below HO.out (by repeat (first | with_reducible exact Below.refl _ _ | with_reducible refine Below.drew ?_ | with_reducible refine Below.alloc ?_ (by first | omega | (simp <;> omega)) _))) _ 9 [strV t] (by rfl) (by first | exact BoxAt.new _ [_] _ | exact (BoxAt.new _ [_] _).drew) rfl (by simp [Value.oneCell']) (by unfold maxLen; omega) (by omega) (by simp; omega) ?_; intro g cap3 w3 hown3 hgr hat hlt3;
                have bX3 := (HBX.out.drew.alloc (.cells #[strV t] 9)).grown (w' := w3) hgr (fun e => by have := (hvlt _ e).1; omega);
                have x2 := bX3.cell 2 rfl; have f2 := bX3.free 2))
            | ((go_simp; go_at_call 110; refine (HTT.out _).mono ?_; rintro e w' ⟨rfl, rfl⟩)))
        all_goals
          have bR3 := (HBR.out.drew.alloc (.cells #[strV t] 9)).grown (w' := w3) hgr (fun e => by have := (hvlt _ e).1; omega)
          have bH3 := (HBH.out.drew.alloc (.cells #[strV t] 9)).grown (w' := w3) hgr (fun e => by have := (hvlt _ e).1; omega)
          have hB3 : Below w.heap.size w w3 := (HBW.out.drew.alloc (by have := HBW.out.size; simp; omega) _).grown hgr (by simp; have := HBW.out.size; omega) (fun k hk => by have := (hvlt _ hk).1; omega)
          have HQ1 := Lib.hid hown3
          have HQ2 := Lib.hid hB3
          clear hB3 hown3
          go_wp2
          go_roundw
          case rel => exact ⟨k + 1, some ⟨g, 0, none⟩, cap3, by omega, by omega, by go_num, bX3.set 2 _, bR3.setOther (by simp; omega) _, bH3.setOther (by simp; omega) _, by rw [HTK.out, List.map_append]; exact ownsRow_setCell HQ1.out (by simp) _, HQ2.out.setCell (by simp; omega) _⟩
          case measure => simp [intOf]; omega
      · have x0 := bX.cell 0 rfl
        have x1 := bX.cell 1 rfl
        have x2 := bX.cell 2 rfl
        have xf := bX.free 2
        have r4 := bR.cell 4 rfl
        have y0 := bH.cell 0 rfl
        have y1 := bH.cell 1 rfl
        have y2 := bH.cell 2 rfl
        have f0 := bH.free 0
        have f1 := bH.free 1
        have f2 := bH.free 2
        have ne1 : w.heap.size + 1 ≠ X := by omega
        have ne2 : X ≠ w.heap.size + 1 := by omega
        have ne3 : wr.heap.size ≠ X := by omega
        have zB := hB.size
        have zH := bH.lt
        have ne4 : wr.heap.size ≠ w.heap.size + 1 := by omega
        by_cases hk0 : k = 0
        · have hl0 : l.length = 0 := by omega
          have HT := Lib.hid (show (batOf A B l).txs = [[116]] by unfold batOf; rw [if_pos hl0])
          subst hk0
          have t1 : ¬ ((0 : Nat) : Int) < (l.length : Int) := by omega
          have bH9 := ((((bH.setOther (p := ⟨X, 2, none⟩) ne1 (.slice (some ⟨wr.heap.size, 0, none⟩) 1 1)).set 0 (.int .i64 (pickedZ A 4))).set 1 (.int .i64 (1 + pickedZ B 9))).set 2 (.slice (some ⟨wr.heap.size, 0, none⟩) 1 1)).alloc (.cells #[strV [116]] 9)
          have HBH9 := Lib.hid bH9
          have HB9 := Lib.hid hB
          clear hlt bX bR bH hown hB hk hk4 bH9
          go_wp2_with fail
          have g0 := HBH9.out.cell 0 rfl
          have g1 := HBH9.out.cell 1 rfl
          have g2 := HBH9.out.cell 2 rfl
          refine bodyPost_ret (v := .agg #[.int .i64 (pickedZ A 4), .int .i64 (1 + pickedZ B 9), .slice (some ⟨wr.heap.size, 0, none⟩) 1 1]) (by simp [results, Tryz.results76, go_sem, g0, g1, g2]) rfl ⟨some ⟨wr.heap.size, 0, none⟩, 1, by rw [HT.out]; rfl, ?_, ?_⟩
          · rw [HT.out]
            have := lit_ownsN ((((wr.setCell ⟨X, 2, none⟩ (.slice (some ⟨wr.heap.size, 0, none⟩) 1 1)).setCell ⟨w.heap.size + 1, 0, none⟩ (.int .i64 (pickedZ A 4))).setCell ⟨w.heap.size + 1, 1, none⟩ (.int .i64 (1 + pickedZ B 9))).setCell ⟨w.heap.size + 1, 2, none⟩ (.slice (some ⟨wr.heap.size, 0, none⟩) 1 1)) [strV [116]] 9
            exact ownsRow_base (base := wr.heap.size) (by simpa using this) (by omega)
          · exact ((((HB9.out.setCell (by simp; omega) _).setCell (by simp) _).setCell (by simp) _).setCell (by simp) _).alloc (by simp; omega) _
        · have hkl : k = (batTx l).length := by unfold batTx; simp; omega
          have HT := Lib.hid (show (batOf A B l).txs = batTx l by unfold batOf; rw [if_neg (by omega)])
          have hrd : wr.ownsRow (X + 1) 9 1 (.slice ad k cap) k ((batTx l).map fun s => strV s) := by
            have := HO.out
            rwa [hkl, List.take_length, ← hkl] at this
          have HR := Lib.hid hrd
          have HKL := Lib.hid hkl
          have e0 : ((k : Int) == 0) = false := by rw [beq_eq_false_iff_ne]; omega
          have HB9 := Lib.hid hB
          have hc : ¬ (k : Int) < (l.length : Int) ∨ ((k : Int) < (l.length : Int) ∧ ¬ (k : Int) < 4) := by omega
          clear hlt bX bR bH hown hB hk hk4 hrd hkl hk0
          rcases hc with t1 | ⟨t1, t2⟩
          all_goals
            go_wp2_with fail
            refine bodyPost_ret (v := .agg #[.int .i64 (pickedZ A 4), .int .i64 (1 + pickedZ B 9), .slice ad k cap]) (by simp [results, Tryz.results76, go_sem, y0, y1, y2]) rfl ⟨ad, cap, by rw [HT.out, ← HKL.out]; rfl, ?_, ?_⟩
            · rw [HT.out, ← HKL.out]
              refine ownsRow_base (base := X + 1) ?_ (by omega)
              repeat (first | with_reducible exact HR.out | with_reducible refine ownsRow_setCell ?_ (by simp; omega) _)
            · repeat (first | with_reducible exact HB9.out | with_reducible refine Below.setCell ?_ (by simp) _)
set_option maxRecDepth 100000 in
set_option maxHeartbeats 4000000 in
theorem batch_any {G : Nat → Prop} (K A B C : Int) (vt : Value) (l : List Bytes) (w : World) (a1 : -9223372036854775808 ≤ A) (a2 : A ≤ 9223372036854775807) (b1 : -9223372036854775808 ≤ B) (b2 : B ≤ 9223372036854775807)
    (hr : RdT G w vt l) (hs : ∀ t ∈ l, t.length ≤ 9223372036854775807) :
    Calls Tryz.prog 76 #[.agg #[.int .i64 K, .int .i64 A, .int .i64 B, .int .i64 C, vt]] w fun e w' => ∃ ad cap,
      e = .returned (.agg #[.int .i64 (batOf A B l).a, .int .i64 (batOf A B l).n, .slice ad (batOf A B l).txs.length cap]) ∧
      RdT (fun b => w.heap.size ≤ b) w' (.slice ad (batOf A B l).txs.length cap) (batOf A B l).txs ∧ Below w.heap.size w w' :=
  (batch_own K A B C vt l w a1 a2 b1 b2 hr hs).mono fun e w' ⟨ad, cap, he, ho, hb⟩ => ⟨ad, cap, he, RdS.of_owns ho (fun _ h => h), hb⟩
end Go.Proofs.YtmijiclocadimaaGreatDoor
