/- InsertLate: the walk. -/
import Derived.Test.YtialhdmdeggenaaDoorLateLaw
set_option linter.unusedVariables false
set_option linter.unusedSimpArgs false
attribute [local go_sem ↓] Go.wp_at_zero Go.wp_at_succ
namespace Go.Proofs.YtialhdmdeggenaaDoor
open Go Go.RowKit

set_option maxRecDepth 100000 in
set_option maxHeartbeats 8000000 in
theorem insertLate_walk (n : Int) (w : World) (n1 : -9223372036854775808 ≤ n) (n2 : n ≤ 9223372036854775807) (ht : Tabs w) :
    Calls Tryd.prog 11 #[.int .i64 n] w fun e w' => e = .returned (.bool true) ∧ Below w.heap.size w w' := by
  obtain ⟨p1, p2⟩ := pickedZ_range n 4 (by omega)
  have HT := Lib.hid ht
  clear ht
  go_enter Tryd.func11, Tryd.ntmps11
  go_upto_region 3 with (go_at_call 19; refine (picked_any n 4 _ n1 n2 (by omega) (by omega)).mono ?_; rintro e w' ⟨rfl, rfl⟩)
  obtain ⟨kk, hkk⟩ : ∃ kk, kk = pickedZ n 4 := ⟨_, rfl⟩
  rw [← hkk] at p1 p2 ⊢
  clear hkk
  go_wp2_with fail
  go_loopw [5] (fun i wr => ∃ (k : Nat) (ad : Option Addr) (cap : Nat), k ≤ 4 ∧ i = .int .i64 k ∧ BoxAt wr w.heap.size [.slice ad (lateL kk k).length cap] 59 ∧ RdS RCert (fun b => w.heap.size < b) wr (.slice ad (lateL kk k).length cap) (lateL kk k) ∧ Below w.heap.size w wr) (fun i _ => 4 - (intOf i).toNat)
  case atStart => exact ⟨0, none, 0, Nat.zero_le _, rfl, BoxAt.new w [.slice none 0 0] _, RdS.nil _ _ _, (Below.refl _ _).alloc (Nat.le_refl _) _⟩
  case round =>
    obtain ⟨k, ad, cap, hk, rfl, hBX, hD, hB⟩ := hrel
    have HX := Lib.hid hBX
    have HD := Lib.hid hD
    have HB := Lib.hid hB
    have hz := HX.out.lt
    clear hBX hD hB
    by_cases hlt : k < 4
    · have k0 : (k : Int) < 4 := by omega
      have wk : IntKind.i64.wrap ((k : Int) + 1) = (k : Int) + 1 := IntWalk.i64_in _ (by omega)
      by_cases hq : (k : Int) = kk
      · have e1 : ((k : Int) == kk) = true := by simp [hq]
        have HS := Lib.hid (late_skip (n := k) hq)
        clear hq
        go_wp2
        go_roundw
        case rel => exact ⟨k + 1, ad, cap, by omega, by go_num, by rw [HS.out]; exact HX.out, by rw [HS.out]; exact HD.out, HB.out⟩
        case measure => simp [intOf]; omega
      · have e1 : ((k : Int) == kk) = false := by simp [hq]
        have HS := Lib.hid (late_step hlt hq)
        clear hq
        have x0 := HX.out.cell 0 rfl
        have hBv : Below wr.heap.size wr (wr.alloc (.cells #[.int .i64 0, .int .i64 1, .int .i64 2] 3)) := (Below.refl _ _).alloc (Nat.le_refl _) _
        have HVo := Lib.hid (show RdI (fun _ => True) (wr.alloc (.cells #[.int .i64 0, .int .i64 1, .int .i64 2] 3)) (.slice (some ⟨wr.heap.size, 0, none⟩) 3 3) [0, 1, 2] from RdS.of_box (f := Value.int .i64) (l := [0, 1, 2]) (cap := 3) (BoxAt.new wr [.int .i64 0, .int .i64 1, .int .i64 2] 3) trivial (by simp) (by unfold maxLen; simp))
        have HDo := Lib.hid ((HD.out.mono (G' := fun _ => True) (fun _ _ => trivial)).below hBv (fun _ h => h))
        have HTo := Lib.hid (show Tabs (wr.alloc (.cells #[.int .i64 0, .int .i64 1, .int .i64 2] 3)) from HT.out.belowS (HB.out.trans (hBv.mono HB.out.size)))
        go_wp2_with fail
        refine (dagInsert_any (lateC (k : Int) [0, 1, 2]) _ _ _ _ _ HDo.out (RdS.nil _ (fun _ => True) _) (RdS.nil _ (fun _ => True) _) HVo.out HTo.out).mono ?_
        rintro e w3 ⟨v3, rfl, h3, hb3⟩
        rw [HS.out.1]
        have HI := Lib.hid (show insL (lateL kk k) (lateC k [0, 1, 2]) = lateL kk (k + 1) by rw [insL_yes HS.out.1, HS.out.2])
        rw [HI.out] at h3
        obtain ⟨ad3, cap3, rfl, -, -⟩ := h3.form
        have hBv3 := hBv.trans (hb3.mono hBv.size)
        have HX3 := Lib.hid (HX.out.belowS hBv3)
        have HB3 := Lib.hid (HB.out.trans (hBv3.mono HB.out.size))
        have HD3 := Lib.hid (h3.mono (G' := fun b => wr.heap.size < b) (fun b hb => by have h0 : (wr.alloc (.cells #[.int .i64 0, .int .i64 1, .int .i64 2] 3)).heap.size ≤ b := hb; simp at h0; omega))
        clear x0 hBv HVo HDo HTo h3 hb3 hBv3 HX HD HB
        have x0 := HX3.out.cell 0 rfl
        have xf := HX3.out.free 0
        have xz := HX3.out.lt
        go_wp2
        go_roundw
        case rel =>
          refine ⟨k + 1, ad3, cap3, by omega, by go_num, (HX3.out.set 0 _).alloc _, ?_, (HB3.out.setCell (by simp) _).alloc (by have := HB3.out.size; simp [World.setCell]; omega) _⟩
          exact ((HD3.out.mono (G' := fun b => w.heap.size < b) (fun b hb => by omega)).keep (Keep.setCell (by simp) _) (fun _ h => h)).below ((Below.refl _ _).alloc (Nat.le_refl _) _) (fun _ h => h)
        case measure => simp [intOf]; omega
    · obtain rfl : k = 4 := by omega
      have HA := Lib.hid (late_all p1 p2)
      have t1 : ¬ ((4 : Nat) : Int) < 4 := by omega
      have x0 := HX.out.cell 0 rfl
      go_wp2_with fail
      refine (dagRound_any _ _ (HD.out.mono (G' := fun _ => True) (fun _ _ => trivial)) (HT.out.belowS HB.out) HA.out.1).mono ?_
      rintro e w2 ⟨rfl, hb2⟩
      rw [HA.out.2.1]
      replace HX := Lib.hid (HX.out.belowS hb2)
      replace HD := Lib.hid (HD.out.below hb2 (fun _ h => h))
      replace HB := Lib.hid (HB.out.trans (hb2.mono HB.out.size))
      clear x0 hb2
      have x0 := HX.out.cell 0 rfl
      have hz2 := HX.out.lt
      have hBv : Below w2.heap.size w2 (w2.alloc (.cells #[.int .i64 1, .int .i64 2, .int .i64 3] 3)) := (Below.refl _ _).alloc (Nat.le_refl _) _
      have HVo := Lib.hid (show RdI (fun _ => True) (w2.alloc (.cells #[.int .i64 1, .int .i64 2, .int .i64 3] 3)) (.slice (some ⟨w2.heap.size, 0, none⟩) 3 3) [1, 2, 3] from RdS.of_box (f := Value.int .i64) (l := [1, 2, 3]) (cap := 3) (BoxAt.new w2 [.int .i64 1, .int .i64 2, .int .i64 3] 3) trivial (by simp) (by unfold maxLen; simp))
      have HDo := Lib.hid ((HD.out.mono (G' := fun _ => True) (fun _ _ => trivial)).below hBv (fun _ h => h))
      have HTo := Lib.hid (show Tabs (w2.alloc (.cells #[.int .i64 1, .int .i64 2, .int .i64 3] 3)) from HT.out.belowS (HB.out.trans (hBv.mono HB.out.size)))
      go_wp2_with fail
      refine (dagInsert_any (lateC kk [1, 2, 3]) _ _ _ _ _ HDo.out (RdS.nil _ (fun _ => True) _) (RdS.nil _ (fun _ => True) _) HVo.out HTo.out).mono ?_
      rintro e w3 ⟨v3, rfl, h3, hb3⟩
      rw [HA.out.2.2.1]
      rw [insL_yes HA.out.2.2.1] at h3
      have HI := Lib.hid HA.out.2.2.2
      have hBv3 := hBv.trans (hb3.mono hBv.size)
      have HB3 := Lib.hid (HB.out.trans (hBv3.mono HB.out.size))
      have HD3 := Lib.hid h3
      clear x0 hBv HVo HDo HTo h3 hb3 hBv3 HX HD HB HA
      generalize lateL kk 4 ++ [lateC kk [1, 2, 3]] = X at *
      obtain ⟨ad3, cap3, rfl, -, -⟩ := HD3.out.form
      go_upto_region 13 with fail
      obtain ⟨w4, hw4⟩ : ∃ w4, w4 = w3.alloc (.cells #[.slice ad3 X.length cap3] 59) := ⟨_, rfl⟩
      have HX4 := Lib.hid (show BoxAt w4 w3.heap.size [.slice ad3 X.length cap3] 59 by rw [hw4]; exact BoxAt.new w3 [_] _)
      have hB4 : Below w3.heap.size w3 w4 := by rw [hw4]; exact (Below.refl _ _).alloc (Nat.le_refl _) _
      rw [← hw4]
      have HD4 := Lib.hid ((HD3.out.mono (G' := fun _ => True) (fun _ _ => trivial)).below hB4 (fun _ h => h))
      have HB4 := Lib.hid (HB3.out.trans (hB4.mono HB3.out.size))
      clear hw4 hB4 HD3 HB3
      have x0 := HX4.out.cell 0 rfl
      go_wp2_with fail
      refine (dagRound_any _ _ HD4.out (HT.out.belowS HB4.out) HI.out.1).mono ?_
      rintro e w5 ⟨rfl, hb5⟩
      rw [HI.out.2.1]
      replace HX4 := Lib.hid (HX4.out.belowS hb5)
      replace HD4 := Lib.hid (HD4.out.below hb5 (fun _ h => h))
      replace HB4 := Lib.hid (HB4.out.trans (hb5.mono HB4.out.size))
      clear x0 hb5
      have x0 := HX4.out.cell 0 rfl
      go_wp2_with fail
      refine (dagDigests_any 1 _ _ HD4.out (HT.out.belowS HB4.out) HI.out.1).mono ?_
      rintro e w6 ⟨v6, rfl, h6, hb6⟩
      obtain ⟨ad6, cap6, rfl, -, -⟩ := h6.form
      rw [HI.out.2.2]
      have HB6 := Lib.hid (HB4.out.trans (hb6.mono HB4.out.size))
      clear x0 h6 hb6
      go_wp2
      go_ret
      exact ⟨rfl, HB6.out⟩
end Go.Proofs.YtialhdmdeggenaaDoor
