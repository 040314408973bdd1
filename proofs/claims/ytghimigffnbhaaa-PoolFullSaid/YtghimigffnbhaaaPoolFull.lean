/- PoolFull: the walk. -/
import Derived.Test.YtghimigffnbhaaaPoolMore
set_option linter.unusedVariables false
set_option linter.unusedSimpArgs false
namespace Go.Proofs.Ytghimigffnbhaaa
open Go Go.RowKit

def pfTx (i : Nat) : List UInt8 := [UInt8.ofNat i, 97]
def pfList (j : Nat) : List (List UInt8) := (List.range j).map pfTx
theorem pf_ok : ∀ j, j < 40 → addCode 1 (pfList j) (pfTx j) = 0 := by decide +kernel
theorem pf_full : ∀ j, j < 80 → 40 ≤ j → addCode 1 (pfList 40) (pfTx j) = 6 := by decide +kernel
theorem pf_succ (j : Nat) : pfList (j + 1) = pfList j ++ [pfTx j] := by simp [pfList, List.range_succ]
theorem pf_len (j : Nat) : (pfList j).length = j := by simp [pfList]

/-- A new block of bytes reads as them. -/
theorem rdB_new (w : World) (e : TypeId) (l : List UInt8) (h : l.length ≤ maxLen) : RdB (fun _ => True) (w.alloc (.cells (l.map fun c => Value.int .u8 c.toNat).toArray e)) (.slice (some ⟨w.heap.size, 0, none⟩) l.length l.length) l :=
  RdS.of_owns (base := 0) (e := e) ⟨by simp, Or.inr ⟨w.heap.size, l.length, _, rfl, Nat.zero_le _, heap_alloc_new w _, Nat.le_refl _, h, by simp, by rw [List.toList_toArray, Nat.mul_one, List.take_of_length_le (by simp)]⟩⟩ (fun _ _ => trivial)
theorem rdB_pf (w : World) (e : TypeId) (k : Nat) (h : k < 80) : RdB (fun _ => True) (w.alloc (.cells #[.int .u8 k, .int .u8 97] e)) (.slice (some ⟨w.heap.size, 0, none⟩) 2 2) (pfTx k) := by
  have := rdB_new w e (pfTx k) (by simp [pfTx, maxLen])
  have e1 : (k : Int) % 256 = (k : Int) := by omega
  simpa [pfTx, e1] using this

set_option maxRecDepth 100000 in
set_option maxHeartbeats 400000 in
theorem poolFull_walk (n : Int) (w : World) (h1 : -9223372036854775808 ≤ n) (h2 : n ≤ 9223372036854775807) :
    Calls Try.prog 5 #[.int .i64 n] w fun e w' => e = .returned (.bool true) ∧ Below w.heap.size w w' := by
  obtain ⟨r1, r2⟩ := pickedZ_range n 80 (by omega)
  have HK := Lib.hid (fun w => picked_any n 80 w h1 h2 (by omega) (by omega))
  generalize pickedZ n 80 = K at *
  obtain ⟨m, rfl⟩ := Int.eq_ofNat_of_zero_le r1
  go_enter Try.func5, Try.ntmps5
  go_wp2_with (go_at_call 16; refine (HK.out _).mono ?_; rintro e w' ⟨rfl, rfl⟩)
  go_loopw [5] (fun i wr => ∃ (k : Nat) (v' : Value), k ≤ m ∧ i = .int .i64 k ∧ BoxAt wr w.heap.size [.int .i64 1, v'] 31 ∧ RdT (fun b => w.heap.size + 1 ≤ b) wr v' (pfList (min k 40)) ∧ Below w.heap.size w wr)
    (fun i _ => m - (intOf i).toNat)
  case atStart => exact ⟨0, .slice none 0 0, by omega, rfl, BoxAt.new w [_, _] _, RdS.nil _ _ _, (Below.refl _ _).alloc (Nat.le_refl _) _⟩
  case round =>
    obtain ⟨k, v', hk, rfl, hbox, hrd, hB⟩ := hrel
    have z1 := hbox.lt
    have p0 := hbox.cell 0 rfl
    have p1 := hbox.cell 1 rfl
    have pf0 := hbox.free 0
    have pf1 := hbox.free 1
    have HRD := Lib.hid hrd
    obtain ⟨ad1, cap1, rfl, -, -⟩ := hrd.form
    clear hrd
    by_cases hlt : k < m
    · have k80 : k < 80 := by omega
      have i1 : (k : Int) < 256 := by omega
      have i0 : (0 : Int) ≤ (k : Int) := by omega
      by_cases h40 : k < 40
      · have HC := Lib.hid (pf_ok k h40)
        rw [show min k 40 = k by omega] at *
        go_wp2_with (first
          | (refine wpList_bytes_str rfl 27 9 _ rfl Try.underlying27 Try.underlying5 Try.underlying9 _ rfl _ (rdB_pf _ _ k k80) ?_)
          | (go_at_call 20; refine (padd_ok HC.out (HRD.out.keep (Keep.alloc _ _ _) (fun _ h => h))).mono ?_; rintro e w2 ⟨ad2, cap2, rfl, hrd2, hb2⟩; obtain ⟨hc2, hf2⟩ := bcell hb2; have z2 : w.heap.size < w2.heap.size := (by have := hb2.size; simp at this; omega)))
        have hB2 : Below wr.heap.size wr w2 := ((Below.refl _ _).alloc (Nat.le_refl _) _).trans (hb2.mono (by simp))
        have HR2 := Lib.hid (hrd2.low (by decide))
        clear hrd2
        go_wp2
        go_roundw
        case rel =>
          refine ⟨k + 1, .slice ad2 ((pfList k).length + 1) cap2, by omega, by go_num, ?_, ?_, ?_⟩
          · repeat (first | with_reducible exact hbox.belowS hB2 | with_reducible apply BoxAt.alloc | with_reducible apply BoxAt.set2 | with_reducible refine BoxAt.setOther ?_ (by first | omega | (simp <;> omega)) _)
          · rw [show min (k + 1) 40 = k + 1 by omega, pf_succ]
            refine RdS.keep HR2.out ?_ (fun b hb => by have := hb.1; simp at this; omega)
            repeat (first | with_reducible exact Keep.refl _ _ | with_reducible refine Keep.setCell' ?_ (by first | omega | (simp <;> omega)) _ | with_reducible refine Keep.alloc' ?_ _)
          · repeat (first | with_reducible exact hB.trans (hB2.mono (Nat.le_of_lt z1)) | with_reducible refine Below.setCell ?_ (by first | omega | (simp <;> omega)) _ | with_reducible refine Below.alloc ?_ (by first | omega | (simp <;> omega)) _)
        case measure => simp [intOf]; omega
      · have HC := Lib.hid (pf_full k k80 (by omega))
        rw [show min k 40 = 40 by omega] at *
        go_wp2_with (first
          | (refine wpList_bytes_str rfl 27 9 _ rfl Try.underlying27 Try.underlying5 Try.underlying9 _ rfl _ (rdB_pf _ _ k k80) ?_)
          | (go_at_call 20; refine (padd_no HC.out (by decide) (HRD.out.keep (Keep.alloc _ _ _) (fun _ h => h))).mono ?_; rintro e w2 ⟨ad2, cap2, rfl, hb2⟩; obtain ⟨hc2, hf2⟩ := bcell hb2; have z2 : w.heap.size < w2.heap.size := (by have := hb2.size; simp at this; omega)))
        have hB2 : Below wr.heap.size wr w2 := ((Below.refl _ _).alloc (Nat.le_refl _) _).trans (hb2.mono (by simp))
        go_roundw
        case rel =>
          refine ⟨k + 1, .slice ad1 (pfList 40).length cap1, by omega, by go_num, ?_, ?_, ?_⟩
          · repeat (first | with_reducible exact hbox.belowS hB2 | with_reducible apply BoxAt.alloc | with_reducible apply BoxAt.set2 | with_reducible refine BoxAt.setOther ?_ (by first | omega | (simp <;> omega)) _)
          · rw [show min (k + 1) 40 = 40 by omega]
            refine RdS.keep (HRD.out.low (by decide)) ?_ (fun b hb => hb.1)
            repeat (first | with_reducible exact Keep.below hB2 | with_reducible refine Keep.setCell' ?_ (by first | omega | (simp <;> omega)) _ | with_reducible refine Keep.alloc' ?_ _)
          · repeat (first | with_reducible exact hB.trans (hB2.mono (Nat.le_of_lt z1)) | with_reducible refine Below.setCell ?_ (by first | omega | (simp <;> omega)) _ | with_reducible refine Below.alloc ?_ (by first | omega | (simp <;> omega)) _)
        case measure => simp [intOf]; omega
    · have HC := Lib.hid (show addCode 0 [] [97] = 12 by decide)
      have hkm : k = m := by omega
      subst hkm
      have hln := pf_len (min k 40)
      go_wp2_with (go_at_call 20; refine (padd_no (v := .slice none 0 0) HC.out (by decide) (RdS.nil RStr (fun _ => True) _)).mono ?_; rintro e w2 ⟨ad2, cap2, rfl, hb2⟩; obtain ⟨hc2, hf2⟩ := bcell hb2; have z2 : w.heap.size < w2.heap.size := (by have := hb2.size; omega))
      all_goals
        go_ret
        refine ⟨ret_boolH (Eq.symm ?_), (hB.trans (hb2.mono (Nat.le_of_lt z1))).alloc (by omega) _⟩
        simp
        omega
end Go.Proofs.Ytghimigffnbhaaa
