/- SumLong: the walk. -/
import Derived.Test.YtdfnnahhgbhmeaaDoorTag
import Derived.Test.YtdfnnahhgbhmeaaDoorLib3
set_option linter.unusedVariables false
set_option linter.unusedSimpArgs false
namespace Go.Proofs.YtdfnnahhgbhmeaaDoor
open Go Go.RowKit

theorem sum_cases (l : Bytes) : (4000 < l.length ∧ sumC l = 1 ∧ (sumD l).length = 0) ∨ (l.length ≤ 4000 ∧ sumC l = 0 ∧ (sumD l).length = 32) := by
  by_cases h : 4000 < l.length
  · exact .inl ⟨h, sumC_no h, by rw [sumD_no h]; rfl⟩
  · exact .inr ⟨by omega, sumC_ok (by omega), sumD_len (by omega)⟩
set_option maxRecDepth 100000 in
set_option maxHeartbeats 4000000 in
theorem sumLong_walk (v : Value) (l : Bytes) (n : Int) (w : World) (hv : RdB (fun _ => True) w v l) (n1 : -9223372036854775808 ≤ n) (n2 : n ≤ 9223372036854775807) (ht : Tabs w) :
    Calls Tryd.prog 4 #[v, .int .i64 n] w fun e w' => e = .returned (.bool true) ∧ Below w.heap.size w w' := by
  obtain ⟨ad, cap, rfl, h1, h2⟩ := hv.form
  obtain ⟨p1, p2⟩ := pickedZ_range n 8000 (by omega)
  obtain ⟨k, hk⟩ : ∃ k : Nat, pickedZ n 8000 = (k : Int) := ⟨(pickedZ n 8000).toNat, by omega⟩
  have HP := Lib.hid hk
  have k0 : k < 8000 := by omega
  have HV := Lib.hid (hv.low (by decide))
  have HT := Lib.hid ht
  have hmk := fun w => hmake_rule (P := Tryd.prog) Tryd.underlying22 (e := 5) (by kernel_rfl) k k rfl (by omega) w
  clear hk hv ht p1 p2
  go_enter Tryd.func4, Tryd.ntmps4
  go_wp2_with (go_at_call 17; refine (picked_any _ _ _ n1 n2 (by omega) (by omega)).mono ?_; rintro e w' ⟨rfl, rfl⟩; rw [HP.out])
  have hZ : ZBlock (w.alloc (.cells (zcells k) 5)) w.heap.size k 5 := ZBlock.new rfl
  have hB1 := (Below.refl w.heap.size w).alloc (Nat.le_refl _) (.cells (zcells k) 5)
  refine (Sum_any (zeros k) _ _ (hZ.rd (by unfold maxLen; omega)) (HT.out.belowS hB1)).mono ?_
  rintro e w2 ⟨v2, rfl, hR2, hb2⟩
  obtain ⟨ad2, cap2, rfl, -, -⟩ := hR2.form
  have HB2 := Lib.hid (hB1.trans (hb2.mono (by simp)))
  have hs := sum_cases (zeros k)
  rw [length_zeros] at hs
  clear hZ hB1 hR2 hb2
  generalize sumC (zeros k) = c2 at *
  generalize (sumD (zeros k)).length = m2 at *
  go_wp2_with fail
  refine (Sum_any l _ w2 (HV.out.keep (G' := fun _ => True) (Keep.belowB HB2.out (fun _ h => h.2)) (fun _ _ => trivial)) (HT.out.belowS HB2.out)).mono ?_
  rintro e w3 ⟨v3, rfl, hR3, hb3⟩
  obtain ⟨ad3, cap3, rfl, -, -⟩ := hR3.form
  have HB3 := Lib.hid (HB2.out.trans (hb3.mono HB2.out.size))
  have ht := sum_cases l
  clear hR3 hb3
  generalize sumC l = c3 at *
  generalize (sumD l).length = m3 at *
  obtain ⟨a1, rfl, rfl⟩ | ⟨a1, rfl, rfl⟩ := hs <;> obtain ⟨a2, rfl, rfl⟩ | ⟨a2, rfl, rfl⟩ := ht
  · have i1 : (4000 : Int) < (k : Int) := by omega
    have i2 : ¬ (l.length : Int) ≤ 4000 := by omega
    have i3 : (4000 : Int) < (l.length : Int) := by omega
    clear a1 a2
    go_wp2
    all_goals first
      | (exfalso; omega)
      | (go_ret; exact ⟨rfl, HB3.out⟩)
  · have i1 : (4000 : Int) < (k : Int) := by omega
    have i2 : (l.length : Int) ≤ 4000 := by omega
    go_wp2
    go_ret
    exact ⟨rfl, HB3.out⟩
  · have i1 : ¬ (4000 : Int) < (k : Int) := by omega
    have i2 : ¬ (l.length : Int) ≤ 4000 := by omega
    have i3 : (4000 : Int) < (l.length : Int) := by omega
    clear a1 a2
    go_wp2
    all_goals first
      | (exfalso; omega)
      | (go_ret; exact ⟨rfl, HB3.out⟩)
  · have i1 : ¬ (4000 : Int) < (k : Int) := by omega
    have i2 : (l.length : Int) ≤ 4000 := by omega
    go_wp2
    go_ret
    exact ⟨rfl, HB3.out⟩
end Go.Proofs.YtdfnnahhgbhmeaaDoor
