/- TagLong: the walk. -/
import Derived.Test.YtdfnnahhgbhmeaaDoorTagLaw
import Derived.Test.YtdfnnahhgbhmeaaDoorLib3
set_option linter.unusedVariables false
set_option linter.unusedSimpArgs false
namespace Go.Proofs.YtdfnnahhgbhmeaaDoor
open Go Go.RowKit

theorem tagGo_long {tag : UInt8} {d e : Bytes} (h : 4000 < 5 + d.length + e.length) (hd : d.length ≤ 2500) : tagGo [tag] [d, e] = none := by
  by_cases h1 : 4000 < 3 + d.length
  · rw [tagGo, if_pos (by simp; omega)]
  · rw [tagGo_part (by simp; omega), tagGo, if_pos]
    rw [List.length_append, partL_length]; simp; omega
theorem tag_cases (tag : UInt8) (a b : Nat) (ha : a ≤ 2500) (hb : b ≤ 2500) :
    (4000 < 5 + a + b ∧ tagC tag [zeros a, zeros b] = 1 ∧ (tagD tag [zeros a, zeros b]).length = 0) ∨ (5 + a + b ≤ 4000 ∧ tagC tag [zeros a, zeros b] = 0 ∧ (tagD tag [zeros a, zeros b]).length = 32) := by
  by_cases h : 4000 < 5 + a + b
  · have := tagGo_long (tag := tag) (d := zeros a) (e := zeros b) (by rw [length_zeros, length_zeros]; omega) (by rw [length_zeros]; omega)
    exact .inl ⟨h, tagC_none this, by rw [tagD_none this]; rfl⟩
  · have : tagGo [tag] [zeros a, zeros b] = some (tag :: (partL (zeros a) ++ partL (zeros b))) := by
      rw [tagGo_part (by simp [length_zeros]; omega), tagGo_part (by rw [List.length_append, partL_length]; simp [length_zeros]; omega), tagGo_nil]; simp
    exact .inr ⟨by omega, tagC_some this, by rw [tagD_some this, sumL_length]⟩
set_option maxRecDepth 100000 in
set_option maxHeartbeats 4000000 in
theorem tagLong_walk (n m : Int) (w : World) (n1 : -9223372036854775808 ≤ n) (n2 : n ≤ 9223372036854775807) (m1 : -9223372036854775808 ≤ m) (m2 : m ≤ 9223372036854775807) (ht : Tabs w) :
    Calls Tryd.prog 5 #[.int .i64 n, .int .i64 m] w fun e w' => e = .returned (.bool true) ∧ Below w.heap.size w w' := by
  obtain ⟨p1, p2⟩ := pickedZ_range n 2500 (by omega)
  obtain ⟨q1, q2⟩ := pickedZ_range m 2500 (by omega)
  obtain ⟨a, ha⟩ : ∃ k : Nat, pickedZ n 2500 = (k : Int) := ⟨(pickedZ n 2500).toNat, by omega⟩
  obtain ⟨b, hb⟩ : ∃ k : Nat, pickedZ m 2500 = (k : Int) := ⟨(pickedZ m 2500).toNat, by omega⟩
  have HA := Lib.hid ha
  have HB := Lib.hid hb
  have a0 : a < 2500 := by omega
  have b0 : b < 2500 := by omega
  have HT := Lib.hid ht
  have hmk := fun w => hmake_rule (P := Tryd.prog) Tryd.underlying22 (e := 5) (by kernel_rfl) a a rfl (by omega) w
  have hmk' := fun w => hmake_rule (P := Tryd.prog) Tryd.underlying22 (e := 5) (by kernel_rfl) b b rfl (by omega) w
  clear ha hb ht p1 p2 q1 q2
  go_enter Tryd.func5, Tryd.ntmps5
  go_upto_region 2 with (go_at_call 17; refine (picked_any _ _ _ n1 n2 (by omega) (by omega)).mono ?_; rintro e w' ⟨rfl, rfl⟩; rw [HA.out])
  go_upto_region 3 with (go_at_call 17; refine (picked_any _ _ _ m1 m2 (by omega) (by omega)).mono ?_; rintro e w' ⟨rfl, rfl⟩; rw [HB.out])
  obtain ⟨w1, hw1⟩ : ∃ w1, w1 = (w.alloc (.cells (zcells a) 5)).alloc (.cells (zcells b) 5) := ⟨_, rfl⟩
  have hZa : ZBlock w1 w.heap.size a 5 := by rw [hw1]; exact (ZBlock.new rfl).alloc _
  have hZb : ZBlock w1 (w.heap.size + 1) b 5 := by rw [hw1]; exact ZBlock.new (by simp)
  have hb1 : Below w.heap.size w w1 := by rw [hw1]; exact ((Below.refl w.heap.size w).alloc (Nat.le_refl _) _).alloc (by simp) _
  have hA1 : RdB (fun _ => True) w1 (.slice (some ⟨w.heap.size, 0, none⟩) a a) (zeros a) := hZa.rd (by unfold maxLen; omega)
  have hB1 : RdB (fun _ => True) w1 (.slice (some ⟨w.heap.size + 1, 0, none⟩) b b) (zeros b) := hZb.rd (by unfold maxLen; omega)
  have z1 : w1.heap.size = w.heap.size + 2 := by rw [hw1]; simp
  rw [← hw1]
  clear hw1 hZa hZb hmk hmk'
  have hs := tag_cases 7 a b (by omega) (by omega)
  go_wp2_with fail
  have hb2 := (Below.refl w1.heap.size w1).alloc (Nat.le_refl _) (.cells #[.slice (some ⟨w.heap.size, 0, none⟩) a a, .slice (some ⟨w.heap.size + 1, 0, none⟩) b b] 22)
  have hcall := Tagged_any 7 [zeros a, zeros b] (.slice (some ⟨w.heap.size + 2, 0, none⟩) 2 2) (w1.alloc (.cells #[.slice (some ⟨w.heap.size, 0, none⟩) a a, .slice (some ⟨w.heap.size + 1, 0, none⟩) b b] 22)) (rdBB_two (G := fun _ => True) (BoxAt.newAt w1 [.slice (some ⟨w.heap.size, 0, none⟩) a a, .slice (some ⟨w.heap.size + 1, 0, none⟩) b b] _ z1.symm) trivial (hA1.below hb2 (fun _ h => h)) (hB1.below hb2 (fun _ h => h))) (HT.out.belowS (hb1.trans (hb2.mono hb1.size)))
  rw [show (((7 : UInt8).toNat : Nat) : Int) = 7 from rfl] at hcall
  refine hcall.mono ?_
  clear hcall
  rintro e w2 ⟨x2, rfl, hR2, hb3⟩
  have HB2 := Lib.hid ((hb1.trans (hb2.mono hb1.size)).trans (hb3.mono (by have := hb1.size; simp; omega)))
  obtain ⟨xad, xcap, rfl, -, -⟩ := hR2.form
  clear hR2 hb3 hb2 hA1 hB1 hb1
  generalize tagC 7 [zeros a, zeros b] = c2 at *
  generalize (tagD 7 [zeros a, zeros b]).length = m2 at *
  have e1 : IntKind.i64.wrap (3 + (a : Int)) = 3 + (a : Int) := IntWalk.i64_in _ (by omega)
  have e2 : IntKind.i64.wrap (3 + (a : Int) + 2) = 3 + (a : Int) + 2 := IntWalk.i64_in _ (by omega)
  have e3 : IntKind.i64.wrap (3 + (a : Int) + 2 + (b : Int)) = 3 + (a : Int) + 2 + (b : Int) := IntWalk.i64_in _ (by omega)
  obtain ⟨a1, rfl, rfl⟩ | ⟨a1, rfl, rfl⟩ := hs
  · have i1 : (4000 : Int) < 3 + (a : Int) + 2 + (b : Int) := by omega
    go_wp2
    go_ret
    exact ⟨rfl, HB2.out⟩
  · have i1 : ¬ (4000 : Int) < 3 + (a : Int) + 2 + (b : Int) := by omega
    go_wp2
    go_ret
    exact ⟨rfl, HB2.out⟩
end Go.Proofs.YtdfnnahhgbhmeaaDoor
