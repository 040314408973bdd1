/- SignsKeep, SignOthers: the walks. -/
import Derived.Test.YtghimigffnbhaaaSigns
set_option linter.unusedVariables false
set_option linter.unusedSimpArgs false
attribute [local go_sem ↓] Go.wp_at_zero Go.wp_at_succ
namespace Go.Proofs.Ytghimigffnbhaaa
open Go Go.RowKit

theorem badOk_m1 : badOk (-1) = true := by decide
theorem badOk_4 : badOk 4 = false := by decide
theorem signAdd_mem (l : List Sgn) (s x : Sgn) : x ∈ signAdd l s ↔ x ∈ l ∨ x = s := by
  unfold signAdd
  split
  · rename_i h
    constructor
    · exact fun h => .inl h
    · rintro (h' | rfl)
      · exact h'
      · exact h
  · simp
theorem sgnOf_node (n m : Int) : ¬ (sgnOf n m).1 = -1 := by
  show ¬ pickedZ n 4 = -1
  have := (pickedZ_range n 4 (by omega)).1
  omega

set_option maxRecDepth 100000 in
set_option maxHeartbeats 4000000 in
theorem signsKeep_walk (v : Value) (l : List Int) (n m : Int) (w : World) (h : RdI (fun _ => True) w v l) (hb : ∀ x ∈ l, -9223372036854775808 ≤ x ∧ x ≤ 9223372036854775807)
    (h1 : -9223372036854775808 ≤ n) (h2 : n ≤ 9223372036854775807) (h3 : -9223372036854775808 ≤ m) (h4 : m ≤ 9223372036854775807) :
    Calls Try.prog 14 #[v, .int .i64 n, .int .i64 m] w fun e w' => e = .returned (.bool true) ∧ Below w.heap.size w w' := by
  have HOK := Lib.hid (signsAll_ok (l.take 30))
  have hlen : (signsAll (l.take 30)).length ≤ 30 := by have := signsAll_len (l.take 30); simp at this; omega
  have hne : sgnOf m 3 ≠ sgnOf n 5 := sgnOf_ne (by decide)
  have HD1 := Lib.hid (show decide ((sgnOf m 3).1 = -1 ∨ sgnOf m 3 ∈ signAdd (signsAll (l.take 30)) (sgnOf n 5)) = decide ((sgnOf m 3).1 = -1 ∨ sgnOf m 3 ∈ signsAll (l.take 30)) by
    simp only [signAdd_mem, hne, or_false])
  have HD2 := Lib.hid (show decide ((sgnOf n 5).1 = -1 ∨ sgnOf n 5 ∈ signAdd (signsAll (l.take 30)) (sgnOf n 5)) = true by simp [signAdd_mem])
  generalize hL : signsAll (l.take 30) = L at *
  have HLE := Lib.hid hL
  clear hL hne
  generalize hB : decide ((sgnOf m 3).1 = -1 ∨ sgnOf m 3 ∈ L) = B at *
  have HBE := Lib.hid hB
  clear hB
  have hM : (signAdd L (sgnOf n 5)).length ≤ 31 := by have := signAdd_len L (sgnOf n 5); omega
  have HOK2 := Lib.hid (signAdd_ok HOK.out (sgnOf_ok n 5))
  generalize hM' : signAdd L (sgnOf n 5) = M at *
  have HME := Lib.hid hM'
  clear hM'
  go_enter Try.func14, Try.ntmps14
  go_wp2_with fail
  refine (signs_any _ _ h hb).mono ?_
  rintro e w1 ⟨ad1, cap1, rfl, hr1, hb1⟩
  rw [HLE.out] at hr1 ⊢
  have HL1 := Lib.hid (hr1.low (by decide))
  have HB1 := Lib.hid hb1
  clear hr1 hb1
  go_wp2_with (go_at_call 16; refine (picked_any _ _ _ (by omega) (by omega) (by omega) (by omega)).mono ?_; rintro e w' ⟨rfl, rfl⟩)
  refine (slot_any _ _ _ h1 h2).mono ?_
  rintro e w2 ⟨g2, rfl, hd2, hg2, hgl2, hb2⟩
  have HL2 := Lib.hid (HL1.out.below hb2 (fun _ h => h))
  have HB2 := Lib.hid (HB1.out.trans (hb2.mono HB1.out.size))
  have HD2' := Lib.hid hd2
  have z2 := hb2.size
  clear hd2 hb2
  go_wp2_with (go_at_call 16; refine (picked_any _ _ _ (by omega) (by omega) (by omega) (by omega)).mono ?_; rintro e w' ⟨rfl, rfl⟩)
  refine (slot_any _ _ _ h3 h4).mono ?_
  rintro e w3 ⟨g3, rfl, hd3, hg3, hgl3, hb3⟩
  have bx := (BoxAt.new w2 [.int .i64 (pickedZ n 4), .int .i64 (pickedZ n 3), .int .i64 (1 + pickedZ n 5), .slice (some ⟨g2, 0, none⟩) 32 32] 55).belowS hb3
  have hb3' : Below w2.heap.size w2 w3 := ((Below.refl _ w2).alloc (Nat.le_refl _) _).trans (hb3.mono (by simp))
  have HX := Lib.hid bx
  have HL3 := Lib.hid (HL2.out.below hb3' (fun _ h => h))
  have HDN := Lib.hid (HD2'.out.below hb3' (fun _ h => h))
  have HB3 := Lib.hid (HB2.out.trans (hb3'.mono HB2.out.size))
  have HD3 := Lib.hid hd3
  have z3 := hb3.size
  simp at z3
  have p0 := bx.cell 0 rfl
  have p1 := bx.cell 1 rfl
  have p2 := bx.cell 2 rfl
  have p3 := bx.cell 3 rfl
  clear hd3 hb3 hb3' bx
  have zz : w2.heap.size < w3.heap.size := by omega
  go_wp2_with fail
  refine (sadd_ok (sgnOf n 5) _ _ _ (HL3.out.keep (Keep.alloc _ _ _) (fun _ h => h)) (HDN.out.keep (Keep.alloc _ _ _) (fun _ h => h)) (by omega) HOK.out (sgnOf_ok _ _)).mono ?_
  rintro e w4 ⟨ad4, cap4, rfl, hr4, hb4⟩
  rw [HME.out] at hr4 ⊢
  have bm := (BoxAt.new w3 [.int .i64 (pickedZ m 4), .int .i64 (pickedZ m 3), .int .i64 (1 + pickedZ m 5), .slice (some ⟨g3, 0, none⟩) 32 32] 55).belowS hb4
  have hb4' : Below w3.heap.size w3 w4 := ((Below.refl _ w3).alloc (Nat.le_refl _) _).trans (hb4.mono (by simp))
  have bx := HX.out.belowS hb4'
  have HX4 := Lib.hid bx
  have HM4 := Lib.hid bm
  have HL4 := Lib.hid (HL3.out.below hb4' (fun _ h => h))
  have HR4 := Lib.hid hr4
  have HDN4 := Lib.hid (HDN.out.below hb4' (fun _ h => h))
  have HDM4 := Lib.hid (HD3.out.below hb4' (fun _ h => h))
  have HB4 := Lib.hid (HB3.out.trans (hb4'.mono HB3.out.size))
  clear hr4 hb4 hb4' p0 p1 p2 p3
  have q0 := bm.cell 0 rfl
  have q1 := bm.cell 1 rfl
  have q2 := bm.cell 2 rfl
  have q3 := bm.cell 3 rfl
  clear bx bm
  go_wp2_with fail
  refine (signed_ok (sgnOf m 3) _ _ _ _ HL4.out HDM4.out HOK.out badOk_m1 (sgnOf_ok _ _)).mono ?_
  rintro e w5 ⟨rfl, hb5⟩
  rw [HBE.out]
  have bm := HM4.out.belowS hb5
  have HX5 := Lib.hid (HX4.out.belowS hb5)
  have HM5 := Lib.hid bm
  have HR5 := Lib.hid (HR4.out.below hb5 (fun _ h => h))
  have HDN5 := Lib.hid (HDN4.out.below hb5 (fun _ h => h))
  have HDM5 := Lib.hid (HDM4.out.below hb5 (fun _ h => h))
  have HB5 := Lib.hid (HB4.out.trans (hb5.mono HB4.out.size))
  clear hb5 q0 q1 q2 q3
  have q0 := bm.cell 0 rfl
  have q1 := bm.cell 1 rfl
  have q2 := bm.cell 2 rfl
  have q3 := bm.cell 3 rfl
  clear bm
  go_wp2_with fail
  refine (signed_ok (sgnOf m 3) _ _ _ _ HR5.out HDM5.out HOK2.out badOk_m1 (sgnOf_ok _ _)).mono ?_
  rintro e w6 ⟨rfl, hb6⟩
  rw [HD1.out]
  have bx := HX5.out.belowS hb6
  have HR6 := Lib.hid (HR5.out.below hb6 (fun _ h => h))
  have HDN6 := Lib.hid (HDN5.out.below hb6 (fun _ h => h))
  have HB6 := Lib.hid (HB5.out.trans (hb6.mono HB5.out.size))
  clear hb6 q0 q1 q2 q3
  have q0 := bx.cell 0 rfl
  have q1 := bx.cell 1 rfl
  have q2 := bx.cell 2 rfl
  have q3 := bx.cell 3 rfl
  clear bx
  go_wp2_with fail
  refine (signed_ok (sgnOf n 5) _ _ _ _ HR6.out HDN6.out HOK2.out badOk_m1 (sgnOf_ok _ _)).mono ?_
  rintro e w7 ⟨rfl, hb7⟩
  rw [HD2.out]
  have HB7 := Lib.hid (HB6.out.trans (hb7.mono HB6.out.size))
  clear hb7 q0 q1 q2 q3
  cases B
  all_goals
    go_wp2
    go_ret
    exact ⟨rfl, HB7.out⟩
end Go.Proofs.Ytghimigffnbhaaa
