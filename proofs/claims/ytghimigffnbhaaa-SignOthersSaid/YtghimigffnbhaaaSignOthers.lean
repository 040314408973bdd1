/- SignOthers: the walk. -/
import Derived.Test.YtghimigffnbhaaaSignsKeep
set_option linter.unusedVariables false
set_option linter.unusedSimpArgs false
attribute [local go_sem ↓] Go.wp_at_zero Go.wp_at_succ
namespace Go.Proofs.Ytghimigffnbhaaa
open Go Go.RowKit

theorem not_m1 {k : Int} {x : Sgn} {l : List Sgn} (h : 0 ≤ k) (hm : ¬ x ∈ l) : decide (k = -1 ∨ x ∈ l) = false := by simp [hm]; omega
theorem yes_node {k j : Int} {x : Sgn} {l : List Sgn} (h : k = j) : decide (k = j ∨ x ∈ l) = true := by simp [h]
theorem no_node {k j : Int} {x : Sgn} {l : List Sgn} (h : k ≠ j) (hm : ¬ x ∈ l) : decide (k = j ∨ x ∈ l) = false := by simp [hm, h]
theorem next_node {k : Int} (h1 : 0 ≤ k) (h2 : k < 4) : badOk ((k + 1) % 4) = true := by unfold badOk; simp; omega

theorem signed_is {G G' : Nat → Prop} {l : List Sgn} (s : Sgn) (rogue : Int) {c : Bool} (v vy : Value) (w : World) (h : RdS RSign G w v l) (hy : RdB G' w vy s.2.2.2) (h1 : signsOk l = true) (h2 : badOk rogue = true) (h3 : sgnOk s = true) (hc : decide (s.1 = rogue ∨ s ∈ l) = c) :
    Calls Try.prog 29 #[v, .int .i64 rogue, .agg #[.int .i64 s.1, .int .i64 s.2.1, .int .i64 s.2.2.1, vy]] w fun e w' => e = .returned (.tuple #[.bool c, .int .i64 0]) ∧ Below w.heap.size w w' := by
  subst hc; exact signed_ok s rogue v vy w h hy h1 h2 h3

set_option maxRecDepth 100000 in
set_option maxHeartbeats 4000000 in
theorem signOthers_walk (v : Value) (l : List Int) (n who : Int) (w : World) (h : RdI (fun _ => True) w v l) (hb : ∀ x ∈ l, -9223372036854775808 ≤ x ∧ x ≤ 9223372036854775807)
    (h1 : -9223372036854775808 ≤ n) (h2 : n ≤ 9223372036854775807) (h3 : -9223372036854775808 ≤ who) (h4 : who ≤ 9223372036854775807) :
    Calls Try.prog 13 #[v, .int .i64 n, .int .i64 who] w fun e w' => e = .returned (.bool true) ∧ Below w.heap.size w w' := by
  obtain ⟨k1, k2⟩ := pickedZ_range who 4 (by omega)
  have HOK := Lib.hid (signsAll_ok (l.take 30))
  have hmem : ¬ (pickedZ who 4, pickedZ n 3, 1 + pickedZ n 5, someL n 77) ∈ signsAll (l.take 30) := fun hm => by
    obtain ⟨x, e⟩ := signsAll_mem hm
    exact someL_apart (m := 77) (m' := 3) (by decide) (congrArg (fun x : Sgn => x.2.2.2) e)
  have hSok : sgnOk (pickedZ who 4, pickedZ n 3, 1 + pickedZ n 5, someL n 77) = true := by
    have := sgnOf_ok n 77
    unfold sgnOk sgnCode at this ⊢
    simp only [decide_eq_true_eq] at this ⊢
    rw [if_neg (by show ¬ (pickedZ who 4 < 0 ∨ 4 ≤ pickedZ who 4); omega)]
    split at this
    · simp at this
    · exact this
  generalize hL : signsAll (l.take 30) = L at *
  have HLE := Lib.hid hL
  clear hL
  generalize hk : pickedZ who 4 = k at *
  have HK := Lib.hid hk
  clear hk
  have HS := Lib.hid hSok
  have HN := Lib.hid (not_m1 k1 hmem)
  have HO := Lib.hid (no_node (j := (k + 1) % 4) (k := k) (by omega) hmem)
  have HBK := Lib.hid (show badOk k = true by unfold badOk; simp; omega)
  have HBN := Lib.hid (next_node k1 k2)
  clear hmem hSok
  go_enter Try.func13, Try.ntmps13
  go_wp2_with fail
  refine (signs_any _ _ h hb).mono ?_
  rintro e w1 ⟨ad1, cap1, rfl, hr1, hb1⟩
  rw [HLE.out] at hr1 ⊢
  have HL1 := Lib.hid (hr1.low (by decide))
  have HB1 := Lib.hid hb1
  clear hr1 hb1
  go_wp2_with (go_at_call 16; refine (picked_any _ _ _ (by omega) (by omega) (by omega) (by omega)).mono ?_; rintro e w' ⟨rfl, rfl⟩; rw [HK.out])
  refine (slot_any _ _ _ h1 h2).mono ?_
  rintro e w2 ⟨g2, rfl, hd2, hg2, hgl2, hb2⟩
  have HL2 := Lib.hid (HL1.out.below hb2 (fun _ h => h))
  have HB2 := Lib.hid (HB1.out.trans (hb2.mono HB1.out.size))
  have HD2' := Lib.hid hd2
  have z2 := hb2.size
  clear hd2 hb2
  go_wp2_with fail
  refine (signed_is (k, pickedZ n 3, 1 + pickedZ n 5, someL n 77) _ _ _ _ (HL2.out.keep (Keep.alloc _ _ _) (fun _ h => h)) (HD2'.out.keep (Keep.alloc _ _ _) (fun _ h => h)) HOK.out badOk_m1 HS.out HN.out).mono ?_
  rintro e w3 ⟨rfl, hb3⟩
  have bx := (BoxAt.new w2 [.int .i64 k, .int .i64 (pickedZ n 3), .int .i64 (1 + pickedZ n 5), .slice (some ⟨g2, 0, none⟩) 32 32] 55).belowS hb3
  have hb3' : Below w2.heap.size w2 w3 := ((Below.refl _ w2).alloc (Nat.le_refl _) _).trans (hb3.mono (by simp))
  have HX := Lib.hid bx
  have HL3 := Lib.hid (HL2.out.below hb3' (fun _ h => h))
  have HD3 := Lib.hid (HD2'.out.below hb3' (fun _ h => h))
  have HB3 := Lib.hid (HB2.out.trans (hb3'.mono HB2.out.size))
  have p0 := bx.cell 0 rfl
  have p1 := bx.cell 1 rfl
  have p2 := bx.cell 2 rfl
  have p3 := bx.cell 3 rfl
  clear hb3 hb3' bx
  go_wp2_with fail
  refine (signed_is (k, pickedZ n 3, 1 + pickedZ n 5, someL n 77) _ _ _ _ HL3.out HD3.out HOK.out HBK.out HS.out (yes_node rfl)).mono ?_
  rintro e w4 ⟨rfl, hb4⟩
  have bx := HX.out.belowS hb4
  have HX4 := Lib.hid bx
  have HL4 := Lib.hid (HL3.out.below hb4 (fun _ h => h))
  have HD4 := Lib.hid (HD3.out.below hb4 (fun _ h => h))
  have HB4 := Lib.hid (HB3.out.trans (hb4.mono HB3.out.size))
  clear hb4 p0 p1 p2 p3
  have p0 := bx.cell 0 rfl
  have p1 := bx.cell 1 rfl
  have p2 := bx.cell 2 rfl
  have p3 := bx.cell 3 rfl
  clear bx
  go_wp2_with fail
  refine (signed_is (k, pickedZ n 3, 1 + pickedZ n 5, someL n 77) _ _ _ _ HL4.out HD4.out HOK.out HBN.out HS.out HO.out).mono ?_
  rintro e w5 ⟨rfl, hb5⟩
  have bx := HX4.out.belowS hb5
  have HL5 := Lib.hid (HL4.out.below hb5 (fun _ h => h))
  have HB5 := Lib.hid (HB4.out.trans (hb5.mono HB4.out.size))
  clear hb5 p0 p1 p2 p3
  have p0 := bx.cell 0 rfl
  have p1 := bx.cell 1 rfl
  have p2 := bx.cell 2 rfl
  have p3 := bx.cell 3 rfl
  clear bx
  go_wp2_with fail
  refine (signed_rogue _ _ _ _ _ _ _ _ _ HL5.out HOK.out badOk_4).mono ?_
  rintro e w6 ⟨rfl, hb6⟩
  have HB6 := Lib.hid (HB5.out.trans (hb6.mono HB5.out.size))
  clear hb6 p0 p1 p2 p3
  go_wp2
  go_ret
  exact ⟨rfl, HB6.out⟩
end Go.Proofs.Ytghimigffnbhaaa
