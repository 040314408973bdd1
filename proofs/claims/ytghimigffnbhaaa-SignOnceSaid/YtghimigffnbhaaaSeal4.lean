/- seal.Signed; sheaveskeep.slot, sameSlot, Signs. -/
import Derived.Test.YtghimigffnbhaaaSeal3
import Derived.Test.YtghimigffnbhaaaSome
import Derived.Test.YtghimigffnbhaaaSameB
import Derived.IntWalk
set_option linter.unusedVariables false
set_option linter.unusedSimpArgs false
attribute [local go_sem ↓] Go.wp_at_zero Go.wp_at_succ
namespace Go.Proofs.Ytghimigffnbhaaa
open Go Go.RowKit

def badOk (n : Int) : Bool := decide (-1 ≤ n ∧ n < 4)
theorem bad_any (n : Int) (w : World) : Calls Try.prog 46 #[.int .i64 n] w fun e w' => e = .returned (.bool (badOk n)) ∧ w = w' := by
  go_enter Try.func46, Try.ntmps46
  go_wp2
  all_goals
    go_ret
    exact ⟨ret_boolH (by unfold badOk; rw [Bool.eq_iff_iff]; simp; omega), rfl⟩

set_option maxRecDepth 100000 in
set_option maxHeartbeats 1000000 in
theorem signed_rogue {G : Nat → Prop} {l : List Sgn} (n a r rogue : Int) (v : Value) (ady : Option Addr) (k capy : Nat) (w : World) (h : RdS RSign G w v l) (h1 : signsOk l = true) (h2 : badOk rogue = false) :
    Calls Try.prog 29 #[v, .int .i64 rogue, .agg #[.int .i64 n, .int .i64 a, .int .i64 r, .slice ady k capy]] w fun e w' => e = .returned (.tuple #[.bool false, .int .i64 2]) ∧ Below w.heap.size w w' := by
  have H1 := Lib.hid (show signsCode l = 0 by unfold signsCode; rw [if_pos h1])
  have HV := Lib.hid (h.keep (Keep.alloc G w (.cells #[.int .i64 n, .int .i64 a, .int .i64 r, .slice ady k capy] 55)) (fun _ h => h))
  have hR := (Below.refl w.heap.size w).alloc (Nat.le_refl _) (.cells #[.int .i64 n, .int .i64 a, .int .i64 r, .slice ady k capy] 55)
  have H2 := Lib.hid h2
  clear h h1 h2
  go_enter Try.func29, Try.ntmps29
  go_wp2_with fail
  refine (scheck_any _ _ HV.out).mono ?_
  rintro e w1 ⟨rfl, hb1⟩
  rw [H1.out]
  have hR1 := hR.trans (hb1.mono hR.size)
  clear hb1
  go_wp2_with (go_at_call 46; refine (bad_any _ _).mono ?_; rintro e w' ⟨rfl, rfl⟩; rw [H2.out])
  go_ret2
  exact ⟨rfl, hR1⟩

set_option maxRecDepth 100000 in
set_option maxHeartbeats 1000000 in
theorem signed_ok {G G' : Nat → Prop} {l : List Sgn} (s : Sgn) (rogue : Int) (v vy : Value) (w : World) (h : RdS RSign G w v l) (hy : RdB G' w vy s.2.2.2) (h1 : signsOk l = true) (h2 : badOk rogue = true) (h3 : sgnOk s = true) :
    Calls Try.prog 29 #[v, .int .i64 rogue, .agg #[.int .i64 s.1, .int .i64 s.2.1, .int .i64 s.2.2.1, vy]] w fun e w' => e = .returned (.tuple #[.bool (decide (s.1 = rogue ∨ s ∈ l)), .int .i64 0]) ∧ Below w.heap.size w w' := by
  obtain ⟨ady, capy, rfl, -, -⟩ := hy.form
  have H1 := Lib.hid (show signsCode l = 0 by unfold signsCode; rw [if_pos h1])
  have H3 := Lib.hid (show sgnCode s.1 s.2.1 s.2.2.1 s.2.2.2.length = 0 by unfold sgnOk at h3; simpa using h3)
  have HB := Lib.hid (BoxAt.new w [.int .i64 s.1, .int .i64 s.2.1, .int .i64 s.2.2.1, .slice ady s.2.2.2.length capy] 55)
  have HV := Lib.hid (h.keep (Keep.alloc G w (.cells #[.int .i64 s.1, .int .i64 s.2.1, .int .i64 s.2.2.1, .slice ady s.2.2.2.length capy] 55)) (fun _ h => h))
  have HY := Lib.hid (hy.keep (Keep.alloc G' w (.cells #[.int .i64 s.1, .int .i64 s.2.1, .int .i64 s.2.2.1, .slice ady s.2.2.2.length capy] 55)) (fun _ h => h))
  have hR := (Below.refl w.heap.size w).alloc (Nat.le_refl _) (.cells #[.int .i64 s.1, .int .i64 s.2.1, .int .i64 s.2.2.1, .slice ady s.2.2.2.length capy] 55)
  have H2 := Lib.hid h2
  clear h hy h1 h2 h3
  go_enter Try.func29, Try.ntmps29
  go_wp2_with fail
  refine (scheck_any _ _ HV.out).mono ?_
  rintro e w1 ⟨rfl, hb1⟩
  rw [H1.out]
  have hR1 := hR.trans (hb1.mono hR.size)
  have bq := HB.out.belowS hb1
  have HB1 := Lib.hid bq
  have HV1 := Lib.hid (HV.out.below hb1 (fun _ h => h))
  have HY1 := Lib.hid (HY.out.below hb1 (fun _ h => h))
  have q0 := bq.cell 0 rfl
  have q1 := bq.cell 1 rfl
  have q2 := bq.cell 2 rfl
  have q3 := bq.cell 3 rfl
  clear bq hb1 hR
  go_wp2_with (go_at_call 46; refine (bad_any _ _).mono ?_; rintro e w' ⟨rfl, rfl⟩; rw [H2.out])
  refine (sign_any _ _ _ _ _ _ _).mono ?_
  rintro e w2 ⟨rfl, hb2⟩
  rw [H3.out]
  have hR2 := hR1.trans (hb2.mono hR1.size)
  have bq := HB1.out.belowS hb2
  have HV2 := Lib.hid (HV1.out.below hb2 (fun _ h => h))
  have HY2 := Lib.hid (HY1.out.below hb2 (fun _ h => h))
  clear q0 q1 q2 q3 hR1 hb2
  have q0 := bq.cell 0 rfl
  have q1 := bq.cell 1 rfl
  have q2 := bq.cell 2 rfl
  have q3 := bq.cell 3 rfl
  clear bq
  by_cases hr : s.1 = rogue
  · have HE := Lib.hid (show decide (s.1 = rogue ∨ s ∈ l) = true by simp [hr])
    have e1 : (s.1 == rogue) = true := by simp [hr]
    clear hr
    go_wp2
    go_ret2
    exact ⟨by rw [HE.out]; rfl, hR2⟩
  · have HE := Lib.hid (show decide (s.1 = rogue ∨ s ∈ l) = decide (s ∈ l) by simp [hr])
    have e1 : (s.1 == rogue) = false := by simp [hr]
    clear hr
    go_wp2_with fail
    refine (shas_any s _ _ _ HV2.out HY2.out).mono ?_
    rintro e w3 ⟨rfl, hb3⟩
    have hR3 := hR2.trans (hb3.mono hR2.size)
    go_wp2
    go_ret2
    exact ⟨by rw [HE.out]; rfl, hR3⟩

def sgnOf (n m : Int) : Sgn := (pickedZ n 4, pickedZ n 3, 1 + pickedZ n 5, someL n m)
theorem sgnOf_ok (n m : Int) : sgnOk (sgnOf n m) = true := by
  obtain ⟨a1, a2⟩ := pickedZ_range n 4 (by omega)
  obtain ⟨b1, b2⟩ := pickedZ_range n 3 (by omega)
  obtain ⟨c1, c2⟩ := pickedZ_range n 5 (by omega)
  unfold sgnOk sgnCode sltCode
  show decide ((if pickedZ n 4 < 0 ∨ 4 ≤ pickedZ n 4 then (2 : Int) else if nodeOk (pickedZ n 3) = false ∨ countOk (1 + pickedZ n 5) = false then 2 else if (someL n m).length ≠ 32 then 4 else 0) = 0) = true
  rw [if_neg (by omega), if_neg (by unfold nodeOk countOk; simp; omega), if_neg (by rw [someL_length]; simp)]
  rfl

set_option maxRecDepth 100000 in
set_option maxHeartbeats 1000000 in
theorem slot_any (n m : Int) (w : World) (h1 : -9223372036854775808 ≤ n) (h2 : n ≤ 9223372036854775807) :
    Calls Try.prog 26 #[.int .i64 n, .int .i64 m] w fun e w' => ∃ g, e = .returned (.agg #[.int .i64 (pickedZ n 3), .int .i64 (1 + pickedZ n 5), .slice (some ⟨g, 0, none⟩) 32 32]) ∧
      RdB (fun b => b = g) w' (.slice (some ⟨g, 0, none⟩) 32 32) (someL n m) ∧ w.heap.size ≤ g ∧ g < w'.heap.size ∧ Below w.heap.size w w' := by
  obtain ⟨c1, c2⟩ := pickedZ_range n 5 (by omega)
  have l1 : IntKind.i64.wrap (1 + pickedZ n 5) = 1 + pickedZ n 5 := IntWalk.i64_in _ (by omega)
  have hR := (Below.refl w.heap.size w).alloc (Nat.le_refl _) (.cells #[.int .i64 0, .int .i64 0, .slice none 0 0] 52)
  have b0 := BoxAt.new w [.int .i64 0, .int .i64 0, .slice none 0 0] 52
  have HB0 := Lib.hid b0
  clear b0
  go_enter Try.func26, Try.ntmps26
  go_wp2_with (first
    | (go_at_call 16; refine (picked_any _ _ _ h1 h2 (by omega) (by omega)).mono ?_; rintro e w' ⟨rfl, rfl⟩)
    | (go_at_call 41; refine (some_any _ _ _ h1 h2).mono ?_; rintro e w2 ⟨rfl, hbox, hb2⟩; have b1 := HB0.out.belowS hb2; have p0 := b1.cell 0 rfl; have p1 := b1.cell 1 rfl; have p2 := b1.cell 2 rfl; have f0 := b1.free 0; have f1 := b1.free 1; have f2 := b1.free 2))
  have hR2 := hR.trans (hb2.mono hR.size)
  have hz := hbox.lt
  simp at hz hbox
  refine bodyPost_ret (v := .agg #[.int .i64 (pickedZ n 3), .int .i64 (1 + pickedZ n 5), .slice (some ⟨w.heap.size + 1, 0, none⟩) 32 32]) (by simp [results, Try.results26, go_sem, p0, p1, p2]) rfl ⟨w.heap.size + 1, rfl, ?_, by omega, ?_, ?_⟩
  · have hr := RdS.of_box (G := fun b => b = w.heap.size + 1) (cap := 32) (l := someL n m) (f := fun c => Value.int .u8 c.toNat) hbox rfl (Nat.le_of_eq (someL_length _ _)) (by unfold maxLen; omega)
    refine RdS.keep (G := fun b => b = w.heap.size + 1) hr ?_ (fun b hb => hb)
    repeat (first | with_reducible exact Keep.refl _ _ | with_reducible refine Keep.setCell' ?_ (by first | (simp; done) | (simp; omega)) _)
  · simp; omega
  · repeat (first | with_reducible exact hR2 | with_reducible refine Below.setCell ?_ (by first | (simp; done) | (simp; omega)) _)

set_option maxRecDepth 100000 in
set_option maxHeartbeats 1000000 in
theorem sameSlot_any {G G' : Nat → Prop} (a r a' r' : Int) (d d' : Bytes) (v v' : Value) (w : World) (hd : RdB G w v d) (hd' : RdB G' w v' d') :
    Calls Try.prog 28 #[.agg #[.int .i64 a, .int .i64 r, v], .agg #[.int .i64 a', .int .i64 r', v']] w fun e w' => e = .returned (.bool (decide (a = a' ∧ r = r' ∧ d = d'))) ∧ Below w.heap.size w w' := by
  obtain ⟨ad, cap, rfl, -, -⟩ := hd.form
  obtain ⟨ad', cap', rfl, -, -⟩ := hd'.form
  have hR := ((Below.refl w.heap.size w).alloc (Nat.le_refl _) (.cells #[.int .i64 a, .int .i64 r, .slice ad d.length cap] 52)).alloc (by simp) (.cells #[.int .i64 a', .int .i64 r', .slice ad' d'.length cap'] 52)
  have HD := Lib.hid (hd.keep ((Keep.alloc G w (.cells #[.int .i64 a, .int .i64 r, .slice ad d.length cap] 52)).trans (Keep.alloc G _ (.cells #[.int .i64 a', .int .i64 r', .slice ad' d'.length cap'] 52))) (fun _ h => h))
  have HD' := Lib.hid (hd'.keep ((Keep.alloc G' w (.cells #[.int .i64 a, .int .i64 r, .slice ad d.length cap] 52)).trans (Keep.alloc G' _ (.cells #[.int .i64 a', .int .i64 r', .slice ad' d'.length cap'] 52))) (fun _ h => h))
  go_enter Try.func28, Try.ntmps28
  by_cases h1 : a = a'
  · by_cases h2 : r = r'
    · have HE := Lib.hid (show decide (a = a' ∧ r = r' ∧ d = d') = decide (d = d') by simp [h1, h2])
      have e1 : (a == a') = true := by simp [h1]
      have e2 : (r == r') = true := by simp [h2]
      clear h1 h2
      go_wp2_with (go_at_call 45; refine (same_any _ _ _ HD.out HD'.out).mono ?_; rintro e w' ⟨rfl, rfl⟩)
      go_ret
      exact ⟨ret_boolH HE.out, hR⟩
    · have HE := Lib.hid (show decide (a = a' ∧ r = r' ∧ d = d') = false by simp [h1, h2])
      have e1 : (a == a') = true := by simp [h1]
      have e2 : (r == r') = false := by simp [h2]
      clear h1 h2
      go_wp2
      go_ret
      exact ⟨ret_boolH HE.out, hR⟩
  · have HE := Lib.hid (show decide (a = a' ∧ r = r' ∧ d = d') = false by simp [h1])
    have e1 : (a == a') = false := by simp [h1]
    clear h1
    go_wp2
    go_ret
    exact ⟨ret_boolH HE.out, hR⟩
end Go.Proofs.Ytghimigffnbhaaa
