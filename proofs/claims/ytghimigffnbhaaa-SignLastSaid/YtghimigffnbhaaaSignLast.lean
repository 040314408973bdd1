/- SignLast: the walk. -/
import Derived.Test.YtghimigffnbhaaaSignsKeep
set_option linter.unusedVariables false
set_option linter.unusedSimpArgs false
attribute [local go_sem ↓] Go.wp_at_zero Go.wp_at_succ
namespace Go.Proofs.Ytghimigffnbhaaa
open Go Go.RowKit

/-- What a slice of signs has last. -/
theorem sgn_last {G : Nat → Prop} {w : World} {L : List Sgn} {s : Sgn} {ad : Option Addr} {n cap : Nat} (h : RdS RSign G w (.slice ad n cap) (L ++ [s])) :
    ∃ b o v, ad = some ⟨b, o, none⟩ ∧ G b ∧ w.cell? ⟨b, o + L.length * 4, none⟩ = some (.int .i64 s.1) ∧ w.cell? ⟨b, o + L.length * 4 + 1, none⟩ = some (.int .i64 s.2.1) ∧ w.cell? ⟨b, o + L.length * 4 + 2, none⟩ = some (.int .i64 s.2.2.1) ∧ w.cell? ⟨b, o + L.length * 4 + 3, none⟩ = some v ∧ RdB G w v s.2.2.2 := by
  have hl : L.length < (L ++ [s]).length := by simp
  obtain ⟨b, o, v, h1, h2, h3, h4, h5, h6, h7⟩ := h.sign L.length hl
  have e : (L ++ [s])[L.length] = s := by simp
  rw [e] at h3 h4 h5 h7
  exact ⟨b, o, v, h1, h2, h3, h4, h5, h6, h7⟩
theorem sgnCode_4 (a r : Int) (k : Nat) : sgnCode 4 a r k = 2 := by unfold sgnCode; simp
theorem sgnCode_9 : sgnCode 0 0 1 9 = 4 := by decide

set_option maxRecDepth 100000 in
set_option maxHeartbeats 4000000 in
theorem signLast_walk (v : Value) (l : List Int) (n : Int) (w : World) (h : RdI (fun _ => True) w v l) (hb : ∀ x ∈ l, -9223372036854775808 ≤ x ∧ x ≤ 9223372036854775807)
    (h1 : -9223372036854775808 ≤ n) (h2 : n ≤ 9223372036854775807) :
    Calls Try.prog 11 #[v, .int .i64 n] w fun e w' => e = .returned (.bool true) ∧ Below w.heap.size w w' := by
  have HOK := Lib.hid (signsAll_ok (l.take 30))
  have HSC := Lib.hid (show signsCode (signsAll (l.take 30)) = 0 by unfold signsCode; rw [if_pos HOK.out])
  have hlen : (signsAll (l.take 30)).length ≤ 30 := by have := signsAll_len (l.take 30); simp at this; omega
  have hM : signAdd (signsAll (l.take 30)) (sgnOf n 250) = signsAll (l.take 30) ++ [sgnOf n 250] := by
    unfold signAdd
    rw [if_neg]
    intro hm
    obtain ⟨x, e⟩ := signsAll_mem hm
    exact sgnOf_ne (by decide) e
  generalize hL : signsAll (l.take 30) = L at *
  have HLE := Lib.hid hL
  have HME := Lib.hid hM
  obtain ⟨K, hK⟩ : ∃ K, K = L.length + 1 := ⟨_, rfl⟩
  have HML := Lib.hid (show (L ++ [sgnOf n 250]).length = K by simp [hK])
  have hK1 : L.length + 1 ≤ K := by omega
  have hK2 : K ≤ L.length + 1 := by omega
  clear hK
  clear hL hM
  go_enter Try.func11, Try.ntmps11
  go_wp2_with fail
  refine (signs_any _ _ h hb).mono ?_
  rintro e w1 ⟨ad1, cap1, rfl, hr1, hb1⟩
  rw [HLE.out] at hr1 ⊢
  have HL1 := Lib.hid (hr1.low (by decide))
  have HB1 := Lib.hid hb1
  clear hr1 hb1
  go_wp2_with (go_at_call 16; refine (picked_any _ _ _ (by omega) (by omega) (by omega) (by omega)).mono ?_; rintro e w' ⟨rfl, rfl⟩)
  refine (slot_any _ _ _ h1 h2).mono ?_
  rintro e w2 ⟨g2, rfl, hd2, hg2, hgl2, hb2⟩
  have HL2 := Lib.hid (HL1.out.below hb2 (fun _ h => h))
  have HB2 := Lib.hid (HB1.out.trans (hb2.mono HB1.out.size))
  have HD2' := Lib.hid hd2
  have z2 := hb2.size
  clear hd2 hb2
  go_wp2_with fail
  refine (sadd_ok (sgnOf n 250) _ _ _ (HL2.out.keep (Keep.alloc _ _ _) (fun _ h => h)) (HD2'.out.keep (Keep.alloc _ _ _) (fun _ h => h)) (by omega) HOK.out (sgnOf_ok _ _)).mono ?_
  rintro e w4 ⟨ad4, cap4, rfl, hr4, hb4⟩
  rw [HME.out] at hr4 ⊢
  rw [HML.out] at hr4 ⊢
  have bx := (BoxAt.new w2 [.int .i64 (pickedZ n 4), .int .i64 (pickedZ n 3), .int .i64 (1 + pickedZ n 5), .slice (some ⟨g2, 0, none⟩) 32 32] 55).belowS hb4
  have hb4' : Below w2.heap.size w2 w4 := ((Below.refl _ w2).alloc (Nat.le_refl _) _).trans (hb4.mono (by simp))
  have HX := Lib.hid bx
  have HL3 := Lib.hid (HL2.out.below hb4' (fun _ h => h))
  have HD3 := Lib.hid (HD2'.out.below hb4' (fun _ h => h))
  have HR3 := Lib.hid hr4
  have HB3 := Lib.hid (HB2.out.trans (hb4'.mono HB2.out.size))
  have p0 := bx.cell 0 rfl
  have p1 := bx.cell 1 rfl
  have p2 := bx.cell 2 rfl
  have p3 := bx.cell 3 rfl
  clear hr4 hb4 hb4' bx
  go_wp2_with fail
  refine (sadd_no (4, pickedZ n 3, 1 + pickedZ n 5, someL n 250) 2 _ _ _ HL3.out HD3.out (.inr ⟨HSC.out, sgnCode_4 _ _ _, by decide⟩)).mono ?_
  rintro e w5 ⟨rfl, hb5⟩
  have bx := HX.out.belowS hb5
  have HX5 := Lib.hid bx
  have HL5 := Lib.hid (HL3.out.below hb5 (fun _ h => h))
  have HD5 := Lib.hid (HD3.out.below hb5 (fun _ h => h))
  have HR5 := Lib.hid (HR3.out.below hb5 (fun _ h => h))
  have HB5 := Lib.hid (HB3.out.trans (hb5.mono HB3.out.size))
  clear hb5 p0 p1 p2 p3
  have p0 := bx.cell 0 rfl
  have p1 := bx.cell 1 rfl
  have p2 := bx.cell 2 rfl
  have p3 := bx.cell 3 rfl
  clear bx
  go_wp2_with fail
  have ht := HD5.out.take 9 (by rw [someL_length]; omega)
  refine (sadd_no (0, 0, 1, (someL n 250).take 9) 4 _ _ _ HL5.out ht (.inr ⟨HSC.out, sgnCode_9, by decide⟩)).mono ?_
  rintro e w6 ⟨rfl, hb6⟩
  have bx := HX5.out.belowS hb6
  have HD6 := Lib.hid (HD5.out.below hb6 (fun _ h => h))
  have HR6 := Lib.hid (HR5.out.below hb6 (fun _ h => h))
  have HB6 := Lib.hid (HB5.out.trans (hb6.mono HB5.out.size))
  clear hb6 p0 p1 p2 p3 ht
  have p0 := bx.cell 0 rfl
  have p1 := bx.cell 1 rfl
  have p2 := bx.cell 2 rfl
  have p3 := bx.cell 3 rfl
  obtain ⟨b, o, vl, rfl, -, q0, q1, q2, q3, hdl⟩ := sgn_last HR6.out
  obtain ⟨adl, capl, rfl, -, -⟩ := hdl.form
  have HDL := Lib.hid hdl
  have l1 : IntKind.i64.wrap ((K : Int) - 1) = (L.length : Int) := by
    rw [show ((K : Int) - 1) = (L.length : Int) by omega]; exact IntWalk.i64_in _ (by omega)
  have i0 : (0 : Int) ≤ (L.length : Int) := by omega
  have i1 : (L.length : Int) < (K : Int) := by omega
  have i2 : L.length < K := by omega
  have zx := bx.lt
  have zb := World.block_lt_of_cell? _ _ q0
  simp only at zb
  have e1 : ((sgnOf n 250).1 == pickedZ n 4) = true := by show (pickedZ n 4 == pickedZ n 4) = true; simp
  clear hdl bx
  go_wp2_with fail
  go_region_held3 (fun w' => w'.cell? ⟨w2.heap.size, 0, none⟩ = some (.int .i64 (pickedZ n 4)) ∧ w'.cell? ⟨w2.heap.size, 1, none⟩ = some (.int .i64 (pickedZ n 3)) ∧ w'.cell? ⟨w2.heap.size, 2, none⟩ = some (.int .i64 (1 + pickedZ n 5)) ∧ w'.cell? ⟨w2.heap.size, 3, none⟩ = some (.slice (some ⟨g2, 0, none⟩) 32 32) ∧
      w'.cell? ⟨b, o + L.length * 4, none⟩ = some (.int .i64 (sgnOf n 250).1) ∧ w'.cell? ⟨b, o + L.length * 4 + 1, none⟩ = some (.int .i64 (sgnOf n 250).2.1) ∧ w'.cell? ⟨b, o + L.length * 4 + 2, none⟩ = some (.int .i64 (sgnOf n 250).2.2.1) ∧ w'.cell? ⟨b, o + L.length * 4 + 3, none⟩ = some (.slice adl (sgnOf n 250).2.2.2.length capl))
    (go_keep)
    ((go_at_call 28; refine (sameSlot_any _ _ _ _ (sgnOf n 250).2.2.2 (someL n 250) _ _ _ (by first | exact HDL.out | exact HDL.out.keep (Keep.drew _ _) (fun _ h => h)) (by first | exact HD6.out | exact HD6.out.keep (Keep.drew _ _) (fun _ h => h))).mono ?_; rintro e w7 ⟨rfl, hb7⟩; have hb7' : Below w6.heap.size w6 w7 := (by first | exact hb7 | exact (Below.refl _ _).drew.trans hb7); have hR7 := HB6.out.trans (hb7'.mono HB6.out.size); have r0 := ((bcellAt hb7' _ zx).1 0).trans p0; have r1 := ((bcellAt hb7' _ zx).1 1).trans p1; have r2 := ((bcellAt hb7' _ zx).1 2).trans p2; have r3 := ((bcellAt hb7' _ zx).1 3).trans p3; have t0 := ((bcellAt hb7' _ zb).1 _).trans q0; have t1 := ((bcellAt hb7' _ zb).1 _).trans q1; have t2 := ((bcellAt hb7' _ zb).1 _).trans q2; have t3 := ((bcellAt hb7' _ zb).1 _).trans q3))
  all_goals
    go_wp2
    go_ret
    exact ⟨ret_boolH (by simp [sgnOf]), hR7⟩
end Go.Proofs.Ytghimigffnbhaaa
