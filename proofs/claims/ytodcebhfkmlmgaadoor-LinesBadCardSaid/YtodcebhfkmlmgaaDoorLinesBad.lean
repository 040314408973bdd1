/- LinesBad: the walk. -/
import Derived.Test.YtodcebhfkmlmgaaDoorBadL
set_option linter.unusedVariables false
set_option linter.unusedSimpArgs false
namespace Go.Proofs.YtodcebhfkmlmgaaDoor
open Go Go.RowKit

set_option maxRecDepth 100000 in
set_option maxHeartbeats 8000000 in
theorem linesBad_walk (v : Value) (l : List FeatD) (n bad : Int) (w : World) (hv : RdS RFeat (fun _ => True) w v l) (n1 : -9223372036854775808 ≤ n) (n2 : n ≤ 9223372036854775807) (bad1 : -9223372036854775808 ≤ bad) (bad2 : bad ≤ 9223372036854775807) (ht : TabR w) :
    Calls Tryd.prog 8 #[v, .int .i64 n, .int .i64 bad] w fun e w' => e = .returned (.bool true) ∧ Below w.heap.size w w' := by
  obtain ⟨ad, cap, rfl, -, hm1⟩ := hv.form
  unfold maxLen at hm1
  have HT := Lib.hid ht.l
  have HTR := Lib.hid ht
  have HV := Lib.hid hv
  clear ht hv
  obtain ⟨N, hN, hN1, hN2⟩ : ∃ N : Nat, (l.length ≤ 12 → N = l.length) ∧ (12 < l.length → N = 12) ∧ N ≤ 12 := by
    by_cases c : l.length ≤ 12
    · exact ⟨l.length, fun _ => rfl, fun h => by omega, c⟩
    · exact ⟨12, fun h => by omega, fun _ => rfl, Nat.le_refl _⟩
  have hNl : N ≤ l.length := by by_cases c : l.length ≤ 12 <;> omega
  obtain ⟨r1, r2⟩ := pickedZ_range n ((N : Int) + 1) (by omega)
  obtain ⟨K, hK⟩ : ∃ K : Nat, (K : Int) = pickedZ n ((N : Int) + 1) := ⟨(pickedZ n ((N : Int) + 1)).toNat, by omega⟩
  rw [← hK] at r1 r2
  have HK := Lib.hid hK.symm
  clear hK r1
  obtain ⟨q1, q2⟩ := pickedZ_range bad 17 (by omega)
  obtain ⟨b, hb⟩ : ∃ b : Nat, (b : Int) = pickedZ bad 17 := ⟨(pickedZ bad 17).toNat, by omega⟩
  rw [← hb] at q1 q2
  have HBD := Lib.hid hb.symm
  clear hb q1
  go_enter Tryd.func8, Tryd.ntmps8
  go_upto_region 3 with fail
  obtain ⟨w2, hwl⟩ : ∃ w2, w2 = ((w.alloc (.cells #[.string ⟨#[]⟩, .string ⟨#[83, 117, 98, 109, 105, 116, 32, 48, 32, 48, 48, 10]⟩, .string ⟨#[115, 117, 98, 109, 105, 116, 32, 48, 10]⟩, .string ⟨#[115, 117, 98, 109, 105, 116, 32, 48, 32, 48, 10]⟩, .string ⟨#[115, 117, 98, 109, 105, 116, 32, 48, 32, 48, 65, 10]⟩, .string ⟨#[119, 111, 114, 107, 10]⟩, .string ⟨#[119, 111, 114, 107, 32, 52, 10]⟩, .string ⟨#[119, 111, 114, 107, 32, 48, 49, 10]⟩, .string ⟨#[119, 111, 114, 107, 32, 45, 49, 10]⟩, .string ⟨#[116, 97, 107, 101, 10]⟩, .string ⟨#[116, 97, 107, 101, 32, 52, 48, 48, 48, 48, 49, 10]⟩, .string ⟨#[102, 108, 111, 119, 32, 49, 10]⟩, .string ⟨#[99, 114, 97, 115, 104, 32, 49, 10]⟩, .string ⟨#[102, 111, 114, 103, 101, 32, 32, 10]⟩, .string ⟨#[32, 115, 121, 110, 99, 32, 48, 10]⟩, .string ⟨#[115, 116, 97, 114, 116, 32, 48, 32, 10]⟩, .string ⟨#[99, 111, 112, 121, 32, 49, 32, 50]⟩] 9)).alloc (.cells #[.int .i64 4, .int .i64 4, .int .i64 4, .int .i64 4, .int .i64 4, .int .i64 4, .int .i64 2, .int .i64 4, .int .i64 4, .int .i64 4, .int .i64 2, .int .i64 4, .int .i64 4, .int .i64 4, .int .i64 4, .int .i64 4, .int .i64 4] 27)) := ⟨_, rfl⟩
  have hBl : Below w.heap.size w w2 := by rw [hwl]; exact (((Below.refl _ _).alloc (by first | exact Nat.le_refl _ | (simp; done) | (simp; omega)) _).alloc (by first | exact Nat.le_refl _ | (simp; done) | (simp; omega)) _)
  have HX := Lib.hid (show BoxAt w2 w.heap.size (badT.map strV) 9 by rw [hwl]; exact (BoxAt.new w [.string ⟨#[]⟩, .string ⟨#[83, 117, 98, 109, 105, 116, 32, 48, 32, 48, 48, 10]⟩, .string ⟨#[115, 117, 98, 109, 105, 116, 32, 48, 10]⟩, .string ⟨#[115, 117, 98, 109, 105, 116, 32, 48, 32, 48, 10]⟩, .string ⟨#[115, 117, 98, 109, 105, 116, 32, 48, 32, 48, 65, 10]⟩, .string ⟨#[119, 111, 114, 107, 10]⟩, .string ⟨#[119, 111, 114, 107, 32, 52, 10]⟩, .string ⟨#[119, 111, 114, 107, 32, 48, 49, 10]⟩, .string ⟨#[119, 111, 114, 107, 32, 45, 49, 10]⟩, .string ⟨#[116, 97, 107, 101, 10]⟩, .string ⟨#[116, 97, 107, 101, 32, 52, 48, 48, 48, 48, 49, 10]⟩, .string ⟨#[102, 108, 111, 119, 32, 49, 10]⟩, .string ⟨#[99, 114, 97, 115, 104, 32, 49, 10]⟩, .string ⟨#[102, 111, 114, 103, 101, 32, 32, 10]⟩, .string ⟨#[32, 115, 121, 110, 99, 32, 48, 10]⟩, .string ⟨#[115, 116, 97, 114, 116, 32, 48, 32, 10]⟩, .string ⟨#[99, 111, 112, 121, 32, 49, 32, 50]⟩] _).alloc _)
  have HY := Lib.hid (show BoxAt w2 (w.heap.size + 1) (badE.map (Value.int .i64)) 27 by
    have e : (w.alloc (.cells #[.string ⟨#[]⟩, .string ⟨#[83, 117, 98, 109, 105, 116, 32, 48, 32, 48, 48, 10]⟩, .string ⟨#[115, 117, 98, 109, 105, 116, 32, 48, 10]⟩, .string ⟨#[115, 117, 98, 109, 105, 116, 32, 48, 32, 48, 10]⟩, .string ⟨#[115, 117, 98, 109, 105, 116, 32, 48, 32, 48, 65, 10]⟩, .string ⟨#[119, 111, 114, 107, 10]⟩, .string ⟨#[119, 111, 114, 107, 32, 52, 10]⟩, .string ⟨#[119, 111, 114, 107, 32, 48, 49, 10]⟩, .string ⟨#[119, 111, 114, 107, 32, 45, 49, 10]⟩, .string ⟨#[116, 97, 107, 101, 10]⟩, .string ⟨#[116, 97, 107, 101, 32, 52, 48, 48, 48, 48, 49, 10]⟩, .string ⟨#[102, 108, 111, 119, 32, 49, 10]⟩, .string ⟨#[99, 114, 97, 115, 104, 32, 49, 10]⟩, .string ⟨#[102, 111, 114, 103, 101, 32, 32, 10]⟩, .string ⟨#[32, 115, 121, 110, 99, 32, 48, 10]⟩, .string ⟨#[115, 116, 97, 114, 116, 32, 48, 32, 10]⟩, .string ⟨#[99, 111, 112, 121, 32, 49, 32, 50]⟩] 9)).heap.size = w.heap.size + 1 := by simp
    rw [hwl, ← e]; exact BoxAt.new (w.alloc (.cells #[.string ⟨#[]⟩, .string ⟨#[83, 117, 98, 109, 105, 116, 32, 48, 32, 48, 48, 10]⟩, .string ⟨#[115, 117, 98, 109, 105, 116, 32, 48, 10]⟩, .string ⟨#[115, 117, 98, 109, 105, 116, 32, 48, 32, 48, 10]⟩, .string ⟨#[115, 117, 98, 109, 105, 116, 32, 48, 32, 48, 65, 10]⟩, .string ⟨#[119, 111, 114, 107, 10]⟩, .string ⟨#[119, 111, 114, 107, 32, 52, 10]⟩, .string ⟨#[119, 111, 114, 107, 32, 48, 49, 10]⟩, .string ⟨#[119, 111, 114, 107, 32, 45, 49, 10]⟩, .string ⟨#[116, 97, 107, 101, 10]⟩, .string ⟨#[116, 97, 107, 101, 32, 52, 48, 48, 48, 48, 49, 10]⟩, .string ⟨#[102, 108, 111, 119, 32, 49, 10]⟩, .string ⟨#[99, 114, 97, 115, 104, 32, 49, 10]⟩, .string ⟨#[102, 111, 114, 103, 101, 32, 32, 10]⟩, .string ⟨#[32, 115, 121, 110, 99, 32, 48, 10]⟩, .string ⟨#[115, 116, 97, 114, 116, 32, 48, 32, 10]⟩, .string ⟨#[99, 111, 112, 121, 32, 49, 32, 50]⟩] 9)) [.int .i64 4, .int .i64 4, .int .i64 4, .int .i64 4, .int .i64 4, .int .i64 4, .int .i64 2, .int .i64 4, .int .i64 4, .int .i64 4, .int .i64 2, .int .i64 4, .int .i64 4, .int .i64 4, .int .i64 4, .int .i64 4, .int .i64 4] _)
  have HB := Lib.hid hBl
  rw [← hwl]
  clear hwl hBl
  have hmin : min (l.length : Int) 12 = (N : Int) := by by_cases c : l.length ≤ 12 <;> omega
  go_upto_region 4 with fail
  clear hmin
  have wN : IntKind.i64.wrap ((N : Int) + 1) = (N : Int) + 1 := IntWalk.i64_in _ (by omega)
  go_upto_region 5 with (go_at_call 13; refine (picked_any n ((N : Int) + 1) _ n1 n2 (by omega) (by omega)).mono ?_; rintro e w' ⟨rfl, rfl⟩; rw [HK.out])
  go_upto_region 6 with (go_at_call 13; refine (picked_any bad 17 _ bad1 bad2 (by omega) (by omega)).mono ?_; rintro e w' ⟨rfl, rfl⟩; rw [HBD.out])
  clear wN HK HBD
  have HTb := Lib.hid (HT.out.belowS HB.out)
  have HTRb := Lib.hid (HTR.out.belowS HB.out)
  have HVb := Lib.hid (HV.out.below HB.out (fun _ h => h))
  clear HT HTR HV
  have hz2 := HB.out.size
  go_wp2_with fail
  go_loopw [12, 13] (fun x i wr => ∃ k : Nat, k ≤ K ∧ x = strV (showL (actsL (l.take k))) ∧ i = .int .i64 k ∧ Hid (Below w2.heap.size w2 wr)) (fun _ i _ => K - (intOf i).toNat)
  case atStart => exact ⟨0, Nat.zero_le _, rfl, rfl, Lib.hid (Below.refl _ _)⟩
  case round =>
    obtain ⟨k, hk, rfl, rfl, HBr⟩ := hrel
    have hzk := HBr.out.size
    have HTX := Lib.hid (show (showL (actsL (l.take k))).length ≤ 8100 * 12 from by
      have := showL_len (actsL_ok (l.take k))
      rw [actsL_len, List.length_take] at this; omega)
    by_cases hlt : k < K
    · have kl : k < l.length := by omega
      have k0 : (0 : Int) ≤ (k : Int) := by omega
      have k1 : (k : Int) < (K : Int) := by omega
      have k2 : (k : Int) < (l.length : Int) := by omega
      have wk : IntKind.i64.wrap ((k : Int) + 1) = (k : Int) + 1 := IntWalk.i64_in _ (by omega)
      obtain ⟨bf, o, rfl, e0, e1, e2, e3, hfo⟩ := (HVb.out.below HBr.out (fun _ h => h)).feat k kl
      have HSU := Lib.hid (show showL (actsL (l.take (k + 1))) = showL (actsL (l.take k)) ++ showL [featA l[k]] by rw [actsL_succ kl, showL_append])
      generalize l[k] = f at *
      have HFO := Lib.hid hfo
      clear hfo
      go_wp2_with fail
      refine (act_any f _ HFO.out).mono ?_
      rintro e w91 ⟨rfl, hb1⟩
      have HBk1 := Lib.hid (HBr.out.trans (hb1.mono hzk))
      have HOK := Lib.hid (featA_ok f)
      generalize featA f = a at *
      have HSA := Lib.hid (showR_ok (l := [a]) (by simp) (fun x hx => by rw [List.mem_singleton.1 hx]; exact HOK.out))
      have HSL := Lib.hid (show (showL [a]).length ≤ 8100 from by have := showL_len (l := [a]) (fun x hx => by rw [List.mem_singleton.1 hx]; exact HOK.out); simpa using this)
      clear hb1 e0 e1 e2 e3 HBr
      have hB4 : Below w91.heap.size w91 (w91.alloc (.cells #[.int .i64 a.k, .int .i64 a.n, .int .i64 a.p, strV a.t] 25)) := (Below.refl _ _).alloc (Nat.le_refl _) _
      have HRD := Lib.hid (show RdS RAct (fun _ => True) (w91.alloc (.cells #[.int .i64 a.k, .int .i64 a.n, .int .i64 a.p, strV a.t] 25)) (.slice (some ⟨w91.heap.size, 0, none⟩) 1 1) [a] from rdActs (l := [a]) (BoxAt.new w91 [.int .i64 a.k, .int .i64 a.n, .int .i64 a.p, strV a.t] _) trivial (by unfold maxLen; simp))
      have HB4 := Lib.hid (HBk1.out.trans (hB4.mono HBk1.out.size))
      go_wp2_with fail
      refine (lshow_any _ _ HRD.out (HTb.out.belowS HB4.out)).mono ?_
      rintro e w92 ⟨rfl, hb5⟩
      rw [HSA.out]
      have HB5 := Lib.hid (HB4.out.trans (hb5.mono HB4.out.size))
      clear hb5 HB4 HRD hB4 HBk1
      have HCA := Lib.hid ((cat_arr (showL (actsL (l.take k))) (showL [a])).trans (by rw [← HSU.out]))
      have hcl : ¬ 9223372036854775807 < (showL (actsL (l.take k))).length + (showL [a]).length := by have := HTX.out; have := HSL.out; omega
      go_wp2
      go_roundw
      case rel => exact ⟨k + 1, by omega, congrArg Value.string HCA.out, by go_num, HB5⟩
      case measure => simp [intOf]; omega
    · obtain rfl : K = k := by omega
      have k1 : ¬ ((K : Int) < (K : Int)) := by omega
      have HKA := Lib.hid (show (actsL (l.take K)).length = K by rw [actsL_len, List.length_take]; omega)
      have HOA := Lib.hid (actsL_ok (l.take K))
      obtain ⟨wz, rfl⟩ : ∃ wz : World, wz = wr := ⟨_, rfl⟩
      generalize actsL (l.take K) = la at *
      have tl : badT.length = 17 := rfl
      have el : badE.length = 17 := rfl
      have bl1 : b < badT.length := by omega
      have bl2 : b < badE.length := by omega
      have x0 := (HX.out.belowS HBr.out).cell b (v := strV (badT.getD b [])) (by simp [bl1])
      have y0 := (HY.out.belowS HBr.out).cell b (v := .int .i64 (badE.getD b 0)) (by simp [bl2])
      clear tl el bl1 bl2
      have b1 : (0 : Int) ≤ (b : Int) := by omega
      have b2 : (b : Int) < 17 := by omega
      have zx := (HX.out.belowS HBr.out).lt
      have zy := (HY.out.belowS HBr.out).lt
      have hbl := badT_len ⟨b, by omega⟩
      simp only at hbl
      have hcl : ¬ 9223372036854775807 < (showL la).length + (badT.getD b []).length := by have := HTX.out; omega
      have HCA := Lib.hid (cat_arr (showL la) (badT.getD b []))
      by_cases hb0 : b = 0
      · subst hb0
        have HRB := Lib.hid (show readL (showL la ++ badT.getD 0 []) = (la, 0, 0) by rw [show badT.getD 0 [] = [] from rfl, List.append_nil]; exact readL_show HOA.out (by rw [HKA.out]; omega))
        have hbn : (badT.getD 0 [] == []) = true := rfl
        generalize badT.getD 0 [] = bt at *
        generalize badE.getD 0 0 = be at *
        go_wp2_with fail
        rw [HCA.out]
        refine (lread_any _ _ (by rw [List.length_append]; have := HTX.out; omega) (HTRb.out.belowS HBr.out)).mono ?_
        rintro e w3 ⟨v3, rfl, hrd, hb_s⟩
        rw [HRB.out] at hrd ⊢
        obtain ⟨ad3, cap3, rfl, -, hm3⟩ := hrd.form
        simp only
        rw [HKA.out]
        replace x0 := (hb_s.cell (p := ⟨w.heap.size, 0, none⟩) zx).trans x0
        replace y0 := (hb_s.cell (p := ⟨w.heap.size + 1, 0, none⟩) zy).trans y0
        have zx3 : w.heap.size < w3.heap.size := by have := hb_s.size; omega
        have zy3 : w.heap.size + 1 < w3.heap.size := by have := hb_s.size; omega
        have HBE := Lib.hid (HB.out.trans ((HBr.out.trans (hb_s.mono HBr.out.size)).mono HB.out.size))
        clear hb_s hrd hm3 hcl zx zy
        go_wp2
        go_ret
        exact ⟨rfl, HBE.out⟩
      · have HRB := Lib.hid (readL_wrong HOA.out (by rw [HKA.out]; omega) (show b < 17 by omega) hb0)
        have hbn : (badT.getD b [] == []) = false := by have := (badC_at ⟨b, by omega⟩ hb0).2.2; simpa using this
        generalize badT.getD b [] = bt at *
        generalize badE.getD b 0 = be at *
        go_wp2_with fail
        rw [HCA.out]
        refine (lread_any _ _ (by rw [List.length_append]; have := HTX.out; omega) (HTRb.out.belowS HBr.out)).mono ?_
        rintro e w3 ⟨v3, rfl, hrd, hb_s⟩
        rw [HRB.out] at hrd ⊢
        obtain ⟨ad3, cap3, rfl, -, hm3⟩ := hrd.form
        simp only
        rw [HKA.out]
        replace x0 := (hb_s.cell (p := ⟨w.heap.size, b, none⟩) zx).trans x0
        replace y0 := (hb_s.cell (p := ⟨w.heap.size + 1, b, none⟩) zy).trans y0
        have zx3 : w.heap.size < w3.heap.size := by have := hb_s.size; omega
        have zy3 : w.heap.size + 1 < w3.heap.size := by have := hb_s.size; omega
        have HBE := Lib.hid (HB.out.trans ((HBr.out.trans (hb_s.mono HBr.out.size)).mono HB.out.size))
        clear hb_s hrd hm3 hcl zx zy
        go_wp2
        go_ret
        exact ⟨rfl, HBE.out⟩
end Go.Proofs.YtodcebhfkmlmgaaDoor
