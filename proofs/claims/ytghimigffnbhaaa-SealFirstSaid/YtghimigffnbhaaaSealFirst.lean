/- SealFirst: the walk. -/
import Derived.Test.YtghimigffnbhaaaSealLast
import Derived.Test.YtghimigffnbhaaaSame
import Derived.Test.YtghimigffnbhaaaChk2
import Derived.Deep.RegionHeld3
set_option linter.unusedVariables false
set_option linter.unusedSimpArgs false
namespace Go.Proofs.Ytghimigffnbhaaa
open Go Go.RowKit

theorem sealCode_none' {n a : Int} {l : List (List UInt8)} (h : poolOk n l = true) (h1 : 0 ≤ a) (h2 : a < 4) (h3 : l.length = 0) : sealCode n l a = 8 := by
  unfold sealCode; simp [h, h3]; omega
theorem batCode_take {n a : Int} {P : List (List UInt8)} {k : Nat} (hok : poolOk n P = true) (h1 : 0 ≤ a) (h2 : a < 4) (h3 : P.length ≠ 0) (h4 : n ≤ 99) (hk : k = min P.length 4) : batCode ⟨a, n, P.take k⟩ = 0 := by
  unfold poolOk at hok
  simp only [decide_eq_true_eq] at hok
  refine bat_ok_at (by unfold nodeOk; simp; omega) (by unfold countOk; simp; omega) (by simp; omega) (by simp; omega) (fun j t ht => ?_)
  have hm : t ∈ P := List.mem_of_mem_take (List.mem_of_getElem? ht)
  have := hok.2.2.2.1 t hm
  unfold txOk at this
  unfold txLen
  exact this

set_option maxRecDepth 100000 in
set_option maxHeartbeats 8000000 in
theorem sealFirst_walk (v : Value) (l : List (List UInt8)) (author next : Int) (w : World) (h : RdT (fun _ => True) w v l) (hl : ∀ t ∈ l, t.length ≤ 9223372036854775807)
    (h1 : -9223372036854775808 ≤ author) (h2 : author ≤ 9223372036854775807) (h3 : -9223372036854775808 ≤ next) (h4 : next ≤ 9223372036854775807) :
    Calls Try.prog 10 #[v, .int .i64 author, .int .i64 next] w fun e w' => e = .returned (.bool true) ∧ Below w.heap.size w w' := by
  obtain ⟨k1, k2⟩ := pickedZ_range author 4 (by omega)
  obtain ⟨n1, n2⟩ := pickedZ_range next 99 (by omega)
  have K := kpool_any v next w h hl h3 h4
  have hok := poolFold_ok (n := 1 + pickedZ next 99) (l.take 30) (by omega) (by omega)
  have m1 : 1 ≤ 1 + pickedZ next 99 := by omega
  have m2 : 1 + pickedZ next 99 ≤ 99 := by omega
  clear n1 n2
  generalize 1 + pickedZ next 99 = n at *
  generalize poolFold n (l.take 30) = P at *
  generalize hA : pickedZ author 4 = a at *
  have hl40 : P.length ≤ 40 := by unfold poolOk at hok; simp only [decide_eq_true_eq] at hok; exact hok.2.2.1
  have htx : ∀ t ∈ P, t.length ≤ 9223372036854775807 := fun t ht => by
    unfold poolOk at hok; simp only [decide_eq_true_eq] at hok
    have := hok.2.2.2.1 t ht
    unfold txOk at this; simp only [decide_eq_true_eq] at this; omega
  have HA := Lib.hid hA
  have HK := Lib.hid K
  have HOK := Lib.hid hok
  have HN := Lib.hid (show sealCode n P 4 = 2 by unfold sealCode; simp [hok])
  clear hA K hok
  go_enter Try.func10, Try.ntmps10
  go_wp2_with fail
  refine HK.out.mono ?_
  rintro e w1 ⟨v1, rfl, hP, hb1⟩
  obtain ⟨ad1, cap1, rfl, hlc, hcm, hn0⟩ := hP.form0
  unfold maxLen at hcm
  have HP1 := Lib.hid (hP.low (by decide))
  have HB1 := Lib.hid hb1
  clear hP hb1
  by_cases hP0 : P.length = 0
  · have HS := Lib.hid (sealCode_none' HOK.out k1 k2 hP0)
    have i0 : ((P.length : Int) == 0) = true := by rw [hP0]; rfl
    clear hP0
    go_wp2_with (go_at_call 16; refine (picked_any _ _ _ h1 h2 (by omega) (by omega)).mono ?_; rintro e w' ⟨rfl, rfl⟩; rw [HA.out])
    refine (pseal_no (HP1.out.keep (Keep.alloc _ _ _) (fun _ h => h)) HS.out (by decide)).mono ?_
    rintro e w2 ⟨rfl, hb2⟩
    have hb2' : Below w1.heap.size w1 w2 := ((Below.refl _ _).alloc (Nat.le_refl _) _).trans (hb2.mono (by simp))
    have bp := (BoxAt.new w1 [.int .i64 n, .slice ad1 P.length cap1] 31).belowS hb2
    have HP2 := Lib.hid (HP1.out.below hb2' (fun _ h => h))
    have HB2 := Lib.hid (HB1.out.trans (hb2'.mono HB1.out.size))
    have p0 := bp.cell 0 rfl
    have p1 := bp.cell 1 rfl
    have zp := bp.lt
    clear hb2 hb2'
    go_wp2_with fail
    refine (pseal_no (HP2.out.keep ((Keep.alloc _ _ _).trans (Keep.alloc _ _ _)) (fun _ h => h)) HN.out (by decide)).mono ?_
    rintro e w3 ⟨rfl, hb3⟩
    have bp3 := ((bp.alloc _).alloc _).belowS hb3
    have bb3 := (BoxAt.newAt (w2.alloc (.cells #[.int .i64 0, .slice none 0 0] 31)) [.int .i64 0, .int .i64 0, .slice none 0 0] 42 (by simp : w2.heap.size + 1 = _)).belowS hb3
    have hb3' : Below w2.heap.size w2 w3 := (((Below.refl _ _).alloc (Nat.le_refl _) _).alloc (by simp) _).trans (hb3.mono (by simp; omega))
    have HB3 := Lib.hid (HB2.out.trans (hb3'.mono HB2.out.size))
    clear p0 p1
    have p0 := bp3.cell 0 rfl
    have p1 := bp3.cell 1 rfl
    have b2 := bb3.cell 2 rfl
    have z3 := hb3'.size
    have y1 : w1.heap.size < w3.heap.size := by omega
    have y2 : w2.heap.size < w3.heap.size := (by have := bb3.lt; omega)
    have y3 : w2.heap.size + 1 < w3.heap.size := bb3.lt
    clear hb3 hb3' bp3 bb3 bp
    go_wp2
    go_ret
    refine ⟨rfl, ?_⟩
    have z := HB3.out.size
    exact (HB3.out.alloc z _).alloc (by simp; omega) _
  · obtain ⟨kk, hkk⟩ : ∃ kk, kk = min P.length 4 := ⟨_, rfl⟩
    have HKK := Lib.hid hkk
    have HS := Lib.hid (sealCode_ok HOK.out k1 k2 hP0 (by omega))
    have HBAT := Lib.hid (batCode_take HOK.out k1 k2 hP0 m2 hkk)
    have i0 : ((P.length : Int) == 0) = false := by rw [beq_eq_false_iff_ne]; omega
    have iP : 0 < P.length := by omega
    have hk0 : kk ≤ P.length := by omega
    have hk4 : kk ≤ 4 := by omega
    obtain ⟨E, hE⟩ : ∃ E, E = P.drop kk := ⟨_, rfl⟩
    obtain ⟨T, hT⟩ : ∃ T, T = P.take kk := ⟨_, rfl⟩
    have hTl : T.length = kk := by rw [hT, List.length_take]; omega
    have hEl : P.length - kk = E.length := by rw [hE, List.length_drop]
    rw [← hT] at HBAT
    have HE := Lib.hid hE
    have HT := Lib.hid hT
    have HEl := Lib.hid hEl
    have HTl := Lib.hid hTl
    have hkP : kk + E.length = P.length := by omega
    clear hkk hE hT hEl hTl hP0
    go_wp2_with (go_at_call 16; refine (picked_any _ _ _ h1 h2 (by omega) (by omega)).mono ?_; rintro e w' ⟨rfl, rfl⟩; rw [HA.out])
    refine (pseal_ok (HP1.out.keep (Keep.alloc _ _ _) (fun _ h => h)) HS.out HKK.out).mono ?_
    rintro e w2 ⟨a1, c1, a2, c2, rfl, hdr, htk, hb2⟩
    rw [← HE.out, HEl.out] at hdr
    rw [← HT.out] at htk
    rw [HEl.out]
    have hb2' : Below w1.heap.size w1 w2 := ((Below.refl _ _).alloc (Nat.le_refl _) _).trans (hb2.mono (by simp))
    have bp := (BoxAt.new w1 [.int .i64 n, .slice ad1 P.length cap1] 31).belowS hb2
    have HP2 := Lib.hid (HP1.out.below hb2' (fun _ h => h))
    have HD2 := Lib.hid (hdr.low (by decide))
    have HT2 := Lib.hid (htk.low (by decide))
    have HB2 := Lib.hid (HB1.out.trans (hb2'.mono HB1.out.size))
    have p0 := bp.cell 0 rfl
    have p1 := bp.cell 1 rfl
    have zp := bp.lt
    clear hb2 hb2' hdr htk
    go_wp2_with fail
    refine (pseal_no (HP2.out.keep ((Keep.alloc _ _ _).trans (Keep.alloc _ _ _)) (fun _ h => h)) HN.out (by decide)).mono ?_
    rintro e w3 ⟨rfl, hb3⟩
    have bp3 := ((bp.alloc _).alloc _).belowS hb3
    have bx3 := ((BoxAt.new w2 [.int .i64 (n + 1), .slice a1 E.length c1] 31).alloc _).belowS hb3
    have bb3 := (BoxAt.newAt (w2.alloc (.cells #[.int .i64 (n + 1), .slice a1 E.length c1] 31)) [.int .i64 a, .int .i64 n, .slice a2 kk c2] 42 (by simp : w2.heap.size + 1 = _)).belowS hb3
    have hb3' : Below w2.heap.size w2 w3 := (((Below.refl _ _).alloc (Nat.le_refl _) _).alloc (by simp) _).trans (hb3.mono (by simp; omega))
    have HP3 := Lib.hid (HP2.out.below hb3' (fun _ h => h))
    have HD3 := Lib.hid (HD2.out.below hb3' (fun _ h => h))
    have HT3 := Lib.hid (HT2.out.below hb3' (fun _ h => h))
    have HB3 := Lib.hid (HB2.out.trans (hb3'.mono HB2.out.size))
    clear p0 p1
    have p0 := bp3.cell 0 rfl
    have p1 := bp3.cell 1 rfl
    have x0 := bx3.cell 0 rfl
    have x1 := bx3.cell 1 rfl
    have b0 := bb3.cell 0 rfl
    have b1 := bb3.cell 1 rfl
    have b2 := bb3.cell 2 rfl
    have z3 := hb3'.size
    have y1 : w1.heap.size < w3.heap.size := by omega
    have y2 : w2.heap.size < w3.heap.size := bx3.lt
    have y3 : w2.heap.size + 1 < w3.heap.size := bb3.lt
    have l1 : IntKind.i64.wrap (n + 1) = n + 1 := IntWalk.i64_in _ (by omega)
    clear hb3 hb3' bp
    obtain ⟨b, o, rfl, -, -⟩ := HP3.out.cell 0 (by omega)
    go_upto_region 9 with fail
    go_cut [15] (fun s wx => s = .int .i64 (kk : Int) ∧ Below w3.heap.size w3 wx)
    case first =>
      have hkm := HKK.out
      go_wp2
      all_goals (go_meet; exact ⟨by congr 1; omega, ((Below.refl _ _).alloc (Nat.le_refl _) _).alloc (by simp) _⟩)
    case rest =>
      obtain ⟨rfl, hbc⟩ := hcut
      have HP4 := Lib.hid (HP3.out.below hbc (fun _ h => h))
      have HD4 := Lib.hid (HD3.out.below hbc (fun _ h => h))
      have HT4 := Lib.hid (HT3.out.below hbc (fun _ h => h))
      have HB4 := Lib.hid (HB3.out.trans (hbc.mono HB3.out.size))
      have bp4 := bp3.belowS hbc
      have bx4 := bx3.belowS hbc
      have bb4 := bb3.belowS hbc
      clear p0 p1 x0 x1 b0 b1 b2 hbc y1 y2 y3 z3 HP3 HD3 HT3 HB3 bp3 bx3 bb3
      have p0 := bp4.cell 0 rfl
      have p1 := bp4.cell 1 rfl
      have x0 := bx4.cell 0 rfl
      have x1 := bx4.cell 1 rfl
      have b0 := bb4.cell 0 rfl
      have b1 := bb4.cell 1 rfl
      have b2 := bb4.cell 2 rfl
      have y1 := bp4.lt
      have y2 := bx4.lt
      have y3 := bb4.lt
      clear bp4 bx4 bb4
      have hkc : kk ≤ cap1 := by omega
      have j0 : (0 : Int) ≤ (kk : Int) := by omega
      have j1 : (kk : Int) ≤ (cap1 : Int) := by omega
      have j2 : (kk : Int) ≤ (P.length : Int) := by omega
      have HQ3 := Lib.hid (show RdT (fun _ => True) wc (.slice (some ⟨b, o, none⟩) kk cap1) T by rw [HT.out]; exact (HP4.out.take kk hk0).mono (fun _ _ => trivial))
      have HTX := Lib.hid (show ∀ t ∈ T, t.length ≤ 9223372036854775807 from fun t ht => htx t (by rw [HT.out] at ht; exact List.mem_of_mem_take ht))
      by_cases hck : cap1 = kk
      · have HD := Lib.hid (show ∀ n' c', n' = P.length - kk → c' = cap1 - kk → RdT (fun _ => True) wc (.slice (some ⟨b, o, none⟩) n' c') E from fun n' c' e1 e2 => by
          subst e1 e2
          rw [HE.out]
          exact ⟨some ⟨b, o, none⟩, cap1 - kk, by rw [List.length_drop], by simp; omega, by unfold maxLen; omega, fun h => by simp at h, fun j x hx => by rw [List.drop_eq_nil_of_le (by omega)] at hx; simp at hx⟩)
        have hck' : (cap1 : Int) = (kk : Int) := by omega
        subst hck
        go_wp2_with fail
        go_region_held3 (fun w' => w'.cell? ⟨w1.heap.size, 0, none⟩ = some (.int .i64 n) ∧ w'.cell? ⟨w1.heap.size, 1, none⟩ = some (.slice (some ⟨b, o, none⟩) P.length cap1) ∧ w'.cell? ⟨w2.heap.size, 0, none⟩ = some (.int .i64 (n + 1)) ∧ w'.cell? ⟨w2.heap.size, 1, none⟩ = some (.slice a1 E.length c1) ∧ w'.cell? ⟨w2.heap.size + 1, 0, none⟩ = some (.int .i64 a) ∧ w'.cell? ⟨w2.heap.size + 1, 1, none⟩ = some (.int .i64 n) ∧ w'.cell? ⟨w2.heap.size + 1, 2, none⟩ = some (.slice a2 cap1 c2)) (go_keep)
          (first
            | (go_at_call 24; refine (cbatch_any (l := T) _ _ _ _ (by first | exact HT4.out | exact HT4.out.keep (Keep.drew _ _) (fun _ h => h)) HTX.out).mono ?_; rintro e w7 ⟨rfl, hb4⟩; rw [HBAT.out]; have hc4 : Below wc.heap.size wc w7 := (by first | exact hb4 | exact (Below.refl _ _).drew.trans hb4); have d0 := ((bcellAt hc4 _ y1).1 0).trans p0; have d1 := ((bcellAt hc4 _ y1).1 1).trans p1; have d2 := ((bcellAt hc4 _ y2).1 0).trans x0; have d3 := ((bcellAt hc4 _ y2).1 1).trans x1; have d4 := ((bcellAt hc4 _ y3).1 0).trans b0; have d5 := ((bcellAt hc4 _ y3).1 1).trans b1; have d6 := ((bcellAt hc4 _ y3).1 2).trans b2; clear hb4)
            | (go_at_call 22; refine (sameTexts_any (l := E) (m := E) _ _ _ (HD4.out.below hc5 (fun _ h => h)) ((HD.out _ _ (by omega) (by omega)).below hc5 (fun _ h => h))).mono ?_; rintro e w6 ⟨rfl, hdw6⟩; rw [decide_eq_true (rfl : E = E)]; have hc6 : Below wc.heap.size wc w6 := (by obtain ⟨n6, e6⟩ := hdw6; rw [e6]; exact below_drewN hc5 _); have q0 := ((bcellAt hc6 _ y1).1 0).trans p0; have q1 := ((bcellAt hc6 _ y1).1 1).trans p1; have q2 := ((bcellAt hc6 _ y2).1 0).trans x0; have q3 := ((bcellAt hc6 _ y2).1 1).trans x1; have q4 := ((bcellAt hc6 _ y3).1 0).trans b0; have q5 := ((bcellAt hc6 _ y3).1 1).trans b1; have q6 := ((bcellAt hc6 _ y3).1 2).trans b2; clear hdw6)
            | (go_at_call 22; refine (sameTexts_any (l := T) (m := T) _ _ _ (HT4.out.below hc4 (fun _ h => h)) (HQ3.out.below hc4 (fun _ h => h))).mono ?_; rintro e w5 ⟨rfl, hdw5⟩; rw [decide_eq_true (rfl : T = T)]; have hc5 : Below wc.heap.size wc w5 := (by obtain ⟨n5, e5⟩ := hdw5; rw [e5]; exact below_drewN hc4 _); have g0 := ((bcellAt hc5 _ y1).1 0).trans p0; have g1 := ((bcellAt hc5 _ y1).1 1).trans p1; have g2 := ((bcellAt hc5 _ y2).1 0).trans x0; have g3 := ((bcellAt hc5 _ y2).1 1).trans x1; have g4 := ((bcellAt hc5 _ y3).1 0).trans b0; have g5 := ((bcellAt hc5 _ y3).1 1).trans b1; have g6 := ((bcellAt hc5 _ y3).1 2).trans b2; clear hdw5))
        all_goals
          go_wp2
          go_ret
          exact ⟨rfl, HB4.out.trans (hc6.mono HB4.out.size)⟩
      · have HD := Lib.hid (show ∀ n' c', n' = P.length - kk → c' = cap1 - kk → RdT (fun _ => True) wc (.slice (some ⟨b, o + kk, none⟩) n' c') E from fun n' c' e1 e2 => by
          have := HP4.out.drop kk hk0
          rw [e1, e2, HE.out]
          simp only [flat, Nat.mul_one] at this
          exact this.mono (fun _ _ => trivial))
        go_wp2_with fail
        go_region_held3 (fun w' => w'.cell? ⟨w1.heap.size, 0, none⟩ = some (.int .i64 n) ∧ w'.cell? ⟨w1.heap.size, 1, none⟩ = some (.slice (some ⟨b, o, none⟩) P.length cap1) ∧ w'.cell? ⟨w2.heap.size, 0, none⟩ = some (.int .i64 (n + 1)) ∧ w'.cell? ⟨w2.heap.size, 1, none⟩ = some (.slice a1 E.length c1) ∧ w'.cell? ⟨w2.heap.size + 1, 0, none⟩ = some (.int .i64 a) ∧ w'.cell? ⟨w2.heap.size + 1, 1, none⟩ = some (.int .i64 n) ∧ w'.cell? ⟨w2.heap.size + 1, 2, none⟩ = some (.slice a2 kk c2)) (go_keep)
          (first
            | (go_at_call 24; refine (cbatch_any (l := T) _ _ _ _ (by first | exact HT4.out | exact HT4.out.keep (Keep.drew _ _) (fun _ h => h)) HTX.out).mono ?_; rintro e w7 ⟨rfl, hb4⟩; rw [HBAT.out]; have hc4 : Below wc.heap.size wc w7 := (by first | exact hb4 | exact (Below.refl _ _).drew.trans hb4); have d0 := ((bcellAt hc4 _ y1).1 0).trans p0; have d1 := ((bcellAt hc4 _ y1).1 1).trans p1; have d2 := ((bcellAt hc4 _ y2).1 0).trans x0; have d3 := ((bcellAt hc4 _ y2).1 1).trans x1; have d4 := ((bcellAt hc4 _ y3).1 0).trans b0; have d5 := ((bcellAt hc4 _ y3).1 1).trans b1; have d6 := ((bcellAt hc4 _ y3).1 2).trans b2; clear hb4)
            | (go_at_call 22; refine (sameTexts_any (l := E) (m := E) _ _ _ (HD4.out.below hc5 (fun _ h => h)) ((HD.out _ _ (by omega) (by omega)).below hc5 (fun _ h => h))).mono ?_; rintro e w6 ⟨rfl, hdw6⟩; rw [decide_eq_true (rfl : E = E)]; have hc6 : Below wc.heap.size wc w6 := (by obtain ⟨n6, e6⟩ := hdw6; rw [e6]; exact below_drewN hc5 _); have q0 := ((bcellAt hc6 _ y1).1 0).trans p0; have q1 := ((bcellAt hc6 _ y1).1 1).trans p1; have q2 := ((bcellAt hc6 _ y2).1 0).trans x0; have q3 := ((bcellAt hc6 _ y2).1 1).trans x1; have q4 := ((bcellAt hc6 _ y3).1 0).trans b0; have q5 := ((bcellAt hc6 _ y3).1 1).trans b1; have q6 := ((bcellAt hc6 _ y3).1 2).trans b2; clear hdw6)
            | (go_at_call 22; refine (sameTexts_any (l := T) (m := T) _ _ _ (HT4.out.below hc4 (fun _ h => h)) (HQ3.out.below hc4 (fun _ h => h))).mono ?_; rintro e w5 ⟨rfl, hdw5⟩; rw [decide_eq_true (rfl : T = T)]; have hc5 : Below wc.heap.size wc w5 := (by obtain ⟨n5, e5⟩ := hdw5; rw [e5]; exact below_drewN hc4 _); have g0 := ((bcellAt hc5 _ y1).1 0).trans p0; have g1 := ((bcellAt hc5 _ y1).1 1).trans p1; have g2 := ((bcellAt hc5 _ y2).1 0).trans x0; have g3 := ((bcellAt hc5 _ y2).1 1).trans x1; have g4 := ((bcellAt hc5 _ y3).1 0).trans b0; have g5 := ((bcellAt hc5 _ y3).1 1).trans b1; have g6 := ((bcellAt hc5 _ y3).1 2).trans b2; clear hdw5))
        all_goals
          go_wp2
          go_ret
          exact ⟨rfl, HB4.out.trans (hc6.mono HB4.out.size)⟩
end Go.Proofs.Ytghimigffnbhaaa
