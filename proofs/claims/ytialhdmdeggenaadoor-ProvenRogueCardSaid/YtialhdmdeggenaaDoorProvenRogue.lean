/- ProvenRogue: the walk. -/
import Derived.Test.YtialhdmdeggenaaDoorCrtH
import Derived.Test.YtialhdmdeggenaaDoorOpenS
set_option linter.unusedVariables false
set_option linter.unusedSimpArgs false
attribute [local go_sem ↓] Go.wp_at_zero Go.wp_at_succ
namespace Go.Proofs.YtialhdmdeggenaaDoor
open Go Go.RowKit

theorem four_at {k : Nat} (hk : k < ([0, 1, 2, 3] : List Int).length) : ([0, 1, 2, 3] : List Int)[k] = (k : Int) := by
  match k, hk with
  | 0, _ => rfl
  | 1, _ => rfl
  | 2, _ => rfl
  | 3, _ => rfl
theorem lessN_but (q : Int) : lessN [0, 1, 2, 3] ((q + 1) % 4) 4 = votersBut q := rfl
set_option maxRecDepth 100000 in
set_option maxHeartbeats 8000000 in
theorem provenRogue_case (K A B C n : Int) (vt : Value) (w : World) (hvt : vt.oneCell' = true) (a1 : -9223372036854775808 ≤ A) (a2 : A ≤ 9223372036854775807) (b1 : -9223372036854775808 ≤ B) (b2 : B ≤ 9223372036854775807) (c1 : -9223372036854775808 ≤ C) (c2 : C ≤ 9223372036854775807)
    (n1 : -9223372036854775808 ≤ n) (n2 : n ≤ 9223372036854775807) (ht : Tabs w) :
    Calls Tryd.prog 6 #[.agg #[.int .i64 K, .int .i64 A, .int .i64 B, .int .i64 C, vt], .int .i64 n] w fun e w' => e = .returned (.bool true) ∧ Below w.heap.size w w' := by
  obtain ⟨r1, r2⟩ := pickedZ_range n 4 (by omega)
  have HOK := Lib.hid (hdrRogue_ok A B C (pickedZ n 4) r1 r2)
  have HLaw := Lib.hid (provenRogue_law A B C (pickedZ n 4) r1 r2)
  have HT0 := Lib.hid ht
  clear ht
  go_enter Tryd.func6, Tryd.ntmps6
  go_wp2_with fail
  refine (picked_any n 4 _ n1 n2 (by omega) (by omega)).mono ?_
  rintro e w' ⟨rfl, rfl⟩
  generalize pickedZ n 4 = q at *
  have m1 : (q + 1).tmod 4 = (q + 1) % 4 := Int.tmod_eq_emod_of_nonneg (by omega)
  have m2 : (q + 2).tmod 4 = (q + 2) % 4 := Int.tmod_eq_emod_of_nonneg (by omega)
  have m3 : (q + 3).tmod 4 = (q + 3) % 4 := Int.tmod_eq_emod_of_nonneg (by omega)
  have hba := (Below.refl w.heap.size w).alloc (Nat.le_refl _) (.cells #[.int .i64 K, .int .i64 A, .int .i64 B, .int .i64 C, vt] 24)
  go_wp2_with fail
  refine (header_any K A B C vt _ a1 a2 b1 b2 c1 c2 hvt).mono ?_
  rintro e w1 ⟨adb, capb, adp, capp, rfl, hbb, hpp, hb1⟩
  have hB1 := hba.trans (hb1.mono (by simp))
  have HB1 := Lib.hid hB1
  have HBB1 := Lib.hid ((hbb.low (by decide)).mono (G' := fun b => b < w1.heap.size) (fun _ h => h.2))
  have HPP1 := Lib.hid ((hpp.low (by decide)).mono (G' := fun b => b < w1.heap.size) (fun _ h => h.2))
  have z1 := hB1.size
  clear hba hB1 hbb hpp hb1
  go_wp2_with fail
  have hba := (Below.refl w1.heap.size w1).alloc (Nat.le_refl _) (.cells #[.int .i64 q, .int .i64 (hdrOf A B C).r, .slice adb (hdrOf A B C).bs.length capb, .slice adp (hdrOf A B C).ps.length capp, .slice none 0 0] 32)
  have HX0 := Lib.hid (BoxAt.new w1 [.int .i64 q, .int .i64 (hdrOf A B C).r, .slice adb (hdrOf A B C).bs.length capb, .slice adp (hdrOf A B C).ps.length capp, .slice none 0 0] 32)
  have HBa := Lib.hid hba
  clear hba
  go_loopw [7] (fun i wr => ∃ (k : Nat) (ad : Option Addr) (c : Nat), k ≤ 4 ∧ i = .int .i64 k ∧ wr.ownsRow (w1.heap.size + 1) 3 1 (.slice ad (lessN [0, 1, 2, 3] ((q + 1) % 4) k).length c) (lessN [0, 1, 2, 3] ((q + 1) % 4) k).length (intVs (lessN [0, 1, 2, 3] ((q + 1) % 4) k)) ∧ BoxAt wr w1.heap.size [.int .i64 q, .int .i64 (hdrOf A B C).r, .slice adb (hdrOf A B C).bs.length capb, .slice adp (hdrOf A B C).ps.length capp, .slice ad (lessN [0, 1, 2, 3] ((q + 1) % 4) k).length c] 32 ∧ Below w1.heap.size w1 wr) (fun i _ => 4 - (intOf i).toNat)
  case atStart => exact ⟨0, none, 0, Nat.zero_le _, rfl, World.ownsRow_nil _ _ _ _, HX0.out, HBa.out⟩
  case round =>
    obtain ⟨k, ad, c, hk, rfl, hown, hX, hB⟩ := hrel
    have HO := Lib.hid hown
    have HX := Lib.hid hX
    have HB := Lib.hid hB
    have zx := hX.lt
    have x4 := hX.cell 4 rfl
    have i0 : (0 : Int) ≤ (k : Int) := by omega
    by_cases hlt : k < 4
    · have i1 : (k : Int) < 4 := by omega
      have hkl : k < ([0, 1, 2, 3] : List Int).length := hlt
      have e4 := four_at hkl
      by_cases e : (k : Int) = (q + 1) % 4
      · have hb : ((k : Int) != (q + 1) % 4) = false := by simp [e]
        have HS := Lib.hid (lessN_skip (x := (q + 1) % 4) hkl (e4.trans e))
        clear e hown hX hB
        go_wp2
        go_roundw
        case rel => exact ⟨k + 1, ad, c, by omega, by go_num, by rw [HS.out]; exact HO.out, by rw [HS.out]; exact HX.out, HB.out⟩
        case measure => simp [intOf]; omega
      · have hb : ((k : Int) != (q + 1) % 4) = true := by rw [bne_iff_ne]; exact e
        have HS := Lib.hid (lessN_put (x := (q + 1) % 4) hkl (by rw [e4]; exact e))
        rw [e4] at HS
        have hl := lessN_len [0, 1, 2, 3] ((q + 1) % 4) k
        generalize lessN [0, 1, 2, 3] ((q + 1) % 4) k = F at *
        clear e hown hX hB
        go_wp2_with (at_builtin; refine wpList_append_sl rfl _ _ 29 rfl elemInt (w1.heap.size + 1) _ rfl F.length (intVs F) (HO.out.alloc _) _ rfl 1 [.int .i64 k] (by exact slCells_new _ [_] _ 1 rfl) (by simp [Value.oneCell']) (by unfold maxLen; omega) (by omega) (by simp; omega) ?_; intro v' w' hown' hgr; obtain ⟨ad', c', rfl⟩ := ownsRow_form hown'; have hX' := (HX.out.alloc (.cells #[.int .i64 (k : Int)] 3)).grown hgr (fun e => by have := ownBlock_ge HO.out _ e; omega); have f4 := hX'.free 4; have y4 := hX'.cell 4 rfl; have zx' := hX'.lt; have HX' := Lib.hid hX'; have HO' := Lib.hid hown'; have HG := Lib.hid hgr; clear hX' hown' hgr)
        have hB' : Below w1.heap.size w1 w' := (HB.out.alloc HB.out.size _).grown HG.out (by simp; omega) (fun b e => by have := ownBlock_ge HO.out b e; omega)
        go_roundw
        case rel => exact ⟨k + 1, ad', c', by omega, by go_num, by rw [HS.out]; simpa [intVs] using ownsRow_setCell HO'.out (p := ⟨w1.heap.size, 4, none⟩) (by simp) _, by rw [HS.out]; simpa using HX'.out.set 4 (.slice ad' (F.length + 1) c'), hB'.setCell (by simp) _⟩
        case measure => simp [intOf]; omega
    · obtain rfl : k = 4 := by omega
      have hV := RdS.of_owns (f := Value.int .i64) (G := fun _ => True) hown (fun _ _ => trivial)
      rw [lessN_but] at hV hX
      have HV2 := Lib.hid hV
      have HX2 := Lib.hid hX
      have HBB2 := Lib.hid ((HBB1.out.below hB (fun _ h => h)).mono (G' := fun _ => True) (fun _ _ => trivial))
      have HPP2 := Lib.hid ((HPP1.out.below hB (fun _ h => h)).mono (G' := fun _ => True) (fun _ _ => trivial))
      have HB2 := Lib.hid (HB1.out.trans (hB.mono z1))
      have x0 := hX.cell 0 rfl
      have x1 := hX.cell 1 rfl
      have x2 := hX.cell 2 rfl
      have x3 := hX.cell 3 rfl
      clear hown hX hB hV HO HX HB x4
      generalize wr = w2 at *
      go_wp2_with fail
      have hba := (Below.refl w2.heap.size w2).alloc (Nat.le_refl _) (.cells #[.int .i64 ((q + 2) % 4)] 3)
      have hns : RdI (fun b => b = w2.heap.size) (w2.alloc (.cells #[.int .i64 ((q + 2) % 4)] 3)) (.slice (some ⟨w2.heap.size, 0, none⟩) 1 1) [(q + 2) % 4] := RdS.of_box (f := Value.int .i64) (G := fun b => b = w2.heap.size) (l := [(q + 2) % 4]) (cap := 1) (BoxAt.newAt w2 [.int .i64 ((q + 2) % 4)] 3 rfl) rfl (by simp) (by unfold maxLen; omega)
      refine (signedBy_any (G := fun _ => True) (hdrRogue A B C q) [(q + 2) % 4] _ _ _ _ (HBB2.out.below hba (fun _ h => h)) (HPP2.out.below hba (fun _ h => h)) hns (HT0.out.belowS (HB2.out.trans (hba.mono HB2.out.size))) HOK.out (by intro n hn; rw [List.mem_singleton.1 hn]; omega) (by simp)).mono ?_
      rintro e w3 ⟨vL, rfl, hL, hb3⟩
      obtain ⟨adL, capL, rfl, -, -⟩ := hL.form
      have hB3 := hba.trans (hb3.mono hba.size)
      have HL3 := Lib.hid (hL.mono (G' := fun _ => True) (fun _ _ => trivial))
      have HX3 := Lib.hid (HX2.out.belowS hB3)
      have HBB3 := Lib.hid (HBB2.out.below hB3 (fun _ h => h))
      have HPP3 := Lib.hid (HPP2.out.below hB3 (fun _ h => h))
      have HV3 := Lib.hid (HV2.out.below hB3 (fun _ h => h))
      have HB3 := Lib.hid (HB2.out.trans (hB3.mono HB2.out.size))
      clear hba hns hb3 hL hB3 x0 x1 x2 x3 HX2 HBB2 HPP2 HV2 HB2
      have bX := HX3.out
      have x0 := bX.cell 0 rfl
      have x1 := bX.cell 1 rfl
      have x2 := bX.cell 2 rfl
      have x3 := bX.cell 3 rfl
      have zx := bX.lt
      clear bX
      go_wp2_with fail
      have hba := (Below.refl w3.heap.size w3).alloc (Nat.le_refl _) (.cells #[.int .i64 ((q + 2) % 4), .int .i64 ((q + 3) % 4)] 3)
      have hns : RdI (fun b => b = w3.heap.size) (w3.alloc (.cells #[.int .i64 ((q + 2) % 4), .int .i64 ((q + 3) % 4)] 3)) (.slice (some ⟨w3.heap.size, 0, none⟩) 2 2) [(q + 2) % 4, (q + 3) % 4] := RdS.of_box (f := Value.int .i64) (G := fun b => b = w3.heap.size) (l := [(q + 2) % 4, (q + 3) % 4]) (cap := 2) (BoxAt.newAt w3 [.int .i64 ((q + 2) % 4), .int .i64 ((q + 3) % 4)] 3 rfl) rfl (by simp) (by unfold maxLen; omega)
      refine (signedBy_any (G := fun _ => True) (hdrRogue A B C q) [(q + 2) % 4, (q + 3) % 4] _ _ _ _ (HBB3.out.below hba (fun _ h => h)) (HPP3.out.below hba (fun _ h => h)) hns (HT0.out.belowS (HB3.out.trans (hba.mono HB3.out.size))) HOK.out (by intro n hn; simp only [List.mem_cons, List.not_mem_nil, or_false] at hn; rcases hn with rfl | rfl <;> omega) (by simp)).mono ?_
      rintro e w4 ⟨vM, rfl, hM, hb4⟩
      obtain ⟨adM, capM, rfl, -, -⟩ := hM.form
      have hB4 := hba.trans (hb4.mono hba.size)
      have HM4 := Lib.hid (hM.mono (G' := fun _ => True) (fun _ _ => trivial))
      have HL4 := Lib.hid (HL3.out.below hB4 (fun _ h => h))
      have HX4 := Lib.hid (HX3.out.belowS hB4)
      have HBB4 := Lib.hid (HBB3.out.below hB4 (fun _ h => h))
      have HPP4 := Lib.hid (HPP3.out.below hB4 (fun _ h => h))
      have HV4 := Lib.hid (HV3.out.below hB4 (fun _ h => h))
      have HB4 := Lib.hid (HB3.out.trans (hB4.mono HB3.out.size))
      have HP1 := Lib.hid HLaw.out.1
      have HP2 := Lib.hid HLaw.out.2.1
      have HP3 := Lib.hid HLaw.out.2.2
      clear hba hns hb4 hM hB4 x0 x1 x2 x3 zx HX3 HBB3 HPP3 HV3 HB3 HL3 HLaw
      generalize signedL (hdrRogue A B C q) [(q + 2) % 4] = L at *
      generalize signedL (hdrRogue A B C q) [(q + 2) % 4, (q + 3) % 4] = M at *
      have bX := HX4.out
      have x0 := bX.cell 0 rfl
      have x1 := bX.cell 1 rfl
      have x2 := bX.cell 2 rfl
      have x3 := bX.cell 3 rfl
      have x4 := bX.cell 4 rfl
      have zx := bX.lt
      clear bX
      go_wp2_with fail
      refine (proven_any (G' := fun _ => True) q ⟨hdrRogue A B C q, votersBut q⟩ _ _ _ _ _ (RdS.nil RSign (fun _ => True) _) HBB4.out HPP4.out HV4.out (HT0.out.belowS HB4.out)).mono ?_
      rintro e w5 ⟨rfl, hb5⟩
      rw [HP1.out]
      have HX5 := Lib.hid (HX4.out.belowS hb5)
      have HBB5 := Lib.hid (HBB4.out.below hb5 (fun _ h => h))
      have HPP5 := Lib.hid (HPP4.out.below hb5 (fun _ h => h))
      have HV5 := Lib.hid (HV4.out.below hb5 (fun _ h => h))
      have HB5 := Lib.hid (HB4.out.trans (hb5.mono HB4.out.size))
      have HL5 := Lib.hid (HL4.out.below hb5 (fun _ h => h))
      have HM5 := Lib.hid (HM4.out.below hb5 (fun _ h => h))
      clear hb5 x0 x1 x2 x3 x4 zx HX4 HBB4 HPP4 HV4 HB4
      have bX := HX5.out
      have x0 := bX.cell 0 rfl
      have x1 := bX.cell 1 rfl
      have x2 := bX.cell 2 rfl
      have x3 := bX.cell 3 rfl
      have x4 := bX.cell 4 rfl
      have zx := bX.lt
      clear bX
      go_wp2_with fail
      refine (proven_any (G' := fun _ => True) q ⟨hdrRogue A B C q, votersBut q⟩ _ _ _ _ _ HL5.out HBB5.out HPP5.out HV5.out (HT0.out.belowS HB5.out)).mono ?_
      rintro e w6 ⟨rfl, hb6⟩
      rw [HP2.out]
      have HX6 := Lib.hid (HX5.out.belowS hb6)
      have HBB6 := Lib.hid (HBB5.out.below hb6 (fun _ h => h))
      have HPP6 := Lib.hid (HPP5.out.below hb6 (fun _ h => h))
      have HV6 := Lib.hid (HV5.out.below hb6 (fun _ h => h))
      have HB6 := Lib.hid (HB5.out.trans (hb6.mono HB5.out.size))
      have HM6 := Lib.hid (HM5.out.below hb6 (fun _ h => h))
      clear hb6 x0 x1 x2 x3 x4 zx HX5 HBB5 HPP5 HV5 HB5
      have bX := HX6.out
      have x0 := bX.cell 0 rfl
      have x1 := bX.cell 1 rfl
      have x2 := bX.cell 2 rfl
      have x3 := bX.cell 3 rfl
      have x4 := bX.cell 4 rfl
      have zx := bX.lt
      clear bX
      go_wp2_with fail
      refine (proven_any (G' := fun _ => True) q ⟨hdrRogue A B C q, votersBut q⟩ _ _ _ _ _ HM6.out HBB6.out HPP6.out HV6.out (HT0.out.belowS HB6.out)).mono ?_
      rintro e w7 ⟨rfl, hb7⟩
      rw [HP3.out]
      go_wp2
      go_ret
      exact ⟨rfl, HB6.out.trans (hb7.mono HB6.out.size)⟩
theorem provenRogue_walk (vt : Value) (r : RawD) (n : Int) (w : World) (hr : RawOk (fun _ => True) w vt r) (n1 : -9223372036854775808 ≤ n) (n2 : n ≤ 9223372036854775807) (ht : Tabs w) :
    Calls Tryd.prog 6 #[.agg #[.int .i64 r.k, .int .i64 r.a, .int .i64 r.b, .int .i64 r.c, vt], .int .i64 n] w fun e w' => e = .returned (.bool true) ∧ Below w.heap.size w w' :=
  provenRogue_case r.k r.a r.b r.c n vt w hr.one hr.2.1.1 hr.2.1.2 hr.2.2.1.1 hr.2.2.1.2 hr.2.2.2.1.1 hr.2.2.2.1.2 n1 n2 ht
end Go.Proofs.YtialhdmdeggenaaDoor
