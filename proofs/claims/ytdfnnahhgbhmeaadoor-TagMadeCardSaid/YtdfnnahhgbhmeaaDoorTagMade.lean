/- TagMade: the walk. -/
import Derived.Test.YtdfnnahhgbhmeaaDoorTagLaw
import Derived.Test.YtdfnnahhgbhmeaaDoorSameB
set_option linter.unusedVariables false
set_option linter.unusedSimpArgs false
namespace Go.Proofs.YtdfnnahhgbhmeaaDoor
open Go Go.RowKit

theorem min_case (n k : Nat) : ∃ m : Nat, ((n : Int) ≤ (k : Int) ∧ (m : Int) = (n : Int)) ∨ (¬ (n : Int) ≤ (k : Int) ∧ (m : Int) = (k : Int)) := by
  by_cases h : (n : Int) ≤ (k : Int)
  · exact ⟨n, .inl ⟨h, rfl⟩⟩
  · exact ⟨k, .inr ⟨h, rfl⟩⟩
set_option maxRecDepth 100000 in
set_option maxHeartbeats 4000000 in
theorem tagMade_walk (tag : UInt8) (va : Value) (la : Bytes) (vb : Value) (lb : Bytes) (w : World) (hva : RdB (fun _ => True) w va la) (hvb : RdB (fun _ => True) w vb lb) (ht : Tabs w) :
    Calls Tryd.prog 6 #[.int .u8 (tag.toNat : Int), va, vb] w fun e w' => e = .returned (.bool true) ∧ Below w.heap.size w w' := by
  obtain ⟨ad, cap, rfl, h1, h2⟩ := hva.form
  obtain ⟨bd, bcap, rfl, g1, g2⟩ := hvb.form
  obtain ⟨n, hn⟩ := min_case la.length 300
  obtain ⟨m, hm⟩ := min_case lb.length 300
  have hnl : n ≤ la.length := by omega
  have hml : m ≤ lb.length := by omega
  have hn9 : n ≤ 300 := by omega
  have hm9 : m ≤ 300 := by omega
  have hA := hva.take n hnl
  have hB := hvb.take m hml
  have hlen : (la.take n).length = n := by simp; omega
  have hlem : (lb.take m).length = m := by simp; omega
  generalize la.take n = D at *
  generalize lb.take m = F at *
  subst hlen hlem
  have HN := Lib.hid hn
  have HM := Lib.hid hm
  have HA := Lib.hid (hA.low (by decide))
  have HB := Lib.hid (hB.low (by decide))
  have HT := Lib.hid ht
  have i0 : (0 : Int) ≤ (D.length : Int) := by omega
  have i1 : (D.length : Int) ≤ (cap : Int) := by omega
  have i2 : (D.length : Int) ≤ 300 := by omega
  have j0 : (0 : Int) ≤ (F.length : Int) := by omega
  have j1 : (F.length : Int) ≤ (bcap : Int) := by omega
  have j2 : (F.length : Int) ≤ 300 := by omega
  have HG := Lib.hid (tagGo_two (tag := tag) (d := D) (e := F) (by omega))
  have HG0 := Lib.hid (show tagGo [tag] [] = some [tag] from rfl)
  have hEl : (tag :: (partL D ++ partL F)).length = 3 + D.length + 2 + F.length := by rw [List.length_cons, List.length_append, partL_length, partL_length]; omega
  have hEv : byteVs (tag :: (partL D ++ partL F)) = [.int .u8 (tag.toNat : Int), .int .u8 ((D.length : Int) / 256), .int .u8 ((D.length : Int) % 256)] ++ byteVs D ++ [.int .u8 ((F.length : Int) / 256), .int .u8 ((F.length : Int) % 256)] ++ byteVs F := by
    rw [byteVs_cons, byteVs_app, byteVs_part D (by omega), byteVs_part F (by omega)]; simp
  have HE2 := Lib.hid hEv
  have HC1 := Lib.hid (tagC_some HG.out)
  have HD1 := Lib.hid (tagD_some HG.out)
  have HC2 := Lib.hid (sumC_ok (l := tag :: (partL D ++ partL F)) (by omega))
  have HD2 := Lib.hid (sumD_ok (l := tag :: (partL D ++ partL F)) (by omega))
  have HL := Lib.hid (sumL_length (tag :: (partL D ++ partL F)))
  have HC3 := Lib.hid (tagC_some HG0.out)
  have HD3 := Lib.hid (tagD_some HG0.out)
  have HC4 := Lib.hid (sumC_ok (l := [tag]) (by simp))
  have HD4 := Lib.hid (sumD_ok (l := [tag]) (by simp))
  have HL4 := Lib.hid (sumL_length [tag])
  clear hEv hn hm hva hvb hA hB ht hnl hml
  generalize tag :: (partL D ++ partL F) = E at *
  generalize hz : [tag] = Z at *
  have HZ := Lib.hid hz
  clear hz
  go_enter Tryd.func6, Tryd.ntmps6
  go_upto_region 2 with (refine wpList_min rfl _ _ 3 3 rfl (la.length : Int) 300 (D.length : Int) rfl rfl HN.out ?_)
  go_upto_region 3 with (refine wpList_min rfl _ _ 3 3 rfl (lb.length : Int) 300 (F.length : Int) rfl rfl HM.out ?_)
  go_wp2_with fail
  have hb1 := (Below.refl w.heap.size w).alloc (Nat.le_refl _) (.cells #[.slice ad D.length cap, .slice bd F.length bcap] 22)
  refine (Tagged_any tag [D, F] _ _ (rdBB_two (G := fun _ => True) (BoxAt.new w [.slice ad D.length cap, .slice bd F.length bcap] _) trivial (HA.out.keep (Keep.belowB hb1 (fun _ h => h.2)) (fun _ _ => trivial)) (HB.out.keep (Keep.belowB hb1 (fun _ h => h.2)) (fun _ _ => trivial))) (HT.out.belowS hb1)).mono ?_
  rw [HC1.out, HD1.out]
  rintro e w2 ⟨x2, rfl, hR2, hb2⟩
  have HB2 := Lib.hid (hb1.trans (hb2.mono (by simp)))
  have HR2 := Lib.hid (hR2.low (by decide))
  obtain ⟨xad, xcap, rfl, -, -⟩ := hR2.form
  have HV2 := Lib.hid (HA.out.keep (G' := fun b => b < w.heap.size) (Keep.belowB HB2.out (fun _ h => h.2)) (fun _ h => h.2))
  have HW2 := Lib.hid (HB.out.keep (G' := fun b => b < w.heap.size) (Keep.belowB HB2.out (fun _ h => h.2)) (fun _ h => h.2))
  have zs := HB2.out.size
  have HOW := Lib.hid (lit_ownsN w2 [.int .u8 (tag.toNat : Int), .int .u8 ((D.length : Int) / 256), .int .u8 ((D.length : Int) % 256)] 5)
  clear hb1 hb2 hR2
  rw [HL.out]
  go_upto_region 5 with (at_builtin; refine wpList_append_sl rfl _ _ 22 rfl elemB w2.heap.size _ rfl 3 [.int .u8 (tag.toNat : Int), .int .u8 ((D.length : Int) / 256), .int .u8 ((D.length : Int) % 256)] (by exact HOW.out) _ rfl D.length (byteVs D) (by exact (HV2.out.keep (G' := fun _ => True) (Keep.alloc _ _ _) (fun _ _ => trivial)).slCells) (oneCell_map _ _ (fun _ => rfl)) (by unfold maxLen; omega) (by omega) (by simp) ?_; intro v3 w3 hown3 hgr3; have HO3 := Lib.hid hown3; have HB23 := Lib.hid (show Below w2.heap.size w2 w3 from ((Below.refl w2.heap.size w2).alloc (Nat.le_refl _) _).grown hgr3 (by simp) (ownBlock_ge HOW.out)); clear hown3 hgr3)
  have HW3 := Lib.hid (HW2.out.keep (G' := fun b => b < w.heap.size) (Keep.below HB23.out) (fun _ h => h))
  have z3 := HB23.out.size
  go_upto_region 6 with (first
    | (at_builtin; refine wpList_append_sl rfl _ _ 22 rfl elemB w2.heap.size _ rfl (3 + D.length + 2) ([.int .u8 (tag.toNat : Int), .int .u8 ((D.length : Int) / 256), .int .u8 ((D.length : Int) % 256)] ++ byteVs D ++ [.int .u8 ((F.length : Int) / 256), .int .u8 ((F.length : Int) % 256)]) (by exact HO4.out) _ rfl F.length (byteVs F) (by exact HW4.out.slCells) (oneCell_map _ _ (fun _ => rfl)) (by unfold maxLen; omega) (by omega) (by have := HB34.out.size; omega) ?_; intro v5 w5 hown5 hgr5; have HO5 := Lib.hid hown5; have HB35 := Lib.hid (HB34.out.grown hgr5 HB34.out.size (ownBlock_ge HO4.out)); clear hown5 hgr5)
    | (at_builtin; refine wpList_append_sl rfl _ _ 22 rfl elemB w2.heap.size _ rfl (3 + D.length) ([.int .u8 (tag.toNat : Int), .int .u8 ((D.length : Int) / 256), .int .u8 ((D.length : Int) % 256)] ++ byteVs D) (by exact HO3.out.alloc _) _ rfl 2 [.int .u8 ((F.length : Int) / 256), .int .u8 ((F.length : Int) % 256)] (by exact (BoxAt.new w3 [_, _] _).slCellsN rfl) (by simp [Value.oneCell']) (by unfold maxLen; omega) (by omega) (by simp; omega) ?_; intro v4 w4 hown4 hgr4; have HO4 := Lib.hid hown4; have HB34 := Lib.hid (show Below w2.heap.size w2 w4 from (HB23.out.alloc z3 _).grown hgr4 (by simp; omega) (ownBlock_ge HO3.out)); have HW4 := Lib.hid (HW2.out.keep (G' := fun _ => True) (Keep.below (HB34.out)) (fun _ _ => trivial)); clear hown4 hgr4))
  have HR5 := Lib.hid (RdS.of_owns (G := fun _ => True) (l := E) (n := 3 + D.length + 2 + F.length) (base := w2.heap.size) (e := 5) (by have := HO5.out; rw [← HE2.out] at this; exact this) (fun _ _ => trivial) : RdB (fun _ => True) w5 v5 E)
  have HB5 := Lib.hid (HB2.out.trans (HB35.out.mono zs))
  have HX5 := Lib.hid (HR2.out.keep (G' := fun b => b < w2.heap.size) (Keep.below HB35.out) (fun _ h => h.2))
  clear HR2 HV2 HW2 HOW HO3 HB23 HW3
  go_wp2_with fail
  refine (Sum_any E _ w5 HR5.out (HT.out.belowS HB5.out)).mono ?_
  rw [HC2.out, HD2.out]
  rintro e w6 ⟨y6, rfl, hR6, hb6⟩
  have HB6 := Lib.hid (HB5.out.trans (hb6.mono HB5.out.size))
  have HY6 := Lib.hid (hR6.low (by decide))
  have HX6 := Lib.hid (HX5.out.keep (G' := fun b => b < w2.heap.size) (Keep.below hb6) (fun _ h => h))
  obtain ⟨yad, ycap, rfl, -, -⟩ := hR6.form
  rw [HL.out]
  clear hR6 hb6 HR5 HX5 HB5
  go_wp2_with fail
  refine (Tagged_any tag [] (.slice none 0 0) w6 (RdS.nil RBytes (fun _ => True) _) (HT.out.belowS HB6.out)).mono ?_
  rw [HC3.out, HD3.out]
  rintro e w7 ⟨z7, rfl, hR7, hb7⟩
  have HB7 := Lib.hid (HB6.out.trans (hb7.mono HB6.out.size))
  have HZ7 := Lib.hid (hR7.low (by decide))
  have HX7 := Lib.hid (HX6.out.keep (G' := fun b => b < w2.heap.size) (Keep.below hb7) (fun _ h => h))
  have HY7 := Lib.hid (HY6.out.keep (G' := fun _ => True) (Keep.below hb7) (fun _ _ => trivial))
  obtain ⟨zad, zcap, rfl, -, -⟩ := hR7.form
  rw [HL4.out]
  clear hR7 hb7 HX6 HY6 HB6
  go_wp2_with fail
  have hb8 := (Below.refl w7.heap.size w7).alloc (Nat.le_refl _) (.cells #[.int .u8 (tag.toNat : Int)] 5)
  have hR8 : RdB (fun _ => True) (w7.alloc (.cells #[.int .u8 (tag.toNat : Int)] 5)) (.slice (some ⟨w7.heap.size, 0, none⟩) 1 1) Z := by
    rw [← HZ.out]
    exact RdS.of_owns (base := w7.heap.size) (lit_ownsN w7 [.int .u8 (tag.toNat : Int)] 5) (fun _ _ => trivial)
  refine (Sum_any Z _ _ hR8 (HT.out.belowS (HB7.out.trans (hb8.mono HB7.out.size)))).mono ?_
  rw [HC4.out, HD4.out]
  rintro e w9 ⟨z9, rfl, hR9, hb9⟩
  have hb79 : Below w7.heap.size w7 w9 := hb8.trans (hb9.mono (by simp))
  have HB9 := Lib.hid (HB7.out.trans (hb79.mono HB7.out.size))
  have HX9 := HX7.out.keep (G' := fun _ => True) (Keep.below hb79) (fun _ _ => trivial)
  have HY9 := HY7.out.keep (G' := fun _ => True) (Keep.below hb79) (fun _ _ => trivial)
  have HZ9 := HZ7.out.keep (G' := fun _ => True) (Keep.below hb79) (fun _ _ => trivial)
  have HU9 := hR9
  obtain ⟨uad, ucap, rfl, -, -⟩ := hR9.form
  rw [HL.out] at HX9 HY9
  rw [HL4.out] at HZ9 HU9 ⊢
  have KX := Lib.hid HX9
  have KY := Lib.hid HY9
  have KZ := Lib.hid HZ9
  have KU := Lib.hid HU9
  clear HX9 HY9 HZ9 HU9 hR9 hb9 hb79 hb8 hR8 HX7 HY7 HZ7 HB7
  go_wp2_with fail
  refine (same_any (l := sumL E) (m := sumL E) _ _ _ KX.out KY.out).mono ?_
  rintro e w' ⟨rfl, rfl⟩
  rw [decide_eq_true (rfl : sumL E = sumL E)]
  go_wp2_with fail
  refine (same_any (l := sumL Z) (m := sumL Z) _ _ _ KZ.out KU.out).mono ?_
  rintro e w' ⟨rfl, rfl⟩
  rw [decide_eq_true (rfl : sumL Z = sumL Z)]
  go_wp2
  go_ret
  exact ⟨rfl, HB9.out⟩
end Go.Proofs.YtdfnnahhgbhmeaaDoor
