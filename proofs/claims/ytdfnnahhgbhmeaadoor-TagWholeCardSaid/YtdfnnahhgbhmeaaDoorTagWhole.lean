/- TagWhole: the walk. -/
import Derived.Test.YtdfnnahhgbhmeaaDoorTagLaw
import Derived.Test.YtdfnnahhgbhmeaaDoorSameB
set_option linter.unusedVariables false
set_option linter.unusedSimpArgs false
namespace Go.Proofs.YtdfnnahhgbhmeaaDoor
open Go Go.RowKit

set_option maxRecDepth 100000 in
set_option maxHeartbeats 4000000 in
theorem tagWhole_walk (tag : UInt8) (v : Value) (l : Bytes) (w : World) (hv : RdB (fun _ => True) w v l) (ht : Tabs w) :
    Calls Tryd.prog 8 #[.int .u8 (tag.toNat : Int), v] w fun e w' => e = .returned (.bool true) ∧ Below w.heap.size w w' := by
  obtain ⟨ad, cap, rfl, h1, h2⟩ := hv.form
  obtain ⟨n, hn⟩ : ∃ n : Nat, ((l.length : Int) ≤ 900 ∧ (n : Int) = (l.length : Int)) ∨ (¬ (l.length : Int) ≤ 900 ∧ (n : Int) = 900) := by
    by_cases h : (l.length : Int) ≤ 900
    · exact ⟨l.length, .inl ⟨h, rfl⟩⟩
    · exact ⟨900, .inr ⟨h, rfl⟩⟩
  have hnl : n ≤ l.length := by omega
  have hn9 : n ≤ 900 := by omega
  have hD := hv.take n hnl
  have hlen : (l.take n).length = n := by simp; omega
  generalize l.take n = D at *
  subst hlen
  have HN := Lib.hid hn
  have HV := Lib.hid (hD.low (by decide))
  have HT := Lib.hid ht
  have i0 : (0 : Int) ≤ (D.length : Int) := by omega
  have i1 : (D.length : Int) ≤ (cap : Int) := by omega
  have i2 : (D.length : Int) ≤ 900 := by omega
  have HG := Lib.hid (tagGo_one (tag := tag) (d := D) (by omega))
  have hEl : (tag :: partL D).length = 3 + D.length := by rw [List.length_cons, partL_length]; omega
  have hEv : byteVs (tag :: partL D) = [.int .u8 (tag.toNat : Int), .int .u8 ((D.length : Int) / 256), .int .u8 ((D.length : Int) % 256)] ++ byteVs D := by
    rw [byteVs_cons, byteVs_part D (by omega)]; rfl
  have HE1 := Lib.hid hEl
  have HE2 := Lib.hid hEv
  have HC1 := Lib.hid (tagC_some HG.out)
  have HD1 := Lib.hid (tagD_some HG.out)
  have HC2 := Lib.hid (sumC_ok (l := tag :: partL D) (by omega))
  have HD2 := Lib.hid (sumD_ok (l := tag :: partL D) (by omega))
  have HL := Lib.hid (sumL_length (tag :: partL D))
  clear hEl hEv hn hv hD ht hnl
  generalize tag :: partL D = E at *
  go_enter Tryd.func8, Tryd.ntmps8
  go_wp2_with (refine wpList_min rfl _ _ 3 3 rfl (l.length : Int) 900 (D.length : Int) rfl rfl HN.out ?_)
  have hb1 := (Below.refl w.heap.size w).alloc (Nat.le_refl _) (.cells #[.slice ad D.length cap] 22)
  refine (Tagged_any tag [D] _ _ (rdBB_one (G := fun _ => True) (BoxAt.new w [.slice ad D.length cap] _) trivial (HV.out.keep (Keep.belowB hb1 (fun _ h => h.2)) (fun _ _ => trivial))) (HT.out.belowS hb1)).mono ?_
  rw [HC1.out, HD1.out]
  rintro e w2 ⟨x2, rfl, hR2, hb2⟩
  have HB2 := Lib.hid (hb1.trans (hb2.mono (by simp)))
  have HR2 := Lib.hid (hR2.low (by decide))
  obtain ⟨xad, xcap, rfl, -, -⟩ := hR2.form
  have HV2 := Lib.hid (HV.out.keep (G' := fun _ => True) (Keep.belowB HB2.out (fun _ h => h.2)) (fun _ _ => trivial))
  have zs := HB2.out.size
  have HOW := Lib.hid (lit_ownsN w2 [.int .u8 (tag.toNat : Int), .int .u8 ((D.length : Int) / 256), .int .u8 ((D.length : Int) % 256)] 5)
  clear hb1 hb2 hR2
  rw [HL.out]
  go_wp2_with (at_builtin; refine wpList_append_sl rfl _ _ 22 rfl elemB w2.heap.size _ rfl 3 [.int .u8 (tag.toNat : Int), .int .u8 ((D.length : Int) / 256), .int .u8 ((D.length : Int) % 256)] (by exact HOW.out) _ rfl D.length (byteVs D) (by exact (HV2.out.keep (G' := fun _ => True) (Keep.alloc _ _ _) (fun _ h => h)).slCells) (oneCell_map _ _ (fun _ => rfl)) (by unfold maxLen; omega) (by omega) (by simp) ?_; intro v3 w3 hown3 hgr3; have HO3 := Lib.hid hown3; have HB23 := Lib.hid (show Below w2.heap.size w2 w3 from ((Below.refl w2.heap.size w2).alloc (Nat.le_refl _) _).grown hgr3 (by simp) (ownBlock_ge HOW.out)); clear hown3 hgr3)
  have HR3 := Lib.hid (RdS.of_owns (G := fun _ => True) (l := E) (n := 3 + D.length) (base := w2.heap.size) (e := 5) (by have := HO3.out; rw [← HE2.out] at this; exact this) (fun _ _ => trivial) : RdB (fun _ => True) w3 v3 E)
  have HB3 := Lib.hid (HB2.out.trans (HB23.out.mono zs))
  refine (Sum_any E _ w3 HR3.out (HT.out.belowS HB3.out)).mono ?_
  rw [HC2.out, HD2.out]
  rintro e w4 ⟨y4, rfl, hR4, hb4⟩
  have HB4 := Lib.hid (HB3.out.trans (hb4.mono HB3.out.size))
  have HR4 := Lib.hid hR4
  have HX4 := Lib.hid (HR2.out.keep (G' := fun _ => True) (Keep.belowB (HB23.out.trans (hb4.mono HB23.out.size)) (fun _ h => h.2)) (fun _ _ => trivial))
  obtain ⟨yad, ycap, rfl, -, -⟩ := hR4.form
  rw [HL.out]
  have HX5 := HX4.out
  have HY5 := HR4.out
  rw [HL.out] at HY5
  have HX5' := Lib.hid HX5
  have HY5' := Lib.hid HY5
  clear hR4 hb4 HX5 HY5
  go_wp2_with (go_at_call 19; refine (same_any (l := sumL E) (m := sumL E) _ _ _ HX5'.out HY5'.out).mono ?_; rintro e w' ⟨rfl, rfl⟩; rw [decide_eq_true (rfl : sumL E = sumL E)])
  go_ret
  exact ⟨rfl, HB4.out⟩
end Go.Proofs.YtdfnnahhgbhmeaaDoor
