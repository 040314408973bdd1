/- DigestMade: the walk. -/
import Derived.Test.YtdfnnahhgbhmeaaDoorEncC
import Derived.Test.YtdfnnahhgbhmeaaDoorBDig
import Derived.Test.YtdfnnahhgbhmeaaDoorBatLaw
import Derived.Test.YtdfnnahhgbhmeaaDoorHdrLaw
import Derived.Test.YtdfnnahhgbhmeaaDoorCertL
import Derived.Test.YtdfnnahhgbhmeaaDoorOpenS
import Derived.Test.YtdfnnahhgbhmeaaDoorSameB
set_option linter.unusedVariables false
set_option linter.unusedSimpArgs false
namespace Go.Proofs.YtdfnnahhgbhmeaaDoor
open Go Go.RowKit

theorem putBatchL_ge (b : Bat) : 1 ≤ (putBatchL b).length := by simp [putBatchL]
theorem putHeaderL_ge (b : Hdr) : 1 ≤ (putHeaderL b).length := by simp [putHeaderL]
set_option maxRecDepth 100000 in
set_option maxHeartbeats 8000000 in
theorem digestMade_case {G : Nat → Prop} (K A B C : Int) (vt : Value) (l : List Bytes) (w : World) (hr : RdT G w vt l) (hs : ∀ t ∈ l, t.length ≤ 9223372036854775807) (a1 : -9223372036854775808 ≤ A) (a2 : A ≤ 9223372036854775807) (b1 : -9223372036854775808 ≤ B) (b2 : B ≤ 9223372036854775807) (c1 : -9223372036854775808 ≤ C) (c2 : C ≤ 9223372036854775807) (ht : Tabs w) :
    Calls Tryd.prog 13 #[.agg #[.int .i64 K, .int .i64 A, .int .i64 B, .int .i64 C, vt]] w fun e w' => e = .returned (.bool true) ∧ Below w.heap.size w w' := by
  have hBa := fun (q : World) (hq : Below w.heap.size w q) => batch_any K A B C vt l q a1 a2 b1 b2 (hr.below hq (fun _ h => h)) hs
  have hone : vt.oneCell' = true := by obtain ⟨ad, cap, rfl, _⟩ := hr.form; rfl
  have hH := fun (q : World) => header_any K A B C vt q a1 a2 b1 b2 c1 c2 hone
  have hok := batOf_ok A B l
  have hok2 := hdrOf_ok A B C
  obtain ⟨t1, t2, t3⟩ := batOf_txs A B l
  generalize batOf A B l = T at *
  generalize hdrOf A B C = H at *
  have HC := Lib.hid (show msgCode ⟨0, 0, 1, T, hdr0, slt0, crt0, 0⟩ = 0 by rw [msgCode_bundle rfl rfl]; exact hok)
  have HC2 := Lib.hid (show msgCode ⟨0, 0, 2, bat0, H, slt0, crt0, 0⟩ = 0 by rw [msgCode_offer rfl rfl]; exact hok2)
  have HBA := Lib.hid hBa
  have HHA := Lib.hid hH
  have T1 := Lib.hid t1
  have HOK := Lib.hid hok
  have HOK2 := Lib.hid hok2
  have HT := Lib.hid ht
  have n1 := putBatchL_le hok
  have n2 := putHeaderL_le hok2
  have n3 := putBatchL_ge T
  have n4 := putHeaderL_ge H
  have HE1 := Lib.hid (show encL ⟨0, 0, 1, T, hdr0, slt0, crt0, 0⟩ = 1 :: 0 :: 0 :: putBatchL T from rfl)
  have HE2 := Lib.hid (show encL ⟨0, 0, 2, bat0, H, slt0, crt0, 0⟩ = 2 :: 0 :: 0 :: putHeaderL H from rfl)
  obtain ⟨-, -, q3, q4, -, -⟩ := hdr_partsD hok2
  have hq34 : H.bs.length + H.ps.length ≤ 9223372036854775807 := by omega
  clear hBa hH hok hok2 t1 hr hs ht
  obtain ⟨w1, hw1⟩ : ∃ w1, w1 = w.alloc (.cells #[.int .i64 K, .int .i64 A, .int .i64 B, .int .i64 C, vt] 40) := ⟨_, rfl⟩
  have HB1 := Lib.hid (show Below w.heap.size w w1 by rw [hw1]; exact (Below.refl _ _).alloc (Nat.le_refl _) _)
  have bR := show BoxAt w1 w.heap.size [.int .i64 K, .int .i64 A, .int .i64 B, .int .i64 C, vt] 40 by rw [hw1]; exact BoxAt.new w [_, _, _, _, _] _
  have HR1 := Lib.hid bR
  have r0 := bR.cell 0 rfl
  have r1 := bR.cell 1 rfl
  have r2 := bR.cell 2 rfl
  have r3 := bR.cell 3 rfl
  have r4 := bR.cell 4 rfl
  clear bR
  go_enter Tryd.func13, Tryd.ntmps13
  go_upto_region 1 with fail
  rw [← hw1]
  clear hw1
  go_wp2_with fail
  refine (HBA.out _ HB1.out).mono ?_
  rintro e w2 ⟨ad, cap, rfl, htx, hb2⟩
  have HTX := Lib.hid (htx.low (by decide))
  have HB2 := Lib.hid (HB1.out.trans (hb2.mono HB1.out.size))
  obtain ⟨w3, hw3⟩ : ∃ w3, w3 = w2.alloc (.cells #[.int .i64 T.a, .int .i64 T.n, .slice ad T.txs.length cap] 42) := ⟨_, rfl⟩
  have hb3 : Below w2.heap.size w2 w3 := by rw [hw3]; exact (Below.refl _ _).alloc (Nat.le_refl _) _
  have HX3 := Lib.hid (show BoxAt w3 w2.heap.size [.int .i64 T.a, .int .i64 T.n, .slice ad T.txs.length cap] 42 by rw [hw3]; exact BoxAt.new w2 [_, _, _] _)
  have HB3 := Lib.hid (HB2.out.trans (hb3.mono HB2.out.size))
  have HTX3 := Lib.hid (HTX.out.below hb3 (fun _ h => h))
  have bR := (HR1.out.belowS hb2).belowS hb3
  have s0 := bR.cell 0 rfl
  have s1 := bR.cell 1 rfl
  have s2 := bR.cell 2 rfl
  have s3 := bR.cell 3 rfl
  have s4 := bR.cell 4 rfl
  clear htx hb2 hb3 bR r0 r1 r2 r3 r4 HR1 HTX HB2
  go_upto_region 2 with fail
  rw [← hw3]
  clear hw3
  go_wp2_with fail
  refine (HHA.out w3).mono ?_
  rintro e w4 ⟨adb, capb, adp, capp, rfl, hbb, hpp, hb4⟩
  obtain ⟨w5, hw5⟩ : ∃ w5, w5 = w4.alloc (.cells #[.int .i64 H.a, .int .i64 H.r, .slice adb H.bs.length capb, .slice adp H.ps.length capp] 48) := ⟨_, rfl⟩
  have hb5 : Below w4.heap.size w4 w5 := by rw [hw5]; exact (Below.refl _ _).alloc (Nat.le_refl _) _
  have HY5 := Lib.hid (show BoxAt w5 w4.heap.size [.int .i64 H.a, .int .i64 H.r, .slice adb H.bs.length capb, .slice adp H.ps.length capp] 48 by rw [hw5]; exact BoxAt.new w4 [_, _, _, _] _)
  have hb35 : Below w3.heap.size w3 w5 := hb4.trans (hb5.mono hb4.size)
  have bX := HX3.out.belowS hb35
  have HX5 := Lib.hid bX
  have HB5 := Lib.hid (HB3.out.trans (hb35.mono HB3.out.size))
  have HTX5 := Lib.hid (HTX3.out.below hb35 (fun _ h => h))
  have HBB5 := Lib.hid ((hbb.low (by decide)).below hb5 (fun _ h => h))
  have HPP5 := Lib.hid ((hpp.low (by decide)).below hb5 (fun _ h => h))
  have x0 := bX.cell 0 rfl
  have x1 := bX.cell 1 rfl
  have x2 := bX.cell 2 rfl
  clear hbb hpp hb4 hb5 hb35 bX s0 s1 s2 s3 s4 HX3 HB3 HTX3
  go_upto_region 3 with fail
  rw [← hw5]
  clear hw5
  go_wp2_with fail
  refine (wencode_ok (G := fun _ => True) ⟨0, 0, 1, T, hdr0, slt0, crt0, 0⟩ { mv0 with tx := .slice ad T.txs.length cap } w5 (rdM_bundle _ _ _ (HTX5.out.mono (fun _ _ => trivial))) (msgOk_bundle (fun x hx => by have := T1.out x hx; unfold txLen at this; simp at this; omega)) HC.out).mono ?_
  rintro e w6 ⟨v6, rfl, hown6, hb6⟩
  rw [HE1.out] at hown6
  generalize hn6 : (1 :: 0 :: 0 :: putBatchL T).length = N6 at hown6
  have HN6 := Lib.hid (show N6 = 3 + (putBatchL T).length by rw [← hn6]; simp; omega)
  clear hn6
  obtain ⟨g6, cap6, rfl, -, -, -⟩ := RdS.free_of_own hown6 (by have := HN6.out; omega)
  have bY := HY5.out.belowS hb6
  have HY6 := Lib.hid bY
  have HX6 := Lib.hid (HX5.out.belowS hb6)
  have HB6 := Lib.hid (HB5.out.trans (hb6.mono HB5.out.size))
  have HTX6 := Lib.hid (HTX5.out.below hb6 (fun _ h => h))
  have HBB6 := Lib.hid (HBB5.out.below hb6 (fun _ h => h))
  have HPP6 := Lib.hid (HPP5.out.below hb6 (fun _ h => h))
  have HR6 := Lib.hid ((RdS.of_owns (G := fun _ => True) hown6 (fun _ _ => trivial) : RdB (fun _ => True) w6 _ (1 :: 0 :: 0 :: putBatchL T)).low (by decide))
  have y0 := bY.cell 0 rfl
  have y1 := bY.cell 1 rfl
  have y2 := bY.cell 2 rfl
  have y3 := bY.cell 3 rfl
  clear hown6 hb6 bY x0 x1 x2 HX5 HY5 HB5 HTX5 HBB5 HPP5
  go_wp2_with fail
  refine (wencode_ok (G := fun _ => True) ⟨0, 0, 2, bat0, H, slt0, crt0, 0⟩ { mv0 with bs := .slice adb H.bs.length capb, ps := .slice adp H.ps.length capp } w6 (rdM_offer _ _ _ (HBB6.out.mono (fun _ _ => trivial)) (HPP6.out.mono (fun _ _ => trivial))) (msgOk_offer hq34) HC2.out).mono ?_
  rintro e w7 ⟨v7, rfl, hown7, hb7⟩
  rw [HE2.out] at hown7
  generalize hn7 : (2 :: 0 :: 0 :: putHeaderL H).length = N7 at hown7
  have HN7 := Lib.hid (show N7 = 3 + (putHeaderL H).length by rw [← hn7]; simp; omega)
  clear hn7
  obtain ⟨g7, cap7, rfl, -, -, -⟩ := RdS.free_of_own hown7 (by have := HN7.out; omega)
  have HY7 := Lib.hid (HY6.out.belowS hb7)
  have HX7 := Lib.hid (HX6.out.belowS hb7)
  have HB7 := Lib.hid (HB6.out.trans (hb7.mono HB6.out.size))
  have HTX7 := Lib.hid (HTX6.out.below hb7 (fun _ h => h))
  have HBB7 := Lib.hid (HBB6.out.below hb7 (fun _ h => h))
  have HPP7 := Lib.hid (HPP6.out.below hb7 (fun _ h => h))
  have HR7 := Lib.hid (HR6.out.below hb7 (fun _ h => h))
  have HS7 := Lib.hid ((RdS.of_owns (G := fun _ => True) hown7 (fun _ _ => trivial) : RdB (fun _ => True) w7 _ (2 :: 0 :: 0 :: putHeaderL H)).low (by decide))
  obtain ⟨u1, u2, u3, -⟩ := HR7.out.len
  obtain ⟨v1, v2, v3, -⟩ := HS7.out.len
  have i6 : ¬ (N6 : Int) < 3 := by have := HN6.out; omega
  have i7 : ¬ (N7 : Int) < 3 := by have := HN7.out; omega
  have j6 : (3 : Int) ≤ (N6 : Int) := by omega
  have j7 : (3 : Int) ≤ (N7 : Int) := by omega
  have k6 : (3 : Int) ≤ (cap6 : Int) := by omega
  have k7 : (3 : Int) ≤ (cap7 : Int) := by omega
  have l6 : ¬ cap6 = 3 := by have := HN6.out; omega
  have l7 : ¬ cap7 = 3 := by have := HN7.out; omega
  have o6 : (N6 : Int) ≤ (cap6 : Int) := by omega
  have o7 : (N7 : Int) ≤ (cap7 : Int) := by omega
  have HDR := Lib.hid (show RdB _ w7 (.slice (some ⟨g6, 3, none⟩) (N6 - 3) (cap6 - 3)) (putBatchL T) from HR7.out.drop 3 (by simp))
  have HDS := Lib.hid (show RdB _ w7 (.slice (some ⟨g7, 3, none⟩) (N7 - 3) (cap7 - 3)) (putHeaderL H) from HS7.out.drop 3 (by simp))
  clear hown7 hb7 y0 y1 y2 y3 HX6 HY6 HB6 HTX6 HBB6 HPP6 HR6 u1 u2 u3 v1 v2 v3 HR7 HS7
  have HG1 := Lib.hid (tagGo_one (tag := 1) (d := putBatchL T) (by omega))
  have HG1C := Lib.hid (tagC_some HG1.out)
  have HG1D := Lib.hid (show tagD 1 [putBatchL T] = batSum T from tagD_some HG1.out)
  have HG2 := Lib.hid (tagGo_one (tag := 2) (d := putHeaderL H) (by omega))
  have HG2C := Lib.hid (tagC_some HG2.out)
  have HG2D := Lib.hid (show tagD 2 [putHeaderL H] = hdrSum H from tagD_some HG2.out)
  have HLB := Lib.hid (batSum_length T)
  have HLH := Lib.hid (hdrSum_length H)
  have hb7a := (Below.refl w7.heap.size w7).alloc (Nat.le_refl _) (.cells #[.slice (some ⟨g6, 3, none⟩) (N6 - 3) (cap6 - 3)] 22)
  have hcall := Tagged_any (G := fun _ => True) 1 [putBatchL T] (.slice (some ⟨w7.heap.size, 0, none⟩) 1 1) (w7.alloc (.cells #[.slice (some ⟨g6, 3, none⟩) (N6 - 3) (cap6 - 3)] 22)) (rdBB_one (G := fun _ => True) (BoxAt.new w7 [.slice (some ⟨g6, 3, none⟩) (N6 - 3) (cap6 - 3)] _) trivial (HDR.out.below hb7a (fun _ _ => trivial))) (HT.out.belowS (HB7.out.trans (hb7a.mono HB7.out.size)))
  rw [show (((1 : UInt8).toNat : Nat) : Int) = 1 from rfl, HG1C.out, HG1D.out] at hcall
  go_wp2_with fail
  refine hcall.mono ?_
  clear hcall
  rintro e w8 ⟨x8, rfl, hR8, hb7b⟩
  have hb7 : Below w7.heap.size w7 w8 := hb7a.trans (hb7b.mono (by simp))
  obtain ⟨xa8, xc8, rfl, -, -⟩ := hR8.form
  have D1 := Lib.hid (hR8.low (by decide))
  have HX8 := Lib.hid (HX7.out.belowS hb7)
  have HY8 := Lib.hid (HY7.out.belowS hb7)
  have HB8 := Lib.hid (HB7.out.trans (hb7.mono HB7.out.size))
  have HTX8 := Lib.hid (HTX7.out.below hb7 (fun _ h => h))
  have HBB8 := Lib.hid (HBB7.out.below hb7 (fun _ h => h))
  have HPP8 := Lib.hid (HPP7.out.below hb7 (fun _ h => h))
  have HDS := Lib.hid (HDS.out.below hb7 (fun _ h => h))
  rw [HLB.out]
  clear hb7a hb7b hb7 hR8 HX7 HY7 HB7 HTX7 HBB7 HPP7 HDR
  have hb8a := (Below.refl w8.heap.size w8).alloc (Nat.le_refl _) (.cells #[.slice (some ⟨g7, 3, none⟩) (N7 - 3) (cap7 - 3)] 22)
  have hcall := Tagged_any (G := fun _ => True) 2 [putHeaderL H] (.slice (some ⟨w8.heap.size, 0, none⟩) 1 1) (w8.alloc (.cells #[.slice (some ⟨g7, 3, none⟩) (N7 - 3) (cap7 - 3)] 22)) (rdBB_one (G := fun _ => True) (BoxAt.new w8 [.slice (some ⟨g7, 3, none⟩) (N7 - 3) (cap7 - 3)] _) trivial (HDS.out.below hb8a (fun _ _ => trivial))) (HT.out.belowS (HB8.out.trans (hb8a.mono HB8.out.size)))
  rw [show (((2 : UInt8).toNat : Nat) : Int) = 2 from rfl, HG2C.out, HG2D.out] at hcall
  go_wp2_with fail
  refine hcall.mono ?_
  clear hcall
  rintro e w9 ⟨x9, rfl, hR9, hb8b⟩
  have hb8 : Below w8.heap.size w8 w9 := hb8a.trans (hb8b.mono (by simp))
  obtain ⟨xa9, xc9, rfl, -, -⟩ := hR9.form
  have D1 := Lib.hid (D1.out.below hb8 (fun _ h => h))
  have D2 := Lib.hid (hR9.low (by decide))
  have HX9 := Lib.hid (HX8.out.belowS hb8)
  have HY9 := Lib.hid (HY8.out.belowS hb8)
  have HB9 := Lib.hid (HB8.out.trans (hb8.mono HB8.out.size))
  have HTX9 := Lib.hid (HTX8.out.below hb8 (fun _ h => h))
  have HBB9 := Lib.hid (HBB8.out.below hb8 (fun _ h => h))
  have HPP9 := Lib.hid (HPP8.out.below hb8 (fun _ h => h))
  rw [HLH.out]
  have bX := HX9.out
  have x0 := bX.cell 0 rfl
  have x1 := bX.cell 1 rfl
  have x2 := bX.cell 2 rfl
  clear hb8a hb8b hb8 hR9 HX8 HY8 HB8 HTX8 HBB8 HPP8 HDS bX
  go_wp2_with fail
  refine (batchDigest_ok T _ w9 HTX9.out HOK.out (HT.out.belowS HB9.out)).mono ?_
  rintro e w10 ⟨x10, rfl, hR10, hb9⟩
  obtain ⟨xa10, xc10, rfl, -, -⟩ := hR10.form
  have D1 := Lib.hid (D1.out.below hb9 (fun _ h => h))
  have D2 := Lib.hid (D2.out.below hb9 (fun _ h => h))
  have D3 := Lib.hid (hR10.low (by decide))
  have HY10 := Lib.hid (HY9.out.belowS hb9)
  have HB10 := Lib.hid (HB9.out.trans (hb9.mono HB9.out.size))
  have HBB10 := Lib.hid (HBB9.out.below hb9 (fun _ h => h))
  have HPP10 := Lib.hid (HPP9.out.below hb9 (fun _ h => h))
  rw [HLB.out]
  have bY := HY10.out
  have y0 := bY.cell 0 rfl
  have y1 := bY.cell 1 rfl
  have y2 := bY.cell 2 rfl
  have y3 := bY.cell 3 rfl
  clear hb9 hR10 HX9 HY9 HB9 HTX9 HBB9 HPP9 x0 x1 x2 bY
  go_wp2_with fail
  refine (headerDigest_ok H _ _ w10 HBB10.out HPP10.out HOK2.out (HT.out.belowS HB10.out)).mono ?_
  rintro e w11 ⟨x11, rfl, hR11, hb10⟩
  obtain ⟨xa11, xc11, rfl, -, -⟩ := hR11.form
  have E1 := D1.out.below hb10 (fun _ h => h)
  have E2 := D2.out.below hb10 (fun _ h => h)
  have E3 := D3.out.below hb10 (fun _ h => h)
  have E4 := hR11
  have HB11 := Lib.hid (HB10.out.trans (hb10.mono HB10.out.size))
  rw [HLB.out] at E1 E3
  rw [HLH.out] at E2 E4
  rw [HLH.out]
  have K1 := Lib.hid E1
  have K2 := Lib.hid E2
  have K3 := Lib.hid E3
  have K4 := Lib.hid E4
  clear E1 E2 E3 E4 hb10 hR11 HY10 HBB10 HPP10 y0 y1 y2 y3 D1 D2 D3
  go_wp2_with fail
  refine (same_any (l := batSum T) (m := batSum T) _ _ _ K3.out K1.out).mono ?_
  rintro e w' ⟨rfl, rfl⟩
  rw [decide_eq_true (rfl : batSum T = batSum T)]
  go_wp2_with fail
  refine (same_any (l := hdrSum H) (m := hdrSum H) _ _ _ K4.out K2.out).mono ?_
  rintro e w' ⟨rfl, rfl⟩
  rw [decide_eq_true (rfl : hdrSum H = hdrSum H)]
  go_wp2
  go_ret
  exact ⟨rfl, HB11.out⟩
theorem digestMade_walk (vt : Value) (r : RawD) (w : World) (hr : RawOk (fun _ => True) w vt r) (ht : Tabs w) :
    Calls Tryd.prog 13 #[.agg #[.int .i64 r.k, .int .i64 r.a, .int .i64 r.b, .int .i64 r.c, vt]] w fun e w' => e = .returned (.bool true) ∧ Below w.heap.size w w' :=
  digestMade_case r.k r.a r.b r.c vt r.txs w hr.2.2.2.2.1 hr.2.2.2.2.2 hr.2.1.1 hr.2.1.2 hr.2.2.1.1 hr.2.2.1.2 hr.2.2.2.1.1 hr.2.2.2.1.2 ht
end Go.Proofs.YtdfnnahhgbhmeaaDoor
