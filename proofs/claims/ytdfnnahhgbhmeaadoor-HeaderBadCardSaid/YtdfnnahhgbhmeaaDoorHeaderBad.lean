/- HeaderBad: the walk. -/
import Derived.Test.YtdfnnahhgbhmeaaDoorHdrLaw
import Derived.Test.YtdfnnahhgbhmeaaDoorBDigN
import Derived.Test.YtdfnnahhgbhmeaaDoorChk3
import Derived.Test.YtdfnnahhgbhmeaaDoorMin
import Derived.Test.YtdfnnahhgbhmeaaDoorApp
import Derived.Test.YtdfnnahhgbhmeaaDoorOpenS
import Derived.Test.YtdfnnahhgbhmeaaDoorBlk
import Derived.Deep.DeepCutAuto
import Derived.Deep.CutBlock
set_option linter.unusedVariables false
set_option linter.unusedSimpArgs false
namespace Go.Proofs.YtdfnnahhgbhmeaaDoor
open Go Go.RowKit

theorem hdr_parts {b : Hdr} (h : hdrCode b = 0) : nodeOk b.a = true ∧ countOk b.r = true ∧ b.bs.length ≤ 3 ∧ b.ps.length ≤ 4 ∧ digCode b.bs = 0 ∧ digCode b.ps = 0 := by
  unfold hdrCode at h
  split at h
  · simp at h
  · rename_i h1
    split at h
    · simp at h
    · rename_i h2
      split at h
      · rename_i h3; exact absurd h h3
      · rename_i h3
        split at h
        · rename_i h4; exact absurd h h4
        · rename_i h4
          refine ⟨?_, ?_, by omega, by omega, by simpa using h3, by simpa using h4⟩
          · cases q : nodeOk b.a; exact absurd (.inl q) h1; rfl
          · cases q : countOk b.r; exact absurd (.inr q) h1; rfl
theorem rdB_some {G : Nat → Prop} {w : World} {b : Nat} {n m : Int} {T : TypeId} (h : BoxAt w b ((someL n m).map fun c => Value.int .u8 c.toNat) T) (hG : G b) : RdB G w (.slice (some ⟨b, 0, none⟩) 32 32) (someL n m) :=
  RdS.of_box (cap := 32) h hG (by rw [someL_length]; omega) (by unfold maxLen; omega)
theorem rdBB_three {G : Nat → Prop} {w : World} {B : Nat} {v v' v'' : Value} {l l' l'' : List UInt8} {T : TypeId} (hb : BoxAt w B [v, v', v''] T) (hG : G B) (h : RdB G w v l) (h' : RdB G w v' l') (h'' : RdB G w v'' l'') : RdBB G w (.slice (some ⟨B, 0, none⟩) 3 3) [l, l', l''] :=
  rdBB_box hb hG rfl rfl (by unfold maxLen; omega) (fun j u x h1 h2 => by
    match j, h1, h2 with
    | 0, h1, h2 => simp at h1 h2; subst h1 h2; exact h
    | 1, h1, h2 => simp at h1 h2; subst h1 h2; exact h'
    | 2, h1, h2 => simp at h1 h2; subst h1 h2; exact h'')
theorem hdr_few1 {a r : Int} {bs ps : List Bytes} (h : hdrCode ⟨a, r, bs, ps⟩ = 0) : hdrCode ⟨a, 1, bs, [someL 1 1, someL 1 2, someL 1 3]⟩ = 10 := by
  obtain ⟨h1, h2, h3, h4, h5, h6⟩ := hdr_parts h
  have hd : digCode [someL 1 1, someL 1 2, someL 1 3] = 0 := by decide
  unfold hdrCode
  rw [if_neg (by simp only [h1]; decide), if_neg (by simp only [List.length_cons, List.length_nil]; simp only at h3; omega), if_neg (by simp [h5]), if_neg (by simp [hd]), if_pos (by simp)]
theorem hdr_few2 {a r : Int} {bs ps : List Bytes} (h : hdrCode ⟨a, r, bs, ps⟩ = 0) : hdrCode ⟨a, 2, bs, [someL 1 1, someL 1 2]⟩ = 10 := by
  obtain ⟨h1, h2, h3, h4, h5, h6⟩ := hdr_parts h
  have hd : digCode [someL 1 1, someL 1 2] = 0 := by decide
  unfold hdrCode
  rw [if_neg (by simp only [h1]; decide), if_neg (by simp only [List.length_cons, List.length_nil]; simp only at h3; omega), if_neg (by simp [h5]), if_neg (by simp [hd]), if_pos (by simp)]
theorem hdr_twice {a r : Int} {bs ps : List Bytes} (h : hdrCode ⟨a, r, bs, ps⟩ = 0) : hdrCode ⟨a, r, [someL 1 1, someL 1 1], ps⟩ = 7 := by
  obtain ⟨h1, h2, h3, h4, h5, h6⟩ := hdr_parts h
  have hd : digCode [someL 1 1, someL 1 1] = 7 := by decide
  unfold hdrCode
  rw [if_neg (by simp [h1, h2]), if_neg (by simp only [List.length_cons, List.length_nil]; simp only at h4; omega), if_pos (by simp [hd])]
  exact hd
theorem hdr_form {a r : Int} {bs ps : List Bytes} (h : hdrCode ⟨a, r, bs, ps⟩ = 0) : hdrCode ⟨a, r, [[1]], ps⟩ = 4 := by
  obtain ⟨h1, h2, h3, h4, h5, h6⟩ := hdr_parts h
  have hd : digCode [[1]] = 4 := by decide
  unfold hdrCode
  rw [if_neg (by simp [h1, h2]), if_neg (by simp only [List.length_cons, List.length_nil]; simp only at h4; omega), if_pos (by simp [hd])]
  exact hd
theorem hdr_node {r : Int} {bs ps : List Bytes} : hdrCode ⟨4, r, bs, ps⟩ = 2 := by
  unfold hdrCode
  rw [if_pos (.inl (show nodeOk 4 = false by decide))]
theorem crt_hdr {h : Hdr} {vs : List Int} {c : Int} (hc : hdrCode h = c) (h0 : c ≠ 0) : crtCode ⟨h, vs⟩ = c := by
  unfold crtCode
  rw [if_pos (by simp only [hc]; exact h0)]
  exact hc
set_option maxRecDepth 100000 in
set_option maxHeartbeats 8000000 in
theorem headerBad_case (K A B C : Int) (vt : Value) (which q : Int) (w : World) (hvt : vt.oneCell' = true) (a1 : -9223372036854775808 ≤ A) (a2 : A ≤ 9223372036854775807) (b1 : -9223372036854775808 ≤ B) (b2 : B ≤ 9223372036854775807) (c1 : -9223372036854775808 ≤ C) (c2 : C ≤ 9223372036854775807)
    (n1 : -9223372036854775808 ≤ which) (n2 : which ≤ 9223372036854775807) (hq : pickedZ which 5 = q) (hqc : q = 0 ∨ q = 1 ∨ q = 2 ∨ q = 3 ∨ q = 4) :
    Calls Tryd.prog 10 #[.agg #[.int .i64 K, .int .i64 A, .int .i64 B, .int .i64 C, vt], .int .i64 which] w fun e w' => e = .returned (.bool true) ∧ Below w.heap.size w w' := by
  have hb1 := (Below.refl w.heap.size w).alloc (Nat.le_refl _) (.cells #[.int .i64 K, .int .i64 A, .int .i64 B, .int .i64 C, vt] 40)
  have HHD := Lib.hid (header_any K A B C vt (w.alloc (.cells #[.int .i64 K, .int .i64 A, .int .i64 B, .int .i64 C, vt] 40)) a1 a2 b1 b2 c1 c2 hvt)
  have HB1 := Lib.hid hb1
  have HQ := Lib.hid hq
  have hcode := hdrOf_ok A B C
  generalize hdrOf A B C = X at *
  obtain ⟨xa, xr, xb, xp⟩ := X
  simp only at HHD
  have HC := Lib.hid hcode
  clear hq hcode hb1
  go_enter Tryd.func10, Tryd.ntmps10
  go_wp2_with fail
  refine HHD.out.mono ?_
  rintro e w2 ⟨adb, capb, adp, capp, rfl, hrb, hrp, hb2⟩
  have hb2' : Below w.heap.size w w2 := HB1.out.trans (hb2.mono (by simp))
  obtain ⟨w3, hw3⟩ : ∃ w3, w3 = w2.alloc (.cells #[.int .i64 xa, .int .i64 xr, .slice adb xb.length capb, .slice adp xp.length capp] 48) := ⟨_, rfl⟩
  have hbn : Below w2.heap.size w2 w3 := by rw [hw3]; exact (Below.refl _ _).alloc (Nat.le_refl _) _
  have HBk3 := Lib.hid (hb2'.trans (hbn.mono hb2'.size))
  have HXk3 := Lib.hid (show BoxAt w3 w2.heap.size [.int .i64 xa, .int .i64 xr, .slice adb xb.length capb, .slice adp xp.length capp] 48 by rw [hw3]; exact BoxAt.new w2 [_, _, _, _] _)
  have HRb3 := Lib.hid (show RdBB (fun b => b < w2.heap.size) w3 (.slice adb xb.length capb) xb from (hrb.low (by decide)).keep (Keep.below hbn) (fun _ h => h.2))
  have HRp3 := Lib.hid (show RdBB (fun b => b < w2.heap.size) w3 (.slice adp xp.length capp) xp from (hrp.low (by decide)).keep (Keep.below hbn) (fun _ h => h.2))
  have zX : w2.heap.size < w3.heap.size := HXk3.out.lt
  have z2 : w.heap.size ≤ w2.heap.size := hb2'.size
  clear hrb hrp hb2 hb2' hbn HB1
  go_upto_region 2 with fail
  rw [← hw3]
  clear hw3
  go_upto_block 0 with (go_at_call 17; refine (picked_any _ _ _ n1 n2 (by omega) (by omega)).mono ?_; rintro e w' ⟨rfl, rfl⟩; rw [HQ.out])
  go_cut [6] (fun u wx => ∃ (a' r' : Int) (bs' ps' : List Bytes) (vb vp : Value) (wv : Int), u = .int .i64 wv ∧ BoxAt wx w2.heap.size [.int .i64 a', .int .i64 r', vb, vp] 48 ∧ RdBB (fun _ => True) wx vb bs' ∧ RdBB (fun _ => True) wx vp ps' ∧ hdrCode ⟨a', r', bs', ps'⟩ = wv ∧ wv ≠ 0 ∧ Below w.heap.size w wx)
  case first =>
    rcases hqc with e | e | e | e | e
    · have e0 : (q == 0) = true := by rw [e]; rfl
      clear e
      have f1 := HXk3.out.free 1
      have c1' := HXk3.out.cell 1 rfl
      obtain ⟨w4, hw4⟩ : ∃ w4, w4 = w3.setCell ⟨w2.heap.size, 1, none⟩ (.int .i64 1) := ⟨_, rfl⟩
      have HBk4 := Lib.hid (show Below w.heap.size w w4 by rw [hw4]; exact HBk3.out.setCell (by simp; omega) _)
      have HXk4 := Lib.hid (show BoxAt w4 w2.heap.size [.int .i64 xa, .int .i64 1, .slice adb xb.length capb, .slice adp xp.length capp] 48 by rw [hw4]; exact HXk3.out.set 1 _)
      have HRb4 := Lib.hid (show RdBB (fun b => b < w2.heap.size) w4 (.slice adb xb.length capb) xb by rw [hw4]; exact HRb3.out.keep (Keep.setCell (by simp) _) (fun _ h => h))
      have HRp4 := Lib.hid (show RdBB (fun b => b < w2.heap.size) w4 (.slice adp xp.length capp) xp by rw [hw4]; exact HRp3.out.keep (Keep.setCell (by simp) _) (fun _ h => h))
      have zs4 : w3.heap.size ≤ w4.heap.size := by rw [hw4]; simp
      go_upto_region 8 with fail
      rw [← hw4]
      clear hw4 f1 c1' HXk3 HRb3 HRp3 HBk3
      go_wp2_with fail
      refine (some_any 1 1 w4 (by decide) (by decide)).mono ?_
      rintro e w5 ⟨rfl, hx, hb⟩
      have HS4 := Lib.hid (show BoxAt w5 w4.heap.size ((someL 1 1).map fun c => Value.int .u8 c.toNat) 5 from hx)
      have HBk5 := Lib.hid (HBk4.out.trans (hb.mono HBk4.out.size))
      have HXk5 := Lib.hid (HXk4.out.belowS hb)
      have HRb5 := Lib.hid (HRb4.out.below hb (fun _ h => h))
      have HRp5 := Lib.hid (HRp4.out.below hb (fun _ h => h))
      have zs5 := hb.size
      clear hx hb HXk4 HRb4 HRp4
      go_wp2_with fail
      refine (some_any 1 2 w5 (by decide) (by decide)).mono ?_
      rintro e w6 ⟨rfl, hx, hb⟩
      have HS5 := Lib.hid (show BoxAt w6 w5.heap.size ((someL 1 2).map fun c => Value.int .u8 c.toNat) 5 from hx)
      have HBk6 := Lib.hid (HBk5.out.trans (hb.mono HBk5.out.size))
      have HXk6 := Lib.hid (HXk5.out.belowS hb)
      have HRb6 := Lib.hid (HRb5.out.below hb (fun _ h => h))
      have HRp6 := Lib.hid (HRp5.out.below hb (fun _ h => h))
      have zs6 := hb.size
      have HS4 := Lib.hid (HS4.out.belowS hb)
      clear hx hb HXk5 HRb5 HRp5
      go_wp2_with fail
      refine (some_any 1 3 w6 (by decide) (by decide)).mono ?_
      rintro e w7 ⟨rfl, hx, hb⟩
      have HS6 := Lib.hid (show BoxAt w7 w6.heap.size ((someL 1 3).map fun c => Value.int .u8 c.toNat) 5 from hx)
      have HBk7 := Lib.hid (HBk6.out.trans (hb.mono HBk6.out.size))
      have HXk7 := Lib.hid (HXk6.out.belowS hb)
      have HRb7 := Lib.hid (HRb6.out.below hb (fun _ h => h))
      have HRp7 := Lib.hid (HRp6.out.below hb (fun _ h => h))
      have zs7 := hb.size
      have HS4 := Lib.hid (HS4.out.belowS hb)
      have HS5 := Lib.hid (HS5.out.belowS hb)
      clear hx hb HXk6 HRb6 HRp6
      have f3 := HXk7.out.free 3
      have zXk : w2.heap.size < w7.heap.size := HXk7.out.lt
      have cXk := HXk7.out.cell 3 rfl
      have nXk : w7.heap.size ≠ w2.heap.size := by omega
      go_wp2
      go_meet
      exact ⟨xa, 1, xb, [someL 1 1, someL 1 2, someL 1 3], .slice adb xb.length capb, .slice (some ⟨w7.heap.size, 0, none⟩) 3 3, 10, rfl, (HXk7.out.set 3 (.slice (some ⟨w7.heap.size, 0, none⟩) 3 3)).alloc _, (((HRb7.out.keep (Keep.setCell (p := ⟨w2.heap.size, 3, none⟩) (by simp) (.slice (some ⟨w7.heap.size, 0, none⟩) 3 3)) (fun _ h => h)).keep (Keep.alloc _ _ _) (fun _ h => h)).mono (fun _ _ => trivial)), (rdBB_three (G := fun _ => True) (BoxAt.newAt (n := w7.heap.size) (w7.setCell ⟨w2.heap.size, 3, none⟩ (.slice (some ⟨w7.heap.size, 0, none⟩) 3 3)) [.slice (some ⟨w4.heap.size, 0, none⟩) 32 32, .slice (some ⟨w5.heap.size, 0, none⟩) 32 32, .slice (some ⟨w6.heap.size, 0, none⟩) 32 32] 22 (by simp)) trivial (rdB_some ((HS4.out.setOther (p := ⟨w2.heap.size, 3, none⟩) (by simp; omega) (.slice (some ⟨w7.heap.size, 0, none⟩) 3 3)).alloc _) trivial) (rdB_some ((HS5.out.setOther (p := ⟨w2.heap.size, 3, none⟩) (by simp; omega) (.slice (some ⟨w7.heap.size, 0, none⟩) 3 3)).alloc _) trivial) (rdB_some ((HS6.out.setOther (p := ⟨w2.heap.size, 3, none⟩) (by simp; omega) (.slice (some ⟨w7.heap.size, 0, none⟩) 3 3)).alloc _) trivial)), hdr_few1 HC.out, by decide, (HBk7.out.setCell (by simp; omega) _).alloc (by have := HBk7.out.size; simp; omega) _⟩
    · have e0 : (q == 0) = false := by rw [e]; rfl
      have e1 : (q == 1) = true := by rw [e]; rfl
      clear e
      have f1 := HXk3.out.free 1
      have c1' := HXk3.out.cell 1 rfl
      obtain ⟨w4, hw4⟩ : ∃ w4, w4 = w3.setCell ⟨w2.heap.size, 1, none⟩ (.int .i64 2) := ⟨_, rfl⟩
      have HBk4 := Lib.hid (show Below w.heap.size w w4 by rw [hw4]; exact HBk3.out.setCell (by simp; omega) _)
      have HXk4 := Lib.hid (show BoxAt w4 w2.heap.size [.int .i64 xa, .int .i64 2, .slice adb xb.length capb, .slice adp xp.length capp] 48 by rw [hw4]; exact HXk3.out.set 1 _)
      have HRb4 := Lib.hid (show RdBB (fun b => b < w2.heap.size) w4 (.slice adb xb.length capb) xb by rw [hw4]; exact HRb3.out.keep (Keep.setCell (by simp) _) (fun _ h => h))
      have HRp4 := Lib.hid (show RdBB (fun b => b < w2.heap.size) w4 (.slice adp xp.length capp) xp by rw [hw4]; exact HRp3.out.keep (Keep.setCell (by simp) _) (fun _ h => h))
      have zs4 : w3.heap.size ≤ w4.heap.size := by rw [hw4]; simp
      go_upto_region 11 with fail
      rw [← hw4]
      clear hw4 f1 c1' HXk3 HRb3 HRp3 HBk3
      go_wp2_with fail
      refine (some_any 1 1 w4 (by decide) (by decide)).mono ?_
      rintro e w5 ⟨rfl, hx, hb⟩
      have HS4 := Lib.hid (show BoxAt w5 w4.heap.size ((someL 1 1).map fun c => Value.int .u8 c.toNat) 5 from hx)
      have HBk5 := Lib.hid (HBk4.out.trans (hb.mono HBk4.out.size))
      have HXk5 := Lib.hid (HXk4.out.belowS hb)
      have HRb5 := Lib.hid (HRb4.out.below hb (fun _ h => h))
      have HRp5 := Lib.hid (HRp4.out.below hb (fun _ h => h))
      have zs5 := hb.size
      clear hx hb HXk4 HRb4 HRp4
      go_wp2_with fail
      refine (some_any 1 2 w5 (by decide) (by decide)).mono ?_
      rintro e w6 ⟨rfl, hx, hb⟩
      have HS5 := Lib.hid (show BoxAt w6 w5.heap.size ((someL 1 2).map fun c => Value.int .u8 c.toNat) 5 from hx)
      have HBk6 := Lib.hid (HBk5.out.trans (hb.mono HBk5.out.size))
      have HXk6 := Lib.hid (HXk5.out.belowS hb)
      have HRb6 := Lib.hid (HRb5.out.below hb (fun _ h => h))
      have HRp6 := Lib.hid (HRp5.out.below hb (fun _ h => h))
      have zs6 := hb.size
      have HS4 := Lib.hid (HS4.out.belowS hb)
      clear hx hb HXk5 HRb5 HRp5
      have f3 := HXk6.out.free 3
      have zXk : w2.heap.size < w6.heap.size := HXk6.out.lt
      have cXk := HXk6.out.cell 3 rfl
      have nXk : w6.heap.size ≠ w2.heap.size := by omega
      go_wp2
      go_meet
      exact ⟨xa, 2, xb, [someL 1 1, someL 1 2], .slice adb xb.length capb, .slice (some ⟨w6.heap.size, 0, none⟩) 2 2, 10, rfl, (HXk6.out.set 3 (.slice (some ⟨w6.heap.size, 0, none⟩) 2 2)).alloc _, (((HRb6.out.keep (Keep.setCell (p := ⟨w2.heap.size, 3, none⟩) (by simp) (.slice (some ⟨w6.heap.size, 0, none⟩) 2 2)) (fun _ h => h)).keep (Keep.alloc _ _ _) (fun _ h => h)).mono (fun _ _ => trivial)), (rdBB_two (G := fun _ => True) (BoxAt.newAt (n := w6.heap.size) (w6.setCell ⟨w2.heap.size, 3, none⟩ (.slice (some ⟨w6.heap.size, 0, none⟩) 2 2)) [.slice (some ⟨w4.heap.size, 0, none⟩) 32 32, .slice (some ⟨w5.heap.size, 0, none⟩) 32 32] 22 (by simp)) trivial (rdB_some ((HS4.out.setOther (p := ⟨w2.heap.size, 3, none⟩) (by simp; omega) (.slice (some ⟨w6.heap.size, 0, none⟩) 2 2)).alloc _) trivial) (rdB_some ((HS5.out.setOther (p := ⟨w2.heap.size, 3, none⟩) (by simp; omega) (.slice (some ⟨w6.heap.size, 0, none⟩) 2 2)).alloc _) trivial)), hdr_few2 HC.out, by decide, (HBk6.out.setCell (by simp; omega) _).alloc (by have := HBk6.out.size; simp; omega) _⟩
    · have e0 : (q == 0) = false := by rw [e]; rfl
      have e1 : (q == 1) = false := by rw [e]; rfl
      have e2 : (q == 2) = true := by rw [e]; rfl
      clear e
      go_wp2_with fail
      refine (some_any 1 1 w3 (by decide) (by decide)).mono ?_
      rintro e w4 ⟨rfl, hx, hb⟩
      have HS3 := Lib.hid (show BoxAt w4 w3.heap.size ((someL 1 1).map fun c => Value.int .u8 c.toNat) 5 from hx)
      have HBk4 := Lib.hid (HBk3.out.trans (hb.mono HBk3.out.size))
      have HXk4 := Lib.hid (HXk3.out.belowS hb)
      have HRb4 := Lib.hid (HRb3.out.below hb (fun _ h => h))
      have HRp4 := Lib.hid (HRp3.out.below hb (fun _ h => h))
      have zs4 := hb.size
      clear hx hb HXk3 HRb3 HRp3
      go_wp2_with fail
      refine (some_any 1 1 w4 (by decide) (by decide)).mono ?_
      rintro e w5 ⟨rfl, hx, hb⟩
      have HS4 := Lib.hid (show BoxAt w5 w4.heap.size ((someL 1 1).map fun c => Value.int .u8 c.toNat) 5 from hx)
      have HBk5 := Lib.hid (HBk4.out.trans (hb.mono HBk4.out.size))
      have HXk5 := Lib.hid (HXk4.out.belowS hb)
      have HRb5 := Lib.hid (HRb4.out.below hb (fun _ h => h))
      have HRp5 := Lib.hid (HRp4.out.below hb (fun _ h => h))
      have zs5 := hb.size
      have HS3 := Lib.hid (HS3.out.belowS hb)
      clear hx hb HXk4 HRb4 HRp4
      have f2 := HXk5.out.free 2
      have zXk : w2.heap.size < w5.heap.size := HXk5.out.lt
      have cXk := HXk5.out.cell 2 rfl
      have nXk : w5.heap.size ≠ w2.heap.size := by omega
      go_wp2
      go_meet
      exact ⟨xa, xr, [someL 1 1, someL 1 1], xp, .slice (some ⟨w5.heap.size, 0, none⟩) 2 2, .slice adp xp.length capp, 7, rfl, (HXk5.out.set 2 (.slice (some ⟨w5.heap.size, 0, none⟩) 2 2)).alloc _, (rdBB_two (G := fun _ => True) (BoxAt.newAt (n := w5.heap.size) (w5.setCell ⟨w2.heap.size, 2, none⟩ (.slice (some ⟨w5.heap.size, 0, none⟩) 2 2)) [.slice (some ⟨w3.heap.size, 0, none⟩) 32 32, .slice (some ⟨w4.heap.size, 0, none⟩) 32 32] 22 (by simp)) trivial (rdB_some ((HS3.out.setOther (p := ⟨w2.heap.size, 2, none⟩) (by simp; omega) (.slice (some ⟨w5.heap.size, 0, none⟩) 2 2)).alloc _) trivial) (rdB_some ((HS4.out.setOther (p := ⟨w2.heap.size, 2, none⟩) (by simp; omega) (.slice (some ⟨w5.heap.size, 0, none⟩) 2 2)).alloc _) trivial)), (((HRp5.out.keep (Keep.setCell (p := ⟨w2.heap.size, 2, none⟩) (by simp) (.slice (some ⟨w5.heap.size, 0, none⟩) 2 2)) (fun _ h => h)).keep (Keep.alloc _ _ _) (fun _ h => h)).mono (fun _ _ => trivial)), hdr_twice HC.out, by decide, (HBk5.out.setCell (by simp; omega) _).alloc (by have := HBk5.out.size; simp; omega) _⟩
    · have e0 : (q == 0) = false := by rw [e]; rfl
      have e1 : (q == 1) = false := by rw [e]; rfl
      have e2 : (q == 2) = false := by rw [e]; rfl
      have e3 : (q == 3) = true := by rw [e]; rfl
      clear e
      have f2 := HXk3.out.free 2
      have c2' := HXk3.out.cell 2 rfl
      have n3 : w3.heap.size ≠ w2.heap.size := by omega
      go_wp2
      go_meet
      refine ⟨xa, xr, [[1]], xp, (.slice (some ⟨w3.heap.size + 1, 0, none⟩) 1 1), .slice adp xp.length capp, 4, rfl, ((HXk3.out.set 2 _).alloc _).alloc _, ?_, ((HRp3.out.keep (Keep.setCell (p := ⟨w2.heap.size, 2, none⟩) (by simp) _) (fun _ h => h)).keep (Keep.alloc _ _ _) (fun _ h => h)).keep (Keep.alloc _ _ _) (fun _ _ => trivial), hdr_form HC.out, by decide, ((HBk3.out.setCell (by simp; omega) _).alloc (by simp; omega) _).alloc (by simp; omega) _⟩
      refine rdBB_one (G := fun _ => True) (BoxAt.newAt (n := w3.heap.size + 1) ((w3.setCell ⟨w2.heap.size, 2, none⟩ (.slice (some ⟨w3.heap.size + 1, 0, none⟩) 1 1)).alloc (.cells #[.int .u8 1] 5)) [.slice (some ⟨w3.heap.size, 0, none⟩) 1 1] 22 (by simp)) trivial ?_
      exact RdS.of_box (cap := 1) (l := [(1 : UInt8)]) (f := fun c => Value.int .u8 c.toNat) (T := 5) ((BoxAt.newAt (n := w3.heap.size) (w3.setCell ⟨w2.heap.size, 2, none⟩ (.slice (some ⟨w3.heap.size + 1, 0, none⟩) 1 1)) [.int .u8 1] 5 (by simp)).alloc _) trivial (by decide) (by unfold maxLen; omega)
    · have e0 : (q == 0) = false := by rw [e]; rfl
      have e1 : (q == 1) = false := by rw [e]; rfl
      have e2 : (q == 2) = false := by rw [e]; rfl
      have e3 : (q == 3) = false := by rw [e]; rfl
      clear e
      have f0 := HXk3.out.free 0
      have c0 := HXk3.out.cell 0 rfl
      have n3 : w3.heap.size ≠ w2.heap.size := by omega
      go_wp2
      go_meet
      exact ⟨4, xr, xb, xp, .slice adb xb.length capb, .slice adp xp.length capp, 2, rfl, HXk3.out.set 0 _, HRb3.out.keep (Keep.setCell (by simp) _) (fun _ _ => trivial), HRp3.out.keep (Keep.setCell (by simp) _) (fun _ _ => trivial), hdr_node, by decide, HBk3.out.setCell (by simp; omega) _⟩
  case rest =>
    obtain ⟨a', r', bs', ps', vb, vp, wv, rfl, bX, hRb, hRp, hcd, hne, hB⟩ := hcut
    obtain ⟨sad, scap, rfl, -, -⟩ := hRb.form
    obtain ⟨tad, tcap, rfl, -, -⟩ := hRp.form
    have HBW := Lib.hid hB
    have HBX := Lib.hid bX
    have HRb := Lib.hid (hRb.low (by decide))
    have HRp := Lib.hid (hRp.low (by decide))
    have HCD := Lib.hid hcd
    have HCR := Lib.hid (crt_hdr (vs := [0, 1, 2]) hcd hne)
    have p0 := bX.cell 0 rfl
    have p1 := bX.cell 1 rfl
    have p2 := bX.cell 2 rfl
    have p3 := bX.cell 3 rfl
    clear bX hRb hRp hcd hB HXk3 HRb3 HRp3
    go_wp2_with fail
    refine (headerDigest_no a' r' wv _ _ _ HRb.out HRp.out HCD.out hne).mono ?_
    rintro e w5 ⟨rfl, hb5⟩
    have bX := HBX.out.belowS hb5
    have HBX5 := Lib.hid bX
    have HB5 := Lib.hid (HBW.out.trans (hb5.mono HBW.out.size))
    have HRb5 := Lib.hid (HRb.out.below hb5 (fun _ h => h))
    have HRp5 := Lib.hid (HRp.out.below hb5 (fun _ h => h))
    have q0 := bX.cell 0 rfl
    have q1 := bX.cell 1 rfl
    have q2 := bX.cell 2 rfl
    have q3 := bX.cell 3 rfl
    clear bX hb5 p0 p1 p2 p3
    go_wp2_with fail
    refine (cheader_any a' r' _ _ _ HRb5.out HRp5.out).mono ?_
    rintro e w6 ⟨rfl, hb6⟩
    rw [HCD.out]
    have bX := HBX5.out.belowS hb6
    have HB6 := Lib.hid (HB5.out.trans (hb6.mono HB5.out.size))
    have HRb6 := Lib.hid (HRb5.out.below hb6 (fun _ h => h))
    have HRp6 := Lib.hid (HRp5.out.below hb6 (fun _ h => h))
    have p0 := bX.cell 0 rfl
    have p1 := bX.cell 1 rfl
    have p2 := bX.cell 2 rfl
    have p3 := bX.cell 3 rfl
    have e5 : (wv == wv) = true := by simp
    have hb7 := (Below.refl w6.heap.size w6).alloc (Nat.le_refl _) (.cells #[.int .i64 0, .int .i64 1, .int .i64 2] 3)
    have HRI := Lib.hid (show RdI (fun _ => True) (w6.alloc (.cells #[.int .i64 0, .int .i64 1, .int .i64 2] 3)) (.slice (some ⟨w6.heap.size, 0, none⟩) 3 3) [0, 1, 2] from RdS.of_owns (G := fun _ => True) (f := Value.int .i64) (l := [0, 1, 2]) (n := 3) (lit_ownsN w6 [.int .i64 0, .int .i64 1, .int .i64 2] 3) (fun _ _ => trivial))
    clear bX hb6 q0 q1 q2 q3
    go_wp2_with fail
    refine (ccert_any (G := fun _ => True) a' r' _ _ _ _ (HRb6.out.below hb7 (fun _ _ => trivial)) (HRp6.out.below hb7 (fun _ _ => trivial)) HRI.out).mono ?_
    rintro e w8 ⟨rfl, hb8⟩
    rw [HCR.out]
    have HB8 := Lib.hid (HB6.out.trans ((hb7.trans (hb8.mono (by simp))).mono HB6.out.size))
    clear hb7 hb8
    go_wp2
    go_ret
    exact ⟨rfl, HB8.out⟩
theorem headerBad_walk (vt : Value) (r : RawD) (n : Int) (w : World) (hr : RawOk (fun _ => True) w vt r) (n1 : -9223372036854775808 ≤ n) (n2 : n ≤ 9223372036854775807) (ht : Tabs w) :
    Calls Tryd.prog 10 #[.agg #[.int .i64 r.k, .int .i64 r.a, .int .i64 r.b, .int .i64 r.c, vt], .int .i64 n] w fun e w' => e = .returned (.bool true) ∧ Below w.heap.size w w' := by
  obtain ⟨p1, p2⟩ := pickedZ_range n 5 (by omega)
  have hone : vt.oneCell' = true := by obtain ⟨ad, cap, rfl, _⟩ := hr.2.2.2.2.1.form; rfl
  exact headerBad_case r.k r.a r.b r.c vt n (pickedZ n 5) w hone hr.2.1.1 hr.2.1.2 hr.2.2.1.1 hr.2.2.1.2 hr.2.2.2.1.1 hr.2.2.2.1.2 n1 n2 rfl (by omega)
end Go.Proofs.YtdfnnahhgbhmeaaDoor
