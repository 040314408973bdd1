/- castSum, CastOnce: the walks. -/
import Derived.Test.YtialhdmdeggenaaDoorCastO1
set_option linter.unusedVariables false
set_option linter.unusedSimpArgs false
attribute [local go_sem ↓] Go.wp_at_zero Go.wp_at_succ
namespace Go.Proofs.YtialhdmdeggenaaDoor
open Go Go.RowKit

theorem sumHs_to {l : List RawD} {r : RawD} {n : Int} {k : Nat} (h : min l.length 30 = k) : sumHs l r n = sumTo l r n k := by
  unfold sumHs sumTo
  rw [← h]
  rcases Nat.le_total l.length 30 with q | q
  · rw [Nat.min_eq_left q, List.take_length, List.take_of_length_le q]
  · rw [Nat.min_eq_right q]
set_option maxRecDepth 100000 in
set_option maxHeartbeats 8000000 in
theorem castSum_any (v : Value) (l : List RawD) (vt : Value) (r : RawD) (n : Int) (w : World) (hv : RdS RRaw (fun _ => True) w v l) (hr : RawOk (fun _ => True) w vt r) (n1 : -9223372036854775808 ≤ n) (n2 : n ≤ 9223372036854775807) (ht : Tabs w) :
    Calls Tryd.prog 28 #[v, .agg #[.int .i64 r.k, .int .i64 r.a, .int .i64 r.b, .int .i64 r.c, vt], .int .i64 n] w fun e w' => e = .returned (.bool (oneSumL (sumHs l r n) [])) ∧ Below w.heap.size w w' := by
  have HB := Lib.hid (Below.refl w.heap.size w)
  have HV := Lib.hid (hv)
  have HR := Lib.hid (hr)
  have HT := Lib.hid (ht)
  obtain ⟨adv, capv, rfl, hcv, hcm⟩ := hv.form
  have HS0 := Lib.hid (show sumTo l r n 0 = [hdrR r, (⟨(hdrR r).a, (hdrR r).r, [someL n 200], (hdrR r).ps⟩ : Hdr)] from rfl)
  clear hv hr ht
  go_enter Tryd.func28, Tryd.ntmps28
  go_wp2_with fail
  refine (headerR_any r vt _ (HR.out.keep (Keep.below (by repeat (first | with_reducible exact Below.refl _ _ | with_reducible refine Below.drew ?_ | with_reducible refine Below.setCell ?_ (by first | omega | (simp <;> omega)) _ | with_reducible refine Below.alloc ?_ (by first | omega | (simp <;> omega)) _))) (fun _ h => h))).mono ?_
  rintro e w1 ⟨adb, capb, adp, capp, rfl, hbb, hpp, hb1⟩
  have hB1 : Below w.heap.size w w1 := Below.trans (by repeat (first | with_reducible exact Below.refl _ _ | with_reducible refine Below.drew ?_ | with_reducible refine Below.setCell ?_ (by first | omega | (simp <;> omega)) _ | with_reducible refine Below.alloc ?_ (by first | omega | (simp <;> omega)) _)) (hb1.mono (by first | exact Nat.le_refl _ | (simp; done) | (simp; omega)))
  have z1 := hB1.size
  have BR := Lib.hid (BoxAt.belowS (show BoxAt _ (w.heap.size) [.int .i64 r.k, .int .i64 r.a, .int .i64 r.b, .int .i64 r.c, vt] 24 from (by repeat (first | with_reducible exact BoxAt.newAt _ _ _ (by first | rfl | simp) | with_reducible refine BoxAt.drew ?_ | with_reducible refine BoxAt.alloc ?_ _ | with_reducible refine BoxAt.setOther ?_ (by first | omega | (simp <;> omega)) _))) hb1)
  replace HB := Lib.hid (HB.out.trans (hB1.mono HB.out.size))
  replace HV := Lib.hid (HV.out.below hB1 (fun _ h => h))
  replace HR := Lib.hid (HR.out.keep (Keep.below hB1) (fun _ h => h))
  replace HT := Lib.hid (HT.out.belowS hB1)
  have HBB := Lib.hid (hbb.mono (G' := fun _ => True) (fun _ _ => trivial))
  have HPP := Lib.hid (hpp.mono (G' := fun _ => True) (fun _ _ => trivial))
  clear hb1 hB1 hbb hpp
  clear HR BR
  generalize hdrR r = x at *
  go_upto_region 3 with fail
  go_wp2_with fail
  refine (some_any n 200 _ n1 n2).mono ?_
  rintro e ws ⟨rfl, hso, hbs⟩
  have hba : Below w1.heap.size w1 ((w1.alloc (.cells #[.int .i64 x.a, .int .i64 x.r, .slice adb x.bs.length capb, .slice adp x.ps.length capp] 27)).alloc (.cells #[.int .i64 x.a, .int .i64 x.r, .slice adb x.bs.length capb, .slice adp x.ps.length capp] 27)) := ((Below.refl _ _).alloc (Nat.le_refl _) _).alloc (by simp) _
  have hb0 : Below w1.heap.size w1 ws := hba.trans (hbs.mono (by simp; omega))
  have hbh := ((BoxAt.new w1 [.int .i64 x.a, .int .i64 x.r, .slice adb x.bs.length capb, .slice adp x.ps.length capp] 27).alloc (.cells #[.int .i64 x.a, .int .i64 x.r, .slice adb x.bs.length capb, .slice adp x.ps.length capp] 27)).belowS hbs
  have hbo := (BoxAt.newAt (n := w1.heap.size + 1) (w1.alloc (.cells #[.int .i64 x.a, .int .i64 x.r, .slice adb x.bs.length capb, .slice adp x.ps.length capp] 27)) [.int .i64 x.a, .int .i64 x.r, .slice adb x.bs.length capb, .slice adp x.ps.length capp] 27 (by simp)).belowS hbs
  have k0 := hbh.cell 0 rfl
  have k1 := hbh.cell 1 rfl
  have k2 := hbh.cell 2 rfl
  have k3 := hbh.cell 3 rfl
  have klt := hbh.lt
  have oo0 := hbo.cell 0 rfl
  have oo1 := hbo.cell 1 rfl
  have oo2 := hbo.cell 2 rfl
  have oo3 := hbo.cell 3 rfl
  have of2 := hbo.free 2
  have olt := hbo.lt
  go_upto_region 5 with fail
  obtain ⟨wy, hwy⟩ : ∃ wy, wy = ((ws.setCell ⟨w1.heap.size + 1, 2, none⟩ (.slice (some ⟨ws.heap.size, 0, none⟩) 1 1)).alloc (.cells #[.slice (some ⟨w1.heap.size + 1 + 1, 0, none⟩) 32 32] 39)) := ⟨_, rfl⟩
  have hBy : Below w1.heap.size w1 wy := by rw [hwy]; exact (hb0.setCell (by simp) _).alloc (by have := hb0.size; simpa [World.setCell] using this) _
  have zy : wy.heap.size = ws.heap.size + 1 := by rw [hwy]; simp [World.setCell]
  have HOB := Lib.hid (show RdBB (fun _ => True) wy (.slice (some ⟨ws.heap.size, 0, none⟩) 1 1) [someL n 200] by rw [hwy]; exact rdBB_one (BoxAt.newAt _ [_] _ (by simp [World.setCell])) trivial (RdS.of_box (f := fun c : UInt8 => Value.int .u8 c.toNat) (cap := 32) (l := someL n 200) (T := 5) ((((show BoxAt ws (w1.heap.size + 1 + 1) ((someL n 200).map fun c => Value.int .u8 c.toNat) 5 by simpa using hso).setOther (p := ⟨w1.heap.size + 1, 2, none⟩) (by simp) _)).alloc _) trivial (by rw [someL_length]; omega) (by unfold maxLen; omega)))
  have zs : ws.heap.size ≤ wy.heap.size := by omega
  have e2 : ws.heap.size + 1 = wy.heap.size := zy.symm
  rw [← hwy]
  replace HB := Lib.hid (HB.out.trans (hBy.mono HB.out.size))
  replace HV := Lib.hid (HV.out.below hBy (fun _ h => h))
  replace HT := Lib.hid (HT.out.belowS hBy)
  replace HBB := Lib.hid (HBB.out.below hBy (fun _ h => h))
  replace HPP := Lib.hid (HPP.out.below hBy (fun _ h => h))
  try simp only [e2]
  clear e2 zy
  have HB2 := Lib.hid (HB.out.alloc HB.out.size (.cells #[.int .i64 x.a, .int .i64 x.r, .slice adb x.bs.length capb, .slice adp x.ps.length capp, .int .i64 x.a, .int .i64 x.r, .slice (some ⟨ws.heap.size, 0, none⟩) 1 1, .slice adp x.ps.length capp] 27))
  have hL : LstO RHdr (fun _ => True) wy.heap.size 27 (wy.alloc (.cells #[.int .i64 x.a, .int .i64 x.r, .slice adb x.bs.length capb, .slice adp x.ps.length capp, .int .i64 x.a, .int .i64 x.r, .slice (some ⟨ws.heap.size, 0, none⟩) 1 1, .slice adp x.ps.length capp] 27)) (.slice (some ⟨wy.heap.size, 0, none⟩) (0 + 2) 2) (sumTo l r n 0) := by
    rw [HS0.out]
    refine ⟨[.int .i64 x.a, .int .i64 x.r, .slice adb x.bs.length capb, .slice adp x.ps.length capp, .int .i64 x.a, .int .i64 x.r, .slice (some ⟨ws.heap.size, 0, none⟩) 1 1, .slice adp x.ps.length capp], lit_ownsR wy [.int .i64 x.a, .int .i64 x.r, .slice adb x.bs.length capb, .slice adp x.ps.length capp, .int .i64 x.a, .int .i64 x.r, .slice (some ⟨ws.heap.size, 0, none⟩) 1 1, .slice adp x.ps.length capp] 27 4 2 rfl (by omega), fun j y hy => ?_⟩
    have hk1 : ∀ (v : Value) (d : List Bytes) (G : Nat → Prop), RdBB G wy v d → RdBB (fun b => True ∧ b < (wy.alloc (.cells #[.int .i64 x.a, .int .i64 x.r, .slice adb x.bs.length capb, .slice adp x.ps.length capp, .int .i64 x.a, .int .i64 x.r, .slice (some ⟨ws.heap.size, 0, none⟩) 1 1, .slice adp x.ps.length capp] 27)).heap.size ∧ (Value.slice (some ⟨wy.heap.size, 0, none⟩) (0 + 2) 2).ownBlock ≠ some b) (wy.alloc (.cells #[.int .i64 x.a, .int .i64 x.r, .slice adb x.bs.length capb, .slice adp x.ps.length capp, .int .i64 x.a, .int .i64 x.r, .slice (some ⟨ws.heap.size, 0, none⟩) 1 1, .slice adp x.ps.length capp] 27)) v d := fun v d G h => RdS.keep (h.low (by decide)) (Keep.alloc _ _ _) (fun b hb => by have h2 := hb.2; exact ⟨trivial, by simp; omega, fun e => by simp [Value.ownBlock] at e; omega⟩)
    match j, hy with
    | 0, hy => cases hy; exact ⟨_, _, rfl, hk1 _ _ _ HBB.out, hk1 _ _ _ HPP.out⟩
    | 1, hy => cases hy; exact ⟨_, _, rfl, hk1 _ _ _ HOB.out, hk1 _ _ _ HPP.out⟩
    | j + 2, hy => simp at hy
  have HL0 := Lib.hid hL
  have HT2 := Lib.hid (HT.out.belowS ((Below.refl _ _).alloc (Nat.le_refl _) (.cells #[.int .i64 x.a, .int .i64 x.r, .slice adb x.bs.length capb, .slice adp x.ps.length capp, .int .i64 x.a, .int .i64 x.r, .slice (some ⟨ws.heap.size, 0, none⟩) 1 1, .slice adp x.ps.length capp] 27)))
  clear hL hwy hba hb0 hbh hbo k0 k1 k2 k3 klt oo0 oo1 oo2 oo3 of2 olt hBy hso hbs
  go_wp2_with fail
  go_loopw [9, 10] (fun o i wr => ∃ (k : Nat) (ad : Option Addr) (cap : Nat), k ≤ l.length ∧ k ≤ 30 ∧ i = .int .i64 k ∧ o = .slice ad (k + 2) cap ∧ LstO RHdr (fun _ => True) wy.heap.size 27 wr (.slice ad (k + 2) cap) (sumTo l r n k) ∧ Below w.heap.size w wr ∧ Below wy.heap.size wy wr) (fun _ i _ => 30 - (intOf i).toNat)
  case atStart => exact ⟨0, some ⟨wy.heap.size, 0, none⟩, 2, Nat.zero_le _, by omega, rfl, rfl, HL0.out, HB2.out, (Below.refl _ _).alloc (Nat.le_refl _) _⟩
  case round =>
    obtain ⟨k, ad, cap, hk, hk30, rfl, rfl, hL, hB, hBy⟩ := hrel
    have hz := hB.size
    have HBr := Lib.hid hB
    have HByr := Lib.hid hBy
    by_cases hlt : k < l.length
    · have t1 : (k : Int) < (l.length : Int) := by omega
      by_cases h30 : (k : Int) < 30
      · obtain ⟨vals, hv⟩ := hL.valsOf
        have HLr := Lib.hid hv
        have HKL := Lib.hid (sumTo_len (l := l) (r := r) (n := n) (k := k) hk)
        have HMS := Lib.hid (sumTo_succ (r := r) (n := n) hlt)
        have hvlt := hv.lt
        obtain ⟨b, o, vq, rfl, -, e0, e1, e2, e3, e4, hr⟩ := (HV.out.below hBy (fun _ h => h)).raw k hlt
        have hone := hr.one
        have i0 : (0 : Int) ≤ (k : Int) := by omega
        generalize l[k] = q at *
        have HRW := Lib.hid hr
        clear hv hL hB hBy hr
        go_wp2_with fail
        refine (headerR_any q vq wr HRW.out).mono ?_
        rintro e w2 ⟨adb2, capb2, adp2, capp2, rfl, hbb2, hpp2, hb2⟩
        generalize hdrR q = M at *
        have HB2b := Lib.hid (hbb2.low (by decide))
        have HP2b := Lib.hid (hpp2.low (by decide))
        have HL2 := Lib.hid (HLr.out.below hb2)
        have HB2 := Lib.hid (HBr.out.trans (hb2.mono hz))
        have HBy2 := Lib.hid (HByr.out.trans (hb2.mono HByr.out.size))
        have s2 := hb2.size
        clear hbb2 hpp2 hb2 e0 e1 e2 e3 e4
        have wk : IntKind.i64.wrap ((k : Int) + 1) = (k : Int) + 1 := IntWalk.i64_in _ (by omega)
        go_wp2_with (at_builtin; refine wpList_append_one rfl _ _ 89 rfl elemHdr wy.heap.size _ (k + 2) vals rfl (by have h := ((HL2.out.alloc (.cells #[.int .i64 M.a, .int .i64 M.r, .slice adb2 M.bs.length capb2, .slice adp2 M.ps.length capp2] 27)).alloc (.cells #[.int .i64 M.a, .int .i64 M.r, .slice adb2 M.bs.length capb2, .slice adp2 M.ps.length capp2] 27)).own; rw [HKL.out] at h; exact h) (w2.heap.size + 1) 27 [.int .i64 M.a, .int .i64 M.r, .slice adb2 M.bs.length capb2, .slice adp2 M.ps.length capp2] rfl (BoxAt.newAt _ [_, _, _, _] _ (by simp)) rfl (by simp [Value.oneCell']) (by unfold maxLen; omega) (by omega) (by have := HBy2.out.size; simp; omega) ?_; intro g cap6 w6 hown6 hgr6 hat6 hlt6)
        have hx : RHdr.rd (fun b => True ∧ b < ((w2.alloc (.cells #[.int .i64 M.a, .int .i64 M.r, .slice adb2 M.bs.length capb2, .slice adp2 M.ps.length capp2] 27)).alloc (.cells #[.int .i64 M.a, .int .i64 M.r, .slice adb2 M.bs.length capb2, .slice adp2 M.ps.length capp2] 27)).heap.size ∧ (Value.slice ad (k + 2) cap).ownBlock ≠ some b) ((w2.alloc (.cells #[.int .i64 M.a, .int .i64 M.r, .slice adb2 M.bs.length capb2, .slice adp2 M.ps.length capp2] 27)).alloc (.cells #[.int .i64 M.a, .int .i64 M.r, .slice adb2 M.bs.length capb2, .slice adp2 M.ps.length capp2] 27)) [.int .i64 M.a, .int .i64 M.r, .slice adb2 M.bs.length capb2, .slice adp2 M.ps.length capp2] M :=
          ⟨_, _, rfl, RdS.keep HB2b.out ((Keep.alloc _ _ _).trans (Keep.alloc _ _ _)) (fun b hb => ⟨trivial, by have := hb.2; simp; omega, fun e => by have h1 := hb.1; have := (hvlt _ e).2; omega⟩), RdS.keep HP2b.out ((Keep.alloc _ _ _).trans (Keep.alloc _ _ _)) (fun b hb => ⟨trivial, by have := hb.2; simp; omega, fun e => by have h1 := hb.1; have := (hvlt _ e).2; omega⟩)⟩
        have hP := ((HL2.out.alloc (.cells #[.int .i64 M.a, .int .i64 M.r, .slice adb2 M.bs.length capb2, .slice adp2 M.ps.length capp2] 27)).alloc (.cells #[.int .i64 M.a, .int .i64 M.r, .slice adb2 M.bs.length capb2, .slice adp2 M.ps.length capp2] 27)).push hx (by rw [HKL.out]; exact hown6) hgr6 hat6
        rw [HKL.out, ← HMS.out] at hP
        have HP := Lib.hid hP
        have HB6 := Lib.hid (((HB2.out.alloc HB2.out.size (.cells #[.int .i64 M.a, .int .i64 M.r, .slice adb2 M.bs.length capb2, .slice adp2 M.ps.length capp2] 27)).alloc (by have := HB2.out.size; simp; omega) (.cells #[.int .i64 M.a, .int .i64 M.r, .slice adb2 M.bs.length capb2, .slice adp2 M.ps.length capp2] 27)).grown hgr6 (by have := HB2.out.size; simp; omega) (fun k hk => Nat.le_trans HB.out.size (hvlt _ hk).1))
        clear hP hx hown6
        go_wp2
        go_roundw
        case rel => exact ⟨k + 1, some ⟨g, 0, none⟩, cap6, by omega, by omega, by go_num, by first | rfl | (congr 1; omega), HP.out, HB6.out, (((HBy2.out.alloc HBy2.out.size (.cells #[.int .i64 M.a, .int .i64 M.r, .slice adb2 M.bs.length capb2, .slice adp2 M.ps.length capp2] 27)).alloc (by have := HBy2.out.size; simp; omega) (.cells #[.int .i64 M.a, .int .i64 M.r, .slice adb2 M.bs.length capb2, .slice adp2 M.ps.length capp2] 27)).grown hgr6 (by have := HBy2.out.size; simp; omega) (fun k hk => (hvlt _ hk).1))⟩
        case measure => simp [intOf]; omega
      · have HQ := Lib.hid (sumHs_to (l := l) (r := r) (n := n) (k := k) (by omega))
        have HM := Lib.hid (hL.rd (G' := fun _ => True) (by decide) (fun b h1 h2 => trivial) (fun b h1 h2 => trivial))
        have HTr := Lib.hid (HT.out.belowS hBy)
        clear hL hB hBy
        go_wp2_with fail
        refine (oneSum_any (bs := []) _ _ _ HM.out (RdS.nil RBat (fun _ => True) _) HTr.out).mono ?_
        rintro e w9 ⟨rfl, hb9⟩
        have HB9 := Lib.hid (HBr.out.trans (hb9.mono HBr.out.size))
        rw [← HQ.out]
        clear hb9
        go_wp2
        go_ret
        exact ⟨rfl, HB9.out⟩
    · have t1 : ¬ (k : Int) < (l.length : Int) := by omega
      have HQ := Lib.hid (sumHs_to (l := l) (r := r) (n := n) (k := k) (by omega))
      have HM := Lib.hid (hL.rd (G' := fun _ => True) (by decide) (fun b h1 h2 => trivial) (fun b h1 h2 => trivial))
      have HTr := Lib.hid (HT.out.belowS hBy)
      clear hL hB hBy
      go_wp2_with fail
      refine (oneSum_any (bs := []) _ _ _ HM.out (RdS.nil RBat (fun _ => True) _) HTr.out).mono ?_
      rintro e w9 ⟨rfl, hb9⟩
      have HB9 := Lib.hid (HBr.out.trans (hb9.mono HBr.out.size))
      rw [← HQ.out]
      clear hb9
      go_wp2
      go_ret
      exact ⟨rfl, HB9.out⟩
end Go.Proofs.YtialhdmdeggenaaDoor
