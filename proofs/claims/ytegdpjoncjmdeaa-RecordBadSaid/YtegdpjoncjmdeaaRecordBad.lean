/- RecordBad: the walk. -/
import Derived.Test.YtegdpjoncjmdeaaRawM
import Derived.Test.YtegdpjoncjmdeaaTapeP
set_option linter.unusedVariables false
set_option linter.unusedSimpArgs false
attribute [local go_sem ↓] Go.wp_at_zero Go.wp_at_succ
namespace Go.Proofs.Ytegdpjoncjmdeaa
open Go Go.RowKit

theorem setF_rec {m : Msg} (h : msgCode m = 0) {x : Int} (h0 : 0 < x) (h4 : x < 4) : recCode { m with f := x } = 4 := by
  obtain ⟨h1, h2, h3, h4', h5, h6⟩ := msgCode_iff h
  have hn : nodeOk x = true := by unfold nodeOk; simp; omega
  obtain ⟨f, t, k, b, hh, s, c, r⟩ := m
  have hl : noneM (Msg.less ⟨x, t, k, b, hh, s, c, r⟩) = true := by
    have e : noneM (Msg.less ⟨x, t, k, b, hh, s, c, r⟩) = noneM (Msg.less ⟨f, t, k, b, hh, s, c, r⟩) := by
      unfold Msg.less noneM
      repeat (first | rfl | split)
    rw [e]; exact h6
  have hc : msgCode ⟨x, t, k, b, hh, s, c, r⟩ = 0 := by
    rw [msgCode_part (m := ⟨x, t, k, b, hh, s, c, r⟩) hn h2 h3 h4' hl]; exact h5
  unfold recCode
  rw [if_neg (by simp [hc]), if_pos (.inl (by show x ≠ 0; omega))]
theorem rdM_zeroR (G : Nat → Prop) (w : World) : RdM G w mv0 msg0 := ⟨RdS.nil _ _ _, RdS.nil _ _ _, RdS.nil _ _ _, RdS.nil _ _ _, RdS.nil _ _ _, RdS.nil _ _ _, RdS.nil _ _ _⟩
theorem msgOk_zeroR : MsgOk msg0 := ⟨fun t ht => by simp [msg0, bat0] at ht, by simp [msg0, hdr0], by simp [msg0, crt0, hdr0]⟩
theorem wpList_built {P : Program} {w : World} {ops : Array Oper} {rest : List Oper} {o : Oper} {a : Act} {Q : Exit → Act → World → Prop} (hgd : o.guard = none) (t : TypeId) (parts : Array (Nat × Operand)) (ho : o.op = .build t parts)
    (cells : List Value) (hc : P.built t (parts.map fun (i, x) => (i, a.eval x)).toList = some cells.toArray) (h : wpList P ops Q rest (a.put o.dst (.agg cells.toArray)) w) : wpList P ops Q (o :: rest) a w :=
  wpList_plain hgd fun K hK => wp_build t parts ho (by rw [hc]; rfl) (by rw [hc]; exact hK _ _ h)
set_option maxRecDepth 100000 in
set_option maxHeartbeats 8000000 in
theorem recordBad_walk (vt : Value) (r : RawD) (n : Int) (w : World) (hr : RawOk (fun _ => True) w vt r) (n1 : -9223372036854775808 ≤ n) (n2 : n ≤ 9223372036854775807) :
    Calls Try.prog 5 #[.agg #[.int .i64 r.k, .int .i64 r.a, .int .i64 r.b, .int .i64 r.c, vt], .int .i64 n] w fun e w' => e = .returned (.bool true) ∧ Below w.heap.size w w' := by
  obtain ⟨q1, q2⟩ := pickedZ_range n 3 (by omega)
  obtain ⟨q, hq⟩ : ∃ q : Int, pickedZ n 3 = q := ⟨_, rfl⟩
  rw [hq] at q1 q2
  have HQ := Lib.hid hq
  have HRC := Lib.hid (recM_ok r)
  have h0 := (recCode_iff (recM_ok r)).1
  have HOKM := Lib.hid (msgOk_code h0)
  have hF := setF_rec h0 (x := 1 + q) (by omega) (by omega)
  have HF := Lib.hid hF
  have HFO := Lib.hid (MsgOk.setF (msgOk_code h0) (1 + q))
  clear hq h0 hF
  have HB := Lib.hid (Below.refl w.heap.size w)
  have HR := Lib.hid (hr)
  clear hr
  go_enter Try.func5, Try.ntmps5
  go_wp2_with fail
  refine (record_any r vt _ (HR.out.belowS (by repeat (first | with_reducible exact Below.refl _ _ | with_reducible refine Below.drew ?_ | with_reducible refine Below.setCell ?_ (by first | omega | (simp <;> omega)) _ | with_reducible refine Below.alloc ?_ (by first | omega | (simp <;> omega)) _)))).mono ?_
  rintro e w1 ⟨mv, rfl, hM, hb1⟩
  have hB1 : Below w.heap.size w w1 := Below.trans (by repeat (first | with_reducible exact Below.refl _ _ | with_reducible refine Below.drew ?_ | with_reducible refine Below.setCell ?_ (by first | omega | (simp <;> omega)) _ | with_reducible refine Below.alloc ?_ (by first | omega | (simp <;> omega)) _)) (hb1.mono (by first | exact Nat.le_refl _ | (simp; done) | (simp; omega)))
  have z1 := hB1.size
  replace HB := Lib.hid (HB.out.trans (hB1.mono HB.out.size))
  replace HR := Lib.hid (HR.out.belowS hB1)
  have HM := Lib.hid (hM.low.mono (G' := fun b => b ≠ w1.heap.size) (fun b hb => by have := hb.2; omega))
  clear hb1 hB1 hM
  generalize recM r = R at *
  clear HR
  go_upto_region 2 with (refine wpList_store_new rfl 35 _ _ rfl (msgCells R mv) 35 zeroMsg rfl rfl (by kernel_rfl) rfl (msgCells_one HM.out) ?_; intro w2 hb_w2 hB_w2 hs_w2)
  have z2 : w1.heap.size < w2.heap.size := by omega
  replace HB := Lib.hid (HB.out.trans (hB_w2.mono HB.out.size))
  replace HM := Lib.hid (HM.out.below hB_w2 (fun _ h => h))
  have HX := Lib.hid hb_w2
  clear hb_w2 hB_w2 hs_w2
  go_wp2_with (refine wpList_load_box rfl 35 _ rfl w1.heap.size rfl (msgCells R mv) 35 HX.out Try.underlying35 rfl (by kernel_rfl) ?_)
  refine (tcheck_any R mv _ (HM.out.below (by repeat (first | with_reducible exact Below.refl _ _ | with_reducible refine Below.drew ?_ | with_reducible refine Below.setCell ?_ (by first | omega | (simp <;> omega)) _ | with_reducible refine Below.alloc ?_ (by first | omega | (simp <;> omega)) _)) (fun _ h => h)) HOKM.out).mono ?_
  rw [HRC.out]
  rintro e w3 ⟨rfl, hb3⟩
  have hB3 : Below w2.heap.size w2 w3 := Below.trans (by repeat (first | with_reducible exact Below.refl _ _ | with_reducible refine Below.drew ?_ | with_reducible refine Below.setCell ?_ (by first | omega | (simp <;> omega)) _ | with_reducible refine Below.alloc ?_ (by first | omega | (simp <;> omega)) _)) (hb3.mono (by first | exact Nat.le_refl _ | (simp; done) | (simp; omega)))
  have z3 := hB3.size
  replace HB := Lib.hid (HB.out.trans (hB3.mono HB.out.size))
  replace HM := Lib.hid (HM.out.below hB3 (fun _ h => h))
  replace HX := Lib.hid (HX.out.belowS hB3)
  clear hb3 hB3
  have hx0 : w3.cell? ⟨w1.heap.size, 0, none⟩ = some _ := HX.out.cell 0 rfl
  have hf0 := HX.out.free 0
  have hlt := HX.out.lt
  go_upto_region 5 with (go_at_call 19; refine (picked_any n 3 _ n1 n2 (by omega) (by omega)).mono ?_; rintro e w' ⟨rfl, rfl⟩; rw [HQ.out])
  obtain ⟨w4, hw4⟩ : ∃ w4, w4 = (w3.setCell ⟨w1.heap.size, 0, none⟩ (.int .i64 (1 + q))) := ⟨_, rfl⟩
  have hK4 : Keep (fun b => b ≠ w1.heap.size) w3 w4 := by rw [hw4]; exact (Keep.setCell (p := ⟨w1.heap.size, 0, none⟩) (by simp) _)
  have zza4 : w4.heap.size ≤ w3.heap.size := by rw [hw4]; simp [World.setCell]
  have zzb4 : w3.heap.size ≤ w4.heap.size := by rw [hw4]; simp [World.setCell]
  have hbx4 := (HX.out.set 0 (.int .i64 (1 + q)))
  rw [← hw4] at hbx4
  replace HX := Lib.hid hbx4
  have hq := (HB.out.setCell (p := ⟨w1.heap.size, 0, none⟩) (by first | omega | (simp <;> omega)) (.int .i64 (1 + q)))
  rw [← hw4] at hq
  replace HB := Lib.hid hq
  clear hq
  replace HM := Lib.hid (HM.out.keep hK4 (fun _ h => h))
  rw [← hw4]
  clear hx0 hf0 hlt
  clear hw4 hK4 hbx4
  replace HM := Lib.hid (HM.out.setF (1 + q))
  replace HX := Lib.hid (show BoxAt w4 w1.heap.size (msgCells { R with f := 1 + q } mv) 35 from HX.out)
  generalize hRF : ({ R with f := 1 + q } : Msg) = RF at *
  clear hRF
  go_wp2_with (refine wpList_load_box rfl 35 _ rfl w1.heap.size rfl (msgCells RF mv) 35 HX.out Try.underlying35 rfl (by kernel_rfl) ?_)
  refine (tappend_bad RF mv _ [] 0 _ (HM.out.below (by repeat (first | with_reducible exact Below.refl _ _ | with_reducible refine Below.drew ?_ | with_reducible refine Below.setCell ?_ (by first | omega | (simp <;> omega)) _ | with_reducible refine Below.alloc ?_ (by first | omega | (simp <;> omega)) _)) (fun _ h => h)) (RdS.nil RByte (fun _ => True) _) (by decide) HFO.out (by rw [HF.out]; decide)).mono ?_
  rw [HF.out]
  rintro e w5 ⟨rfl, hb5⟩
  have hB5 : Below w4.heap.size w4 w5 := Below.trans (by repeat (first | with_reducible exact Below.refl _ _ | with_reducible refine Below.drew ?_ | with_reducible refine Below.setCell ?_ (by first | omega | (simp <;> omega)) _ | with_reducible refine Below.alloc ?_ (by first | omega | (simp <;> omega)) _)) (hb5.mono (by first | exact Nat.le_refl _ | (simp; done) | (simp; omega)))
  have z5 := hB5.size
  replace HB := Lib.hid (HB.out.trans (hB5.mono HB.out.size))
  replace HM := Lib.hid (HM.out.below hB5 (fun _ h => h))
  replace HX := Lib.hid (HX.out.belowS hB5)
  clear hb5 hB5
  go_wp2_with (refine wpList_built rfl 35 _ rfl (msgCells ⟨0, 0, 5, bat0, hdr0, slt0, crt0, 1⟩ mv0) (by kernel_rfl) ?_)
  refine (tappend_bad ⟨0, 0, 5, bat0, hdr0, slt0, crt0, 1⟩ mv0 _ [] 0 _ (rdM_want (fun _ => True) _ 0 0 1) (RdS.nil RByte (fun _ => True) _) (by decide) (msgOk_want 0 0 1) (by decide)).mono ?_
  rw [show recCode ⟨0, 0, 5, bat0, hdr0, slt0, crt0, 1⟩ = 4 from rfl]
  rintro e w6 ⟨rfl, hb6⟩
  have hB6 : Below w5.heap.size w5 w6 := Below.trans (by repeat (first | with_reducible exact Below.refl _ _ | with_reducible refine Below.drew ?_ | with_reducible refine Below.setCell ?_ (by first | omega | (simp <;> omega)) _ | with_reducible refine Below.alloc ?_ (by first | omega | (simp <;> omega)) _)) (hb6.mono (by first | exact Nat.le_refl _ | (simp; done) | (simp; omega)))
  have z6 := hB6.size
  replace HB := Lib.hid (HB.out.trans (hB6.mono HB.out.size))
  replace HM := Lib.hid (HM.out.below hB6 (fun _ h => h))
  replace HX := Lib.hid (HX.out.belowS hB6)
  clear hb6 hB6
  go_wp2_with (refine wpList_built rfl 35 _ rfl (msgCells msg0 mv0) (by kernel_rfl) ?_)
  refine (tappend_bad msg0 mv0 _ [] 0 _ (rdM_zeroR (fun _ => True) _) (RdS.nil RByte (fun _ => True) _) (by decide) msgOk_zeroR (by decide)).mono ?_
  rw [show recCode msg0 = 3 from rfl]
  rintro e w7 ⟨rfl, hb7⟩
  have hB7 : Below w6.heap.size w6 w7 := Below.trans (by repeat (first | with_reducible exact Below.refl _ _ | with_reducible refine Below.drew ?_ | with_reducible refine Below.setCell ?_ (by first | omega | (simp <;> omega)) _ | with_reducible refine Below.alloc ?_ (by first | omega | (simp <;> omega)) _)) (hb7.mono (by first | exact Nat.le_refl _ | (simp; done) | (simp; omega)))
  have z7 := hB7.size
  replace HB := Lib.hid (HB.out.trans (hB7.mono HB.out.size))
  replace HM := Lib.hid (HM.out.below hB7 (fun _ h => h))
  replace HX := Lib.hid (HX.out.belowS hB7)
  clear hb7 hB7
  go_wp2_with (refine wpList_load_box rfl 35 _ rfl w1.heap.size rfl (msgCells RF mv) 35 (HX.out.alloc _) Try.underlying35 rfl (by kernel_rfl) ?_)
  refine (tcheck_any RF mv _ (HM.out.below (by repeat (first | with_reducible exact Below.refl _ _ | with_reducible refine Below.drew ?_ | with_reducible refine Below.setCell ?_ (by first | omega | (simp <;> omega)) _ | with_reducible refine Below.alloc ?_ (by first | omega | (simp <;> omega)) _)) (fun _ h => h)) HFO.out).mono ?_
  rw [HF.out]
  rintro e w9 ⟨rfl, hb9⟩
  have hB9 : Below w.heap.size w w9 := HB.out.trans ((Below.trans (by repeat (first | with_reducible exact Below.refl _ _ | with_reducible refine Below.drew ?_ | with_reducible refine Below.setCell ?_ (by first | omega | (simp <;> omega)) _ | with_reducible refine Below.alloc ?_ (by first | omega | (simp <;> omega)) _)) (hb9.mono (by simp))).mono HB.out.size)
  go_wp2
  go_ret
  exact ⟨rfl, hB9⟩
end Go.Proofs.Ytegdpjoncjmdeaa
