/- MessageMore: the walk. -/
import Derived.Test.YtgkmgdkmafbohaaMsgLaw
import Derived.Test.YtgkmgdkmafbohaaGrd
set_option linter.unusedVariables false
set_option linter.unusedSimpArgs false
namespace Go.Proofs.Ytgkmgdkmafbohaa
open Go Go.RowKit

theorem msgCode_zero {m : Msg} (h : msgCode m = 0) : nodeOk m.f = true ∧ nodeOk m.t = true ∧ 1 ≤ m.k ∧ m.k ≤ 5 ∧ msgPart m = 0 := by
  unfold msgCode at h
  split at h
  · simp at h
  · rename_i h1
    split at h
    · simp at h
    · rename_i h2
      split at h
      · rename_i h3; exact absurd h h3
      · rename_i h3
        simp only [not_or, Bool.not_eq_false] at h1
        exact ⟨h1.1, h1.2, by omega, by omega, by simpa using h3⟩
theorem msgCode_four {m : Msg} (h1 : nodeOk m.f = true) (h2 : nodeOk m.t = true) (h3 : 1 ≤ m.k) (h4 : m.k ≤ 5) (h5 : msgPart m = 0) (h6 : noneM m.less = false) : msgCode m = 4 := by
  unfold msgCode
  rw [if_neg (by simp [h1, h2]), if_neg (by omega), if_neg (by simp [h5]), if_neg (by simp [h6])]
theorem more_b {M : Msg} (b : Bat) (h : msgCode M = 0) (hk : ¬ M.k = 1) (hx : 1 ≤ b.n) : msgCode { M with b := b } = 4 := by
  obtain ⟨h1, h2, h3, h4, h5⟩ := msgCode_zero h
  have q : M.k = 2 ∨ M.k = 3 ∨ M.k = 4 ∨ M.k = 5 := by omega
  refine msgCode_four h1 h2 h3 h4 ?_ ?_
  · rw [← h5]
    rcases q with q | q | q | q <;> simp [msgPart, q]
  · have : ¬ b.n = 0 := by omega
    rcases q with q | q | q | q <;> simp [Msg.less, noneM, noHdr, nhB, q, this]
theorem more_h {M : Msg} (b : Hdr) (h : msgCode M = 0) (hk : ¬ M.k = 2) (hx : 1 ≤ b.r) : msgCode { M with h := b } = 4 := by
  obtain ⟨h1, h2, h3, h4, h5⟩ := msgCode_zero h
  have q : M.k = 1 ∨ M.k = 3 ∨ M.k = 4 ∨ M.k = 5 := by omega
  refine msgCode_four h1 h2 h3 h4 ?_ ?_
  · rw [← h5]
    rcases q with q | q | q | q <;> simp [msgPart, q]
  · have : ¬ b.r = 0 := by omega
    rcases q with q | q | q | q <;> simp [Msg.less, noneM, noHdr, nhB, q, this]
theorem more_s {M : Msg} (b : Slt) (h : msgCode M = 0) (hk : ¬ M.k = 3) (hx : 1 ≤ b.r) : msgCode { M with s := b } = 4 := by
  obtain ⟨h1, h2, h3, h4, h5⟩ := msgCode_zero h
  have q : M.k = 1 ∨ M.k = 2 ∨ M.k = 4 ∨ M.k = 5 := by omega
  refine msgCode_four h1 h2 h3 h4 ?_ ?_
  · rw [← h5]
    rcases q with q | q | q | q <;> simp [msgPart, q]
  · have : ¬ b.r = 0 := by omega
    rcases q with q | q | q | q <;> simp [Msg.less, noneM, noHdr, nhB, q, this]
theorem more_c {M : Msg} (b : Crt) (h : msgCode M = 0) (hk : ¬ M.k = 4) (hx : 1 ≤ b.h.r) : msgCode { M with c := b } = 4 := by
  obtain ⟨h1, h2, h3, h4, h5⟩ := msgCode_zero h
  have q : M.k = 1 ∨ M.k = 2 ∨ M.k = 3 ∨ M.k = 5 := by omega
  refine msgCode_four h1 h2 h3 h4 ?_ ?_
  · rw [← h5]
    rcases q with q | q | q | q <;> simp [msgPart, q]
  · have : ¬ b.h.r = 0 := by omega
    rcases q with q | q | q | q <;> simp [Msg.less, noneM, noHdr, nhB, q, this]
theorem more_r {M : Msg} (b : Int) (h : msgCode M = 0) (hk : ¬ M.k = 5) (hx : 1 ≤ b) : msgCode { M with r := b } = 4 := by
  obtain ⟨h1, h2, h3, h4, h5⟩ := msgCode_zero h
  have q : M.k = 1 ∨ M.k = 2 ∨ M.k = 3 ∨ M.k = 4 := by omega
  refine msgCode_four h1 h2 h3 h4 ?_ ?_
  · rw [← h5]
    rcases q with q | q | q | q <;> simp [msgPart, q]
  · have : ¬ b = 0 := by omega
    rcases q with q | q | q | q <;> simp [Msg.less, noneM, q, this]
theorem MsgOk.setB {m x : Msg} (h : MsgOk m) (h' : MsgOk x) : MsgOk { m with b := x.b } := ⟨h'.tx, h.h, h.c⟩
theorem MsgOk.setH {m x : Msg} (h : MsgOk m) (h' : MsgOk x) : MsgOk { m with h := x.h } := ⟨h.tx, h'.h, h.c⟩
theorem MsgOk.setS {m x : Msg} (h : MsgOk m) (h' : MsgOk x) : MsgOk { m with s := x.s } := ⟨h.tx, h.h, h.c⟩
theorem MsgOk.setC {m x : Msg} (h : MsgOk m) (h' : MsgOk x) : MsgOk { m with c := x.c } := ⟨h.tx, h.h, h'.c⟩
theorem MsgOk.setR {m x : Msg} (h : MsgOk m) (h' : MsgOk x) : MsgOk { m with r := x.r } := ⟨h.tx, h.h, h.c⟩
theorem MsgOk.setK {m : Msg} (h : MsgOk m) (x : Int) : MsgOk { m with k := x } := ⟨h.tx, h.h, h.c⟩
theorem RdM.setK {G : Nat → Prop} {w : World} {v : MV} {m : Msg} (h : RdM G w v m) (x : Int) : RdM G w v { m with k := x } := ⟨h.tx, h.bs, h.ps, h.d, h.cbs, h.cps, h.vs⟩
theorem pickedZ_small {k m : Int} (h0 : 0 ≤ k) (h1 : k < m) : pickedZ k m = k := by
  unfold pickedZ
  first
    | (rw [if_neg (by omega)]; exact Int.emod_eq_of_lt h0 h1)
    | (rw [if_neg (by omega)]; rw [Int.tmod_eq_emod_of_nonneg h0]; exact Int.emod_eq_of_lt h0 h1)
    | (simp; omega)
/-- What another kind's message carries. -/
theorem msgOf_part (A B C : Int) (k : Int) (h0 : 0 ≤ k) (h1 : k < 5) :
    (k = 0 → 1 ≤ (msgOf k A B C []).b.n) ∧ (k = 1 → 1 ≤ (msgOf k A B C []).h.r) ∧ (k = 2 → 1 ≤ (msgOf k A B C []).s.r) ∧ (k = 3 → 1 ≤ (msgOf k A B C []).c.h.r) ∧ (k = 4 → 1 ≤ (msgOf k A B C []).r) := by
  have hp := pickedZ_small h0 h1
  obtain ⟨x1, x2⟩ := pickedZ_range B 9 (by omega)
  obtain ⟨g, h⟩ | ⟨g, h⟩ | ⟨g, h⟩ | ⟨g, h⟩ | ⟨g, h⟩ := msgOf_cases k A B C [] <;> rw [h] <;> rw [hp] at g
  · exact ⟨fun _ => (batOf_nums A B []).1, fun e => by omega, fun e => by omega, fun e => by omega, fun e => by omega⟩
  · exact ⟨fun e => by omega, fun _ => by show 1 ≤ 1 + pickedZ B 9; omega, fun e => by omega, fun e => by omega, fun e => by omega⟩
  · exact ⟨fun e => by omega, fun e => by omega, fun _ => by show 1 ≤ 1 + pickedZ B 9; omega, fun e => by omega, fun e => by omega⟩
  · exact ⟨fun e => by omega, fun e => by omega, fun e => by omega, fun _ => by show 1 ≤ 1 + pickedZ B 9; omega, fun e => by omega⟩
  · exact ⟨fun e => by omega, fun e => by omega, fun e => by omega, fun e => by omega, fun _ => by show 1 ≤ 1 + pickedZ B 9; omega⟩
theorem wpList_load_boxG {P : Program} {w : World} {ops : Array Oper} {rest : List Oper} {o : Oper} {a : Act} {Q : Exit → Act → World → Prop} (hw : Region.wanted o (yielded ops a.tmps) = true) (ty : TypeId) (x : Operand) (ho : o.op = .load ty x)
    (b : Nat) (hx : a.eval x = .pointer (some ⟨b, 0, none⟩)) (cs : List Value) (T : TypeId) (hb : BoxAt w b cs T) {d : TypeDesc}
    (hu : P.underlying ty = some d) (hd : (match d with | .struct _ | .array _ _ => true | _ => false) = true) (hi : (P.info? ty).map (·.size) = some cs.toArray.size)
    (h : wpList P ops Q rest (a.put o.dst (.agg cs.toArray)) w) : wpList P ops Q (o :: rest) a w :=
  wpList_wanted hw fun K hK => wp_load_row ty x ho b hx T cs.toArray (0, 0) d hb hu hd hi (hK _ _ h)
set_option maxRecDepth 100000 in
set_option maxHeartbeats 8000000 in
theorem messageMore_case {Gx : Nat → Prop} (K A B C : Int) (vt : Value) (l : List Bytes) (n : Int) (w : World) (k1 : -9223372036854775808 ≤ K) (k2 : K ≤ 9223372036854775807) (a1 : -9223372036854775808 ≤ A) (a2 : A ≤ 9223372036854775807) (b1 : -9223372036854775808 ≤ B) (b2 : B ≤ 9223372036854775807) (c1 : -9223372036854775808 ≤ C) (c2 : C ≤ 9223372036854775807)
    (hr : RdT Gx w vt l) (hs : ∀ t ∈ l, t.length ≤ 9223372036854775807) (n1 : -9223372036854775808 ≤ n) (n2 : n ≤ 9223372036854775807) :
    Calls Try.prog 4 #[.agg #[.int .i64 K, .int .i64 A, .int .i64 B, .int .i64 C, vt], .int .i64 n] w fun e w' => e = .returned (.bool true) ∧ Below w.heap.size w w' := by
  obtain ⟨p1, p2⟩ := pickedZ_range n 5 (by omega)
  have hpart := msgOf_part A B C (pickedZ n 5) p1 p2
  have hMsg := fun (q : World) (hq : Below w.heap.size w q) => message_any (Gx := fun b => Gx b) K A B C vt l q k1 k2 a1 a2 b1 b2 c1 c2 (hr.below hq (fun _ h => h)) hs
  have hMsgX := fun (q : World) => message_any (Gx := fun _ => True) (pickedZ n 5) A B C (.slice none 0 0) [] q (by omega) (by omega) a1 a2 b1 b2 c1 c2 (RdS.nil _ _ _) (fun t ht => by simp at ht)
  have hcode := msgOf_code K A B C l
  have hok := msgOf_size K A B C l
  have hokX := msgOf_size (pickedZ n 5) A B C []
  have hone : vt.oneCell' = true := by obtain ⟨ad, cap, rfl, _⟩ := hr.form; rfl
  generalize msgOf K A B C l = M at *
  generalize msgOf (pickedZ n 5) A B C [] = X at *
  have HMSG := Lib.hid hMsg
  have HMSGX := Lib.hid hMsgX
  have HCODE := Lib.hid hcode
  have HOK := Lib.hid hok
  have HOKX := Lib.hid hokX
  generalize hp : pickedZ n 5 = p at *
  have HP := Lib.hid hp
  have HPART := Lib.hid hpart
  clear hMsg hMsgX hcode hok hokX hp hr hs hpart
  have e1 : IntKind.i64.wrap (1 + p) = 1 + p := IntWalk.i64_in _ (by omega)
  have e2 : IntKind.i64.wrap (1 + p - 1) = p := by rw [show 1 + p - 1 = p by omega]; exact IntWalk.i64_in _ (by omega)
  go_enter Try.func4, Try.ntmps4
  go_wp2_with fail
  refine (HMSG.out _ ((Below.refl _ _).alloc (Nat.le_refl _) _)).mono ?_
  rintro e w2 ⟨mv, rfl, hM, hb2⟩
  have HM := Lib.hid (hM.low)
  have HB2 := Lib.hid (((Below.refl w.heap.size w).alloc (Nat.le_refl _) (.cells #[.int .i64 K, .int .i64 A, .int .i64 B, .int .i64 C, vt] 24)).trans (hb2.mono (by simp)))
  have HR2 := Lib.hid ((BoxAt.new w [.int .i64 K, .int .i64 A, .int .i64 B, .int .i64 C, vt] 24).belowS hb2)
  have zr : w.heap.size < w2.heap.size := HR2.out.lt
  clear hM hb2
  go_upto_region 2 with (refine wpList_store_new rfl 42 _ _ rfl (msgCells M mv) 42 zeroMsg rfl rfl (by kernel_rfl) rfl (msgCells_one HM.out) ?_; intro w3 hb3 hB3 hs3; have HB3 := Lib.hid (HB2.out.trans (hB3.mono HB2.out.size)); have HBX := Lib.hid hb3; have HM3 := Lib.hid (HM.out.keep (G' := fun b => b < w2.heap.size) (Keep.below hB3) (fun _ h => h.2)); have HR3 := Lib.hid (HR2.out.belowS hB3); have z3 := hB3.size; clear hb3 hB3)
  have q2 : w3.cell? ⟨w2.heap.size, 2, none⟩ = some (.int .i64 M.k) := HBX.out.cell 2 rfl
  have f2 := HBX.out.free 2
  have r1 := HR3.out.cell 1 rfl
  have r2 := HR3.out.cell 2 rfl
  have r3 := HR3.out.cell 3 rfl
  have zx : w2.heap.size < w3.heap.size := HBX.out.lt
  by_cases hk : 1 + p = M.k
  · have hne : ((1 + p) != M.k) = false := by simp [hk]
    have r0 := HR3.out.cell 0 rfl
    have r4 := HR3.out.cell 4 rfl
    have HK := Lib.hid hk
    clear hk
    have HBX6 := Lib.hid (show BoxAt (w3.setCell ⟨w2.heap.size, 2, none⟩ (.int .i64 6)) w2.heap.size (msgCells { M with k := 6 } mv) 42 from HBX.out.set 2 (.int .i64 6))
    have HM6 := Lib.hid ((HM3.out.keep (G' := fun b => b < w2.heap.size) (Keep.setCell (p := ⟨w2.heap.size, 2, none⟩) (by simp) (.int .i64 6)) (fun _ h => h)).setK 6)
    have HB6 := Lib.hid (HB3.out.setCell (p := ⟨w2.heap.size, 2, none⟩) (by simp; omega) (.int .i64 6))
    have zz : ∀ q : World, w2.heap.size ≠ w.heap.size := fun _ => by omega
    have zz' : w2.heap.size ≠ w.heap.size := by omega
    go_wp2_with (go_at_call 15; refine (picked_any _ _ _ n1 n2 (by omega) (by omega)).mono ?_; rintro e w' ⟨rfl, rfl⟩; rw [HP.out])
    refine (HMSG.out _ HB6.out).mono ?_
    rintro e w7 ⟨nv, rfl, hN, hb7⟩
    have HN := Lib.hid (hN.low)
    have HB7 := Lib.hid (HB6.out.trans (hb7.mono HB6.out.size))
    have HBX7 := Lib.hid (HBX6.out.belowS hb7)
    have HM7 := Lib.hid (HM6.out.below hb7 (fun _ h => h))
    have z7 := hb7.size
    clear hN hb7
    go_upto_region 19 with (refine wpList_store_new rfl 42 _ _ rfl (msgCells M nv) 42 zeroMsg rfl rfl (by kernel_rfl) rfl (msgCells_one HN.out) ?_; intro w8 hb8 hB8 hs8; have HB8 := Lib.hid (HB7.out.trans (hB8.mono HB7.out.size)); have HBY8 := Lib.hid hb8; have HBX8 := Lib.hid (HBX7.out.belowS hB8); have HM8 := Lib.hid (HM7.out.below hB8 (fun _ h => h)); have HN8 := Lib.hid (HN.out.keep (G' := fun b => b < w7.heap.size) (Keep.below hB8) (fun _ h => h.2)); have z8 := hB8.size; clear hb8 hB8)
    have g0 := HBY8.out.cell 0 rfl
    have h0 := HBY8.out.free 0
    have hl7 : w2.heap.size < w7.heap.size := HBX7.out.lt
    have hn7 : w7.heap.size ≠ w2.heap.size := by omega
    have hn7' : w2.heap.size ≠ w7.heap.size := fun e => hn7 e.symm
    have HBY9 := Lib.hid (show BoxAt (w8.setCell ⟨w7.heap.size, 0, none⟩ (.int .i64 4)) w7.heap.size (msgCells { M with f := 4 } nv) 42 from HBY8.out.set 0 (.int .i64 4))
    have HBX9 := Lib.hid (HBX8.out.setOther (p := ⟨w7.heap.size, 0, none⟩) hn7' (.int .i64 4))
    have HN9 := Lib.hid ((HN8.out.keep (G' := fun b => b < w7.heap.size) (Keep.setCell (p := ⟨w7.heap.size, 0, none⟩) (by simp) (.int .i64 4)) (fun _ h => h)).setF 4)
    have HM9 := Lib.hid (HM8.out.keep (G' := fun b => b < w2.heap.size) (Keep.setCell (p := ⟨w7.heap.size, 0, none⟩) (by simp; omega) (.int .i64 4)) (fun _ h => h))
    have HB9 := Lib.hid (HB8.out.setCell (p := ⟨w7.heap.size, 0, none⟩) (by have := HB7.out.size; simp; omega) (.int .i64 4))
    have HC6 := Lib.hid (show msgCode { M with k := 6 } = 3 by
      obtain ⟨h1, h2, -, -, -⟩ := msgCode_zero HCODE.out
      unfold msgCode
      rw [if_neg (by simp [h1, h2]), if_pos (by right; show (5 : Int) < 6; decide)])
    have HC4 := Lib.hid (msgCode_from { M with f := 4 } (by show nodeOk 4 = false; decide))
    clear HM8 HN8 HBX8 HBY8 HB8 HBX7 HM7 HB7 HBX6 HM6 HB6
    go_wp2_with (refine wpList_load_box rfl 42 _ rfl w2.heap.size rfl (msgCells { M with k := 6 } mv) 42 HBX9.out Try.underlying42 rfl (by kernel_rfl) ?_)
    refine (wcheck_any { M with k := 6 } mv _ HM9.out (HOK.out.setK 6)).mono ?_
    rintro e w10 ⟨rfl, hb10⟩
    rw [HC6.out]
    have HBY10 := Lib.hid (HBY9.out.belowS hb10)
    have HN10 := Lib.hid (HN9.out.below hb10 (fun _ h => h))
    have HB10 := Lib.hid (HB9.out.trans (hb10.mono HB9.out.size))
    clear hb10 HBY9 HN9
    go_wp2_with (refine wpList_load_boxG (by rfl) 42 _ rfl w7.heap.size rfl (msgCells { M with f := 4 } nv) 42 HBY10.out Try.underlying42 rfl (by kernel_rfl) ?_)
    refine (wcheck_any { M with f := 4 } nv _ HN10.out (HOK.out.setF 4)).mono ?_
    rintro e w11 ⟨rfl, hb11⟩
    rw [HC4.out]
    have HB11 := Lib.hid (HB10.out.trans (hb11.mono HB10.out.size))
    clear hb11
    go_wp2
    go_ret
    exact ⟨rfl, HB11.out⟩
  · have hne : ((1 + p) != M.k) = true := by simp [hk]
    have HK := Lib.hid hk
    clear hk
    go_wp2_with (go_at_call 15; refine (picked_any _ _ _ n1 n2 (by omega) (by omega)).mono ?_; rintro e w' ⟨rfl, rfl⟩; rw [HP.out])
    refine (HMSGX.out _).mono ?_
    rintro e w4 ⟨⟨x1, x2, x3, x4, x5, x6, x7⟩, rfl, hX, hb4⟩
    obtain ⟨xa1, xc1, rfl, -, -⟩ := hX.tx.form
    obtain ⟨xa2, xc2, rfl, -, -⟩ := hX.bs.form
    obtain ⟨xa3, xc3, rfl, -, -⟩ := hX.ps.form
    obtain ⟨xa4, xc4, rfl, -, -⟩ := hX.d.form
    obtain ⟨xa5, xc5, rfl, -, -⟩ := hX.cbs.form
    obtain ⟨xa6, xc6, rfl, -, -⟩ := hX.cps.form
    obtain ⟨xa7, xc7, rfl, -, -⟩ := hX.vs.form
    have HXX := Lib.hid (hX.low)
    have HB4 := Lib.hid (HB3.out.trans (hb4.mono HB3.out.size))
    have HBX4 := Lib.hid (HBX.out.belowS hb4)
    have HM4 := Lib.hid (HM3.out.below hb4 (fun _ h => h))
    have z4 := hb4.size
    clear hX hb4 q2 f2 r1 r2 r3 HBX HM3
    go_upto_region 5 with (refine wpList_store_new rfl 42 _ _ rfl (msgCells X ⟨.slice xa1 X.b.txs.length xc1, .slice xa2 X.h.bs.length xc2, .slice xa3 X.h.ps.length xc3, .slice xa4 X.s.d.length xc4, .slice xa5 X.c.h.bs.length xc5, .slice xa6 X.c.h.ps.length xc6, .slice xa7 X.c.vs.length xc7⟩) 42 zeroMsg rfl rfl (by kernel_rfl) rfl (msgCells_one HXX.out) ?_; intro w5 hb5 hB5 hs5; have HB5 := Lib.hid (HB4.out.trans (hB5.mono HB4.out.size)); have HBY := Lib.hid hb5; have HBX5 := Lib.hid (HBX4.out.belowS hB5); have HM5 := Lib.hid (HM4.out.below hB5 (fun _ h => h)); have HX5 := Lib.hid (HXX.out.keep (G' := fun b => w3.heap.size ≤ b) (Keep.below hB5) (fun _ h => h.1)); have z5 := hB5.size; clear hb5 hB5)
    have zy : w4.heap.size < w5.heap.size := HBY.out.lt
    have nXY : w2.heap.size ≠ w4.heap.size := by omega
    have zw : w.heap.size ≤ w2.heap.size := HB2.out.size
    have hp5 : p = 0 ∨ p = 1 ∨ p = 2 ∨ p = 3 ∨ p = 4 := by omega
    clear HB4 HBX4 HM4 HXX
    obtain rfl | rfl | rfl | rfl | rfl := hp5
    · have hcode4 : msgCode { M with b := X.b } = 4 := more_b X.b HCODE.out (by have := HK.out; omega) (HPART.out.1 rfl)
      have HC := Lib.hid hcode4
      clear hcode4
      have u3 : w5.cell? ⟨w4.heap.size, 3, none⟩ = some (.int .i64 X.b.a) := HBY.out.cell 3 rfl
      have v3 := HBX5.out.cell 3 rfl
      have f3 := HBX5.out.free 3
      have u4 : w5.cell? ⟨w4.heap.size, 4, none⟩ = some (.int .i64 X.b.n) := HBY.out.cell 4 rfl
      have v4 := HBX5.out.cell 4 rfl
      have f4 := HBX5.out.free 4
      have u5 : w5.cell? ⟨w4.heap.size, 5, none⟩ = some (.slice xa1 X.b.txs.length xc1) := HBY.out.cell 5 rfl
      have v5 := HBX5.out.cell 5 rfl
      have f5 := HBX5.out.free 5
      obtain ⟨w6, hw6⟩ : ∃ w6, w6 = (((w5.setCell ⟨w2.heap.size, 3, none⟩ (.int .i64 X.b.a)).setCell ⟨w2.heap.size, 4, none⟩ (.int .i64 X.b.n)).setCell ⟨w2.heap.size, 5, none⟩ (.slice xa1 X.b.txs.length xc1)) := ⟨_, rfl⟩
      have HBX6 := Lib.hid (show BoxAt w6 w2.heap.size (msgCells { M with b := X.b } { mv with tx := .slice xa1 X.b.txs.length xc1 }) 42 by rw [hw6]; exact (((HBX5.out.set 3 (.int .i64 X.b.a)).set 4 (.int .i64 X.b.n)).set 5 (.slice xa1 X.b.txs.length xc1)))
      have HM6 := Lib.hid (show RdM (fun b => b ≠ w2.heap.size) w6 mv M by rw [hw6]; exact HM5.out.keep (G' := fun b => b ≠ w2.heap.size) (Keep.setCell' (Keep.setCell' (Keep.setCell (p := ⟨w2.heap.size, 3, none⟩) (by simp; try omega) (.int .i64 X.b.a)) (p := ⟨w2.heap.size, 4, none⟩) (by simp; try omega) (.int .i64 X.b.n)) (p := ⟨w2.heap.size, 5, none⟩) (by simp; try omega) (.slice xa1 X.b.txs.length xc1)) (fun _ h => by omega))
      have HX6 := Lib.hid (show RdM (fun b => b ≠ w2.heap.size) w6 _ X by rw [hw6]; exact HX5.out.keep (G' := fun b => b ≠ w2.heap.size) (Keep.setCell' (Keep.setCell' (Keep.setCell (p := ⟨w2.heap.size, 3, none⟩) (by simp; try omega) (.int .i64 X.b.a)) (p := ⟨w2.heap.size, 4, none⟩) (by simp; try omega) (.int .i64 X.b.n)) (p := ⟨w2.heap.size, 5, none⟩) (by simp; try omega) (.slice xa1 X.b.txs.length xc1)) (fun _ h => by omega))
      have HB6 := Lib.hid (show Below w.heap.size w w6 by rw [hw6]; exact (((HB5.out.setCell (p := ⟨w2.heap.size, 3, none⟩) (by simp; omega) (.int .i64 X.b.a)).setCell (p := ⟨w2.heap.size, 4, none⟩) (by simp; omega) (.int .i64 X.b.n)).setCell (p := ⟨w2.heap.size, 5, none⟩) (by simp; omega) (.slice xa1 X.b.txs.length xc1)))
      have HRD := Lib.hid (show RdM (fun b => b ≠ w2.heap.size) w6 { mv with tx := .slice xa1 X.b.txs.length xc1 } { M with b := X.b } from ⟨HX6.out.tx, HM6.out.bs, HM6.out.ps, HM6.out.d, HM6.out.cbs, HM6.out.cps, HM6.out.vs⟩)
      clear HBX5 HM5 HX5 HB5 HBY HM6 HX6
      go_upto_region 15 with fail
      rw [← hw6]
      clear hw6 u3 v3 f3 u4 v4 f4 u5 v5 f5
      go_wp2_with (refine wpList_load_box rfl 42 _ rfl w2.heap.size rfl (msgCells { M with b := X.b } { mv with tx := .slice xa1 X.b.txs.length xc1 }) 42 HBX6.out Try.underlying42 rfl (by kernel_rfl) ?_)
      refine (wencode_no { M with b := X.b } { mv with tx := .slice xa1 X.b.txs.length xc1 } _ HRD.out (HOK.out.setB HOKX.out) HC.out (by decide)).mono ?_
      rintro e w7 ⟨rfl, hb7⟩
      have HBX7 := Lib.hid (HBX6.out.belowS hb7)
      have HRD7 := Lib.hid (HRD.out.below hb7 (fun _ h => h))
      have HB7 := Lib.hid (HB6.out.trans (hb7.mono HB6.out.size))
      clear hb7
      go_wp2_with (refine wpList_load_box rfl 42 _ rfl w2.heap.size rfl (msgCells { M with b := X.b } { mv with tx := .slice xa1 X.b.txs.length xc1 }) 42 HBX7.out Try.underlying42 rfl (by kernel_rfl) ?_)
      refine (wcheck_any { M with b := X.b } { mv with tx := .slice xa1 X.b.txs.length xc1 } w7 HRD7.out (HOK.out.setB HOKX.out)).mono ?_
      rintro e w8 ⟨rfl, hb8⟩
      rw [HC.out]
      have HB8 := Lib.hid (HB7.out.trans (hb8.mono HB7.out.size))
      clear hb8
      go_wp2
      go_ret
      exact ⟨rfl, HB8.out⟩
    · have hcode4 : msgCode { M with h := X.h } = 4 := more_h X.h HCODE.out (by have := HK.out; omega) (HPART.out.2.1 rfl)
      have HC := Lib.hid hcode4
      clear hcode4
      have u6 : w5.cell? ⟨w4.heap.size, 6, none⟩ = some (.int .i64 X.h.a) := HBY.out.cell 6 rfl
      have v6 := HBX5.out.cell 6 rfl
      have f6 := HBX5.out.free 6
      have u7 : w5.cell? ⟨w4.heap.size, 7, none⟩ = some (.int .i64 X.h.r) := HBY.out.cell 7 rfl
      have v7 := HBX5.out.cell 7 rfl
      have f7 := HBX5.out.free 7
      have u8 : w5.cell? ⟨w4.heap.size, 8, none⟩ = some (.slice xa2 X.h.bs.length xc2) := HBY.out.cell 8 rfl
      have v8 := HBX5.out.cell 8 rfl
      have f8 := HBX5.out.free 8
      have u9 : w5.cell? ⟨w4.heap.size, 9, none⟩ = some (.slice xa3 X.h.ps.length xc3) := HBY.out.cell 9 rfl
      have v9 := HBX5.out.cell 9 rfl
      have f9 := HBX5.out.free 9
      obtain ⟨w6, hw6⟩ : ∃ w6, w6 = ((((w5.setCell ⟨w2.heap.size, 6, none⟩ (.int .i64 X.h.a)).setCell ⟨w2.heap.size, 7, none⟩ (.int .i64 X.h.r)).setCell ⟨w2.heap.size, 8, none⟩ (.slice xa2 X.h.bs.length xc2)).setCell ⟨w2.heap.size, 9, none⟩ (.slice xa3 X.h.ps.length xc3)) := ⟨_, rfl⟩
      have HBX6 := Lib.hid (show BoxAt w6 w2.heap.size (msgCells { M with h := X.h } { mv with bs := .slice xa2 X.h.bs.length xc2, ps := .slice xa3 X.h.ps.length xc3 }) 42 by rw [hw6]; exact ((((HBX5.out.set 6 (.int .i64 X.h.a)).set 7 (.int .i64 X.h.r)).set 8 (.slice xa2 X.h.bs.length xc2)).set 9 (.slice xa3 X.h.ps.length xc3)))
      have HM6 := Lib.hid (show RdM (fun b => b ≠ w2.heap.size) w6 mv M by rw [hw6]; exact HM5.out.keep (G' := fun b => b ≠ w2.heap.size) (Keep.setCell' (Keep.setCell' (Keep.setCell' (Keep.setCell (p := ⟨w2.heap.size, 6, none⟩) (by simp; try omega) (.int .i64 X.h.a)) (p := ⟨w2.heap.size, 7, none⟩) (by simp; try omega) (.int .i64 X.h.r)) (p := ⟨w2.heap.size, 8, none⟩) (by simp; try omega) (.slice xa2 X.h.bs.length xc2)) (p := ⟨w2.heap.size, 9, none⟩) (by simp; try omega) (.slice xa3 X.h.ps.length xc3)) (fun _ h => by omega))
      have HX6 := Lib.hid (show RdM (fun b => b ≠ w2.heap.size) w6 _ X by rw [hw6]; exact HX5.out.keep (G' := fun b => b ≠ w2.heap.size) (Keep.setCell' (Keep.setCell' (Keep.setCell' (Keep.setCell (p := ⟨w2.heap.size, 6, none⟩) (by simp; try omega) (.int .i64 X.h.a)) (p := ⟨w2.heap.size, 7, none⟩) (by simp; try omega) (.int .i64 X.h.r)) (p := ⟨w2.heap.size, 8, none⟩) (by simp; try omega) (.slice xa2 X.h.bs.length xc2)) (p := ⟨w2.heap.size, 9, none⟩) (by simp; try omega) (.slice xa3 X.h.ps.length xc3)) (fun _ h => by omega))
      have HB6 := Lib.hid (show Below w.heap.size w w6 by rw [hw6]; exact ((((HB5.out.setCell (p := ⟨w2.heap.size, 6, none⟩) (by simp; omega) (.int .i64 X.h.a)).setCell (p := ⟨w2.heap.size, 7, none⟩) (by simp; omega) (.int .i64 X.h.r)).setCell (p := ⟨w2.heap.size, 8, none⟩) (by simp; omega) (.slice xa2 X.h.bs.length xc2)).setCell (p := ⟨w2.heap.size, 9, none⟩) (by simp; omega) (.slice xa3 X.h.ps.length xc3)))
      have HRD := Lib.hid (show RdM (fun b => b ≠ w2.heap.size) w6 { mv with bs := .slice xa2 X.h.bs.length xc2, ps := .slice xa3 X.h.ps.length xc3 } { M with h := X.h } from ⟨HM6.out.tx, HX6.out.bs, HX6.out.ps, HM6.out.d, HM6.out.cbs, HM6.out.cps, HM6.out.vs⟩)
      clear HBX5 HM5 HX5 HB5 HBY HM6 HX6
      go_upto_region 15 with fail
      rw [← hw6]
      clear hw6 u6 v6 f6 u7 v7 f7 u8 v8 f8 u9 v9 f9
      go_wp2_with (refine wpList_load_box rfl 42 _ rfl w2.heap.size rfl (msgCells { M with h := X.h } { mv with bs := .slice xa2 X.h.bs.length xc2, ps := .slice xa3 X.h.ps.length xc3 }) 42 HBX6.out Try.underlying42 rfl (by kernel_rfl) ?_)
      refine (wencode_no { M with h := X.h } { mv with bs := .slice xa2 X.h.bs.length xc2, ps := .slice xa3 X.h.ps.length xc3 } _ HRD.out (HOK.out.setH HOKX.out) HC.out (by decide)).mono ?_
      rintro e w7 ⟨rfl, hb7⟩
      have HBX7 := Lib.hid (HBX6.out.belowS hb7)
      have HRD7 := Lib.hid (HRD.out.below hb7 (fun _ h => h))
      have HB7 := Lib.hid (HB6.out.trans (hb7.mono HB6.out.size))
      clear hb7
      go_wp2_with (refine wpList_load_box rfl 42 _ rfl w2.heap.size rfl (msgCells { M with h := X.h } { mv with bs := .slice xa2 X.h.bs.length xc2, ps := .slice xa3 X.h.ps.length xc3 }) 42 HBX7.out Try.underlying42 rfl (by kernel_rfl) ?_)
      refine (wcheck_any { M with h := X.h } { mv with bs := .slice xa2 X.h.bs.length xc2, ps := .slice xa3 X.h.ps.length xc3 } w7 HRD7.out (HOK.out.setH HOKX.out)).mono ?_
      rintro e w8 ⟨rfl, hb8⟩
      rw [HC.out]
      have HB8 := Lib.hid (HB7.out.trans (hb8.mono HB7.out.size))
      clear hb8
      go_wp2
      go_ret
      exact ⟨rfl, HB8.out⟩
    · have hcode4 : msgCode { M with s := X.s } = 4 := more_s X.s HCODE.out (by have := HK.out; omega) (HPART.out.2.2.1 rfl)
      have HC := Lib.hid hcode4
      clear hcode4
      have u10 : w5.cell? ⟨w4.heap.size, 10, none⟩ = some (.int .i64 X.s.a) := HBY.out.cell 10 rfl
      have v10 := HBX5.out.cell 10 rfl
      have f10 := HBX5.out.free 10
      have u11 : w5.cell? ⟨w4.heap.size, 11, none⟩ = some (.int .i64 X.s.r) := HBY.out.cell 11 rfl
      have v11 := HBX5.out.cell 11 rfl
      have f11 := HBX5.out.free 11
      have u12 : w5.cell? ⟨w4.heap.size, 12, none⟩ = some (.slice xa4 X.s.d.length xc4) := HBY.out.cell 12 rfl
      have v12 := HBX5.out.cell 12 rfl
      have f12 := HBX5.out.free 12
      obtain ⟨w6, hw6⟩ : ∃ w6, w6 = (((w5.setCell ⟨w2.heap.size, 10, none⟩ (.int .i64 X.s.a)).setCell ⟨w2.heap.size, 11, none⟩ (.int .i64 X.s.r)).setCell ⟨w2.heap.size, 12, none⟩ (.slice xa4 X.s.d.length xc4)) := ⟨_, rfl⟩
      have HBX6 := Lib.hid (show BoxAt w6 w2.heap.size (msgCells { M with s := X.s } { mv with d := .slice xa4 X.s.d.length xc4 }) 42 by rw [hw6]; exact (((HBX5.out.set 10 (.int .i64 X.s.a)).set 11 (.int .i64 X.s.r)).set 12 (.slice xa4 X.s.d.length xc4)))
      have HM6 := Lib.hid (show RdM (fun b => b ≠ w2.heap.size) w6 mv M by rw [hw6]; exact HM5.out.keep (G' := fun b => b ≠ w2.heap.size) (Keep.setCell' (Keep.setCell' (Keep.setCell (p := ⟨w2.heap.size, 10, none⟩) (by simp; try omega) (.int .i64 X.s.a)) (p := ⟨w2.heap.size, 11, none⟩) (by simp; try omega) (.int .i64 X.s.r)) (p := ⟨w2.heap.size, 12, none⟩) (by simp; try omega) (.slice xa4 X.s.d.length xc4)) (fun _ h => by omega))
      have HX6 := Lib.hid (show RdM (fun b => b ≠ w2.heap.size) w6 _ X by rw [hw6]; exact HX5.out.keep (G' := fun b => b ≠ w2.heap.size) (Keep.setCell' (Keep.setCell' (Keep.setCell (p := ⟨w2.heap.size, 10, none⟩) (by simp; try omega) (.int .i64 X.s.a)) (p := ⟨w2.heap.size, 11, none⟩) (by simp; try omega) (.int .i64 X.s.r)) (p := ⟨w2.heap.size, 12, none⟩) (by simp; try omega) (.slice xa4 X.s.d.length xc4)) (fun _ h => by omega))
      have HB6 := Lib.hid (show Below w.heap.size w w6 by rw [hw6]; exact (((HB5.out.setCell (p := ⟨w2.heap.size, 10, none⟩) (by simp; omega) (.int .i64 X.s.a)).setCell (p := ⟨w2.heap.size, 11, none⟩) (by simp; omega) (.int .i64 X.s.r)).setCell (p := ⟨w2.heap.size, 12, none⟩) (by simp; omega) (.slice xa4 X.s.d.length xc4)))
      have HRD := Lib.hid (show RdM (fun b => b ≠ w2.heap.size) w6 { mv with d := .slice xa4 X.s.d.length xc4 } { M with s := X.s } from ⟨HM6.out.tx, HM6.out.bs, HM6.out.ps, HX6.out.d, HM6.out.cbs, HM6.out.cps, HM6.out.vs⟩)
      clear HBX5 HM5 HX5 HB5 HBY HM6 HX6
      go_upto_region 15 with fail
      rw [← hw6]
      clear hw6 u10 v10 f10 u11 v11 f11 u12 v12 f12
      go_wp2_with (refine wpList_load_box rfl 42 _ rfl w2.heap.size rfl (msgCells { M with s := X.s } { mv with d := .slice xa4 X.s.d.length xc4 }) 42 HBX6.out Try.underlying42 rfl (by kernel_rfl) ?_)
      refine (wencode_no { M with s := X.s } { mv with d := .slice xa4 X.s.d.length xc4 } _ HRD.out (HOK.out.setS HOKX.out) HC.out (by decide)).mono ?_
      rintro e w7 ⟨rfl, hb7⟩
      have HBX7 := Lib.hid (HBX6.out.belowS hb7)
      have HRD7 := Lib.hid (HRD.out.below hb7 (fun _ h => h))
      have HB7 := Lib.hid (HB6.out.trans (hb7.mono HB6.out.size))
      clear hb7
      go_wp2_with (refine wpList_load_box rfl 42 _ rfl w2.heap.size rfl (msgCells { M with s := X.s } { mv with d := .slice xa4 X.s.d.length xc4 }) 42 HBX7.out Try.underlying42 rfl (by kernel_rfl) ?_)
      refine (wcheck_any { M with s := X.s } { mv with d := .slice xa4 X.s.d.length xc4 } w7 HRD7.out (HOK.out.setS HOKX.out)).mono ?_
      rintro e w8 ⟨rfl, hb8⟩
      rw [HC.out]
      have HB8 := Lib.hid (HB7.out.trans (hb8.mono HB7.out.size))
      clear hb8
      go_wp2
      go_ret
      exact ⟨rfl, HB8.out⟩
    · have hcode4 : msgCode { M with c := X.c } = 4 := more_c X.c HCODE.out (by have := HK.out; omega) (HPART.out.2.2.2.1 rfl)
      have HC := Lib.hid hcode4
      clear hcode4
      have u13 : w5.cell? ⟨w4.heap.size, 13, none⟩ = some (.int .i64 X.c.h.a) := HBY.out.cell 13 rfl
      have v13 := HBX5.out.cell 13 rfl
      have f13 := HBX5.out.free 13
      have u14 : w5.cell? ⟨w4.heap.size, 14, none⟩ = some (.int .i64 X.c.h.r) := HBY.out.cell 14 rfl
      have v14 := HBX5.out.cell 14 rfl
      have f14 := HBX5.out.free 14
      have u15 : w5.cell? ⟨w4.heap.size, 15, none⟩ = some (.slice xa5 X.c.h.bs.length xc5) := HBY.out.cell 15 rfl
      have v15 := HBX5.out.cell 15 rfl
      have f15 := HBX5.out.free 15
      have u16 : w5.cell? ⟨w4.heap.size, 16, none⟩ = some (.slice xa6 X.c.h.ps.length xc6) := HBY.out.cell 16 rfl
      have v16 := HBX5.out.cell 16 rfl
      have f16 := HBX5.out.free 16
      have u17 : w5.cell? ⟨w4.heap.size, 17, none⟩ = some (.slice xa7 X.c.vs.length xc7) := HBY.out.cell 17 rfl
      have v17 := HBX5.out.cell 17 rfl
      have f17 := HBX5.out.free 17
      obtain ⟨w6, hw6⟩ : ∃ w6, w6 = (((((w5.setCell ⟨w2.heap.size, 13, none⟩ (.int .i64 X.c.h.a)).setCell ⟨w2.heap.size, 14, none⟩ (.int .i64 X.c.h.r)).setCell ⟨w2.heap.size, 15, none⟩ (.slice xa5 X.c.h.bs.length xc5)).setCell ⟨w2.heap.size, 16, none⟩ (.slice xa6 X.c.h.ps.length xc6)).setCell ⟨w2.heap.size, 17, none⟩ (.slice xa7 X.c.vs.length xc7)) := ⟨_, rfl⟩
      have HBX6 := Lib.hid (show BoxAt w6 w2.heap.size (msgCells { M with c := X.c } { mv with cbs := .slice xa5 X.c.h.bs.length xc5, cps := .slice xa6 X.c.h.ps.length xc6, vs := .slice xa7 X.c.vs.length xc7 }) 42 by rw [hw6]; exact (((((HBX5.out.set 13 (.int .i64 X.c.h.a)).set 14 (.int .i64 X.c.h.r)).set 15 (.slice xa5 X.c.h.bs.length xc5)).set 16 (.slice xa6 X.c.h.ps.length xc6)).set 17 (.slice xa7 X.c.vs.length xc7)))
      have HM6 := Lib.hid (show RdM (fun b => b ≠ w2.heap.size) w6 mv M by rw [hw6]; exact HM5.out.keep (G' := fun b => b ≠ w2.heap.size) (Keep.setCell' (Keep.setCell' (Keep.setCell' (Keep.setCell' (Keep.setCell (p := ⟨w2.heap.size, 13, none⟩) (by simp; try omega) (.int .i64 X.c.h.a)) (p := ⟨w2.heap.size, 14, none⟩) (by simp; try omega) (.int .i64 X.c.h.r)) (p := ⟨w2.heap.size, 15, none⟩) (by simp; try omega) (.slice xa5 X.c.h.bs.length xc5)) (p := ⟨w2.heap.size, 16, none⟩) (by simp; try omega) (.slice xa6 X.c.h.ps.length xc6)) (p := ⟨w2.heap.size, 17, none⟩) (by simp; try omega) (.slice xa7 X.c.vs.length xc7)) (fun _ h => by omega))
      have HX6 := Lib.hid (show RdM (fun b => b ≠ w2.heap.size) w6 _ X by rw [hw6]; exact HX5.out.keep (G' := fun b => b ≠ w2.heap.size) (Keep.setCell' (Keep.setCell' (Keep.setCell' (Keep.setCell' (Keep.setCell (p := ⟨w2.heap.size, 13, none⟩) (by simp; try omega) (.int .i64 X.c.h.a)) (p := ⟨w2.heap.size, 14, none⟩) (by simp; try omega) (.int .i64 X.c.h.r)) (p := ⟨w2.heap.size, 15, none⟩) (by simp; try omega) (.slice xa5 X.c.h.bs.length xc5)) (p := ⟨w2.heap.size, 16, none⟩) (by simp; try omega) (.slice xa6 X.c.h.ps.length xc6)) (p := ⟨w2.heap.size, 17, none⟩) (by simp; try omega) (.slice xa7 X.c.vs.length xc7)) (fun _ h => by omega))
      have HB6 := Lib.hid (show Below w.heap.size w w6 by rw [hw6]; exact (((((HB5.out.setCell (p := ⟨w2.heap.size, 13, none⟩) (by simp; omega) (.int .i64 X.c.h.a)).setCell (p := ⟨w2.heap.size, 14, none⟩) (by simp; omega) (.int .i64 X.c.h.r)).setCell (p := ⟨w2.heap.size, 15, none⟩) (by simp; omega) (.slice xa5 X.c.h.bs.length xc5)).setCell (p := ⟨w2.heap.size, 16, none⟩) (by simp; omega) (.slice xa6 X.c.h.ps.length xc6)).setCell (p := ⟨w2.heap.size, 17, none⟩) (by simp; omega) (.slice xa7 X.c.vs.length xc7)))
      have HRD := Lib.hid (show RdM (fun b => b ≠ w2.heap.size) w6 { mv with cbs := .slice xa5 X.c.h.bs.length xc5, cps := .slice xa6 X.c.h.ps.length xc6, vs := .slice xa7 X.c.vs.length xc7 } { M with c := X.c } from ⟨HM6.out.tx, HM6.out.bs, HM6.out.ps, HM6.out.d, HX6.out.cbs, HX6.out.cps, HX6.out.vs⟩)
      clear HBX5 HM5 HX5 HB5 HBY HM6 HX6
      go_upto_region 15 with fail
      rw [← hw6]
      clear hw6 u13 v13 f13 u14 v14 f14 u15 v15 f15 u16 v16 f16 u17 v17 f17
      go_wp2_with (refine wpList_load_box rfl 42 _ rfl w2.heap.size rfl (msgCells { M with c := X.c } { mv with cbs := .slice xa5 X.c.h.bs.length xc5, cps := .slice xa6 X.c.h.ps.length xc6, vs := .slice xa7 X.c.vs.length xc7 }) 42 HBX6.out Try.underlying42 rfl (by kernel_rfl) ?_)
      refine (wencode_no { M with c := X.c } { mv with cbs := .slice xa5 X.c.h.bs.length xc5, cps := .slice xa6 X.c.h.ps.length xc6, vs := .slice xa7 X.c.vs.length xc7 } _ HRD.out (HOK.out.setC HOKX.out) HC.out (by decide)).mono ?_
      rintro e w7 ⟨rfl, hb7⟩
      have HBX7 := Lib.hid (HBX6.out.belowS hb7)
      have HRD7 := Lib.hid (HRD.out.below hb7 (fun _ h => h))
      have HB7 := Lib.hid (HB6.out.trans (hb7.mono HB6.out.size))
      clear hb7
      go_wp2_with (refine wpList_load_box rfl 42 _ rfl w2.heap.size rfl (msgCells { M with c := X.c } { mv with cbs := .slice xa5 X.c.h.bs.length xc5, cps := .slice xa6 X.c.h.ps.length xc6, vs := .slice xa7 X.c.vs.length xc7 }) 42 HBX7.out Try.underlying42 rfl (by kernel_rfl) ?_)
      refine (wcheck_any { M with c := X.c } { mv with cbs := .slice xa5 X.c.h.bs.length xc5, cps := .slice xa6 X.c.h.ps.length xc6, vs := .slice xa7 X.c.vs.length xc7 } w7 HRD7.out (HOK.out.setC HOKX.out)).mono ?_
      rintro e w8 ⟨rfl, hb8⟩
      rw [HC.out]
      have HB8 := Lib.hid (HB7.out.trans (hb8.mono HB7.out.size))
      clear hb8
      go_wp2
      go_ret
      exact ⟨rfl, HB8.out⟩
    · have hcode4 : msgCode { M with r := X.r } = 4 := more_r X.r HCODE.out (by have := HK.out; omega) (HPART.out.2.2.2.2 rfl)
      have HC := Lib.hid hcode4
      clear hcode4
      have u18 : w5.cell? ⟨w4.heap.size, 18, none⟩ = some (.int .i64 X.r) := HBY.out.cell 18 rfl
      have v18 := HBX5.out.cell 18 rfl
      have f18 := HBX5.out.free 18
      obtain ⟨w6, hw6⟩ : ∃ w6, w6 = (w5.setCell ⟨w2.heap.size, 18, none⟩ (.int .i64 X.r)) := ⟨_, rfl⟩
      have HBX6 := Lib.hid (show BoxAt w6 w2.heap.size (msgCells { M with r := X.r } mv) 42 by rw [hw6]; exact (HBX5.out.set 18 (.int .i64 X.r)))
      have HM6 := Lib.hid (show RdM (fun b => b ≠ w2.heap.size) w6 mv M by rw [hw6]; exact HM5.out.keep (G' := fun b => b ≠ w2.heap.size) (Keep.setCell (p := ⟨w2.heap.size, 18, none⟩) (by simp; try omega) (.int .i64 X.r)) (fun _ h => by omega))
      have HX6 := Lib.hid (show RdM (fun b => b ≠ w2.heap.size) w6 _ X by rw [hw6]; exact HX5.out.keep (G' := fun b => b ≠ w2.heap.size) (Keep.setCell (p := ⟨w2.heap.size, 18, none⟩) (by simp; try omega) (.int .i64 X.r)) (fun _ h => by omega))
      have HB6 := Lib.hid (show Below w.heap.size w w6 by rw [hw6]; exact (HB5.out.setCell (p := ⟨w2.heap.size, 18, none⟩) (by simp; omega) (.int .i64 X.r)))
      have HRD := Lib.hid (show RdM (fun b => b ≠ w2.heap.size) w6 mv { M with r := X.r } from ⟨HM6.out.tx, HM6.out.bs, HM6.out.ps, HM6.out.d, HM6.out.cbs, HM6.out.cps, HM6.out.vs⟩)
      clear HBX5 HM5 HX5 HB5 HBY HM6 HX6
      go_upto_region 15 with fail
      rw [← hw6]
      clear hw6 u18 v18 f18
      go_wp2_with (refine wpList_load_box rfl 42 _ rfl w2.heap.size rfl (msgCells { M with r := X.r } mv) 42 HBX6.out Try.underlying42 rfl (by kernel_rfl) ?_)
      refine (wencode_no { M with r := X.r } mv _ HRD.out (HOK.out.setR HOKX.out) HC.out (by decide)).mono ?_
      rintro e w7 ⟨rfl, hb7⟩
      have HBX7 := Lib.hid (HBX6.out.belowS hb7)
      have HRD7 := Lib.hid (HRD.out.below hb7 (fun _ h => h))
      have HB7 := Lib.hid (HB6.out.trans (hb7.mono HB6.out.size))
      clear hb7
      go_wp2_with (refine wpList_load_box rfl 42 _ rfl w2.heap.size rfl (msgCells { M with r := X.r } mv) 42 HBX7.out Try.underlying42 rfl (by kernel_rfl) ?_)
      refine (wcheck_any { M with r := X.r } mv w7 HRD7.out (HOK.out.setR HOKX.out)).mono ?_
      rintro e w8 ⟨rfl, hb8⟩
      rw [HC.out]
      have HB8 := Lib.hid (HB7.out.trans (hb8.mono HB7.out.size))
      clear hb8
      go_wp2
      go_ret
      exact ⟨rfl, HB8.out⟩
theorem messageMore_walk (vt : Value) (r : RawD) (n : Int) (w : World) (hr : RawOk (fun _ => True) w vt r) (n1 : -9223372036854775808 ≤ n) (n2 : n ≤ 9223372036854775807) :
    Calls Try.prog 4 #[.agg #[.int .i64 r.k, .int .i64 r.a, .int .i64 r.b, .int .i64 r.c, vt], .int .i64 n] w fun e w' => e = .returned (.bool true) ∧ Below w.heap.size w w' :=
  messageMore_case r.k r.a r.b r.c vt r.txs n w hr.1.1 hr.1.2 hr.2.1.1 hr.2.1.2 hr.2.2.1.1 hr.2.2.1.2 hr.2.2.2.1.1 hr.2.2.2.1.2 hr.2.2.2.2.1 hr.2.2.2.2.2 n1 n2
end Go.Proofs.Ytgkmgdkmafbohaa
