/- NodesBad: the walk. -/
import Derived.Test.YtgkmgdkmafbohaaMsgLaw
set_option linter.unusedVariables false
set_option linter.unusedSimpArgs false
namespace Go.Proofs.Ytgkmgdkmafbohaa
open Go Go.RowKit

theorem nodesBad_num (n : Int) : nodeOk (if n < 0 then -1 - pickedZ n 9 else 4 + pickedZ n 9) = false := by
  obtain ⟨x1, x2⟩ := pickedZ_range n 9 (by omega)
  unfold nodeOk
  split <;> simp <;> omega
set_option maxRecDepth 100000 in
set_option maxHeartbeats 8000000 in
theorem nodesBad_case {Gx : Nat → Prop} (K A B C : Int) (vt : Value) (l : List Bytes) (n : Int) (tb : Bool) (w : World) (k1 : -9223372036854775808 ≤ K) (k2 : K ≤ 9223372036854775807) (a1 : -9223372036854775808 ≤ A) (a2 : A ≤ 9223372036854775807) (b1 : -9223372036854775808 ≤ B) (b2 : B ≤ 9223372036854775807) (c1 : -9223372036854775808 ≤ C) (c2 : C ≤ 9223372036854775807)
    (hr : RdT Gx w vt l) (hs : ∀ t ∈ l, t.length ≤ 9223372036854775807) (n1 : -9223372036854775808 ≤ n) (n2 : n ≤ 9223372036854775807) :
    Calls Try.prog 6 #[.agg #[.int .i64 K, .int .i64 A, .int .i64 B, .int .i64 C, vt], .int .i64 n, .bool tb] w fun e w' => e = .returned (.bool true) ∧ Below w.heap.size w w' := by
  have hMsg := fun (q : World) (hq : Below w.heap.size w q) => message_any (Gx := fun b => Gx b) K A B C vt l q k1 k2 a1 a2 b1 b2 c1 c2 (hr.below hq (fun _ h => h)) hs
  have hcode := msgOf_code K A B C l
  have hok := msgOf_size K A B C l
  have hone : vt.oneCell' = true := by obtain ⟨ad, cap, rfl, _⟩ := hr.form; rfl
  generalize msgOf K A B C l = M at *
  have HMSG := Lib.hid hMsg
  have HCODE := Lib.hid hcode
  have HOK := Lib.hid hok
  have hnum := nodesBad_num n
  obtain ⟨p1, p2⟩ := pickedZ_range n 9 (by omega)
  generalize hp : pickedZ n 9 = p at *
  have HP := Lib.hid hp
  clear hMsg hcode hok hp hr hs
  have e1 : IntKind.i64.wrap (4 + p) = 4 + p := IntWalk.i64_in _ (by omega)
  have e2 : IntKind.i64.wrap (-1 - p) = -1 - p := IntWalk.i64_in _ (by omega)
  go_enter Try.func6, Try.ntmps6
  go_wp2_with fail
  refine (HMSG.out _ ((Below.refl _ _).alloc (Nat.le_refl _) _)).mono ?_
  rintro e w2 ⟨mv, rfl, hM, hb2⟩
  have HM := Lib.hid (hM.low)
  have HB2 := Lib.hid (((Below.refl w.heap.size w).alloc (Nat.le_refl _) (.cells #[.int .i64 K, .int .i64 A, .int .i64 B, .int .i64 C, vt] 24)).trans (hb2.mono (by simp)))
  clear hM hb2
  go_wp2_with (first
    | (refine wpList_store_new rfl 42 _ _ rfl (msgCells M mv) 42 zeroMsg rfl rfl (by kernel_rfl) rfl (msgCells_one HM.out) ?_; intro w3 hb3 hB3 hs3; have HB3 := Lib.hid (HB2.out.trans (hB3.mono HB2.out.size)); have HBX := Lib.hid hb3; have HM3 := Lib.hid (HM.out.keep (G' := fun b => b < w2.heap.size) (Keep.below hB3) (fun _ h => h.2)); have z3 := hB3.size; clear hb3 hB3)
    | (refine wpList_load_box rfl 42 _ rfl w2.heap.size rfl (msgCells M mv) 42 HBX.out Try.underlying42 rfl (by kernel_rfl) ?_))
  refine (wcheck_any M mv w3 HM3.out HOK.out).mono ?_
  rintro e w4 ⟨rfl, hb4⟩
  rw [HCODE.out]
  have HBX4 := Lib.hid (HBX.out.belowS hb4)
  have HM4 := Lib.hid (HM3.out.below hb4 (fun _ h => h))
  have HB4 := Lib.hid (HB3.out.trans (hb4.mono HB3.out.size))
  have q0 := HBX4.out.cell 0 rfl
  have q1 := HBX4.out.cell 1 rfl
  have f0 := HBX4.out.free 0
  have f1 := HBX4.out.free 1
  have z4 := hb4.size
  have zw := HB2.out.size
  have hlt : w2.heap.size < w4.heap.size := HBX4.out.lt
  clear HBX HM3 hb4 HB3
  have HNUM := Lib.hid hnum
  clear hnum
  have fin : ∀ (M' : Msg) (w5 : World), BoxAt w5 w2.heap.size (msgCells M' mv) 42 → RdM (fun b => b < w2.heap.size) w5 mv M' → MsgOk M' → msgCode M' = 2 → Below w.heap.size w w5 → ∀ (P : World → Prop), True := fun _ _ _ _ _ _ _ _ => trivial
  clear fin
  have HNL : Hid (n < 0 → nodeOk (-1 - p) = false) := Lib.hid (fun h => by have := HNUM.out; rwa [if_pos h] at this)
  have HNG : Hid (¬ n < 0 → nodeOk (4 + p) = false) := Lib.hid (fun h => by have := HNUM.out; rwa [if_neg h] at this)
  by_cases hn : n < 0 <;> cases tb
  · have hbad : nodeOk (-1 - p) = false := HNL.out hn
    have HC5 := Lib.hid (msgCode_from { M with f := (-1 - p) } hbad)
    have HBX5 := Lib.hid (show BoxAt (w4.setCell ⟨w2.heap.size, 0, none⟩ (.int .i64 (-1 - p))) w2.heap.size (msgCells { M with f := (-1 - p) } mv) 42 from HBX4.out.set 0 (.int .i64 (-1 - p)))
    have HM5 := Lib.hid ((HM4.out.keep (G' := fun b => b < w2.heap.size) (Keep.setCell (p := ⟨w2.heap.size, 0, none⟩) (by simp) (.int .i64 (-1 - p))) (fun _ h => h)).setF (-1 - p))
    have HB5 := Lib.hid (HB4.out.setCell (p := ⟨w2.heap.size, 0, none⟩) (by simp; omega) (.int .i64 (-1 - p)))
    clear hbad
    go_wp2_with (first
      | (go_at_call 15; refine (picked_any _ _ _ n1 n2 (by omega) (by omega)).mono ?_; rintro e w' ⟨rfl, rfl⟩; rw [HP.out])
      | (refine wpList_load_box rfl 42 _ rfl w2.heap.size rfl (msgCells { M with f := (-1 - p) } mv) 42 HBX5.out Try.underlying42 rfl (by kernel_rfl) ?_))
    refine (wencode_no { M with f := (-1 - p) } mv _ HM5.out (HOK.out.setF (-1 - p)) HC5.out (by decide)).mono ?_
    rintro e w6 ⟨rfl, hb6⟩
    have HBX6 := Lib.hid (HBX5.out.belowS hb6)
    have HM6 := Lib.hid (HM5.out.below hb6 (fun _ h => h))
    have HB6 := Lib.hid (HB5.out.trans (hb6.mono HB5.out.size))
    clear hb6
    go_wp2_with (refine wpList_load_box rfl 42 _ rfl w2.heap.size rfl (msgCells { M with f := (-1 - p) } mv) 42 HBX6.out Try.underlying42 rfl (by kernel_rfl) ?_)
    refine (wcheck_any { M with f := (-1 - p) } mv w6 HM6.out (HOK.out.setF (-1 - p))).mono ?_
    rintro e w7 ⟨rfl, hb7⟩
    rw [HC5.out]
    have HB7 := Lib.hid (HB6.out.trans (hb7.mono HB6.out.size))
    clear hb7
    go_wp2
    go_ret
    exact ⟨rfl, HB7.out⟩
  · have hbad : nodeOk (-1 - p) = false := HNL.out hn
    have HC5 := Lib.hid (msgCode_to { M with t := (-1 - p) } hbad)
    have HBX5 := Lib.hid (show BoxAt (w4.setCell ⟨w2.heap.size, 1, none⟩ (.int .i64 (-1 - p))) w2.heap.size (msgCells { M with t := (-1 - p) } mv) 42 from HBX4.out.set 1 (.int .i64 (-1 - p)))
    have HM5 := Lib.hid ((HM4.out.keep (G' := fun b => b < w2.heap.size) (Keep.setCell (p := ⟨w2.heap.size, 1, none⟩) (by simp) (.int .i64 (-1 - p))) (fun _ h => h)).setT (-1 - p))
    have HB5 := Lib.hid (HB4.out.setCell (p := ⟨w2.heap.size, 1, none⟩) (by simp; omega) (.int .i64 (-1 - p)))
    clear hbad
    go_wp2_with (first
      | (go_at_call 15; refine (picked_any _ _ _ n1 n2 (by omega) (by omega)).mono ?_; rintro e w' ⟨rfl, rfl⟩; rw [HP.out])
      | (refine wpList_load_box rfl 42 _ rfl w2.heap.size rfl (msgCells { M with t := (-1 - p) } mv) 42 HBX5.out Try.underlying42 rfl (by kernel_rfl) ?_))
    refine (wencode_no { M with t := (-1 - p) } mv _ HM5.out (HOK.out.setT (-1 - p)) HC5.out (by decide)).mono ?_
    rintro e w6 ⟨rfl, hb6⟩
    have HBX6 := Lib.hid (HBX5.out.belowS hb6)
    have HM6 := Lib.hid (HM5.out.below hb6 (fun _ h => h))
    have HB6 := Lib.hid (HB5.out.trans (hb6.mono HB5.out.size))
    clear hb6
    go_wp2_with (refine wpList_load_box rfl 42 _ rfl w2.heap.size rfl (msgCells { M with t := (-1 - p) } mv) 42 HBX6.out Try.underlying42 rfl (by kernel_rfl) ?_)
    refine (wcheck_any { M with t := (-1 - p) } mv w6 HM6.out (HOK.out.setT (-1 - p))).mono ?_
    rintro e w7 ⟨rfl, hb7⟩
    rw [HC5.out]
    have HB7 := Lib.hid (HB6.out.trans (hb7.mono HB6.out.size))
    clear hb7
    go_wp2
    go_ret
    exact ⟨rfl, HB7.out⟩
  · have hbad : nodeOk (4 + p) = false := HNG.out hn
    have HC5 := Lib.hid (msgCode_from { M with f := (4 + p) } hbad)
    have HBX5 := Lib.hid (show BoxAt (w4.setCell ⟨w2.heap.size, 0, none⟩ (.int .i64 (4 + p))) w2.heap.size (msgCells { M with f := (4 + p) } mv) 42 from HBX4.out.set 0 (.int .i64 (4 + p)))
    have HM5 := Lib.hid ((HM4.out.keep (G' := fun b => b < w2.heap.size) (Keep.setCell (p := ⟨w2.heap.size, 0, none⟩) (by simp) (.int .i64 (4 + p))) (fun _ h => h)).setF (4 + p))
    have HB5 := Lib.hid (HB4.out.setCell (p := ⟨w2.heap.size, 0, none⟩) (by simp; omega) (.int .i64 (4 + p)))
    clear hbad
    go_wp2_with (first
      | (go_at_call 15; refine (picked_any _ _ _ n1 n2 (by omega) (by omega)).mono ?_; rintro e w' ⟨rfl, rfl⟩; rw [HP.out])
      | (refine wpList_load_box rfl 42 _ rfl w2.heap.size rfl (msgCells { M with f := (4 + p) } mv) 42 HBX5.out Try.underlying42 rfl (by kernel_rfl) ?_))
    refine (wencode_no { M with f := (4 + p) } mv _ HM5.out (HOK.out.setF (4 + p)) HC5.out (by decide)).mono ?_
    rintro e w6 ⟨rfl, hb6⟩
    have HBX6 := Lib.hid (HBX5.out.belowS hb6)
    have HM6 := Lib.hid (HM5.out.below hb6 (fun _ h => h))
    have HB6 := Lib.hid (HB5.out.trans (hb6.mono HB5.out.size))
    clear hb6
    go_wp2_with (refine wpList_load_box rfl 42 _ rfl w2.heap.size rfl (msgCells { M with f := (4 + p) } mv) 42 HBX6.out Try.underlying42 rfl (by kernel_rfl) ?_)
    refine (wcheck_any { M with f := (4 + p) } mv w6 HM6.out (HOK.out.setF (4 + p))).mono ?_
    rintro e w7 ⟨rfl, hb7⟩
    rw [HC5.out]
    have HB7 := Lib.hid (HB6.out.trans (hb7.mono HB6.out.size))
    clear hb7
    go_wp2
    go_ret
    exact ⟨rfl, HB7.out⟩
  · have hbad : nodeOk (4 + p) = false := HNG.out hn
    have HC5 := Lib.hid (msgCode_to { M with t := (4 + p) } hbad)
    have HBX5 := Lib.hid (show BoxAt (w4.setCell ⟨w2.heap.size, 1, none⟩ (.int .i64 (4 + p))) w2.heap.size (msgCells { M with t := (4 + p) } mv) 42 from HBX4.out.set 1 (.int .i64 (4 + p)))
    have HM5 := Lib.hid ((HM4.out.keep (G' := fun b => b < w2.heap.size) (Keep.setCell (p := ⟨w2.heap.size, 1, none⟩) (by simp) (.int .i64 (4 + p))) (fun _ h => h)).setT (4 + p))
    have HB5 := Lib.hid (HB4.out.setCell (p := ⟨w2.heap.size, 1, none⟩) (by simp; omega) (.int .i64 (4 + p)))
    clear hbad
    go_wp2_with (first
      | (go_at_call 15; refine (picked_any _ _ _ n1 n2 (by omega) (by omega)).mono ?_; rintro e w' ⟨rfl, rfl⟩; rw [HP.out])
      | (refine wpList_load_box rfl 42 _ rfl w2.heap.size rfl (msgCells { M with t := (4 + p) } mv) 42 HBX5.out Try.underlying42 rfl (by kernel_rfl) ?_))
    refine (wencode_no { M with t := (4 + p) } mv _ HM5.out (HOK.out.setT (4 + p)) HC5.out (by decide)).mono ?_
    rintro e w6 ⟨rfl, hb6⟩
    have HBX6 := Lib.hid (HBX5.out.belowS hb6)
    have HM6 := Lib.hid (HM5.out.below hb6 (fun _ h => h))
    have HB6 := Lib.hid (HB5.out.trans (hb6.mono HB5.out.size))
    clear hb6
    go_wp2_with (refine wpList_load_box rfl 42 _ rfl w2.heap.size rfl (msgCells { M with t := (4 + p) } mv) 42 HBX6.out Try.underlying42 rfl (by kernel_rfl) ?_)
    refine (wcheck_any { M with t := (4 + p) } mv w6 HM6.out (HOK.out.setT (4 + p))).mono ?_
    rintro e w7 ⟨rfl, hb7⟩
    rw [HC5.out]
    have HB7 := Lib.hid (HB6.out.trans (hb7.mono HB6.out.size))
    clear hb7
    go_wp2
    go_ret
    exact ⟨rfl, HB7.out⟩
theorem nodesBad_walk (vt : Value) (r : RawD) (n : Int) (tb : Bool) (w : World) (hr : RawOk (fun _ => True) w vt r) (n1 : -9223372036854775808 ≤ n) (n2 : n ≤ 9223372036854775807) :
    Calls Try.prog 6 #[.agg #[.int .i64 r.k, .int .i64 r.a, .int .i64 r.b, .int .i64 r.c, vt], .int .i64 n, .bool tb] w fun e w' => e = .returned (.bool true) ∧ Below w.heap.size w w' :=
  nodesBad_case r.k r.a r.b r.c vt r.txs n tb w hr.1.1 hr.1.2 hr.2.1.1 hr.2.1.2 hr.2.2.1.1 hr.2.2.1.2 hr.2.2.2.1.1 hr.2.2.2.1.2 hr.2.2.2.2.1 hr.2.2.2.2.2 n1 n2
end Go.Proofs.Ytgkmgdkmafbohaa
