/- MessageBack: the walk. -/
import Derived.Test.YtgkmgdkmafbohaaMsgLaw
import Derived.Test.YtgkmgdkmafbohaaDecBk
import Derived.Test.YtgkmgdkmafbohaaDecodeA
import Derived.Test.YtgkmgdkmafbohaaSameM
import Derived.Test.YtgkmgdkmafbohaaLib4
import Derived.Test.YtgkmgdkmafbohaaGrd
set_option linter.unusedVariables false
set_option linter.unusedSimpArgs false
namespace Go.Proofs.Ytgkmgdkmafbohaa
open Go Go.RowKit

theorem wpList_load_boxG {P : Program} {w : World} {ops : Array Oper} {rest : List Oper} {o : Oper} {a : Act} {Q : Exit → Act → World → Prop} (hw : Region.wanted o (yielded ops a.tmps) = true) (ty : TypeId) (x : Operand) (ho : o.op = .load ty x)
    (b : Nat) (hx : a.eval x = .pointer (some ⟨b, 0, none⟩)) (cs : List Value) (T : TypeId) (hb : BoxAt w b cs T) {d : TypeDesc}
    (hu : P.underlying ty = some d) (hd : (match d with | .struct _ | .array _ _ => true | _ => false) = true) (hi : (P.info? ty).map (·.size) = some cs.toArray.size)
    (h : wpList P ops Q rest (a.put o.dst (.agg cs.toArray)) w) : wpList P ops Q (o :: rest) a w :=
  wpList_wanted hw fun K hK => wp_load_row ty x ho b hx T cs.toArray (0, 0) d hb hu hd hi (hK _ _ h)
set_option maxRecDepth 100000 in
set_option maxHeartbeats 8000000 in
theorem messageBack_case {Gx : Nat → Prop} (K A B C : Int) (vt : Value) (l : List Bytes) (tail : UInt8) (w : World) (k1 : -9223372036854775808 ≤ K) (k2 : K ≤ 9223372036854775807) (a1 : -9223372036854775808 ≤ A) (a2 : A ≤ 9223372036854775807) (b1 : -9223372036854775808 ≤ B) (b2 : B ≤ 9223372036854775807) (c1 : -9223372036854775808 ≤ C) (c2 : C ≤ 9223372036854775807)
    (hr : RdT Gx w vt l) (hs : ∀ t ∈ l, t.length ≤ 9223372036854775807) :
    Calls Try.prog 14 #[.agg #[.int .i64 K, .int .i64 A, .int .i64 B, .int .i64 C, vt], .int .u8 (tail.toNat : Int)] w fun e w' => e = .returned (.bool true) ∧ Below w.heap.size w w' := by
  have hMsg := fun (q : World) (hq : Below w.heap.size w q) => message_any (Gx := fun b => Gx b) K A B C vt l q k1 k2 a1 a2 b1 b2 c1 c2 (hr.below hq (fun _ h => h)) hs
  have hcode := msgOf_code K A B C l
  have hok := msgOf_size K A B C l
  have hone : vt.oneCell' = true := by obtain ⟨ad, cap, rfl, _⟩ := hr.form; rfl
  generalize msgOf K A B C l = M at *
  have HMSG := Lib.hid hMsg
  have HCODE := Lib.hid hcode
  have HOK := Lib.hid hok
  have hE := encL_len hcode
  have HD1 := Lib.hid (decode_enc M hcode)
  have HD2 := Lib.hid (decode_tail M tail hcode)
  have HEN := Lib.hid (rfl : encL M = encL M)
  clear hMsg hcode hok hr hs
  go_enter Try.func14, Try.ntmps14
  go_wp2_with fail
  refine (HMSG.out _ ((Below.refl _ _).alloc (Nat.le_refl _) _)).mono ?_
  rintro e w2 ⟨mv, rfl, hM, hb2⟩
  have HM := Lib.hid (hM.low)
  have HB2 := Lib.hid (((Below.refl w.heap.size w).alloc (Nat.le_refl _) (.cells #[.int .i64 K, .int .i64 A, .int .i64 B, .int .i64 C, vt] 24)).trans (hb2.mono (by simp)))
  clear hM hb2
  go_wp2_with (first
    | (refine wpList_store_new rfl 42 _ _ rfl (msgCells M mv) 42 zeroMsg rfl rfl (by kernel_rfl) rfl (msgCells_one HM.out) ?_; intro w3 hb3 hB3 hs3; have HB3 := Lib.hid (HB2.out.trans (hB3.mono HB2.out.size)); have HBX := Lib.hid hb3; have HM3 := Lib.hid (HM.out.keep (G' := fun b => b < w2.heap.size) (Keep.below hB3) (fun _ h => h.2)); have z3 := hB3.size; clear hb3 hB3)
    | (refine wpList_load_box rfl 42 _ rfl w2.heap.size rfl (msgCells M mv) 42 HBX.out Try.underlying42 rfl (by kernel_rfl) ?_))
  refine (wencode_ok M mv w3 HM3.out HOK.out HCODE.out).mono ?_
  rintro e w4 ⟨vb, rfl, hown4, hb4⟩
  have HO4 := Lib.hid hown4
  have HBX4 := Lib.hid (HBX.out.belowS hb4)
  have HM4 := Lib.hid (HM3.out.below hb4 (fun _ h => h))
  have HB4 := Lib.hid (HB3.out.trans (hb4.mono HB3.out.size))
  obtain ⟨bad, bcap, rfl⟩ := ownsRow_form hown4
  clear HBX HM3 hb4 HB3 hown4
  go_wp2_with fail
  refine (wdecode_any (encL M) _ w4 (RdS.of_owns (G := fun _ => True) HO4.out (fun _ _ => trivial))).mono ?_
  rw [HD1.out]
  rintro e w5 ⟨nv, rfl, hN, hb5⟩
  have HO5 := Lib.hid (ownsRow_below HO4.out hb5)
  have HBX5 := Lib.hid (HBX4.out.belowS hb5)
  have HM5 := Lib.hid (HM4.out.below hb5 (fun _ h => h))
  have HB5 := Lib.hid (HB4.out.trans (hb5.mono HB4.out.size))
  have HN5 := Lib.hid hN.low
  clear HBX4 HM4 hb5 HB4 HO4 hN
  go_upto_region 4 with (refine wpList_store_new rfl 42 _ _ rfl (msgCells M nv) 42 zeroMsg rfl rfl (by kernel_rfl) rfl (msgCells_one HN5.out) ?_; intro w6 hb6 hB6 hs6; have HB6 := Lib.hid (HB5.out.trans (hB6.mono HB5.out.size)); have HBY := Lib.hid hb6; have HBX6 := Lib.hid (HBX5.out.belowS hB6); have HM6 := Lib.hid (HM5.out.below hB6 (fun _ h => h)); have HN6 := Lib.hid (HN5.out.keep (G' := fun b => b < w5.heap.size) (Keep.below hB6) (fun _ h => h.2)); have HO6 := Lib.hid (ownsRow_below HO5.out hB6); clear hb6 hB6)
  have HR6 := Lib.hid (RdS.of_owns (G := fun _ => True) HO6.out (fun _ _ => trivial) : RdB (fun _ => True) w6 (.slice bad (encL M).length bcap) (encL M))
  have zs6 : w.heap.size ≤ w6.heap.size := HB6.out.size
  generalize hEE : encL M = E at *
  have HEE := Lib.hid hEE
  clear hEE HBX5 HM5 HB5 HO5 HN5
  go_wp2_with (first
    | (at_builtin; refine wpList_append_sl rfl _ _ 26 rfl elemB w6.heap.size (.slice none 0 0) rfl 0 [] (World.ownsRow_nil _ _ _ _) _ rfl E.length (byteVs E) (by exact HR6.out.slCells) (oneCell_map _ _ (fun _ => rfl)) (by unfold maxLen; omega) (by omega) (Nat.le_refl _) ?_; intro v7 w7 hown7 hgr7; have HO7 := Lib.hid hown7; have HB67 := Lib.hid (show Below w6.heap.size w6 w7 from (Below.refl _ _).grown hgr7 (Nat.le_refl _) (fun k hk => absurd hk (by simp [Value.ownBlock]))); clear hown7 hgr7)
    | (at_builtin; refine wpList_append_sl rfl _ _ 26 rfl elemB w6.heap.size _ rfl (0 + E.length) ([] ++ byteVs E) (HO7.out.alloc _) _ rfl 1 [.int .u8 (tail.toNat : Int)] (by exact slCells_new _ [_] _ 1 rfl) (by simp [Value.oneCell']) (by unfold maxLen; omega) (by omega) (by have := HB67.out.size; simp; omega) ?_; intro v8 w8 hown8 hgr8; have HO8 := Lib.hid hown8; have HB68 := Lib.hid (show Below w6.heap.size w6 w8 from (HB67.out.alloc HB67.out.size _).grown hgr8 (by have := HB67.out.size; simp; omega) (ownBlock_ge HO7.out)); clear hown8 hgr8))
  have hR8 : RdB (fun _ => True) w8 v8 (E ++ [tail]) := RdS.of_owns (base := w6.heap.size) (e := 5) (n := 0 + E.length + 1) (by have := HO8.out; simpa [byteVs] using this) (fun _ _ => trivial)
  refine (wdecode_any (E ++ [tail]) _ w8 hR8).mono ?_
  rw [HD2.out]
  rintro e w9 ⟨tv, rfl, hN9, hb9⟩
  have HT9 := Lib.hid hN9
  have hb69 : Below w6.heap.size w6 w9 := HB68.out.trans (hb9.mono HB68.out.size)
  have HBX9 := Lib.hid (HBX6.out.belowS hb69)
  have HBY9 := Lib.hid (HBY.out.belowS hb69)
  have HM9 := Lib.hid (HM6.out.below hb69 (fun _ h => h))
  have HN9 := Lib.hid (HN6.out.below hb69 (fun _ h => h))
  have HB9 := Lib.hid (HB6.out.trans (hb69.mono HB6.out.size))
  clear hN9 hb9 hb69 HBX6 HBY HM6 HN6 HB6 hR8 HO8 HB68 HO7 HB67 HR6 HO6
  go_upto_region 5 with (refine wpList_store_new rfl 42 _ _ rfl (msgCells msg0 tv) 42 zeroMsg rfl rfl (by kernel_rfl) rfl (msgCells_one HT9.out) ?_; intro w10 hb10 hB10 hs10; have HBX10 := Lib.hid (HBX9.out.belowS hB10); have HBY10 := Lib.hid (HBY9.out.belowS hB10); have HM10 := Lib.hid (HM9.out.below hB10 (fun _ h => h)); have HN10 := Lib.hid (HN9.out.below hB10 (fun _ h => h)); have HB10 := Lib.hid (HB9.out.trans (hB10.mono HB9.out.size)); clear hb10 hB10)
  clear HBX9 HBY9 HM9 HN9 HB9
  have l3 : (3 : Int) < (E.length : Int) := by omega
  go_wp2_with (first
    | (refine wpList_load_boxG (by rfl) 42 _ rfl w2.heap.size rfl (msgCells M mv) 42 HBX10.out Try.underlying42 rfl (by kernel_rfl) ?_)
    | (refine wpList_load_boxG (by rfl) 42 _ rfl w5.heap.size rfl (msgCells M nv) 42 HBY10.out Try.underlying42 rfl (by kernel_rfl) ?_))
  refine (sameMessage_eq M mv nv w10 HM10.out HN10.out).mono ?_
  rintro e w11 ⟨rfl, hb11⟩
  have HBX11 := Lib.hid (HBX10.out.belowS hb11)
  have HM11 := Lib.hid (HM10.out.below hb11 (fun _ h => h))
  have HB11 := Lib.hid (HB10.out.trans (hb11.mono HB10.out.size))
  clear hb11 HBX10 HBY10 HM10 HN10 HB10
  go_wp2_with (refine wpList_load_boxG (by rfl) 42 _ rfl w2.heap.size rfl (msgCells M mv) 42 HBX11.out Try.underlying42 rfl (by kernel_rfl) ?_)
  refine (wcheck_any M mv w11 HM11.out HOK.out).mono ?_
  rintro e w12 ⟨rfl, hb12⟩
  rw [HCODE.out]
  have HB12 := Lib.hid (HB11.out.trans (hb12.mono HB11.out.size))
  clear hb12
  go_wp2
  go_ret
  exact ⟨rfl, HB12.out⟩
theorem messageBack_walk (vt : Value) (r : RawD) (tail : UInt8) (w : World) (hr : RawOk (fun _ => True) w vt r) :
    Calls Try.prog 14 #[.agg #[.int .i64 r.k, .int .i64 r.a, .int .i64 r.b, .int .i64 r.c, vt], .int .u8 (tail.toNat : Int)] w fun e w' => e = .returned (.bool true) ∧ Below w.heap.size w w' :=
  messageBack_case r.k r.a r.b r.c vt r.txs tail w hr.1.1 hr.1.2 hr.2.1.1 hr.2.1.2 hr.2.2.1.1 hr.2.2.1.2 hr.2.2.2.1.1 hr.2.2.2.1.2 hr.2.2.2.2.1 hr.2.2.2.2.2
end Go.Proofs.Ytgkmgdkmafbohaa
