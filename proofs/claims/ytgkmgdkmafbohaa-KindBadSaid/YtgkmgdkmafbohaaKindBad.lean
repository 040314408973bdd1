/- KindBad: the walk. -/
import Derived.Test.YtgkmgdkmafbohaaDecodeA
import Derived.Test.YtgkmgdkmafbohaaDecLaw
import Derived.Test.YtgkmgdkmafbohaaLib3
import Derived.Test.YtgkmgdkmafbohaaLib4
set_option linter.unusedVariables false
set_option linter.unusedSimpArgs false
namespace Go.Proofs.Ytgkmgdkmafbohaa
open Go Go.RowKit

theorem kind_hi (c : Int) (k : Nat) (h : decide (c = 3) = decide (k < 1 ∨ 5 < k)) (h1 : 1 ≤ (k : Int)) : true = ((c == 3) == decide (5 < (k : Int))) := by
  have e : (c == 3) = decide (c = 3) := rfl
  rw [e, h]
  by_cases h5 : 5 < k
  · rw [decide_eq_true (.inr h5), decide_eq_true (show (5 : Int) < (k : Int) by omega)]; rfl
  · rw [decide_eq_false (show ¬ (k < 1 ∨ 5 < k) by omega), decide_eq_false (show ¬ (5 : Int) < (k : Int) by omega)]; rfl
theorem kind_lo (c : Int) (k : Nat) (h : decide (c = 3) = decide (k < 1 ∨ 5 < k)) (h1 : (k : Int) < 1) : true = ((c == 3) == true) := by
  have e : (c == 3) = decide (c = 3) := rfl
  rw [e, h, decide_eq_true (.inl (by omega))]; rfl
theorem kind_lo2 (c : Int) (k : Nat) (h : decide (c = 3) = decide (k < 1 ∨ 5 < k)) (h1 : (k : Int) < 1) : true = (c == 3) := by
  have e : (c == 3) = decide (c = 3) := rfl
  rw [e, h, decide_eq_true (.inl (by omega))]
theorem decode_big (l : Bytes) (h : 4000 < l.length) : decode l = (msg0, 1) := by unfold decode; rw [if_pos h]
theorem decode_none : decode [] = (msg0, 5) := by unfold decode; rw [if_neg (by simp), if_neg (by simp), if_pos (.inr rfl)]
set_option maxRecDepth 100000 in
set_option maxHeartbeats 8000000 in
theorem kindBad_case {G : Nat → Prop} (k : UInt8) (ad : Option Addr) (cap : Nat) (l : Bytes) (n : Nat) (w : World) (hv : RdB G w (.slice ad l.length cap) l) (hn : (n = l.length ∧ l.length ≤ 50) ∨ (n = 50 ∧ 50 < l.length)) :
    Calls Try.prog 13 #[.int .u8 (k.toNat : Int), .slice ad l.length cap] w fun e w' => e = .returned (.bool true) ∧ Below w.heap.size w w' := by
  have hnl : n ≤ l.length := by omega
  have n50 : n ≤ 50 := by omega
  obtain ⟨-, hc1, hc2, hc0⟩ := hv.len
  have hlen : (l.take n).length = n := by simp; omega
  have HL := Lib.hid (decode_kind k (l.take n) (by omega))
  have HT := Lib.hid (((hv.take n hnl).keep (Keep.alloc G w (.cells #[.int .u8 (k.toNat : Int)] 5)) (fun _ h => h)).slCells)
  have hk := k.toNat_lt
  generalize hT : l.take n = t at *
  obtain rfl : t.length = n := hlen
  clear hT hv hc0 hc2
  have i0 : (0 : Int) ≤ (t.length : Int) := by omega
  have i1 : (t.length : Int) ≤ (cap : Int) := by omega
  have HOW := Lib.hid (lit_ownsN w [.int .u8 (k.toNat : Int)] 5)
  have hmk := fun w => hmake_rule (P := Try.prog) Try.underlying26 (e := 5) (by kernel_rfl) 4001 4001 rfl (by omega) w
  go_enter Try.func13, Try.ntmps13
  rcases hn with ⟨e1, e2⟩ | ⟨e1, e2⟩
  · have j1 : (l.length : Int) ≤ 50 := by omega
    rw [e1] at HT i0 i1 n50 hnl
    have e3 := Lib.hid e1
    clear e1 e2
    go_wp2_with (at_builtin; refine wpList_append_sl rfl _ _ 26 rfl elemB w.heap.size _ rfl 1 [.int .u8 (k.toNat : Int)] (by exact HOW.out) _ rfl l.length _ (by exact HT.out) (oneCell_map _ _ (fun _ => rfl)) (by unfold maxLen; omega) (by omega) (by simp) ?_; intro v1 w1 hown1 hgr1)
    have hB1 : Below w.heap.size w w1 := ((Below.refl _ w).alloc (Nat.le_refl _) _).grown hgr1 (by simp) (ownBlock_ge HOW.out)
    have hR1 : RdB (fun b => w.heap.size ≤ b) w1 v1 (k :: t) := RdS.of_owns (n := 1 + l.length) (f := fun c : UInt8 => Value.int .u8 c.toNat) (base := w.heap.size) (e := 5) hown1 (fun b hb => hb)
    have HB1 := Lib.hid hB1
    clear hown1 hgr1 hB1
    refine (wdecode_any (k :: t) _ _ hR1).mono ?_
    rintro e w2 ⟨mv, rfl, hM, hb2⟩
    have HM := Lib.hid hM
    have HB2 := Lib.hid (HB1.out.trans (hb2.mono HB1.out.size))
    generalize hd1 : (decode (k :: t)).1 = m at *
    generalize hd2 : (decode (k :: t)).2 = c at *
    clear hM hb2 HB1 hd1 hd2
    go_wp2_with (refine wpList_store_new rfl 42 _ _ rfl (msgCells m mv) 42 zeroMsg rfl rfl (by kernel_rfl) rfl (msgCells_one HM.out) ?_; intro w3 hb3 hB3 hs3; have HB3 := Lib.hid (HB2.out.trans (hB3.mono HB2.out.size)); clear hb3 hB3 hs3)
    have hZ : ZBlock (w3.alloc (.cells (zcells 4001) 5)) w3.heap.size 4001 5 := ZBlock.new rfl
    refine (wdecode_any (zeros 4001) _ _ (hZ.rd (by unfold maxLen; omega))).mono ?_
    rw [decode_big _ (by rw [length_zeros]; omega)]
    rintro e w4 ⟨mv4, rfl, hM4, hb4⟩
    have HM4 := Lib.hid hM4
    have HB4 := Lib.hid ((HB3.out.alloc HB3.out.size (.cells (zcells 4001) 5)).trans (hb4.mono (by have := HB3.out.size; simp; omega)))
    clear hM4 hb4 hZ HB3
    go_wp2_with (refine wpList_store_new rfl 42 _ _ rfl (msgCells msg0 mv4) 42 zeroMsg rfl rfl (by kernel_rfl) rfl (msgCells_one HM4.out) ?_; intro w5 hb5 hB5 hs5; have HB5 := Lib.hid (HB4.out.trans (hB5.mono HB4.out.size)); clear hb5 hB5 hs5)
    refine (wdecode_any [] _ _ (RdS.nil RByte (fun _ => True) _)).mono ?_
    rw [decode_none]
    rintro e w6 ⟨mv6, rfl, hM6, hb6⟩
    have HM6 := Lib.hid hM6
    have HB6 := Lib.hid (HB5.out.trans (hb6.mono HB5.out.size))
    clear hM6 hb6
    go_wp2_with (refine wpList_store_new rfl 42 _ _ rfl (msgCells msg0 mv6) 42 zeroMsg rfl rfl (by kernel_rfl) rfl (msgCells_one HM6.out) ?_; intro w7 hb7 hB7 hs7; have HB7 := Lib.hid (HB6.out.trans (hB7.mono HB6.out.size)); clear hb7 hB7 hs7)
    all_goals
      go_ret
      exact ⟨ret_boolH (by first | exact kind_hi _ _ HL.out ‹_› | exact kind_lo _ _ HL.out ‹_› | exact kind_lo2 _ _ HL.out ‹_›), HB7.out⟩
  · have j1 : ¬ (l.length : Int) ≤ 50 := by omega
    rw [e1] at HT i0 i1 n50 hnl
    have e3 := Lib.hid e1
    clear e1 e2
    go_wp2_with (at_builtin; refine wpList_append_sl rfl _ _ 26 rfl elemB w.heap.size _ rfl 1 [.int .u8 (k.toNat : Int)] (by exact HOW.out) _ rfl 50 _ (by exact HT.out) (oneCell_map _ _ (fun _ => rfl)) (by unfold maxLen; omega) (by omega) (by simp) ?_; intro v1 w1 hown1 hgr1)
    have hB1 : Below w.heap.size w w1 := ((Below.refl _ w).alloc (Nat.le_refl _) _).grown hgr1 (by simp) (ownBlock_ge HOW.out)
    have hR1 : RdB (fun b => w.heap.size ≤ b) w1 v1 (k :: t) := RdS.of_owns (n := 1 + 50) (f := fun c : UInt8 => Value.int .u8 c.toNat) (base := w.heap.size) (e := 5) hown1 (fun b hb => hb)
    have HB1 := Lib.hid hB1
    clear hown1 hgr1 hB1
    refine (wdecode_any (k :: t) _ _ hR1).mono ?_
    rintro e w2 ⟨mv, rfl, hM, hb2⟩
    have HM := Lib.hid hM
    have HB2 := Lib.hid (HB1.out.trans (hb2.mono HB1.out.size))
    generalize hd1 : (decode (k :: t)).1 = m at *
    generalize hd2 : (decode (k :: t)).2 = c at *
    clear hM hb2 HB1 hd1 hd2
    go_wp2_with (refine wpList_store_new rfl 42 _ _ rfl (msgCells m mv) 42 zeroMsg rfl rfl (by kernel_rfl) rfl (msgCells_one HM.out) ?_; intro w3 hb3 hB3 hs3; have HB3 := Lib.hid (HB2.out.trans (hB3.mono HB2.out.size)); clear hb3 hB3 hs3)
    have hZ : ZBlock (w3.alloc (.cells (zcells 4001) 5)) w3.heap.size 4001 5 := ZBlock.new rfl
    refine (wdecode_any (zeros 4001) _ _ (hZ.rd (by unfold maxLen; omega))).mono ?_
    rw [decode_big _ (by rw [length_zeros]; omega)]
    rintro e w4 ⟨mv4, rfl, hM4, hb4⟩
    have HM4 := Lib.hid hM4
    have HB4 := Lib.hid ((HB3.out.alloc HB3.out.size (.cells (zcells 4001) 5)).trans (hb4.mono (by have := HB3.out.size; simp; omega)))
    clear hM4 hb4 hZ HB3
    go_wp2_with (refine wpList_store_new rfl 42 _ _ rfl (msgCells msg0 mv4) 42 zeroMsg rfl rfl (by kernel_rfl) rfl (msgCells_one HM4.out) ?_; intro w5 hb5 hB5 hs5; have HB5 := Lib.hid (HB4.out.trans (hB5.mono HB4.out.size)); clear hb5 hB5 hs5)
    refine (wdecode_any [] _ _ (RdS.nil RByte (fun _ => True) _)).mono ?_
    rw [decode_none]
    rintro e w6 ⟨mv6, rfl, hM6, hb6⟩
    have HM6 := Lib.hid hM6
    have HB6 := Lib.hid (HB5.out.trans (hb6.mono HB5.out.size))
    clear hM6 hb6
    go_wp2_with (refine wpList_store_new rfl 42 _ _ rfl (msgCells msg0 mv6) 42 zeroMsg rfl rfl (by kernel_rfl) rfl (msgCells_one HM6.out) ?_; intro w7 hb7 hB7 hs7; have HB7 := Lib.hid (HB6.out.trans (hB7.mono HB6.out.size)); clear hb7 hB7 hs7)
    all_goals
      go_ret
      exact ⟨ret_boolH (by first | exact kind_hi _ _ HL.out ‹_› | exact kind_lo _ _ HL.out ‹_› | exact kind_lo2 _ _ HL.out ‹_›), HB7.out⟩
theorem kindBad_walk (k : UInt8) (v : Value) (l : Bytes) (w : World) (hv : RdB (fun _ => True) w v l) :
    Calls Try.prog 13 #[.int .u8 (k.toNat : Int), v] w fun e w' => e = .returned (.bool true) ∧ Below w.heap.size w w' := by
  obtain ⟨ad, cap, rfl, -, -⟩ := hv.form
  exact kindBad_case k ad cap l (min l.length 50) w hv (by omega)
end Go.Proofs.Ytgkmgdkmafbohaa
