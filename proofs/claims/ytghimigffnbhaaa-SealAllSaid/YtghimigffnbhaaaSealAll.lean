/- SealAll: the walk. -/
import Derived.Test.YtghimigffnbhaaaPoolMore
import Derived.Test.YtghimigffnbhaaaSealP
import Derived.Test.YtghimigffnbhaaaSealLast
import Derived.Test.YtghimigffnbhaaaLib4
import Derived.Test.YtghimigffnbhaaaSame
set_option linter.unusedVariables false
set_option linter.unusedSimpArgs false
namespace Go.Proofs.Ytghimigffnbhaaa
open Go Go.RowKit

theorem picked_0_99 : pickedZ 0 99 = 0 := by decide
/-- The pool of a good text and a list: it begins with that text. -/
theorem poolFold_x {n : Int} (h1 : 1 ≤ n) (h2 : n ≤ 1048577) (x : List UInt8) (hx : txOf x = x) (l : List (List UInt8)) : x ∈ poolFold n ((x :: l).take 30) := by
  have e : (x :: l).take 30 = x :: l.take 29 := rfl
  rw [e]
  unfold poolFold
  rw [List.map_cons, List.foldl_cons]
  apply fold_keeps
  have ok : poolOk n [] = true := by unfold poolOk; simp [h1, h2]
  have hc : addCode n [] x = 0 := addCode_ok ok (hx ▸ txOf_txOk x) (by simp) (by simp)
  rw [hx]
  unfold addAll
  rw [if_pos hc]
  simp
theorem sealCode_none {n a : Int} {l : List (List UInt8)} (h : poolOk n l = true) (h1 : 0 ≤ a) (h2 : a < 4) (h3 : l.length = 0) : sealCode n l a = 8 := by
  unfold sealCode; simp [h, h3]; omega

set_option maxRecDepth 100000 in
set_option maxHeartbeats 4000000 in
theorem sealAll_walk (v : Value) (l : List (List UInt8)) (w : World) (h : RdT (fun _ => True) w v l) (hl : ∀ t ∈ l, t.length ≤ 9223372036854775807) (hz : l.length * 16 ≤ reachBytes) :
    Calls Try.prog 7 #[v] w fun e w' => e = .returned (.bool true) ∧ Below w.heap.size w w' := by
  have hz' : l.length * 16 ≤ 140737488351232 := hz
  go_enter Try.func7, Try.ntmps7
  go_wp2_with (at_builtin; refine wpList_append_sl rfl _ _ 29 rfl elemT w.heap.size _ rfl 1 [strV [102, 105, 114, 115, 116]] (by exact lit_owns _ _ _) _ rfl l.length (l.map (fun s => strV s)) (by exact RdS.slCells (h.keep (Keep.alloc _ _ _) (fun _ h => h))) (oneCell_map _ _ (fun _ => rfl)) (by unfold maxLen; omega) (by omega) (by simp) ?_; intro v3 w3 hown3 hgr3)
  have hB3 : Below w.heap.size w w3 := ((Below.refl _ w).alloc (Nat.le_refl _) _).grown hgr3 (by simp) (fun k hk => ownBlock_ge (lit_owns w (strV [102, 105, 114, 115, 116]) 9) k hk)
  have hV : RdT (fun b => w.heap.size ≤ b) w3 v3 ([102, 105, 114, 115, 116] :: l) := RdS.of_owns (n := 1 + l.length) (by simpa using hown3) (fun _ h => h)
  clear hown3 hgr3
  have hs3 : ∀ t ∈ ([102, 105, 114, 115, 116] :: l), t.length ≤ 9223372036854775807 := fun t ht => by
    rcases List.mem_cons.1 ht with rfl | ht
    · decide
    · exact hl t ht
  have K := kpool_any v3 0 w3 hV hs3 (by decide) (by decide)
  rw [show (1 : Int) + pickedZ 0 99 = 1 by rw [picked_0_99]; rfl] at K
  have hm := poolFold_x (n := 1) (by decide) (by decide) [102, 105, 114, 115, 116] (by decide) l
  have hok := poolFold_ok (n := 1) (([102, 105, 114, 115, 116] :: l).take 30) (by decide) (by decide)
  have hl30 := poolFold_len 1 ([102, 105, 114, 115, 116] :: l)
  generalize poolFold 1 (([102, 105, 114, 115, 116] :: l).take 30) = P at *
  have hlen : P.length ≠ 0 := fun e => by rw [List.eq_nil_of_length_eq_zero e] at hm; simp at hm
  have HOK := Lib.hid hok
  have HK := Lib.hid K
  clear K hm hok hV hs3
  refine HK.out.mono ?_
  rintro e w4 ⟨v4, rfl, hP, hb4⟩
  obtain ⟨ad4, cap4, rfl, -, -⟩ := hP.form
  have HP := Lib.hid (hP.low (by decide))
  have hB4 := hB3.trans (hb4.mono hB3.size)
  have z4 := hB4.size
  clear hP hb4
  go_wp2_with fail
  go_loopw [5, 6] (fun vw i wr => ∃ (k : Nat) (D Q : List (List UInt8)) (adp : Option Addr) (capp : Nat), k ≤ 20 ∧ P = D ++ Q ∧ (Q.length = 0 ∨ D.length = 4 * k) ∧ i = .int .i64 k ∧
      BoxAt wr w4.heap.size [.int .i64 (1 + k), .slice adp Q.length capp] 31 ∧ RdT (fun b => vw.ownBlock ≠ some b ∧ b ≠ w4.heap.size) wr (.slice adp Q.length capp) Q ∧
      wr.ownsRow (w4.heap.size + 1) 9 1 vw D.length (D.map (fun s => strV s)) ∧ RdT (fun b => b < w4.heap.size) wr (.slice ad4 P.length cap4) P ∧ Below w.heap.size w wr)
    (fun _ i _ => 20 - (intOf i).toNat)
  case atStart =>
    refine ⟨0, [], P, ad4, cap4, by omega, rfl, .inr rfl, rfl, BoxAt.new w4 [_, _] _, HP.out.keep (Keep.alloc _ _ _) (fun b h => ⟨by simp [Value.ownBlock], by omega⟩), ⟨by simp, .inl ⟨rfl, rfl⟩⟩, HP.out.keep (Keep.alloc _ _ _) (fun _ h => h.2), hB4.alloc z4 _⟩
  case round =>
    obtain ⟨k, D, Q, adp, capp, hk, hPQ, hdk, rfl, hbox, hrd, hown, hwant, hB⟩ := hrel
    have z0 := hbox.lt
    have p0 := hbox.cell 0 rfl
    have p1 := hbox.cell 1 rfl
    have pf0 := hbox.free 0
    have pf1 := hbox.free 1
    have HRD := Lib.hid hrd
    have HO := Lib.hid hown
    have HW := Lib.hid hwant
    have hbk := hown.lt
    have hPl : P.length = D.length + Q.length := by rw [hPQ]; simp
    have hQP : poolOk 1 Q = true := by have := poolOk_drop HOK.out D.length; rw [hPQ] at this; simpa using this
    have HPQ := Lib.hid hPQ
    clear hrd hown hwant hPQ
    by_cases hlt : 0 < Q.length
    · have hd4 : D.length = 4 * k := by omega
      have hk20 : k < 20 := by omega
      have i0 : (0 : Int) < (Q.length : Int) := by omega
      have i1 : (k : Int) < 20 := by omega
      have HS := Lib.hid (sealCode_ok (n := 1 + k) (a := 2) (poolOk_n hQP (by omega) (by omega)) (by decide) (by decide) (by omega) (by omega))
      obtain ⟨kk, hkk⟩ : ∃ kk, kk = min Q.length 4 := ⟨_, rfl⟩
      have HKK := Lib.hid hkk
      have hD30 : D.length ≤ 30 := by omega
      have HD4 := Lib.hid hd4
      clear hQP hPl hdk hd4 hkk
      go_wp2_with fail
      refine (pseal_ok HRD.out HS.out HKK.out).mono ?_
      rintro e w5 ⟨a1, c1, a2, c2, rfl, hdr, htk, hb5⟩
      have hkk := HKK.out
      obtain ⟨E, hE⟩ : ∃ E, E = Q.drop kk := ⟨_, rfl⟩
      obtain ⟨T, hT⟩ : ∃ T, T = Q.take kk := ⟨_, rfl⟩
      have hTl : T.length = kk := by rw [hT, List.length_take]; omega
      have hEl : Q.length - kk = E.length := by rw [hE, List.length_drop]
      have hQ : Q = T ++ E := by rw [hT, hE, List.take_append_drop]
      rw [← hE, hEl] at hdr
      rw [← hT] at htk
      rw [hEl]
      have HD := Lib.hid (hdr.low (by decide))
      have HT := Lib.hid htk
      have HQ := Lib.hid hQ
      have HE := Lib.hid hEl
      have HO2 := Lib.hid (ownsRow_below HO.out hb5)
      have HW2 := Lib.hid (HW.out.below hb5 (fun _ h => h))
      have b0 := hbox.belowS hb5
      have s5 := hb5.size
      have hB5 := hB.trans (hb5.mono (by have := hB.size; omega))
      have zz5 := hB5.size
      have q0 := b0.cell 0 rfl
      have q1 := b0.cell 1 rfl
      have qf0 := b0.free 0
      have qf1 := b0.free 1
      have HTl := Lib.hid hTl
      have HSLT := Lib.hid (show SlCells w5 (.slice a2 kk c2) kk 1 (T.map fun s => strV s) by have := RdS.slCells htk; rw [hTl] at this; exact this)
      have k0 : 0 < kk := by omega
      have k4 : kk ≤ 4 := by omega
      have HK4 := Lib.hid (show E.length = 0 ∨ kk = 4 by omega)
      clear hdr htk hb5 hE hT hEl hQ hkk hTl
      have hbk2 : ∀ k, Value.ownBlock u5 = some k → w4.heap.size + 1 ≤ k ∧ k < w5.heap.size := fun k hk => ⟨(hbk k hk).1, by have := (hbk k hk).2; omega⟩
      go_wp2_with (at_builtin; refine wpList_append_at1 rfl _ _ 29 rfl elemT (w4.heap.size + 1) _ rfl D.length _ (by exact (HO2.out.alloc _).alloc _) _ rfl kk (T.map (fun s => strV s)) (by exact HSLT.out.below (((Below.refl _ _).alloc (Nat.le_refl _) _).alloc (by simp) _)) (oneCell_map _ _ (fun _ => rfl)) (by omega) (by unfold maxLen; omega) (by omega) (by simp; omega) _ rfl ?_; intro g cap3 w6 hown6 hgr6 hat hlt6; have bx := (((BoxAt.new w5 [_, _] _).alloc _).grown hgr6 (fun e => by have := (hbk2 _ e).2; omega)); have bp := ((b0.alloc _).alloc _).grown hgr6 (fun e => by have := (hbk2 _ e).1; omega); have x0 := bx.cell 0 rfl; have x1 := bx.cell 1 rfl; have r0 := bp.cell 0 rfl; have r1 := bp.cell 1 rfl; have rf0 := bp.free 0; have rf1 := bp.free 1)
      have HX6 := Lib.hid hown6
      have HG6 := Lib.hid hgr6
      have HA6 := Lib.hid hat
      clear hown6 hgr6 hat
      have hB6 := ((hB5.alloc zz5 _).alloc (by simp; omega) _).grown HG6.out (by simp; omega) (fun k hk => by have := (hbk2 k hk).1; omega)
      go_wp2_with fail
      go_roundw
      case rel =>
        have e1 : (1 : Int) + ((k + 1 : Nat) : Int) = 1 + (k : Int) + 1 := by omega
        have hl : (D ++ T).length = D.length + kk := by rw [List.length_append, HTl.out]
        refine ⟨k + 1, D ++ T, E, a1, c1, by omega, by rw [HPQ.out, HQ.out, List.append_assoc], ?_, by go_num, ?_, ?_, ?_, ?_, ?_⟩
        · rcases HK4.out with e | e
          · exact .inl e
          · exact .inr (by rw [hl, HD4.out, e]; omega)
        · rw [e1]; exact bp.set2 _ _
        · refine HD.out.keep (((((Keep.alloc _ _ _).trans (Keep.alloc _ _ _)).trans (Keep.grown HG6.out ?_)).trans (Keep.setCell (by simp; omega) _)).trans (Keep.setCell (by simp; omega) _)) (fun b hb => ⟨?_, by have := hb.1; omega⟩)
          · intro k hk hb
            have := (hbk k hk).2; have := hb.1; omega
          · intro e
            simp [Value.ownBlock] at e
            rcases HA6.out with hat | hat
            · have := (hbk _ hat).2; have := hb.1; omega
            · simp at hat; have := hb.2; omega
        · rw [hl, List.map_append]
          exact ownsRow_setCell (ownsRow_setCell HX6.out (by simp) _) (by simp) _
        · refine HW2.out.keep (((((Keep.alloc _ _ _).trans (Keep.alloc _ _ _)).trans (Keep.grown HG6.out ?_)).trans (Keep.setCell (by simp) _)).trans (Keep.setCell (by simp) _)) (fun b hb => hb)
          intro k hk hb
          have := (hbk k hk).1; omega
        · exact (hB6.setCell (by simp; omega) _).setCell (by simp; omega) _
      case measure => simp [intOf]; omega
    · have hQ0 : Q.length = 0 := by omega
      have hQn : Q = [] := List.eq_nil_of_length_eq_zero hQ0
      have hPD : D = P := by rw [HPQ.out, hQn, List.append_nil]
      have HS := Lib.hid (sealCode_none (n := 1 + k) (a := 2) (poolOk_n hQP (by omega) (by omega)) (by decide) (by decide) hQ0)
      have hD0 : (0 : Int) < (D.length : Int) := by rw [hPD]; omega
      have t0 : ¬ (0 : Int) < (Q.length : Int) := by omega
      obtain ⟨adu, capu, rfl⟩ := ownsRow_form HO.out
      have HV := Lib.hid (show RdT (fun _ => True) wr (.slice adu D.length capu) D from RdS.of_owns HO.out (fun _ _ => trivial))
      have HEQ := Lib.hid (show decide (D = P) = true by simp [hPD])
      have HBh := Lib.hid hB
      clear hQ0 hQn hPD hPl hQP hlt hdk hB hbk
      by_cases hk20 : (k : Int) < 20
      all_goals
        go_wp2_with fail
        refine (pseal_no HRD.out HS.out (by decide)).mono ?_
        rintro e w5 ⟨rfl, hb5⟩
        have HW5 := Lib.hid (HW.out.below hb5 (fun _ h => h))
        have HV5 := Lib.hid (HV.out.below hb5 (fun _ h => h))
        have HB5 := Lib.hid (HBh.out.trans (hb5.mono HBh.out.size))
        clear hb5
        go_wp2_with (go_at_call 22; refine (sameTexts_any _ _ _ (HV5.out.keep ((Keep.alloc _ _ _).trans (Keep.alloc _ _ _)) (fun _ h => h)) (HW5.out.keep ((Keep.alloc _ _ _).trans (Keep.alloc _ _ _)) (fun _ h => h))).mono ?_; rintro e w6 ⟨rfl, n6, rfl⟩; rw [HEQ.out])
        go_ret
        have zz := HB5.out.size
        exact ⟨ret_boolH (decide_eq_true (by omega)).symm, below_drewN ((HB5.out.alloc zz _).alloc (by simp; omega) _) _⟩
end Go.Proofs.Ytghimigffnbhaaa
