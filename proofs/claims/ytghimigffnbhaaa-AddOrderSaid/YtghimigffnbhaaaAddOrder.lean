/- AddOrder: the walk. -/
import Derived.Test.YtghimigffnbhaaaPoolMore
import Derived.Test.YtghimigffnbhaaaSame
import Derived.Test.YtghimigffnbhaaaLinesRange
import Derived.Test.YtghimigffnbhaaaLib4
import Derived.Deep.DeepCutAuto
set_option linter.unusedVariables false
set_option linter.unusedSimpArgs false
namespace Go.Proofs.Ytghimigffnbhaaa
open Go Go.RowKit

theorem box2c {w : World} {a b : Value} {T : TypeId} : (w.alloc (.cells #[a, b] T)).cell? ⟨w.heap.size, 0, none⟩ = some a ∧ (w.alloc (.cells #[a, b] T)).cell? ⟨w.heap.size, 1, none⟩ = some b :=
  ⟨(BoxAt.new w [a, b] T).cell 0 rfl, (BoxAt.new w [a, b] T).cell 1 rfl⟩

/-- A new block of one element, its number a letter. -/
theorem slCells_newAt {w : World} {n : Nat} {v : Value} {e : TypeId} (hn : n = w.heap.size) : SlCells (w.alloc (.cells #[v] e)) (.slice (some ⟨n, 0, none⟩) 1 1) 1 1 [v] := by
  subst hn; exact slCells_new w [v] e 1 rfl

set_option maxRecDepth 100000 in
set_option maxHeartbeats 4000000 in
theorem addOrder_walk (v : Value) (l : List (List UInt8)) (w : World) (h : RdT (fun _ => True) w v l) (hl : ∀ t ∈ l, t.length ≤ 9223372036854775807) :
    Calls Try.prog 6 #[v] w fun e w' => e = .returned (.bool true) ∧ Below w.heap.size w w' := by
  obtain ⟨ad, cap, rfl, hlc, hcap⟩ := h.form
  unfold maxLen at hcap
  have h30 := Lib.hid (zeros_long 30 (by decide))
  go_enter Try.func6, Try.ntmps6
  go_wp2_with fail
  go_loopw [4, 5] (fun vw i wr => ∃ (k : Nat) (Q : List (List UInt8)) (adp : Option Addr) (capp : Nat), k ≤ l.length ∧ k ≤ 30 ∧ Q.length ≤ k ∧ i = .int .i64 k ∧ poolOk 1 Q = true ∧
      BoxAt wr w.heap.size [.int .i64 1, .slice adp Q.length capp] 31 ∧ RdT (fun b => w.heap.size < b ∧ vw.ownBlock ≠ some b) wr (.slice adp Q.length capp) Q ∧
      wr.ownsRow (w.heap.size + 1) 9 1 vw Q.length (Q.map (fun s => strV s)) ∧ Below w.heap.size w wr)
    (fun _ i _ => l.length - (intOf i).toNat)
  case atStart =>
    exact ⟨0, [], none, 0, by omega, by omega, by simp, rfl, by decide, BoxAt.new w [_, _] _, RdS.nil _ _ _, ⟨rfl, .inl ⟨rfl, rfl⟩⟩, (Below.refl _ _).alloc (Nat.le_refl _) _⟩
  case round =>
    obtain ⟨k, Q, adp, capp, hk, hk30, hQk, rfl, hok, hbox, hrd, hown, hB⟩ := hrel
    have z0 := hbox.lt
    have p0 := hbox.cell 0 rfl
    have p1 := hbox.cell 1 rfl
    have pf0 := hbox.free 0
    have pf1 := hbox.free 1
    have HRD := Lib.hid hrd
    have HO := Lib.hid hown
    have HOK := Lib.hid hok
    have HV := Lib.hid (show RdT (fun _ => True) wr _ Q from RdS.of_owns hown (fun _ _ => trivial))
    obtain ⟨adw, capw, rfl⟩ := ownsRow_form hown
    clear hrd hown hok
    have hbk := HO.out.lt
    by_cases hlt : k < l.length ∧ k < 30
    · obtain ⟨hlt, hlt30⟩ := hlt
      obtain ⟨b, o, rfl, hG, hcl⟩ := h.cell k hlt
      have hcl' : wr.cell? ⟨b, o + k, none⟩ = some (strV l[k]) := by
        rw [hB.cell (p := ⟨b, o + k, none⟩) (World.block_lt_of_cell? w _ hcl)]; exact hcl
      have hsk := hl l[k] (List.getElem_mem hlt)
      have hT := fun w => ktx_any l[k] w hsk
      have htx := txOf_txOk l[k]
      generalize txOf l[k] = t at *
      have HT := Lib.hid hT
      clear hT
      go_wp2_with fail
      refine (HT.out _).mono ?_
      rintro e w' ⟨rfl, rfl⟩
      go_wp2_with fail
      go_loop [7, 8] (fun b i => ∃ j : Nat, j ≤ Q.length ∧ i = .int .i64 j ∧ b = .bool (decide (t ∈ Q.take j))) (fun _ i => Q.length - (intOf i).toNat)
      case atStart => exact ⟨0, Nat.zero_le _, rfl, by simp⟩
      case round =>
        obtain ⟨j, hj, rfl, rfl⟩ := hrel
        by_cases hjl : j < Q.length
        · obtain ⟨b2, o2, rfl, -, hcl2⟩ := HV.out.cell j hjl
          by_cases hmk : t ∈ Q.take j
          · have HM := Lib.hid (mem_take_bool1 hjl hmk)
            go_wp2
            go_round
            case rel => exact ⟨j + 1, by omega, by go_num, by rw [← HM.out]⟩
            case measure => simp [intOf]; omega
          · have HM := Lib.hid (mem_take_bool2 hjl hmk)
            go_wp2
            go_round
            case rel => exact ⟨j + 1, by omega, by go_num, by rw [← HM.out]⟩
            case measure => simp [intOf]; omega
        · have hje : j = Q.length := by omega
          subst hje
          clear hj hjl
          rw [List.take_length]
          by_cases hm : t ∈ Q
          · have hd : decide (t ∈ Q) = true := by simp [hm]
            have hc := Lib.hid (addCode_twice HOK.out htx hm)
            clear hm
            rw [hd]
            go_wp2_with fail
            refine (padd_no hc.out (by decide) HRD.out).mono ?_
            rintro e w2 ⟨ad2, cap2, rfl, hb2⟩
            have HR2 := Lib.hid (HRD.out.below hb2 (fun _ h => h))
            have HO2 := Lib.hid (ownsRow_below HO.out hb2)
            have b0 := hbox.belowS hb2
            have s2 := hb2.size
            have hB2 := hB.trans (hb2.mono (Nat.le_of_lt z0))
            obtain ⟨hc2, hf2⟩ := bcell hb2
            clear hb2
            go_wp2
            go_roundw
            case rel => exact ⟨k + 1, Q, adp, capp, by omega, by omega, by omega, by go_num, HOK.out, b0.alloc _, HR2.out.keep (Keep.alloc _ _ _) (fun _ h => h), HO2.out.alloc _, hB2.alloc (by omega) _⟩
            case measure => simp [intOf]; omega
          · have hd : decide (t ∈ Q) = false := by simp [hm]
            have hca := addCode_ok HOK.out htx hm (by omega)
            have hc := Lib.hid hca
            have HOK' := Lib.hid (poolOk_add hca)
            clear hm hca
            rw [hd]
            go_wp2_with fail
            refine (padd_ok hc.out HRD.out).mono ?_
            rintro e w2 ⟨ad2, cap2, rfl, hX, hb2⟩
            have HX := Lib.hid (hX.low (by decide))
            have HO2 := Lib.hid (ownsRow_below HO.out hb2)
            have b0 := hbox.belowS hb2
            have s2 := hb2.size
            have hB2 := hB.trans (hb2.mono (Nat.le_of_lt z0))
            obtain ⟨hc2, hf2⟩ := bcell hb2
            clear hb2 hX
            generalize Value.slice adw Q.length capw = vw at *
            go_wp2_with (at_builtin; refine wpList_append_at1 rfl _ _ 29 rfl elemT (w.heap.size + 1) _ rfl Q.length _ (by exact (HO2.out.alloc _).alloc _) _ rfl 1 [strV t] (by exact slCells_newAt (by simp)) (by simp [Value.oneCell']) (by decide) (by unfold maxLen; omega) (by omega) (by simp; omega) _ rfl ?_; intro g cap3 w3 hown3 hgr3 hat hlt3; have hbk2 : ∀ k, Value.ownBlock vw = some k → w.heap.size + 1 ≤ k ∧ k < w2.heap.size := fun k hk => ⟨(hbk k hk).1, by have := (hbk k hk).2; omega⟩; have bx := (((BoxAt.new w2 [_, _] _).alloc _).grown hgr3 (fun e => by have := (hbk2 _ e).2; omega)); have bp := ((b0.alloc _).alloc _).grown hgr3 (fun e => by have := (hbk2 _ e).1; omega); have x0 := bx.cell 0 rfl; have x1 := bx.cell 1 rfl; have q0 := bp.cell 0 rfl; have q1 := bp.cell 1 rfl; have qf0 := bp.free 0; have qf1 := bp.free 1)
            have hB3 := (((hB2.alloc (by omega) _).alloc (by simp; omega) _)).grown hgr3 (by simp; omega) (fun k hk => by have := (hbk2 k hk).1; omega)
            have HX3 : RdT (fun b => w.heap.size < b ∧ Value.ownBlock (.slice (some ⟨g, 0, none⟩) (Q.length + 1) cap3) ≠ some b) w3 (.slice ad2 (Q.length + 1) cap2) (Q ++ [t]) := by
              refine HX.out.keep (((Keep.alloc _ _ _).trans (Keep.alloc _ _ _)).trans (Keep.grown hgr3 ?_)) (fun b hb => ⟨by omega, ?_⟩)
              · intro k hk hb
                have := (hbk k hk).2; omega
              · intro e
                simp [Value.ownBlock] at e
                rcases hat with hat | hat
                · have := (hbk _ hat).2; omega
                · simp at hat; omega
            have HX3' := Lib.hid HX3
            have HO3 := Lib.hid hown3
            clear HX3 hown3 hgr3 hat hlt3
            try go_wp2
            go_roundw
            case rel =>
              refine ⟨k + 1, Q ++ [t], ad2, cap2, by omega, by omega, by simp; omega, by go_num, HOK'.out, ?_, ?_, ?_, ?_⟩
              · simpa using bp.set2 _ _
              · have := HX3'.out.keep ((Keep.setCell (p := ⟨w.heap.size, 0, none⟩) (by simp) (.int .i64 1)).trans (Keep.setCell (p := ⟨w.heap.size, 1, none⟩) (by simp) (.slice ad2 (Q.length + 1) cap2))) (fun _ h => h)
                simpa using this
              · have := ownsRow_setCell (ownsRow_setCell HO3.out (p := ⟨w.heap.size, 0, none⟩) (by simp) (.int .i64 1)) (p := ⟨w.heap.size, 1, none⟩) (by simp) (.slice ad2 (Q.length + 1) cap2)
                simpa using this
              · exact (hB3.setCell (by simp) _).setCell (by simp) _
            case measure => simp [intOf]; omega
    · have hc1 := Lib.hid (addCode_size (t := zeros 30) HOK.out h30.out)
      have hmk := hmake_rule (P := Try.prog) Try.underlying27 info_u8 30 30 rfl (by omega)
      have hcv := fun (w : World) (b : Nat) (hb : b = w.heap.size) => hstr_rule (P := Try.prog) Try.underlying27 Try.underlying5 Try.underlying9 30 (by unfold maxLen; omega) (w.alloc (.cells (zcells 30) 5)).drew b (ZBlock.new hb)
      have hcv' := fun (w : World) (b : Nat) (o : Obj) (hb : b = w.heap.size) => hstr_rule (P := Try.prog) Try.underlying27 Try.underlying5 Try.underlying9 30 (by unfold maxLen; omega) ((w.alloc (.cells (zcells 30) 5)).alloc o).drew b ((ZBlock.new hb).alloc o)
      have y1 : w.heap.size < wr.heap.size + 1 := by omega
      have y2 : w.heap.size < wr.heap.size + 1 + 1 := by omega
      have y3 : w.heap.size < wr.heap.size + 1 + 1 + 1 := by omega
      by_cases hlt' : k < l.length
      all_goals
        go_upto_region 18 with fail
        go_cut [11, 12] (fun _ g wx => g = .int .i64 1 ∧ Below wr.heap.size wr wx)
        case first =>
          go_region_with (go_at_call 20; refine (padd_no hc1.out (by decide) (HRD.out.keep ?_ (fun _ h => h))).mono ?_; (repeat (first | with_reducible exact Keep.refl _ _ | with_reducible refine Keep.alloc' ?_ _ | with_reducible refine Keep.drew' ?_)); rintro e w4 ⟨ad4, cap4, rfl, hb4⟩; have hB4 : Below wr.heap.size wr w4 := (by refine Below.trans ?_ (hb4.mono (by first | omega | (simp <;> omega))); repeat (first | with_reducible exact Below.refl _ _ | with_reducible refine Below.alloc ?_ (by first | omega | (simp <;> omega)) _ | with_reducible refine Below.drew ?_)); obtain ⟨hc4, hf4⟩ := bcell hb4; have s4 := hB4.size)
          all_goals (go_wp2_with fail; go_meet; refine ⟨rfl, ?_⟩; repeat (first | with_reducible exact hB4 | with_reducible refine Below.setCell ?_ (by first | omega | (simp <;> omega)) _ | with_reducible refine Below.alloc ?_ (by first | omega | (simp <;> omega)) _))
        case rest =>
          obtain ⟨rfl, hb5⟩ := hcut
          have hR := hB.trans (hb5.mono (by omega))
          have HP5 := Lib.hid (HRD.out.below hb5 (fun _ h => h))
          have HV5 := Lib.hid (HV.out.below hb5 (fun _ h => h))
          have b5 := hbox.belowS hb5
          have q0 := b5.cell 0 rfl
          have q1 := b5.cell 1 rfl
          have qf0 := b5.free 0
          have qf1 := b5.free 1
          clear hb5 hmk hcv hcv' y1 y2 y3
          have hdec : decide (Q = Q) = true := by simp
          go_wp2_with (go_at_call 22; refine (sameTexts_any _ _ _ HP5.out HV5.out).mono ?_; rintro e w6 ⟨rfl, n6, rfl⟩; rw [hdec])
          go_ret
          exact ⟨rfl, below_drewN hR _⟩
end Go.Proofs.Ytghimigffnbhaaa
