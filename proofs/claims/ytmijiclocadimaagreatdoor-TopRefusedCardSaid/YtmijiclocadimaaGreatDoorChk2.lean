/- wire.digests, CheckBatch, CheckHeader, CheckCert. -/
import Derived.Test.YtmijiclocadimaaGreatDoorChk
set_option linter.unusedVariables false
set_option linter.unusedSimpArgs false
namespace Go.Proofs.YtmijiclocadimaaGreatDoor
open Go Go.RowKit

theorem digGo_drop {l : List Bytes} {k : Nat} (h : k < l.length) : l.drop k = l[k] :: l.drop (k + 1) := List.drop_eq_getElem_cons h
theorem dig_at_form {l : List Bytes} {k : Nat} (h : k < l.length) (hi : digCode l = digGo (l.take k) (l.drop k)) (h1 : l[k].length ≠ 32) : digCode l = 4 := by
  rw [hi, digGo_drop h, digGo_form h1]
theorem dig_at_twice {l : List Bytes} {k : Nat} (h : k < l.length) (hi : digCode l = digGo (l.take k) (l.drop k)) (h1 : l[k].length = 32) (h2 : l[k] ∈ l.take k) : digCode l = 7 := by
  rw [hi, digGo_drop h, digGo_twice h1 h2]
theorem dig_at_next {l : List Bytes} {k : Nat} (h : k < l.length) (hi : digCode l = digGo (l.take k) (l.drop k)) (h1 : l[k].length = 32) (h2 : ¬ l[k] ∈ l.take k) : digCode l = digGo (l.take (k + 1)) (l.drop (k + 1)) := by
  rw [hi, digGo_drop h, digGo_next h1 h2, List.take_succ_eq_append_getElem h]
theorem dig_at_end {l : List Bytes} {k : Nat} (h : l.length ≤ k) (hi : digCode l = digGo (l.take k) (l.drop k)) : digCode l = 0 := by
  rw [hi, List.drop_eq_nil_of_le h]; rfl

theorem wdigests_any {G : Nat → Prop} {l : List Bytes} (v : Value) (w : World) (h : RdBB G w v l) :
    Calls Tryz.prog 100 #[v] w fun e w' => e = .returned (.int .i64 (digCode l)) ∧ Below w.heap.size w w' := by
  obtain ⟨ad, cap, rfl, h1, h2⟩ := h.form
  unfold maxLen at h2
  have hmf : ∀ (fn : Fn) (first cap : Array Value) (w : World), (Instr.makeFunc fn first cap).run Tryz.prog w = .ok (.func fn first cap) w := fun _ _ _ _ => rfl
  go_enter Tryz.func100, Tryz.ntmps100
  go_wp2
  go_loopw [7] (fun i wr => ∃ k : Nat, k ≤ l.length ∧ i = .int .i64 k ∧ digCode l = digGo (l.take k) (l.drop k) ∧ Below w.heap.size w wr) (fun i _ => l.length - (intOf i).toNat)
  case atStart => exact ⟨0, Nat.zero_le _, rfl, rfl, Below.refl _ _⟩
  case round =>
    obtain ⟨k, hk, rfl, hi, hB⟩ := hrel
    have HI := Lib.hid hi
    clear hi
    by_cases hlt : k < l.length
    · have hr := h.below hB (fun _ h => h)
      obtain ⟨b, o, vd, rfl, -, hc, hd⟩ := hr.cellS k hlt
      obtain ⟨ad2, cap2, rfl, -, -⟩ := hd.form
      have HT := Lib.hid ((hr.take k hk).keep (Keep.alloc G wr (.cells #[.slice ad2 l[k].length cap2] 66)) (fun _ h => h))
      have HD := Lib.hid (hd.keep (Keep.alloc G wr (.cells #[.slice ad2 l[k].length cap2] 66)) (fun _ h => h))
      have hB1 := hB.alloc hB.size (.cells #[.slice ad2 l[k].length cap2] 66)
      clear hr hd
      by_cases e1 : l[k].length = 32
      · have hb : ((l[k].length : Int) != 32) = false := by simp [e1]
        by_cases e2 : l[k] ∈ l.take k
        · have HR := Lib.hid (dig_at_twice hlt HI.out e1 e2)
          have hdec := Lib.hid (show decide (l[k] ∈ l.take k) = true by simpa using e2)
          clear e1 e2
          go_wp2_with fail
          refine (digContains_any _ _ _ _ HT.out HD.out ((BoxAt.new wr [.slice ad2 l[k].length cap2] 66).cell 0 rfl)).mono ?_
          rintro e w' ⟨rfl, rfl⟩
          rw [hdec.out]
          go_wp2
          go_ret
          exact ⟨ret_intH HR.out, hB1⟩
        · have HR := Lib.hid (dig_at_next hlt HI.out e1 e2)
          have hdec := Lib.hid (show decide (l[k] ∈ l.take k) = false by simpa using e2)
          clear e1 e2
          go_wp2_with fail
          refine (digContains_any _ _ _ _ HT.out HD.out ((BoxAt.new wr [.slice ad2 l[k].length cap2] 66).cell 0 rfl)).mono ?_
          rintro e w' ⟨rfl, rfl⟩
          rw [hdec.out]
          go_wp2
          go_roundw
          case rel => exact ⟨k + 1, by omega, by go_num, HR.out, hB1⟩
          case measure => simp [intOf]; omega
      · have hb : ((l[k].length : Int) != 32) = true := by rw [bne_iff_ne]; omega
        have HR := Lib.hid (dig_at_form hlt HI.out e1)
        clear e1
        go_wp2
        go_ret
        exact ⟨ret_intH HR.out, hB1⟩
    · have HR := Lib.hid (dig_at_end (by omega) HI.out)
      go_wp2
      go_ret
      exact ⟨ret_intH HR.out, hB⟩


set_option maxRecDepth 100000 in
set_option maxHeartbeats 1000000 in
theorem cheader_any {G : Nat → Prop} {bs ps : List Bytes} (a r : Int) (vb vp : Value) (w : World) (hb : RdBB G w vb bs) (hp : RdBB G w vp ps) :
    Calls Tryz.prog 64 #[.agg #[.int .i64 a, .int .i64 r, vb, vp]] w fun e w' => e = .returned (.int .i64 (hdrCode ⟨a, r, bs, ps⟩)) ∧ Below w.heap.size w w' := by
  obtain ⟨adb, capb, rfl, h1, h2⟩ := hb.form
  obtain ⟨adp, capp, rfl, h1', h2'⟩ := hp.form
  unfold maxLen at h2 h2'
  have hR := (Below.refl w.heap.size w).alloc (Nat.le_refl _) (.cells #[.int .i64 a, .int .i64 r, .slice adb bs.length capb, .slice adp ps.length capp] 62)
  have b0 := BoxAt.new w [.int .i64 a, .int .i64 r, .slice adb bs.length capb, .slice adp ps.length capp] 62
  have HB := Lib.hid (hb.keep (Keep.alloc G w (.cells #[.int .i64 a, .int .i64 r, .slice adb bs.length capb, .slice adp ps.length capp] 62)) (fun _ h => h))
  have HP := Lib.hid (hp.keep (Keep.alloc G w (.cells #[.int .i64 a, .int .i64 r, .slice adb bs.length capb, .slice adp ps.length capp] 62)) (fun _ h => h))
  have HQ := Lib.hid b0
  clear b0
  go_enter Tryz.func64, Tryz.ntmps64
  cases e1 : nodeOk a
  · go_wp2_with (first
      | (go_at_call 98; refine (node_any _ _).mono ?_; rintro e w' ⟨rfl, rfl⟩))
    go_ret
    exact ⟨ret_intH (by unfold hdrCode; rw [if_pos (.inl e1)]), hR⟩
  · cases e2 : countOk r
    · go_wp2_with (first
        | (go_at_call 98; refine (node_any _ _).mono ?_; rintro e w' ⟨rfl, rfl⟩)
        | (go_at_call 99; refine (count_any _ _).mono ?_; rintro e w' ⟨rfl, rfl⟩))
      go_ret
      exact ⟨ret_intH (by unfold hdrCode; rw [if_pos (.inr e2)]), hR⟩
    · have hn0 : ¬ (nodeOk a = false ∨ countOk r = false) := by simp [e1, e2]
      by_cases e3 : 3 < bs.length ∨ 4 < ps.length
      · have HR := Lib.hid (show hdrCode ⟨a, r, bs, ps⟩ = 1 by unfold hdrCode; rw [if_neg hn0, if_pos e3])
        clear hn0
        rcases e3 with e3 | e3
        · have t3 : (3 : Int) < (bs.length : Int) := by omega
          go_wp2_with (first
            | (go_at_call 98; refine (node_any _ _).mono ?_; rintro e w' ⟨rfl, rfl⟩)
            | (go_at_call 99; refine (count_any _ _).mono ?_; rintro e w' ⟨rfl, rfl⟩))
          go_ret
          exact ⟨ret_intH HR.out, hR⟩
        · have t4 : (4 : Int) < (ps.length : Int) := by omega
          by_cases e4 : (3 : Int) < (bs.length : Int)
          all_goals
            go_wp2_with (first
              | (go_at_call 98; refine (node_any _ _).mono ?_; rintro e w' ⟨rfl, rfl⟩)
              | (go_at_call 99; refine (count_any _ _).mono ?_; rintro e w' ⟨rfl, rfl⟩))
            go_ret
            exact ⟨ret_intH HR.out, hR⟩
      · have e4 : ¬ 3 < bs.length := by omega
        have e5 : ¬ 4 < ps.length := by omega
        by_cases d1 : digCode bs = 0
        · by_cases d2 : digCode ps = 0
          · have c1 : (digCode bs != 0) = false := by simp [d1]
            have c2 : (digCode ps != 0) = false := by simp [d2]
            have hh : hdrCode ⟨a, r, bs, ps⟩ = if (r = 1 ∧ 0 < ps.length) ∨ (1 < r ∧ ps.length < 3) then 10 else 0 := by
              unfold hdrCode; rw [if_neg hn0, if_neg e3]; simp [d1, d2]
            have HH := Lib.hid hh
            have hr1 : 1 ≤ r := by unfold countOk at e2; simp only [decide_eq_true_eq] at e2; exact e2.1
            clear hh hn0 e3 d1 d2
            have t3 : ¬ (3 : Int) < (bs.length : Int) := by omega
            have t4 : ¬ (4 : Int) < (ps.length : Int) := by omega
            have HC1 := Lib.hid c1
            have HC2 := Lib.hid c2
            clear c1 c2
            go_wp2_with (first
              | (go_at_call 98; refine (node_any _ _).mono ?_; rintro e w' ⟨rfl, rfl⟩)
              | (go_at_call 99; refine (count_any _ _).mono ?_; rintro e w' ⟨rfl, rfl⟩))
            refine (wdigests_any _ _ HB.out).mono ?_
            rintro e w1 ⟨rfl, hb1⟩
            have HP1 := Lib.hid (HP.out.below hb1 (fun _ h => h))
            have hR1 := hR.trans (hb1.mono hR.size)
            have b1 := HQ.out.belowS hb1
            have HQ1 := Lib.hid b1
            have p0 := b1.cell 0 rfl
            have p1 := b1.cell 1 rfl
            have p2 := b1.cell 2 rfl
            have p3 := b1.cell 3 rfl
            clear hb1 b1
            have c1 := HC1.out
            go_wp2_with fail
            clear p0 p1 p2 p3
            refine (wdigests_any _ _ HP1.out).mono ?_
            rintro e w2 ⟨rfl, hb2⟩
            have hR2 := hR1.trans (hb2.mono hR1.size)
            have b2 := HQ1.out.belowS hb2
            have p0 := b2.cell 0 rfl
            have p1 := b2.cell 1 rfl
            have p2 := b2.cell 2 rfl
            have p3 := b2.cell 3 rfl
            clear hb2 b2
            have c2 := HC2.out
            by_cases f1 : r = 1
            · have g1 : (r == 1) = true := by simp [f1]
              have g1' : ¬ 1 < r := by omega
              by_cases f2 : 0 < ps.length
              · have HR := Lib.hid (show hdrCode ⟨a, r, bs, ps⟩ = 10 by rw [HH.out, if_pos (.inl ⟨f1, f2⟩)])
                clear f1
                go_wp2
                go_ret
                exact ⟨ret_intH HR.out, hR2⟩
              · have HR := Lib.hid (show hdrCode ⟨a, r, bs, ps⟩ = 0 by rw [HH.out, if_neg (by omega)])
                clear f1
                go_wp2
                go_ret
                exact ⟨ret_intH HR.out, hR2⟩
            · have g1 : (r == 1) = false := by simp [f1]
              have g1' : 1 < r := by omega
              by_cases f2 : ps.length < 3
              · have HR := Lib.hid (show hdrCode ⟨a, r, bs, ps⟩ = 10 by rw [HH.out, if_pos (.inr ⟨g1', f2⟩)])
                clear f1
                go_wp2
                go_ret
                exact ⟨ret_intH HR.out, hR2⟩
              · have HR := Lib.hid (show hdrCode ⟨a, r, bs, ps⟩ = 0 by rw [HH.out, if_neg (by omega)])
                clear f1
                go_wp2
                go_ret
                exact ⟨ret_intH HR.out, hR2⟩
          · have c1 : (digCode bs != 0) = false := by simp [d1]
            have c2 : (digCode ps != 0) = true := by rw [bne_iff_ne]; exact d2
            have HR := Lib.hid (show hdrCode ⟨a, r, bs, ps⟩ = digCode ps by unfold hdrCode; rw [if_neg hn0, if_neg e3]; simp [d1, d2])
            clear hn0 e3 d1 d2
            have t3 : ¬ (3 : Int) < (bs.length : Int) := by omega
            have t4 : ¬ (4 : Int) < (ps.length : Int) := by omega
            go_wp2_with (first
              | (go_at_call 98; refine (node_any _ _).mono ?_; rintro e w' ⟨rfl, rfl⟩)
              | (go_at_call 99; refine (count_any _ _).mono ?_; rintro e w' ⟨rfl, rfl⟩))
            refine (wdigests_any _ _ HB.out).mono ?_
            rintro e w1 ⟨rfl, hb1⟩
            have HP1 := Lib.hid (HP.out.below hb1 (fun _ h => h))
            have hR1 := hR.trans (hb1.mono hR.size)
            have b1 := HQ.out.belowS hb1
            have p3 := b1.cell 3 rfl
            clear hb1 b1
            go_wp2_with fail
            refine (wdigests_any _ _ HP1.out).mono ?_
            rintro e w2 ⟨rfl, hb2⟩
            have hR2 := hR1.trans (hb2.mono hR1.size)
            clear hb2
            go_wp2
            go_ret
            exact ⟨ret_intH HR.out, hR2⟩
        · have c1 : (digCode bs != 0) = true := by rw [bne_iff_ne]; exact d1
          have HR := Lib.hid (show hdrCode ⟨a, r, bs, ps⟩ = digCode bs by unfold hdrCode; rw [if_neg hn0, if_neg e3]; simp [d1])
          have HC1 := Lib.hid c1
          clear hn0 e3 d1 c1
          have t3 : ¬ (3 : Int) < (bs.length : Int) := by omega
          have t4 : ¬ (4 : Int) < (ps.length : Int) := by omega
          go_wp2_with (first
            | (go_at_call 98; refine (node_any _ _).mono ?_; rintro e w' ⟨rfl, rfl⟩)
            | (go_at_call 99; refine (count_any _ _).mono ?_; rintro e w' ⟨rfl, rfl⟩))
          refine (wdigests_any _ _ HB.out).mono ?_
          rintro e w1 ⟨rfl, hb1⟩
          have hR1 := hR.trans (hb1.mono hR.size)
          clear hb1
          have c1 := HC1.out
          go_wp2
          go_ret
          exact ⟨ret_intH HR.out, hR1⟩

theorem bat_ok_at {a n : Int} {l : List Bytes} (h1 : nodeOk a = true) (h2 : countOk n = true) (h3 : 1 ≤ l.length) (h4 : l.length ≤ 4) (h : ∀ (j : Nat) (t : Bytes), l[j]? = some t → txLen t = true) : batCode ⟨a, n, l⟩ = 0 := by
  unfold batCode
  rw [if_neg (by simp [h1, h2]), if_neg (by show ¬ (l.length < 1 ∨ 4 < l.length); omega), if_pos]
  simp only [List.all_eq_true]
  intro t ht
  obtain ⟨j, hj, e⟩ := List.mem_iff_getElem.1 ht
  exact h j t (by simp [hj, e])
theorem bat_tx_at {a n : Int} {l : List Bytes} {k : Nat} (h1 : nodeOk a = true) (h2 : countOk n = true) (hk : k < l.length) (h : txLen l[k] = false) : batCode ⟨a, n, l⟩ = 1 := by
  unfold batCode
  rw [if_neg (by simp [h1, h2])]
  by_cases h3 : l.length < 1 ∨ 4 < l.length
  · rw [if_pos h3]
  · rw [if_neg h3, if_neg]
    simp only [List.all_eq_true, Classical.not_forall]
    exact ⟨l[k], List.getElem_mem hk, by simp [h]⟩
set_option maxRecDepth 100000 in
set_option maxHeartbeats 1000000 in
theorem cbatch_any {G : Nat → Prop} {l : List Bytes} (a n : Int) (v : Value) (w : World) (h : RdT G w v l) (hl : ∀ t ∈ l, t.length ≤ 9223372036854775807) :
    Calls Tryz.prog 97 #[.agg #[.int .i64 a, .int .i64 n, v]] w fun e w' => e = .returned (.int .i64 (batCode ⟨a, n, l⟩)) ∧ Below w.heap.size w w' := by
  obtain ⟨ad, cap, rfl, h1, h2⟩ := h.form
  unfold maxLen at h2
  have hR := (Below.refl w.heap.size w).alloc (Nat.le_refl _) (.cells #[.int .i64 a, .int .i64 n, .slice ad l.length cap] 55)
  have HV := Lib.hid (h.keep (Keep.alloc G w (.cells #[.int .i64 a, .int .i64 n, .slice ad l.length cap] 55)) (fun _ h => h))
  go_enter Tryz.func97, Tryz.ntmps97
  cases e1 : nodeOk a
  · go_wp2_with (first
      | (go_at_call 98; refine (node_any _ _).mono ?_; rintro e w' ⟨rfl, rfl⟩))
    go_ret
    exact ⟨ret_intH (by unfold batCode; rw [if_pos (.inl e1)]), hR⟩
  · cases e2 : countOk n
    · go_wp2_with (first
        | (go_at_call 98; refine (node_any _ _).mono ?_; rintro e w' ⟨rfl, rfl⟩)
        | (go_at_call 99; refine (count_any _ _).mono ?_; rintro e w' ⟨rfl, rfl⟩))
      go_ret
      exact ⟨ret_intH (by unfold batCode; rw [if_pos (.inr e2)]), hR⟩
    · by_cases e3 : l.length < 1 ∨ 4 < l.length
      · have HR := Lib.hid (show batCode ⟨a, n, l⟩ = 1 by unfold batCode; rw [if_neg (by simp [e1, e2]), if_pos e3])
        by_cases e4 : (l.length : Int) < 1
        · clear e3
          go_wp2_with (first
            | (go_at_call 98; refine (node_any _ _).mono ?_; rintro e w' ⟨rfl, rfl⟩)
            | (go_at_call 99; refine (count_any _ _).mono ?_; rintro e w' ⟨rfl, rfl⟩))
          go_ret
          exact ⟨ret_intH HR.out, hR⟩
        · have t4 : (4 : Int) < (l.length : Int) := by omega
          clear e3
          go_wp2_with (first
            | (go_at_call 98; refine (node_any _ _).mono ?_; rintro e w' ⟨rfl, rfl⟩)
            | (go_at_call 99; refine (count_any _ _).mono ?_; rintro e w' ⟨rfl, rfl⟩))
          go_ret
          exact ⟨ret_intH HR.out, hR⟩
      · have t3 : ¬ (l.length : Int) < 1 := by omega
        have t4 : ¬ (4 : Int) < (l.length : Int) := by omega
        have e4 : 1 ≤ l.length := by omega
        have e5 : l.length ≤ 4 := by omega
        clear e3
        go_wp2_with (first
          | (go_at_call 98; refine (node_any _ _).mono ?_; rintro e w' ⟨rfl, rfl⟩)
          | (go_at_call 99; refine (count_any _ _).mono ?_; rintro e w' ⟨rfl, rfl⟩))
        go_loop [28] (fun i => ∃ k : Nat, k ≤ l.length ∧ i = .int .i64 k ∧ ∀ j t, j < k → l[j]? = some t → txLen t = true) (fun i => l.length - (intOf i).toNat)
        case atStart => exact ⟨0, Nat.zero_le _, rfl, fun j t hj => by omega⟩
        case round =>
          obtain ⟨k, hk, rfl, hno⟩ := hrel
          have HN := Lib.hid hno; clear hno
          by_cases hlt : k < l.length
          · obtain ⟨b, o, rfl, -, hc⟩ := HV.out.cell k hlt
            have hlk := hl _ (List.getElem_mem hlt)
            by_cases q1 : ((l[k].length : Nat) : Int) < 1
            · have HR := Lib.hid (bat_tx_at (a := a) (n := n) e1 e2 hlt (by unfold txLen; simp; omega))
              go_wp2
              go_ret
              exact ⟨ret_intH HR.out, hR⟩
            · by_cases q2 : (20 : Int) < ((l[k].length : Nat) : Int)
              · have HR := Lib.hid (bat_tx_at (a := a) (n := n) e1 e2 hlt (by unfold txLen; simp; omega))
                go_wp2
                go_ret
                exact ⟨ret_intH HR.out, hR⟩
              · have HT := Lib.hid (show txLen l[k] = true by unfold txLen; simp; omega)
                go_wp2
                go_round
                case rel => exact ⟨k + 1, by omega, by go_num, fun j t hj ht => by
                  rcases Nat.lt_or_eq_of_le (Nat.le_of_lt_succ hj) with h' | h'
                  · exact HN.out j t h' ht
                  · subst h'; rw [List.getElem?_eq_getElem hlt] at ht; rw [← Option.some.inj ht]; exact HT.out⟩
                case measure => simp [intOf]; omega
          · have HR := Lib.hid (bat_ok_at (a := a) (n := n) e1 e2 e4 e5 (fun j t ht => HN.out j t (by
              rcases Nat.lt_or_ge j l.length with h | h
              · omega
              · simp [List.getElem?_eq_none h] at ht) ht))
            go_wp2
            go_ret
            exact ⟨ret_intH HR.out, hR⟩
end Go.Proofs.YtmijiclocadimaaGreatDoor
