/- AddLast: the walk. -/
import Derived.Test.YtghimigffnbhaaaPoolMore
import Derived.Test.YtghimigffnbhaaaSame
import Derived.Test.YtghimigffnbhaaaLinesRange
import Derived.Deep.DeepCutAuto
set_option linter.unusedVariables false
set_option linter.unusedSimpArgs false
namespace Go.Proofs.Ytghimigffnbhaaa
open Go Go.RowKit

theorem picked_1_99 : pickedZ 1 99 = 1 := by decide

theorem box2_cells {w : World} {a b : Value} {T : TypeId} : (w.alloc (.cells #[a, b] T)).cell? ⟨w.heap.size, 0, none⟩ = some a ∧ (w.alloc (.cells #[a, b] T)).cell? ⟨w.heap.size, 1, none⟩ = some b :=
  ⟨(BoxAt.new w [a, b] T).cell 0 rfl, (BoxAt.new w [a, b] T).cell 1 rfl⟩

set_option maxRecDepth 100000 in
set_option maxHeartbeats 4000000 in
/-- The walk, where what the Add comes to is known. -/
theorem addLast_case (v : Value) (l P X : List (List UInt8)) (s t : List UInt8) (nx c : Int) (w : World)
    (K : Calls Try.prog 18 #[v, .int .i64 1] w fun e w' => ∃ v', e = .returned (.agg #[.int .i64 2, v']) ∧ RdT (fun b => w.heap.size ≤ b) w' v' P ∧ Below w.heap.size w w')
    (T : ∀ w, Calls Try.prog 19 #[strV s] w fun e w' => e = .returned (strV t) ∧ w = w')
    (hok : poolOk 2 P = true) (hlen : P.length ≤ 30) (hc : addCode 2 P t = c) (hn : addNext 2 P t = nx) (hX : addTxs 2 P t = X)
    (hcase : (t ∈ P ∧ c = 7 ∧ X = []) ∨ (¬ t ∈ P ∧ c = 0 ∧ nx = 2 ∧ X = P ++ [t] ∧ addCode 2 X t = 7)) :
    Calls Try.prog 4 #[v, strV s] w fun e w' => e = .returned (.bool true) ∧ Below w.heap.size w w' := by
  have HK := Lib.hid K
  have HT := Lib.hid T
  have c0 := Lib.hid hc
  have c0n := Lib.hid hn
  have c0X := Lib.hid hX
  have HC := Lib.hid hcase
  clear K T hc hn hX hcase
  have c1 := Lib.hid (addCode_size (t := []) hok (by decide))
  have c2 := Lib.hid (addCode_size (t := zeros 21) hok (zeros_long 21 (by decide)))
  have hck : poolCode 2 P = 0 := by unfold poolCode; rw [hok]; rfl
  have hR := Below.refl w.heap.size w
  go_enter Try.func4, Try.ntmps4
  go_wp2_with fail
  refine HK.out.mono ?_
  rintro e w1 ⟨vP, rfl, hP, hb1⟩
  replace hR := hR.trans hb1
  have HP := Lib.hid hP
  obtain ⟨adP, capP, rfl, hcl, hcm⟩ := hP.form
  unfold maxLen at hcm
  clear hP
  have z1 : w.heap.size ≤ w1.heap.size := hR.size
  go_wp2_with fail
  refine (HT.out _).mono ?_
  rintro e w' ⟨rfl, rfl⟩
  go_wp2_with fail
  refine (padd_gen c0.out c0n.out c0X.out (HP.out.keep (Keep.alloc _ _ _) (fun _ h => h))).mono ?_
  rintro e w2 ⟨ad2, cap2, rfl, hX2, hb2⟩
  have HX2 := Lib.hid hX2
  clear hX2
  replace hR := (hR.alloc z1 _).trans (hb2.mono (by simp; omega))
  have hP2 := (HP.out.keep (Keep.alloc _ _ (.cells #[.int .i64 2, .slice adP P.length capP] 31)) (fun _ h => h)).below hb2 (fun _ h => h)
  have HP2 := Lib.hid hP2
  clear hP2
  have k0 : w2.cell? ⟨w1.heap.size, 0, none⟩ = some (.int .i64 2) := by rw [hb2.cell (p := ⟨w1.heap.size, 0, none⟩) (by simp)]; exact box2_cells.1
  have k1 : w2.cell? ⟨w1.heap.size, 1, none⟩ = some (.slice adP P.length capP) := by rw [hb2.cell (p := ⟨w1.heap.size, 1, none⟩) (by simp)]; exact box2_cells.2
  have z2 : w1.heap.size < w2.heap.size := by have := hb2.size; simp at this; omega
  clear hb2
  go_wp2_with fail
  go_loop [9, 10] (fun b i => ∃ k : Nat, k ≤ P.length ∧ i = .int .i64 k ∧ b = .bool (decide (t ∈ P.take k))) (fun _ i => P.length - (intOf i).toNat)
  case atStart => exact ⟨0, Nat.zero_le _, rfl, by simp⟩
  case round =>
    obtain ⟨k, hk, rfl, rfl⟩ := hrel
    by_cases hlt : k < P.length
    · obtain ⟨b, o, rfl, -, hcl2⟩ := HP2.out.cell k hlt
      have hcw : (w2.alloc (.cells #[.int .i64 nx, .slice ad2 X.length cap2] 31)).cell? ⟨b, o + k, none⟩ = some (strV P[k]) := by
        rw [World.cell?_alloc_lt _ _ _ (World.block_lt_of_cell? w2 _ hcl2)]; exact hcl2
      by_cases hmk : t ∈ P.take k
      · have HM := Lib.hid (mem_take_bool1 hlt hmk)
        go_wp2
        go_round
        case rel => exact ⟨k + 1, by omega, by go_num, by rw [← HM.out]⟩
        case measure => simp [intOf]; omega
      · have HM := Lib.hid (mem_take_bool2 hlt hmk)
        go_wp2
        go_round
        case rel => exact ⟨k + 1, by omega, by go_num, by rw [← HM.out]⟩
        case measure => simp [intOf]; omega
    · have hke : k = P.length := by omega
      subst hke
      clear hk hlt
      rw [List.take_length]
      go_wp2_with fail
      refine (padd_no c1.out (by decide) (HP2.out.keep (Keep.alloc _ _ _) (fun _ h => h))).mono ?_
      rintro e w3 ⟨ad3, cap3, rfl, hb3⟩
      replace hR := (hR.alloc (by omega) _).trans (hb3.mono (by simp; omega))
      have HP3 := Lib.hid ((HP2.out.keep (Keep.alloc _ _ (.cells #[.int .i64 nx, .slice ad2 X.length cap2] 31)) (fun _ h => h)).below hb3 (fun _ h => h))
      have HX3 := Lib.hid ((HX2.out.keep (Keep.alloc _ _ (.cells #[.int .i64 nx, .slice ad2 X.length cap2] 31)) (fun _ h => h)).below hb3 (fun _ h => h))
      have z3 : w2.heap.size < w3.heap.size := by have := hb3.size; simp at this; omega
      have k0' : w3.cell? ⟨w1.heap.size, 0, none⟩ = some (.int .i64 2) := by rw [hb3.cell (p := ⟨w1.heap.size, 0, none⟩) (by simp; omega), World.cell?_alloc_lt _ _ _ z2]; exact k0
      have k1' : w3.cell? ⟨w1.heap.size, 1, none⟩ = some (.slice adP P.length capP) := by rw [hb3.cell (p := ⟨w1.heap.size, 1, none⟩) (by simp; omega), World.cell?_alloc_lt _ _ _ z2]; exact k1
      have m0 : w3.cell? ⟨w2.heap.size, 0, none⟩ = some (.int .i64 nx) := by rw [hb3.cell (p := ⟨w2.heap.size, 0, none⟩) (by simp)]; exact box2_cells.1
      have m1 : w3.cell? ⟨w2.heap.size, 1, none⟩ = some (.slice ad2 X.length cap2) := by rw [hb3.cell (p := ⟨w2.heap.size, 1, none⟩) (by simp)]; exact box2_cells.2
      clear hb3 k0 k1
      have z4 : w1.heap.size < w3.heap.size := by omega
      have hmk := hmake_rule (P := Try.prog) Try.underlying27 info_u8 21 21 rfl (by omega)
      have hcv := fun (w : World) (b : Nat) (hb : b = w.heap.size) => hstr_rule (P := Try.prog) Try.underlying27 Try.underlying5 Try.underlying9 21 (by unfold maxLen; omega) (w.alloc (.cells (zcells 21) 5)).drew b (ZBlock.new hb)
      have hcv' := fun (w : World) (b : Nat) (o : Obj) (hb : b = w.heap.size) => hstr_rule (P := Try.prog) Try.underlying27 Try.underlying5 Try.underlying9 21 (by unfold maxLen; omega) ((w.alloc (.cells (zcells 21) 5)).alloc o).drew b ((ZBlock.new hb).alloc o)
      have y1 : w1.heap.size < w3.heap.size + 1 := by omega
      have y2 : w1.heap.size < w3.heap.size + 1 + 1 := by omega
      have y3 : w1.heap.size < w3.heap.size + 1 + 1 + 1 := by omega
      go_upto_region 10 with fail
      go_cut [13, 14] (fun _ g wx => g = .int .i64 1 ∧ Below w3.heap.size w3 wx)
      case first =>
        go_region_with (go_at_call 20; refine (padd_no c2.out (by decide) (HP3.out.keep ?_ (fun _ h => h))).mono ?_; (repeat (first | with_reducible exact Keep.refl _ _ | with_reducible refine Keep.alloc' ?_ _ | with_reducible refine Keep.drew' ?_)); rintro e w4 ⟨ad4, cap4, rfl, hb4⟩; have hB4 : Below w3.heap.size w3 w4 := (by refine Below.trans ?_ (hb4.mono (by first | omega | (simp <;> omega))); repeat (first | with_reducible exact Below.refl _ _ | with_reducible refine Below.alloc ?_ (by first | omega | (simp <;> omega)) _ | with_reducible refine Below.drew ?_)); obtain ⟨hc4, hf4⟩ := bcell hb4; have s4 := hB4.size)
        all_goals (go_wp2_with fail; go_meet; refine ⟨rfl, ?_⟩; repeat (first | with_reducible exact hB4 | with_reducible refine Below.setCell ?_ (by first | omega | (simp <;> omega)) _ | with_reducible refine Below.alloc ?_ (by first | omega | (simp <;> omega)) _))
      case rest =>
        obtain ⟨rfl, hb5⟩ := hcut
        replace hR := hR.trans (hb5.mono (by omega))
        have HP5 := Lib.hid (HP3.out.below hb5 (fun _ h => h))
        have HX5 := Lib.hid (HX3.out.below hb5 (fun _ h => h))
        obtain ⟨hc5, hf5⟩ := bcell hb5
        have p0 : wc.cell? ⟨w1.heap.size, 0, none⟩ = some (.int .i64 2) := by rw [hc5 _ _ z4]; exact k0'
        have p1 : wc.cell? ⟨w1.heap.size, 1, none⟩ = some (.slice adP P.length capP) := by rw [hc5 _ _ z4]; exact k1'
        have x0 : wc.cell? ⟨w2.heap.size, 0, none⟩ = some (.int .i64 nx) := by rw [hc5 _ _ z3]; exact m0
        have x1 : wc.cell? ⟨w2.heap.size, 1, none⟩ = some (.slice ad2 X.length cap2) := by rw [hc5 _ _ z3]; exact m1
        have zz := hb5.size
        clear hb5 hc5 hf5 k0' k1' m0 m1 hmk hcv hcv' y1 y2 y3
        go_wp2_with fail
        refine (pcheck_any _ _ _ HP5.out).mono ?_
        rintro e w6 ⟨rfl, hb6⟩
        rw [hck]
        replace hR := hR.trans (hb6.mono (by omega))
        have HP6 := Lib.hid (HP5.out.below hb6 (fun _ h => h))
        have HX6 := Lib.hid (HX5.out.below hb6 (fun _ h => h))
        obtain ⟨hc6, hf6⟩ := bcell hb6
        have p0' : w6.cell? ⟨w1.heap.size, 0, none⟩ = some (.int .i64 2) := by rw [hc6 _ _ (by omega)]; exact p0
        have p1' : w6.cell? ⟨w1.heap.size, 1, none⟩ = some (.slice adP P.length capP) := by rw [hc6 _ _ (by omega)]; exact p1
        have x0' : w6.cell? ⟨w2.heap.size, 0, none⟩ = some (.int .i64 nx) := by rw [hc6 _ _ (by omega)]; exact x0
        have x1' : w6.cell? ⟨w2.heap.size, 1, none⟩ = some (.slice ad2 X.length cap2) := by rw [hc6 _ _ (by omega)]; exact x1
        have zz6 := hb6.size
        clear hb6 hc6 hf6 p0 p1 x0 x1
        rcases HC.out with ⟨hm, rfl, rfl⟩ | ⟨hm, rfl, rfl, hXe, hc7⟩
        · go_wp2
          go_ret
          exact ⟨rfl, hR⟩
        · have H7 := Lib.hid hc7
          have HXe := Lib.hid hXe
          clear hXe hc7
          go_wp2_with fail
          refine (padd_no H7.out (by decide) HX6.out).mono ?_
          rintro e w7 ⟨ad7, cap7, rfl, hb7⟩
          replace hR := hR.trans (hb7.mono (by omega))
          have HP7 := Lib.hid (HP6.out.below hb7 (fun _ h => h))
          have HX7 := Lib.hid (HX6.out.below hb7 (fun _ h => h))
          obtain ⟨hc7, hf7⟩ := bcell hb7
          have p0 : w7.cell? ⟨w1.heap.size, 0, none⟩ = some (.int .i64 2) := by rw [hc7 _ _ (by omega)]; exact p0'
          have p1 : w7.cell? ⟨w1.heap.size, 1, none⟩ = some (.slice adP P.length capP) := by rw [hc7 _ _ (by omega)]; exact p1'
          have x0 : w7.cell? ⟨w2.heap.size, 0, none⟩ = some (.int .i64 2) := by rw [hc7 _ _ (by omega)]; exact x0'
          have x1 : w7.cell? ⟨w2.heap.size, 1, none⟩ = some (.slice ad2 X.length cap2) := by rw [hc7 _ _ (by omega)]; exact x1'
          have zz7 := hb7.size
          clear hb7 hc7 hf7 p0' p1' x0' x1'
          go_wp2_with fail
          have l1 : ((X.length : Int) == (P.length : Int) + 1) = true := by rw [HXe.out]; simp
          have l2 : (P.length : Int) < (X.length : Int) := by rw [HXe.out]; simp; omega
          have l3 : (0 : Int) ≤ (P.length : Int) := by omega
          have l4 : IntKind.i64.wrap ((P.length : Int) + 1) = (P.length : Int) + 1 := IntWalk.i64_in _ (by omega)
          have l5 : P.length < X.length := by omega
          obtain ⟨b, o, rfl, -, hcl⟩ := HX7.out.cell P.length l5
          have hxt : X[P.length] = t := by simp [HXe.out]
          rw [hxt] at hcl
          have hcl' : ∀ o', (w7.alloc o').cell? ⟨b, o + P.length, none⟩ = some (strV t) := fun o' => by rw [World.cell?_alloc_lt _ _ _ (World.block_lt_of_cell? w7 _ hcl)]; exact hcl
          have htk := HX7.out.take P.length (by omega)
          rw [show X.take P.length = P by rw [HXe.out]; simp] at htk
          have HTK := Lib.hid htk
          have l6 : (P.length : Int) ≤ (cap2 : Int) := by have := HX7.out.len.2.1; omega
          have l7 : w1.heap.size < w7.heap.size := by omega
          have l8 : w2.heap.size < w7.heap.size := by omega
          clear htk hxt
          go_quiet ((go_at_call 22; exact Calls.quiet_of (sameTexts_any _ _ _ (HTK.out.keep (Keep.alloc _ _ _) (fun _ h => h)) (HP7.out.keep (Keep.alloc _ _ _) (fun _ h => h)))))
          go_wp2
          go_ret
          exact ⟨rfl, below_drewN (hR.alloc (by omega) _) _⟩

theorem addLast_walk (v : Value) (l : List (List UInt8)) (s : List UInt8) (w : World) (h : RdT (fun _ => True) w v l) (hl : ∀ t ∈ l, t.length ≤ 9223372036854775807) (hs : s.length ≤ 9223372036854775807) :
    Calls Try.prog 4 #[v, strV s] w fun e w' => e = .returned (.bool true) ∧ Below w.heap.size w w' := by
  have hok := poolFold_ok (n := 2) (l.take 30) (by decide) (by decide)
  have hlen := poolFold_len 2 l
  have htx := txOf_txOk s
  have K := kpool_any v 1 w h hl (by decide) (by decide)
  rw [show (1 : Int) + pickedZ 1 99 = 2 by rw [picked_1_99]; rfl] at K
  by_cases hm : txOf s ∈ poolFold 2 (l.take 30)
  · have hc := addCode_twice hok htx hm
    exact addLast_case v l _ [] s _ 0 7 w K (ktx_any s · hs) hok hlen hc (by unfold addNext; rw [hc]; rfl) (by unfold addTxs; rw [hc]; rfl) (.inl ⟨hm, rfl, rfl⟩)
  · have hc := addCode_ok hok htx hm (by omega)
    exact addLast_case v l _ _ s _ 2 0 w K (ktx_any s · hs) hok hlen hc (by unfold addNext; rw [hc]; rfl) (by unfold addTxs; rw [hc]; rfl) (.inr ⟨hm, rfl, rfl, rfl, addCode_twice (poolOk_add hc) htx (by simp)⟩)
end Go.Proofs.Ytghimigffnbhaaa
