/- LinesMany: the walk. -/
import Derived.Test.YtodcebhfkmlmgaaDoorFlowL
set_option linter.unusedVariables false
set_option linter.unusedSimpArgs false
namespace Go.Proofs.YtodcebhfkmlmgaaDoor
open Go Go.RowKit

set_option maxRecDepth 100000 in
set_option maxHeartbeats 8000000 in
theorem linesMany_walk (n : Int) (w : World) (n1 : -9223372036854775808 ≤ n) (n2 : n ≤ 9223372036854775807) (ht : TabR w) :
    Calls Tryd.prog 9 #[.int .i64 n] w fun e w' => e = .returned (.bool true) ∧ Below w.heap.size w w' := by
  have HT := Lib.hid ht.l
  have HTR := Lib.hid ht
  clear ht
  obtain ⟨r1, r2⟩ := pickedZ_range n 5 (by omega)
  obtain ⟨r, hr⟩ : ∃ r, r = pickedZ n 5 := ⟨_, rfl⟩
  rw [← hr] at r1 r2
  have HR := Lib.hid hr.symm
  clear hr
  obtain ⟨K, hK⟩ : ∃ K : Nat, (K : Int) = 2998 + r := ⟨(2998 + r).toNat, by omega⟩
  have K1 : 2998 ≤ K := by omega
  have K2 : K ≤ 3002 := by omega
  obtain ⟨cs0, hcs, hmk⟩ := flow_make K (by omega)
  have HF0 := Lib.hid hcs
  clear hcs
  go_enter Tryd.func9, Tryd.ntmps9
  go_upto_region 2 with (go_at_call 13; refine (picked_any n 5 _ n1 n2 (by omega) (by omega)).mono ?_; rintro e w' ⟨rfl, rfl⟩; rw [HR.out])
  rw [← hK]
  clear hK HR r1 r2
  go_wp2_with fail
  go_loopw [5] (fun i wr => ∃ (k : Nat) (cs : List Value), k ≤ K ∧ i = .int .i64 k ∧ Hid (FlowTo K k cs) ∧ Hid (BoxAt wr w.heap.size cs 25) ∧ Hid (Below w.heap.size w wr)) (fun i _ => K - (intOf i).toNat)
  case atStart => exact ⟨0, cs0, Nat.zero_le _, rfl, HF0, Lib.hid (BoxAt.new w cs0 _), Lib.hid ((Below.refl _ _).alloc (Nat.le_refl _) _)⟩
  case round =>
    obtain ⟨k, cs, hk, rfl, HF, HX, HB⟩ := hrel
    by_cases hlt : k < K
    · have wk : IntKind.i64.wrap ((k : Int) + 1) = (k : Int) + 1 := IntWalk.i64_in _ (by omega)
      have k0 : (0 : Int) ≤ (k : Int) := by omega
      have k1 : (k : Int) < (K : Int) := by omega
      have c0 := HX.out.cell (k * 4) (HF.out.2 k hlt).1
      have f0 := HX.out.free (k * 4)
      have zx := HX.out.lt
      have HXs := Lib.hid (HX.out.set (k * 4) (.int .i64 10))
      have HBs := Lib.hid (HB.out.setCell (p := ⟨w.heap.size, k * 4, none⟩) (Nat.le_refl _) (.int .i64 10))
      have HFs := Lib.hid (HF.out.step hlt)
      clear HF HX HB
      go_wp2
      go_roundw
      case rel => exact ⟨k + 1, _, by omega, by go_num, HFs, HXs, HBs⟩
      case measure => simp [intOf]; omega
    · obtain rfl : K = k := by omega
      have k1 : ¬ ((K : Int) < (K : Int)) := by omega
      have hd := HF.out.done
      subst hd
      obtain ⟨wz, rfl⟩ : ∃ wz : World, wz = wr := ⟨_, rfl⟩
      have hA0 : RdS RAct (fun _ => True) wz (.slice (some ⟨w.heap.size, 0, none⟩) (List.replicate K flowA).length (List.replicate K flowA).length) (List.replicate K flowA) := rdActs HX.out trivial (by rw [List.length_replicate]; unfold maxLen; omega)
      rw [List.length_replicate] at hA0
      have HA := Lib.hid hA0
      clear hA0 HF HX HF0 hmk
      go_wp2_with fail
      refine (lshow_any _ _ HA.out (HT.out.belowS HB.out)).mono ?_
      rintro e w2 ⟨rfl, hb_s⟩
      replace HB := Lib.hid (HB.out.trans (hb_s.mono HB.out.size))
      clear hb_s HA
      obtain ⟨ss, si, se, hsh⟩ : ∃ ss si se, showR (List.replicate K flowA) = (ss, si, se) := ⟨_, _, _, rfl⟩
      rw [hsh]
      simp only
      have HSH := Lib.hid hsh
      clear hsh
      have hK10 : IntKind.i64.wrap ((K : Int) - 10) = (K : Int) - 10 := IntWalk.i64_in _ (by omega)
      have hK510 : IntKind.i64.wrap (5 * ((K : Int) - 10)) = 5 * ((K : Int) - 10) := IntWalk.i64_in _ (by omega)
      have hK5 : IntKind.i64.wrap (5 * (K : Int)) = 5 * (K : Int) := IntWalk.i64_in _ (by omega)
      go_wp2_with fail
      go_loop [9, 10] (fun x i => ∃ k : Nat, k ≤ 10 ∧ x = strV (flowS k) ∧ i = .int .i64 k) (fun _ i => 10 - (intOf i).toNat)
      case atStart => exact ⟨0, by omega, rfl, rfl⟩
      case round =>
        obtain ⟨k, hk, rfl, rfl⟩ := hrel
        have hl := flowS_len k
        have hca := (cat_arr (flowS k) [102, 108, 111, 119, 10]).trans (by rw [← flowS_one, flowS_add])
        have HCA := Lib.hid hca
        clear hca
        by_cases hlt : k < 10
        · have wk : IntKind.i64.wrap ((k : Int) + 1) = (k : Int) + 1 := IntWalk.i64_in _ (by omega)
          have k1 : (k : Int) < 10 := by omega
          have hcl : ¬ 9223372036854775807 < (flowS k).length + 5 := by omega
          clear hl
          generalize hF : flowS k = tx at *
          go_wp2
          exact ⟨⟨k + 1, by omega, congrArg Value.string HCA.out, by go_num⟩, by simp [intOf]; omega⟩
        · obtain ⟨N, hN⟩ : ∃ N : Nat, N = k := ⟨_, rfl⟩
          have N1 : N ≤ 10 := by omega
          have N2 : 10 ≤ N := by omega
          subst hN
          have k1 : ¬ ((N : Int) < 10) := by omega
          clear HCA
          go_wp2_with fail
          go_loop [9] (fun x => ∃ j : Nat, N ≤ j ∧ j ≤ K ∧ x = strV (flowS j)) (fun x => 5 * K - lenV x)
          case atStart => exact ⟨N, Nat.le_refl _, by omega, rfl⟩
          case round =>
            obtain ⟨j, hj1, hj2, rfl⟩ := hrel
            have hlj := flowS_len j
            have HCA := Lib.hid ((cat_arr (flowS j) (flowS N)).trans (by rw [flowS_add]))
            by_cases hjt : j + 10 < K
            · have k2 : ((flowS j).length : Int) < 5 * ((K : Int) - 10) := by omega
              have hcl : ¬ 9223372036854775807 < (flowS j).length + (flowS N).length := by omega
              clear hl hlj
              go_wp2
              exact ⟨⟨j + N, by omega, by omega, congrArg Value.string HCA.out⟩, by
                have e : Value.string (({data := (flowS j).toArray} : ByteArray) ++ {data := (flowS N).toArray}) = strV (flowS (j + N)) := congrArg Value.string HCA.out
                rw [e, lenV_flow, lenV_flow]; omega⟩
            · have k2 : ¬ (((flowS j).length : Int) < 5 * ((K : Int) - 10)) := by omega
              obtain ⟨M, hM⟩ : ∃ M : Nat, M = j := ⟨_, rfl⟩
              subst hM
              clear HCA
              go_wp2_with fail
              go_loop [9] (fun x => ∃ j : Nat, j ≤ K ∧ x = strV (flowS j)) (fun x => 5 * K - lenV x)
              case atStart => exact ⟨M, hj2, rfl⟩
              case round =>
                obtain ⟨j, hj3, rfl⟩ := hrel
                have hlj3 := flowS_len j
                have HCA := Lib.hid ((cat_arr (flowS j) [102, 108, 111, 119, 10]).trans (by rw [← flowS_one, flowS_add]))
                by_cases hjt3 : j < K
                · have k3 : ((flowS j).length : Int) < 5 * (K : Int) := by omega
                  have hcl : ¬ 9223372036854775807 < (flowS j).length + 5 := by omega
                  clear hl hlj hlj3
                  go_wp2
                  exact ⟨⟨j + 1, by omega, congrArg Value.string HCA.out⟩, by
                    have e : Value.string (({data := (flowS j).toArray} : ByteArray) ++ {data := #[102, 108, 111, 119, 10]}) = strV (flowS (j + 1)) := congrArg Value.string HCA.out
                    rw [e, lenV_flow, lenV_flow]; omega⟩
                · obtain rfl : K = j := by omega
                  have k3 : ¬ (((flowS K).length : Int) < 5 * (K : Int)) := by omega
                  clear HCA
                  go_wp2_with fail
                  refine (lread_any (flowS K) _ (by omega) (HTR.out.belowS HB.out)).mono ?_
                  rintro e w3 ⟨v3, rfl, hrd, hb_s⟩
                  replace HB := Lib.hid (HB.out.trans (hb_s.mono HB.out.size))
                  clear hb_s
                  by_cases hK3 : 3000 < K
                  · rw [flows_long hK3]
                    have hsh := (showR_long (l := List.replicate K flowA) (by simpa using hK3)).symm.trans HSH.out
                    simp only [Prod.mk.injEq] at hsh
                    obtain ⟨rfl, rfl, rfl⟩ := hsh
                    have k4 : (3000 : Int) < (K : Int) := by omega
                    clear hrd
                    go_wp2
                    go_ret
                    exact ⟨rfl, HB.out⟩
                  · rw [flows_short (by omega)] at hrd ⊢
                    obtain ⟨ad3, cap3, rfl, -, hm3⟩ := hrd.form
                    have hsh := (showR_ok (l := List.replicate K flowA) (by rw [List.length_replicate]; omega) (flows_ok K)).symm.trans HSH.out
                    simp only [Prod.mk.injEq] at hsh
                    obtain ⟨hs1, rfl, rfl⟩ := hsh
                    have hs2 : ss = flowS K := hs1.symm
                    subst hs2
                    have k4 : ¬ ((3000 : Int) < (K : Int)) := by omega
                    rw [List.length_replicate]
                    clear hrd hs1
                    go_wp2
                    go_ret
                    exact ⟨rfl, HB.out⟩
end Go.Proofs.YtodcebhfkmlmgaaDoor
