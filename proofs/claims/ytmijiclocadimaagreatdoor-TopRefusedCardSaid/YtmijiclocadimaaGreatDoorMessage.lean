/- sheaveskeep.Message: a message of raw numbers. -/
import Derived.Test.YtmijiclocadimaaGreatDoorSome
import Derived.Test.YtmijiclocadimaaGreatDoorEncC
import Derived.Test.YtmijiclocadimaaGreatDoorBatLaw
import Derived.Test.YtmijiclocadimaaGreatDoorHdrLaw
import Derived.Test.YtmijiclocadimaaGreatDoorCertL
import Derived.Test.YtmijiclocadimaaGreatDoorBas
import Derived.Deep.CutBlock
import Derived.Deep.RegionHeld3
set_option linter.unusedVariables false
set_option linter.unusedSimpArgs false
namespace Go.Proofs.YtmijiclocadimaaGreatDoor
open Go Go.RowKit

def msgOf (K A B C : Int) (l : List Bytes) : Msg :=
  if 1 + pickedZ K 5 = 1 then ⟨pickedZ C 4, pickedZ B 4, 1 + pickedZ K 5, batOf A B l, hdr0, slt0, crt0, 0⟩
  else if 1 + pickedZ K 5 = 2 then ⟨pickedZ C 4, pickedZ B 4, 1 + pickedZ K 5, bat0, hdrOf A B C, slt0, crt0, 0⟩
  else if 1 + pickedZ K 5 = 3 then ⟨pickedZ C 4, pickedZ B 4, 1 + pickedZ K 5, bat0, hdr0, ⟨pickedZ A 4, 1 + pickedZ B 9, someL C A⟩, crt0, 0⟩
  else if 1 + pickedZ K 5 = 4 then ⟨pickedZ C 4, pickedZ B 4, 1 + pickedZ K 5, bat0, hdr0, slt0, ⟨hdrOf A B C, votersL C⟩, 0⟩
  else ⟨pickedZ C 4, pickedZ B 4, 1 + pickedZ K 5, bat0, hdr0, slt0, crt0, 1 + pickedZ B 9⟩
theorem wp_store_newD {P : Program} {w : World} {o : Oper} {a : Act} {K : Act → World → Prop} {Q : Exit → Act → World → Prop} (ty : TypeId) (x y : Operand) (ho : o.op = .store ty x y)
    (cs : List Value) (T : TypeId) (old : List Value) (hx : a.eval x = .pointer (some ⟨w.heap.size, 0, none⟩)) (hy : a.eval y = .agg cs.toArray)
    (hi : (P.info? ty).map (·.size) = some cs.toArray.size) (hl : old.length = cs.length) (h1 : cs.all (·.oneCell') = true)
    (h : ∀ w', BoxAt w' w.heap.size cs T → Below w.heap.size w w' → w'.heap.size = w.heap.size + 1 → K (a.put o.dst undef) w') : Oper.wp P o a ((w.alloc (.cells old.toArray T)).drew) K Q := by
  have hb : BoxAt ((w.alloc (.cells old.toArray T)).drew) w.heap.size old T := (BoxAt.new w old T).drew
  refine wp_store_row ty x y ho w.heap.size cs.toArray hx hy T old.toArray hb hi (by simpa using hl) (by simpa using h1) ?_
  exact h _ (setRow_heap _ _ _ _ _ _ hb) (below_setRow (((Below.refl _ w).alloc (Nat.le_refl _) _).drew) (Nat.le_refl _) _) (by simp)
theorem cell_of_below {w w' : World} {b o : Nat} (h : Below w.heap.size w w') (hb : b < w.heap.size) : w'.cell? ⟨b, o, none⟩ = w.cell? ⟨b, o, none⟩ := h.cell (p := ⟨b, o, none⟩) hb
set_option maxRecDepth 100000 in
set_option maxHeartbeats 16000000 in
theorem message_any {Gx : Nat → Prop} (K A B C : Int) (vt : Value) (l : List Bytes) (w : World) (k1 : -9223372036854775808 ≤ K) (k2 : K ≤ 9223372036854775807) (a1 : -9223372036854775808 ≤ A) (a2 : A ≤ 9223372036854775807) (b1 : -9223372036854775808 ≤ B) (b2 : B ≤ 9223372036854775807) (c1 : -9223372036854775808 ≤ C) (c2 : C ≤ 9223372036854775807)
    (hr : RdT Gx w vt l) (hs : ∀ t ∈ l, t.length ≤ 9223372036854775807) :
    Calls Tryz.prog 47 #[.agg #[.int .i64 K, .int .i64 A, .int .i64 B, .int .i64 C, vt]] w fun e w' => ∃ mv, e = .returned (.agg (msgCells (msgOf K A B C l) mv).toArray) ∧ RdM (fun b => w.heap.size ≤ b) w' mv (msgOf K A B C l) ∧ Below w.heap.size w w' := by
  have hvt : vt.oneCell' = true := by obtain ⟨ad, cap, rfl, _⟩ := hr.form; rfl
  obtain ⟨pk0, pk1⟩ := pickedZ_range K 5 (by omega)
  obtain ⟨pf0, pf1⟩ := pickedZ_range C 4 (by omega)
  obtain ⟨pt0, pt1⟩ := pickedZ_range B 4 (by omega)
  have hMO : msgOf K A B C l = if 1 + pickedZ K 5 = 1 then ⟨pickedZ C 4, pickedZ B 4, 1 + pickedZ K 5, batOf A B l, hdr0, slt0, crt0, 0⟩ else if 1 + pickedZ K 5 = 2 then ⟨pickedZ C 4, pickedZ B 4, 1 + pickedZ K 5, bat0, hdrOf A B C, slt0, crt0, 0⟩ else if 1 + pickedZ K 5 = 3 then ⟨pickedZ C 4, pickedZ B 4, 1 + pickedZ K 5, bat0, hdr0, ⟨pickedZ A 4, 1 + pickedZ B 9, someL C A⟩, crt0, 0⟩ else if 1 + pickedZ K 5 = 4 then ⟨pickedZ C 4, pickedZ B 4, 1 + pickedZ K 5, bat0, hdr0, slt0, ⟨hdrOf A B C, votersL C⟩, 0⟩ else ⟨pickedZ C 4, pickedZ B 4, 1 + pickedZ K 5, bat0, hdr0, slt0, crt0, 1 + pickedZ B 9⟩ := rfl
  have HMO := Lib.hid hMO
  have HV := Lib.hid (hr.low (by decide))
  have HL := Lib.hid hs
  clear hMO hr hs
  generalize hk : pickedZ K 5 = k at *
  generalize hf : pickedZ C 4 = f at *
  generalize ht : pickedZ B 4 = t at *
  have HK := Lib.hid hk
  have HF := Lib.hid hf
  have HT := Lib.hid ht
  have l1 : IntKind.i64.wrap (1 + k) = 1 + k := IntWalk.i64_in _ (by omega)
  clear hk hf ht
  obtain ⟨w1, hw1⟩ : ∃ w1, w1 = (w.alloc (.cells #[.int .i64 K, .int .i64 A, .int .i64 B, .int .i64 C, vt] 109)).alloc (.cells zeroMsg.toArray 106) := ⟨_, rfl⟩
  have hb1 : Below w.heap.size w w1 := by rw [hw1]; exact ((Below.refl _ _).alloc (Nat.le_refl _) _).alloc (by simp) _
  have bR : BoxAt w1 w.heap.size [.int .i64 K, .int .i64 A, .int .i64 B, .int .i64 C, vt] 109 := by rw [hw1]; exact (BoxAt.new w [_, _, _, _, _] _).alloc _
  have bZ : BoxAt w1 (w.heap.size + 1) zeroMsg 106 := by rw [hw1]; exact BoxAt.newAt (w.alloc _) zeroMsg _ (by simp)
  have x0 := bR.cell 0 rfl
  have x2 := bR.cell 2 rfl
  have x3 := bR.cell 3 rfl
  have hx0 := bR.lt
  have hx := bZ.lt
  have hz1 : w.heap.size + 1 < w1.heap.size := hx
  have hn1 : w1.heap.size ≠ w.heap.size := by omega
  have HB1 := Lib.hid hb1
  have HBR := Lib.hid bR
  have HBZ := Lib.hid bZ
  have hBa : Below w1.heap.size w1 ((w1.alloc (.cells zeroMsg.toArray 106)).drew) := ((Below.refl _ _).alloc (Nat.le_refl _) _).drew
  go_enter Tryz.func47, Tryz.ntmps47
  go_upto_region 1 with fail
  rw [← hw1]
  clear hw1 hb1 bR bZ
  go_cut [3] (fun p wx => ∃ X : Nat, p = .pointer (some ⟨X, 0, none⟩) ∧ w.heap.size + 1 < X ∧ BoxAt wx X (msgCells ⟨f, t, 1 + k, bat0, hdr0, slt0, crt0, 0⟩ mv0) 106 ∧ BoxAt wx w.heap.size [.int .i64 K, .int .i64 A, .int .i64 B, .int .i64 C, vt] 109 ∧ BoxAt wx (w.heap.size + 1) zeroMsg 106 ∧ Below w.heap.size w wx)
  case first =>
    refine wp_region_held_drew (S := fun w' => w'.cell? ⟨w.heap.size, 0, none⟩ = some (.int .i64 K) ∧ w'.cell? ⟨w.heap.size, 2, none⟩ = some (.int .i64 B) ∧ w'.cell? ⟨w.heap.size, 3, none⟩ = some (.int .i64 C)) (by kernel_rfl) (by exact ⟨x0, x2, x3⟩) (fun hHeld => ?_)
    refine wpAnyH_take (i := 0) (v := .pointer (some ⟨w.heap.size, 3, none⟩)) rfl (by kernel_rfl) (by kernel_rfl) (by kernel_rfl) (fun _ _ _ h => h) (Or.inl ⟨by rfl, fun w hSw => ?_⟩) hHeld ?_
    · (try dsimp only at hSw); go_split_ands; go_simp; all_goals (try rfl)
    try simp only [Act.put, List.getElem_toArray, List.getElem_cons_succ, List.getElem_cons_zero, List.setIfInBounds_toArray, List.set_cons_zero, List.set_cons_succ]
    refine wpAnyH_take (i := 1) (v := .int .i64 C) rfl (by kernel_rfl) (by kernel_rfl) (by kernel_rfl) (fun _ _ _ h => h) (Or.inl ⟨by rfl, fun w hSw => ?_⟩) hHeld ?_
    · (try dsimp only at hSw); go_split_ands; go_simp; all_goals (try rfl)
    try simp only [Act.put, List.getElem_toArray, List.getElem_cons_succ, List.getElem_cons_zero, List.setIfInBounds_toArray, List.set_cons_zero, List.set_cons_succ]
    refine wpAnyH_take (i := 3) (v := .pointer (some ⟨w.heap.size, 2, none⟩)) rfl (by kernel_rfl) (by kernel_rfl) (by kernel_rfl) (fun _ _ _ h => h) (Or.inl ⟨by rfl, fun w hSw => ?_⟩) hHeld ?_
    · (try dsimp only at hSw); go_split_ands; go_simp; all_goals (try rfl)
    try simp only [Act.put, List.getElem_toArray, List.getElem_cons_succ, List.getElem_cons_zero, List.setIfInBounds_toArray, List.set_cons_zero, List.set_cons_succ]
    refine wpAnyH_take (i := 4) (v := .int .i64 B) rfl (by kernel_rfl) (by kernel_rfl) (by kernel_rfl) (fun _ _ _ h => h) (Or.inl ⟨by rfl, fun w hSw => ?_⟩) hHeld ?_
    · (try dsimp only at hSw); go_split_ands; go_simp; all_goals (try rfl)
    try simp only [Act.put, List.getElem_toArray, List.getElem_cons_succ, List.getElem_cons_zero, List.setIfInBounds_toArray, List.set_cons_zero, List.set_cons_succ]
    refine wpAnyH_take (i := 6) (v := .pointer (some ⟨w.heap.size, 0, none⟩)) rfl (by kernel_rfl) (by kernel_rfl) (by kernel_rfl) (fun _ _ _ h => h) (Or.inl ⟨by rfl, fun w hSw => ?_⟩) hHeld ?_
    · (try dsimp only at hSw); go_split_ands; go_simp; all_goals (try rfl)
    try simp only [Act.put, List.getElem_toArray, List.getElem_cons_succ, List.getElem_cons_zero, List.setIfInBounds_toArray, List.set_cons_zero, List.set_cons_succ]
    refine wpAnyH_take (i := 7) (v := .int .i64 K) rfl (by kernel_rfl) (by kernel_rfl) (by kernel_rfl) (fun _ _ _ h => h) (Or.inl ⟨by rfl, fun w hSw => ?_⟩) hHeld ?_
    · (try dsimp only at hSw); go_split_ands; go_simp; all_goals (try rfl)
    try simp only [Act.put, List.getElem_toArray, List.getElem_cons_succ, List.getElem_cons_zero, List.setIfInBounds_toArray, List.set_cons_zero, List.set_cons_succ]
    refine wpAnyH_ready (rs := [2, 11]) (by kernel_rfl) (by simp) ?_
    refine AllReadyH.cons rfl (fun K hK => ?_) ?_
    · rw [if_pos (by rfl)]
      go_simp
      go_at_call 30
      refine (picked_any _ _ _ (by omega) (by omega) (by omega) (by omega)).mono ?_
      rintro e w' ⟨rfl, rfl⟩
      rw [HF.out]
      show K _ _
      refine hK.out _ _ (by exact hHeld) (fun hHeld => ?_)
      clear hK K
      try simp only [Act.put, List.getElem_toArray, List.getElem_cons_succ, List.getElem_cons_zero, List.setIfInBounds_toArray, List.set_cons_zero, List.set_cons_succ]
      refine wpAnyH_ready (rs := [5, 11]) (by kernel_rfl) (by simp) ?_
      refine AllReadyH.cons rfl (fun K hK => ?_) ?_
      · rw [if_pos (by rfl)]
        go_simp
        go_at_call 30
        refine (picked_any _ _ _ (by omega) (by omega) (by omega) (by omega)).mono ?_
        rintro e w' ⟨rfl, rfl⟩
        rw [HT.out]
        show K _ _
        refine hK.out _ _ (by exact hHeld) (fun hHeld => ?_)
        clear hK K
        try simp only [Act.put, List.getElem_toArray, List.getElem_cons_succ, List.getElem_cons_zero, List.setIfInBounds_toArray, List.set_cons_zero, List.set_cons_succ]
        refine wpAnyH_ready (rs := [8, 11]) (by kernel_rfl) (by simp) ?_
        refine AllReadyH.cons rfl (fun K hK => ?_) ?_
        · rw [if_pos (by rfl)]
          go_simp
          go_at_call 30
          refine (picked_any _ _ _ (by omega) (by omega) (by omega) (by omega)).mono ?_
          rintro e w' ⟨rfl, rfl⟩
          rw [HK.out]
          show K _ _
          refine hK.out _ _ (by exact hHeld) (fun hHeld => ?_)
          clear hK K
          try simp only [Act.put, List.getElem_toArray, List.getElem_cons_succ, List.getElem_cons_zero, List.setIfInBounds_toArray, List.set_cons_zero, List.set_cons_succ]
          refine wpAnyH_take (i := 9) (v := .int .i64 (1 + k)) rfl (by kernel_rfl) (by kernel_rfl) (by kernel_rfl) (fun _ _ _ h => h) (Or.inl ⟨by rfl, fun w hSw => ?_⟩) hHeld ?_
          · (try dsimp only at hSw); go_split_ands; go_simp; all_goals (try rfl)
          try simp only [Act.put, List.getElem_toArray, List.getElem_cons_succ, List.getElem_cons_zero, List.setIfInBounds_toArray, List.set_cons_zero, List.set_cons_succ]
          refine wpAnyH_take (i := 10) (v := .agg (msgCells ⟨f, t, 1 + k, bat0, hdr0, slt0, crt0, 0⟩ mv0).toArray) rfl (by kernel_rfl) (by kernel_rfl) (by kernel_rfl) (fun _ _ _ h => h) (Or.inl ⟨by rfl, fun w hSw => ?_⟩) hHeld ?_
          · (try dsimp only at hSw); go_split_ands; go_simp; all_goals (try rfl)
          try simp only [Act.put, List.getElem_toArray, List.getElem_cons_succ, List.getElem_cons_zero, List.setIfInBounds_toArray, List.set_cons_zero, List.set_cons_succ]
          refine wpAnyH_ready (rs := [11]) (by kernel_rfl) (by simp) ?_
          refine AllReadyH.cons rfl (fun K hK => ?_) ?_
          · rw [if_pos (by rfl)]
            go_simp
            refine hK.out _ _ (by exact ⟨(cell_of_below hBa (by omega)).trans x0, (cell_of_below hBa (by omega)).trans x2, (cell_of_below hBa (by omega)).trans x3⟩) (fun hHeld => ?_)
            clear hK K
            try simp only [Act.put, List.getElem_toArray, List.getElem_cons_succ, List.getElem_cons_zero, List.setIfInBounds_toArray, List.set_cons_zero, List.set_cons_succ]
            refine wpAnyH_ready (rs := [12]) (by kernel_rfl) (by simp) ?_
            refine AllReadyH.cons rfl (fun K hK => ?_) ?_
            · rw [if_pos (by rfl)]
              refine wp_store_newD 106 _ _ (by rfl) (msgCells ⟨f, t, 1 + k, bat0, hdr0, slt0, crt0, 0⟩ mv0) 106 zeroMsg (by rfl) (by rfl) (by kernel_rfl) rfl rfl ?_
              intro w2 hb2 hB2 hs2
              refine hK.out _ _ (by exact ⟨((bcellAt hB2 _ hx0).1 0).trans x0, ((bcellAt hB2 _ hx0).1 2).trans x2, ((bcellAt hB2 _ hx0).1 3).trans x3⟩) (fun hHeld => ?_)
              clear hK K
              try simp only [Act.put, List.getElem_toArray, List.getElem_cons_succ, List.getElem_cons_zero, List.setIfInBounds_toArray, List.set_cons_zero, List.set_cons_succ]
              refine wpAnyH_done (by kernel_rfl) ?_ _
              go_wp2_with fail
              go_meet
              exact ⟨w1.heap.size, rfl, hz1, hb2, HBR.out.belowS hB2, HBZ.out.belowS hB2, HB1.out.trans (hB2.mono HB1.out.size)⟩
            exact AllReadyH.nil
          exact AllReadyH.nil
        refine AllReadyH.cons rfl (fun K hK => ?_) ?_
        · rw [if_pos (by rfl)]
          go_simp
          refine hK.out _ _ (by exact ⟨(cell_of_below hBa (by omega)).trans x0, (cell_of_below hBa (by omega)).trans x2, (cell_of_below hBa (by omega)).trans x3⟩) (fun hHeld => ?_)
          clear hK K
          try simp only [Act.put, List.getElem_toArray, List.getElem_cons_succ, List.getElem_cons_zero, List.setIfInBounds_toArray, List.set_cons_zero, List.set_cons_succ]
          refine wpAnyH_ready (rs := [8]) (by kernel_rfl) (by simp) ?_
          refine AllReadyH.cons rfl (fun K hK => ?_) ?_
          · rw [if_pos (by rfl)]
            go_simp
            go_at_call 30
            refine (picked_any _ _ _ (by omega) (by omega) (by omega) (by omega)).mono ?_
            rintro e w' ⟨rfl, rfl⟩
            rw [HK.out]
            show K _ _
            refine hK.out _ _ (by exact hHeld) (fun hHeld => ?_)
            clear hK K
            try simp only [Act.put, List.getElem_toArray, List.getElem_cons_succ, List.getElem_cons_zero, List.setIfInBounds_toArray, List.set_cons_zero, List.set_cons_succ]
            refine wpAnyH_take (i := 9) (v := .int .i64 (1 + k)) rfl (by kernel_rfl) (by kernel_rfl) (by kernel_rfl) (fun _ _ _ h => h) (Or.inl ⟨by rfl, fun w hSw => ?_⟩) hHeld ?_
            · (try dsimp only at hSw); go_split_ands; go_simp; all_goals (try rfl)
            try simp only [Act.put, List.getElem_toArray, List.getElem_cons_succ, List.getElem_cons_zero, List.setIfInBounds_toArray, List.set_cons_zero, List.set_cons_succ]
            refine wpAnyH_take (i := 10) (v := .agg (msgCells ⟨f, t, 1 + k, bat0, hdr0, slt0, crt0, 0⟩ mv0).toArray) rfl (by kernel_rfl) (by kernel_rfl) (by kernel_rfl) (fun _ _ _ h => h) (Or.inl ⟨by rfl, fun w hSw => ?_⟩) hHeld ?_
            · (try dsimp only at hSw); go_split_ands; go_simp; all_goals (try rfl)
            try simp only [Act.put, List.getElem_toArray, List.getElem_cons_succ, List.getElem_cons_zero, List.setIfInBounds_toArray, List.set_cons_zero, List.set_cons_succ]
            refine wpAnyH_ready (rs := [12]) (by kernel_rfl) (by simp) ?_
            refine AllReadyH.cons rfl (fun K hK => ?_) ?_
            · rw [if_pos (by rfl)]
              refine wp_store_newD 106 _ _ (by rfl) (msgCells ⟨f, t, 1 + k, bat0, hdr0, slt0, crt0, 0⟩ mv0) 106 zeroMsg (by rfl) (by rfl) (by kernel_rfl) rfl rfl ?_
              intro w2 hb2 hB2 hs2
              refine hK.out _ _ (by exact ⟨((bcellAt hB2 _ hx0).1 0).trans x0, ((bcellAt hB2 _ hx0).1 2).trans x2, ((bcellAt hB2 _ hx0).1 3).trans x3⟩) (fun hHeld => ?_)
              clear hK K
              try simp only [Act.put, List.getElem_toArray, List.getElem_cons_succ, List.getElem_cons_zero, List.setIfInBounds_toArray, List.set_cons_zero, List.set_cons_succ]
              refine wpAnyH_done (by kernel_rfl) ?_ _
              go_wp2_with fail
              go_meet
              exact ⟨w1.heap.size, rfl, hz1, hb2, HBR.out.belowS hB2, HBZ.out.belowS hB2, HB1.out.trans (hB2.mono HB1.out.size)⟩
            exact AllReadyH.nil
          exact AllReadyH.nil
        exact AllReadyH.nil
      refine AllReadyH.cons rfl (fun K hK => ?_) ?_
      · rw [if_pos (by rfl)]
        go_simp
        refine hK.out _ _ (by exact ⟨(cell_of_below hBa (by omega)).trans x0, (cell_of_below hBa (by omega)).trans x2, (cell_of_below hBa (by omega)).trans x3⟩) (fun hHeld => ?_)
        clear hK K
        try simp only [Act.put, List.getElem_toArray, List.getElem_cons_succ, List.getElem_cons_zero, List.setIfInBounds_toArray, List.set_cons_zero, List.set_cons_succ]
        refine wpAnyH_ready (rs := [5]) (by kernel_rfl) (by simp) ?_
        refine AllReadyH.cons rfl (fun K hK => ?_) ?_
        · rw [if_pos (by rfl)]
          go_simp
          go_at_call 30
          refine (picked_any _ _ _ (by omega) (by omega) (by omega) (by omega)).mono ?_
          rintro e w' ⟨rfl, rfl⟩
          rw [HT.out]
          show K _ _
          refine hK.out _ _ (by exact hHeld) (fun hHeld => ?_)
          clear hK K
          try simp only [Act.put, List.getElem_toArray, List.getElem_cons_succ, List.getElem_cons_zero, List.setIfInBounds_toArray, List.set_cons_zero, List.set_cons_succ]
          refine wpAnyH_ready (rs := [8]) (by kernel_rfl) (by simp) ?_
          refine AllReadyH.cons rfl (fun K hK => ?_) ?_
          · rw [if_pos (by rfl)]
            go_simp
            go_at_call 30
            refine (picked_any _ _ _ (by omega) (by omega) (by omega) (by omega)).mono ?_
            rintro e w' ⟨rfl, rfl⟩
            rw [HK.out]
            show K _ _
            refine hK.out _ _ (by exact hHeld) (fun hHeld => ?_)
            clear hK K
            try simp only [Act.put, List.getElem_toArray, List.getElem_cons_succ, List.getElem_cons_zero, List.setIfInBounds_toArray, List.set_cons_zero, List.set_cons_succ]
            refine wpAnyH_take (i := 9) (v := .int .i64 (1 + k)) rfl (by kernel_rfl) (by kernel_rfl) (by kernel_rfl) (fun _ _ _ h => h) (Or.inl ⟨by rfl, fun w hSw => ?_⟩) hHeld ?_
            · (try dsimp only at hSw); go_split_ands; go_simp; all_goals (try rfl)
            try simp only [Act.put, List.getElem_toArray, List.getElem_cons_succ, List.getElem_cons_zero, List.setIfInBounds_toArray, List.set_cons_zero, List.set_cons_succ]
            refine wpAnyH_take (i := 10) (v := .agg (msgCells ⟨f, t, 1 + k, bat0, hdr0, slt0, crt0, 0⟩ mv0).toArray) rfl (by kernel_rfl) (by kernel_rfl) (by kernel_rfl) (fun _ _ _ h => h) (Or.inl ⟨by rfl, fun w hSw => ?_⟩) hHeld ?_
            · (try dsimp only at hSw); go_split_ands; go_simp; all_goals (try rfl)
            try simp only [Act.put, List.getElem_toArray, List.getElem_cons_succ, List.getElem_cons_zero, List.setIfInBounds_toArray, List.set_cons_zero, List.set_cons_succ]
            refine wpAnyH_ready (rs := [12]) (by kernel_rfl) (by simp) ?_
            refine AllReadyH.cons rfl (fun K hK => ?_) ?_
            · rw [if_pos (by rfl)]
              refine wp_store_newD 106 _ _ (by rfl) (msgCells ⟨f, t, 1 + k, bat0, hdr0, slt0, crt0, 0⟩ mv0) 106 zeroMsg (by rfl) (by rfl) (by kernel_rfl) rfl rfl ?_
              intro w2 hb2 hB2 hs2
              refine hK.out _ _ (by exact ⟨((bcellAt hB2 _ hx0).1 0).trans x0, ((bcellAt hB2 _ hx0).1 2).trans x2, ((bcellAt hB2 _ hx0).1 3).trans x3⟩) (fun hHeld => ?_)
              clear hK K
              try simp only [Act.put, List.getElem_toArray, List.getElem_cons_succ, List.getElem_cons_zero, List.setIfInBounds_toArray, List.set_cons_zero, List.set_cons_succ]
              refine wpAnyH_done (by kernel_rfl) ?_ _
              go_wp2_with fail
              go_meet
              exact ⟨w1.heap.size, rfl, hz1, hb2, HBR.out.belowS hB2, HBZ.out.belowS hB2, HB1.out.trans (hB2.mono HB1.out.size)⟩
            exact AllReadyH.nil
          exact AllReadyH.nil
        exact AllReadyH.nil
      exact AllReadyH.nil
    refine AllReadyH.cons rfl (fun K hK => ?_) ?_
    · rw [if_pos (by rfl)]
      go_simp
      refine hK.out _ _ (by exact ⟨(cell_of_below hBa (by omega)).trans x0, (cell_of_below hBa (by omega)).trans x2, (cell_of_below hBa (by omega)).trans x3⟩) (fun hHeld => ?_)
      clear hK K
      try simp only [Act.put, List.getElem_toArray, List.getElem_cons_succ, List.getElem_cons_zero, List.setIfInBounds_toArray, List.set_cons_zero, List.set_cons_succ]
      refine wpAnyH_ready (rs := [2]) (by kernel_rfl) (by simp) ?_
      refine AllReadyH.cons rfl (fun K hK => ?_) ?_
      · rw [if_pos (by rfl)]
        go_simp
        go_at_call 30
        refine (picked_any _ _ _ (by omega) (by omega) (by omega) (by omega)).mono ?_
        rintro e w' ⟨rfl, rfl⟩
        rw [HF.out]
        show K _ _
        refine hK.out _ _ (by exact hHeld) (fun hHeld => ?_)
        clear hK K
        try simp only [Act.put, List.getElem_toArray, List.getElem_cons_succ, List.getElem_cons_zero, List.setIfInBounds_toArray, List.set_cons_zero, List.set_cons_succ]
        refine wpAnyH_ready (rs := [5]) (by kernel_rfl) (by simp) ?_
        refine AllReadyH.cons rfl (fun K hK => ?_) ?_
        · rw [if_pos (by rfl)]
          go_simp
          go_at_call 30
          refine (picked_any _ _ _ (by omega) (by omega) (by omega) (by omega)).mono ?_
          rintro e w' ⟨rfl, rfl⟩
          rw [HT.out]
          show K _ _
          refine hK.out _ _ (by exact hHeld) (fun hHeld => ?_)
          clear hK K
          try simp only [Act.put, List.getElem_toArray, List.getElem_cons_succ, List.getElem_cons_zero, List.setIfInBounds_toArray, List.set_cons_zero, List.set_cons_succ]
          refine wpAnyH_ready (rs := [8]) (by kernel_rfl) (by simp) ?_
          refine AllReadyH.cons rfl (fun K hK => ?_) ?_
          · rw [if_pos (by rfl)]
            go_simp
            go_at_call 30
            refine (picked_any _ _ _ (by omega) (by omega) (by omega) (by omega)).mono ?_
            rintro e w' ⟨rfl, rfl⟩
            rw [HK.out]
            show K _ _
            refine hK.out _ _ (by exact hHeld) (fun hHeld => ?_)
            clear hK K
            try simp only [Act.put, List.getElem_toArray, List.getElem_cons_succ, List.getElem_cons_zero, List.setIfInBounds_toArray, List.set_cons_zero, List.set_cons_succ]
            refine wpAnyH_take (i := 9) (v := .int .i64 (1 + k)) rfl (by kernel_rfl) (by kernel_rfl) (by kernel_rfl) (fun _ _ _ h => h) (Or.inl ⟨by rfl, fun w hSw => ?_⟩) hHeld ?_
            · (try dsimp only at hSw); go_split_ands; go_simp; all_goals (try rfl)
            try simp only [Act.put, List.getElem_toArray, List.getElem_cons_succ, List.getElem_cons_zero, List.setIfInBounds_toArray, List.set_cons_zero, List.set_cons_succ]
            refine wpAnyH_take (i := 10) (v := .agg (msgCells ⟨f, t, 1 + k, bat0, hdr0, slt0, crt0, 0⟩ mv0).toArray) rfl (by kernel_rfl) (by kernel_rfl) (by kernel_rfl) (fun _ _ _ h => h) (Or.inl ⟨by rfl, fun w hSw => ?_⟩) hHeld ?_
            · (try dsimp only at hSw); go_split_ands; go_simp; all_goals (try rfl)
            try simp only [Act.put, List.getElem_toArray, List.getElem_cons_succ, List.getElem_cons_zero, List.setIfInBounds_toArray, List.set_cons_zero, List.set_cons_succ]
            refine wpAnyH_ready (rs := [12]) (by kernel_rfl) (by simp) ?_
            refine AllReadyH.cons rfl (fun K hK => ?_) ?_
            · rw [if_pos (by rfl)]
              refine wp_store_newD 106 _ _ (by rfl) (msgCells ⟨f, t, 1 + k, bat0, hdr0, slt0, crt0, 0⟩ mv0) 106 zeroMsg (by rfl) (by rfl) (by kernel_rfl) rfl rfl ?_
              intro w2 hb2 hB2 hs2
              refine hK.out _ _ (by exact ⟨((bcellAt hB2 _ hx0).1 0).trans x0, ((bcellAt hB2 _ hx0).1 2).trans x2, ((bcellAt hB2 _ hx0).1 3).trans x3⟩) (fun hHeld => ?_)
              clear hK K
              try simp only [Act.put, List.getElem_toArray, List.getElem_cons_succ, List.getElem_cons_zero, List.setIfInBounds_toArray, List.set_cons_zero, List.set_cons_succ]
              refine wpAnyH_done (by kernel_rfl) ?_ _
              go_wp2_with fail
              go_meet
              exact ⟨w1.heap.size, rfl, hz1, hb2, HBR.out.belowS hB2, HBZ.out.belowS hB2, HB1.out.trans (hB2.mono HB1.out.size)⟩
            exact AllReadyH.nil
          exact AllReadyH.nil
        exact AllReadyH.nil
      exact AllReadyH.nil
    exact AllReadyH.nil
  case rest =>
    clear x0 x2 x3 hBa HB1 HBR HBZ hn1 hz1 hx hx0
    obtain ⟨X, rfl, hX, bX, bR, bZ, hB⟩ := hcut
    generalize hkk : 1 + k = kk at *
    have hk : kk = 1 ∨ kk = 2 ∨ kk = 3 ∨ kk = 4 ∨ kk = 5 := by omega
    clear hkk l1 HK
    generalize wc = w2 at *
    have HBX := Lib.hid bX
    have HBR2 := Lib.hid bR
    have HBZ2 := Lib.hid bZ
    have HB2 := Lib.hid hB
    have q2 : w2.cell? ⟨X, 2, none⟩ = some (.int .i64 kk) := bX.cell 2 rfl
    have r0 := bR.cell 0 rfl
    have r1 := bR.cell 1 rfl
    have r2 := bR.cell 2 rfl
    have r3 := bR.cell 3 rfl
    have r4 := bR.cell 4 rfl
    have zX2 := bX.lt
    have zB2 := hB.size
    clear bX bR bZ hB
    obtain rfl | rfl | rfl | rfl | rfl := hk
    · have HM := Lib.hid (show msgOf K A B C l = ⟨f, t, 1, batOf A B l, hdr0, slt0, crt0, 0⟩ by rw [HMO.out]; rfl)
      go_wp2_with fail
      refine (batch_any _ _ _ _ _ l _ a1 a2 b1 b2 (HV.out.below HB2.out (fun _ h => h)) HL.out).mono ?_
      rintro e w7 ⟨ad7, cap7, rfl, hv7, hb7⟩
      generalize hbb : batOf A B l = bb at *
      clear hbb
      have bX7 := HBX.out.belowS hb7
      have bZ7 := HBZ2.out.belowS hb7
      have c3 : w7.cell? ⟨X, 3, none⟩ = some _ := bX7.cell 3 rfl
      have g3 := bX7.free 3
      have c4 : w7.cell? ⟨X, 4, none⟩ = some _ := bX7.cell 4 rfl
      have g4 := bX7.free 4
      have c5 : w7.cell? ⟨X, 5, none⟩ = some _ := bX7.cell 5 rfl
      have g5 := bX7.free 5
      have HBX7 := Lib.hid ((((bX7.set 3 (.int .i64 bb.a)).set 4 (.int .i64 bb.n)).set 5 (.slice ad7 bb.txs.length cap7)))
      have HBZ7 := Lib.hid ((((bZ7.setOther (p := ⟨X, 3, none⟩) (by simp; omega) (.int .i64 bb.a)).setOther (p := ⟨X, 4, none⟩) (by simp; omega) (.int .i64 bb.n)).setOther (p := ⟨X, 5, none⟩) (by simp; omega) (.slice ad7 bb.txs.length cap7)))
      have HB7 := Lib.hid (((((HB2.out.trans (hb7.mono HB2.out.size)).setCell (p := ⟨X, 3, none⟩) (by simp; omega) (.int .i64 bb.a)).setCell (p := ⟨X, 4, none⟩) (by simp; omega) (.int .i64 bb.n)).setCell (p := ⟨X, 5, none⟩) (by simp; omega) (.slice ad7 bb.txs.length cap7)))
      have HV7 := Lib.hid (hv7.keep (Keep.setCell' (Keep.setCell' (Keep.setCell (p := ⟨X, 3, none⟩) (by simp; omega) (.int .i64 bb.a)) (p := ⟨X, 4, none⟩) (by simp; omega) (.int .i64 bb.n)) (p := ⟨X, 5, none⟩) (by simp; omega) (.slice ad7 bb.txs.length cap7)) (G' := fun b => X < b) (fun b hb => by omega))
      have z7 := hb7.size
      clear bX7 bZ7 hv7 hb7
      go_wp2_with (first
        | (refine wpList_load_box rfl 106 _ rfl X rfl (msgCells ⟨f, t, 1, bb, hdr0, slt0, crt0, 0⟩ { mv0 with tx := .slice ad7 bb.txs.length cap7 }) 106 HBX7.out Tryz.underlying106 rfl (by kernel_rfl) ?_)
        | (refine wpList_store_boxG rfl 106 _ _ rfl (w.heap.size + 1) (msgCells ⟨f, t, 1, bb, hdr0, slt0, crt0, 0⟩ { mv0 with tx := .slice ad7 bb.txs.length cap7 }) rfl rfl 106 zeroMsg HBZ7.out (by kernel_rfl) rfl rfl ?_; intro w9 hb9 hB9 hg9))
      exact bodyPost_ret (results_cell_row Tryz.results47 _ w9 (w.heap.size + 1) 106 (msgCells ⟨f, t, 1, bb, hdr0, slt0, crt0, 0⟩ { mv0 with tx := .slice ad7 bb.txs.length cap7 }).toArray _ _ rfl hb9 Tryz.underlying106 rfl (by kernel_rfl)) rfl ⟨{ mv0 with tx := .slice ad7 bb.txs.length cap7 }, by rw [HM.out], by rw [HM.out]; exact rdM_bundle _ _ _ (HV7.out.keep (Keep.grown hg9 (fun k e => by simp only [Option.some.injEq] at e; omega)) (fun b hb => by omega)), HB7.out.trans (hB9.mono (by omega))⟩
    · have HM := Lib.hid (show msgOf K A B C l = ⟨f, t, 2, bat0, hdrOf A B C, slt0, crt0, 0⟩ by rw [HMO.out]; rfl)
      go_wp2_with fail
      refine (header_any _ _ _ _ _ _ a1 a2 b1 b2 c1 c2 hvt).mono ?_
      rintro e w7 ⟨adb, capb, adp, capp, rfl, hvb, hvp, hb7⟩
      generalize hhh : hdrOf A B C = hh at *
      clear hhh
      have bX7 := HBX.out.belowS hb7
      have bZ7 := HBZ2.out.belowS hb7
      have c6 : w7.cell? ⟨X, 6, none⟩ = some _ := bX7.cell 6 rfl
      have g6 := bX7.free 6
      have c7 : w7.cell? ⟨X, 7, none⟩ = some _ := bX7.cell 7 rfl
      have g7 := bX7.free 7
      have c8 : w7.cell? ⟨X, 8, none⟩ = some _ := bX7.cell 8 rfl
      have g8 := bX7.free 8
      have c9 : w7.cell? ⟨X, 9, none⟩ = some _ := bX7.cell 9 rfl
      have g9 := bX7.free 9
      have HBX7 := Lib.hid (((((bX7.set 6 (.int .i64 hh.a)).set 7 (.int .i64 hh.r)).set 8 (.slice adb hh.bs.length capb)).set 9 (.slice adp hh.ps.length capp)))
      have HBZ7 := Lib.hid (((((bZ7.setOther (p := ⟨X, 6, none⟩) (by simp; omega) (.int .i64 hh.a)).setOther (p := ⟨X, 7, none⟩) (by simp; omega) (.int .i64 hh.r)).setOther (p := ⟨X, 8, none⟩) (by simp; omega) (.slice adb hh.bs.length capb)).setOther (p := ⟨X, 9, none⟩) (by simp; omega) (.slice adp hh.ps.length capp)))
      have HB7 := Lib.hid ((((((HB2.out.trans (hb7.mono HB2.out.size)).setCell (p := ⟨X, 6, none⟩) (by simp; omega) (.int .i64 hh.a)).setCell (p := ⟨X, 7, none⟩) (by simp; omega) (.int .i64 hh.r)).setCell (p := ⟨X, 8, none⟩) (by simp; omega) (.slice adb hh.bs.length capb)).setCell (p := ⟨X, 9, none⟩) (by simp; omega) (.slice adp hh.ps.length capp)))
      have HVB := Lib.hid (hvb.keep (Keep.setCell' (Keep.setCell' (Keep.setCell' (Keep.setCell (p := ⟨X, 6, none⟩) (by simp; omega) (.int .i64 hh.a)) (p := ⟨X, 7, none⟩) (by simp; omega) (.int .i64 hh.r)) (p := ⟨X, 8, none⟩) (by simp; omega) (.slice adb hh.bs.length capb)) (p := ⟨X, 9, none⟩) (by simp; omega) (.slice adp hh.ps.length capp)) (G' := fun b => X < b) (fun b hb => by omega))
      have HVP := Lib.hid (hvp.keep (Keep.setCell' (Keep.setCell' (Keep.setCell' (Keep.setCell (p := ⟨X, 6, none⟩) (by simp; omega) (.int .i64 hh.a)) (p := ⟨X, 7, none⟩) (by simp; omega) (.int .i64 hh.r)) (p := ⟨X, 8, none⟩) (by simp; omega) (.slice adb hh.bs.length capb)) (p := ⟨X, 9, none⟩) (by simp; omega) (.slice adp hh.ps.length capp)) (G' := fun b => X < b) (fun b hb => by omega))
      have z7 := hb7.size
      clear bX7 bZ7 hvb hvp hb7
      go_wp2_with (first
        | (refine wpList_load_box rfl 106 _ rfl X rfl (msgCells ⟨f, t, 2, bat0, hh, slt0, crt0, 0⟩ { mv0 with bs := .slice adb hh.bs.length capb, ps := .slice adp hh.ps.length capp }) 106 HBX7.out Tryz.underlying106 rfl (by kernel_rfl) ?_)
        | (refine wpList_store_boxG rfl 106 _ _ rfl (w.heap.size + 1) (msgCells ⟨f, t, 2, bat0, hh, slt0, crt0, 0⟩ { mv0 with bs := .slice adb hh.bs.length capb, ps := .slice adp hh.ps.length capp }) rfl rfl 106 zeroMsg HBZ7.out (by kernel_rfl) rfl rfl ?_; intro w9 hb9 hB9 hg9))
      exact bodyPost_ret (results_cell_row Tryz.results47 _ w9 (w.heap.size + 1) 106 (msgCells ⟨f, t, 2, bat0, hh, slt0, crt0, 0⟩ { mv0 with bs := .slice adb hh.bs.length capb, ps := .slice adp hh.ps.length capp }).toArray _ _ rfl hb9 Tryz.underlying106 rfl (by kernel_rfl)) rfl ⟨{ mv0 with bs := .slice adb hh.bs.length capb, ps := .slice adp hh.ps.length capp }, by rw [HM.out], by rw [HM.out]; exact rdM_offer _ _ _ (HVB.out.keep (Keep.grown hg9 (fun k e => by simp only [Option.some.injEq] at e; omega)) (fun b hb => by omega)) (HVP.out.keep (Keep.grown hg9 (fun k e => by simp only [Option.some.injEq] at e; omega)) (fun b hb => by omega)), HB7.out.trans (hB9.mono (by omega))⟩
    · have HM := Lib.hid (show msgOf K A B C l = ⟨f, t, 3, bat0, hdr0, ⟨pickedZ A 4, 1 + pickedZ B 9, someL C A⟩, crt0, 0⟩ by rw [HMO.out]; rfl)
      obtain ⟨pr0, pr1⟩ := pickedZ_range B 9 (by omega)
      obtain ⟨pa0, pa1⟩ := pickedZ_range A 4 (by omega)
      generalize hrr : pickedZ B 9 = rr at *
      generalize haa : pickedZ A 4 = a at *
      have HRR := Lib.hid hrr
      have HAA := Lib.hid haa
      have l2 : IntKind.i64.wrap (1 + rr) = 1 + rr := IntWalk.i64_in _ (by omega)
      clear hrr haa
      have bXf := HBX.out.free
      have e10 : w2.cell? ⟨X, 10, none⟩ = some (.int .i64 0) := HBX.out.cell 10 rfl
      have e11 : w2.cell? ⟨X, 11, none⟩ = some (.int .i64 0) := HBX.out.cell 11 rfl
      have e12 : w2.cell? ⟨X, 12, none⟩ = some (.slice none 0 0) := HBX.out.cell 12 rfl
      have f10 := HBX.out.free 10
      have f11 := HBX.out.free 11
      have f12 := HBX.out.free 12
      clear bXf
      go_upto_region 8 with fail
      go_region_held3 (fun w' => w'.cell? ⟨w.heap.size, 1, none⟩ = some (.int .i64 A) ∧ w'.cell? ⟨w.heap.size, 2, none⟩ = some (.int .i64 B) ∧ w'.cell? ⟨w.heap.size, 3, none⟩ = some (.int .i64 C)) (first | go_keep | exact ⟨y1, y2, y3⟩ | exact ⟨z1', z2', z3'⟩)
        (first
          | (go_at_call 30; refine (picked_any _ _ _ (by omega) (by omega) (by omega) (by omega)).mono ?_; rintro e w' ⟨rfl, rfl⟩; (first | rw [HAA.out] | rw [HRR.out]))
          | (go_at_call 78; refine (some_any _ _ _ c1 c2).mono ?_; rintro e w7 ⟨rfl, hbox, hb7⟩; have hb7' : Below w2.heap.size w2 w7 := ((Below.refl _ _).drew).trans hb7; have y1 := ((bcellAt hb7' _ HBR2.out.lt).1 1).trans r1; have y2 := ((bcellAt hb7' _ HBR2.out.lt).1 2).trans r2; have y3 := ((bcellAt hb7' _ HBR2.out.lt).1 3).trans r3; have hx7 := HBX.out.lt; have c10 := ((bcellAt hb7' _ hx7).1 10).trans e10; have c11 := ((bcellAt hb7' _ hx7).1 11).trans e11; have c12 := ((bcellAt hb7' _ hx7).1 12).trans e12; have g10 := ((bcellAt hb7' _ hx7).2 10).trans f10; have g11 := ((bcellAt hb7' _ hx7).2 11).trans f11; have g12 := ((bcellAt hb7' _ hx7).2 12).trans f12; have nXR : X ≠ w.heap.size := (by omega)))
      all_goals
        have bX7 := HBX.out.belowS hb7'
        have bZ7 := HBZ2.out.belowS hb7'
        have HBX7 := Lib.hid ((((bX7.set 10 (.int .i64 a)).set 11 (.int .i64 (1 + rr))).set 12 (.slice (some ⟨w2.heap.size, 0, none⟩) 32 32)))
        have HBZ7 := Lib.hid ((((bZ7.setOther (p := ⟨X, 10, none⟩) (by simp; omega) (.int .i64 a)).setOther (p := ⟨X, 11, none⟩) (by simp; omega) (.int .i64 (1 + rr))).setOther (p := ⟨X, 12, none⟩) (by simp; omega) (.slice (some ⟨w2.heap.size, 0, none⟩) 32 32)))
        have HB7 := Lib.hid (((((HB2.out.trans (hb7'.mono HB2.out.size)).setCell (p := ⟨X, 10, none⟩) (by simp; omega) (.int .i64 a)).setCell (p := ⟨X, 11, none⟩) (by simp; omega) (.int .i64 (1 + rr))).setCell (p := ⟨X, 12, none⟩) (by simp; omega) (.slice (some ⟨w2.heap.size, 0, none⟩) 32 32)))
        have HVD : Hid (RdB (fun b => X < b) _ (.slice (some ⟨w2.heap.size, 0, none⟩) 32 32) (someL C A)) := Lib.hid ((RdS.of_box (f := fun c : UInt8 => Value.int .u8 c.toNat) (G := fun b => X < b) (l := someL C A) (cap := 32) hbox (by exact zX2) (by rw [someL_length]; omega) (by unfold maxLen; omega)).keep (Keep.setCell' (Keep.setCell' (Keep.setCell (p := ⟨X, 10, none⟩) (by simp) (.int .i64 a)) (p := ⟨X, 11, none⟩) (by simp) (.int .i64 (1 + rr))) (p := ⟨X, 12, none⟩) (by simp) (.slice (some ⟨w2.heap.size, 0, none⟩) 32 32)) (fun _ h => h))
        have z7 := hb7'.size
        clear bX7 bZ7 hb7 hb7' hbox y1 y2 y3 c10 c11 c12 g10 g11 g12
        go_wp2_with (first
          | (refine wpList_load_box rfl 106 _ rfl X rfl (msgCells ⟨f, t, 3, bat0, hdr0, ⟨a, 1 + rr, someL C A⟩, crt0, 0⟩ { mv0 with d := .slice (some ⟨w2.heap.size, 0, none⟩) 32 32 }) 106 HBX7.out Tryz.underlying106 rfl (by kernel_rfl) ?_)
          | (refine wpList_store_boxG rfl 106 _ _ rfl (w.heap.size + 1) (msgCells ⟨f, t, 3, bat0, hdr0, ⟨a, 1 + rr, someL C A⟩, crt0, 0⟩ { mv0 with d := .slice (some ⟨w2.heap.size, 0, none⟩) 32 32 }) rfl rfl 106 zeroMsg HBZ7.out (by kernel_rfl) rfl rfl ?_; intro w9 hb9 hB9 hg9))
        exact bodyPost_ret (results_cell_row Tryz.results47 _ w9 (w.heap.size + 1) 106 (msgCells ⟨f, t, 3, bat0, hdr0, ⟨a, 1 + rr, someL C A⟩, crt0, 0⟩ { mv0 with d := .slice (some ⟨w2.heap.size, 0, none⟩) 32 32 }).toArray _ _ rfl hb9 Tryz.underlying106 rfl (by kernel_rfl)) rfl ⟨{ mv0 with d := .slice (some ⟨w2.heap.size, 0, none⟩) 32 32 }, by rw [HM.out], by rw [HM.out]; exact rdM_vote (b := ⟨a, 1 + rr, someL C A⟩) _ _ _ (HVD.out.keep (Keep.grown hg9 (fun k e => by simp only [Option.some.injEq] at e; omega)) (fun b hb => by omega)), HB7.out.trans (hB9.mono (by omega))⟩
    · have HM := Lib.hid (show msgOf K A B C l = ⟨f, t, 4, bat0, hdr0, slt0, ⟨hdrOf A B C, votersL C⟩, 0⟩ by rw [HMO.out]; rfl)
      obtain ⟨hh, hhh⟩ : ∃ hh, hh = hdrOf A B C := ⟨_, rfl⟩
      have HHH := Lib.hid hhh
      clear hhh
      go_upto_region 10 with fail
      have zX := HBX.out.lt
      replace HBX := Lib.hid (HBX.out.drew)
      replace HBR2 := Lib.hid (HBR2.out.drew)
      replace HBZ2 := Lib.hid (HBZ2.out.drew)
      replace HB2 := Lib.hid (HB2.out.drew)
      go_region_held3 (fun w' => w'.cell? ⟨w.heap.size, 0, none⟩ = some (.int .i64 K) ∧ w'.cell? ⟨w.heap.size, 1, none⟩ = some (.int .i64 A) ∧ w'.cell? ⟨w.heap.size, 2, none⟩ = some (.int .i64 B) ∧ w'.cell? ⟨w.heap.size, 3, none⟩ = some (.int .i64 C) ∧ w'.cell? ⟨w.heap.size, 4, none⟩ = some (vt)) (first | go_keep | exact ⟨y0, y1, y2, y3, y4⟩)
        (first
          | (go_at_call 77; refine (header_any _ _ _ _ _ _ a1 a2 b1 b2 c1 c2 hvt).mono ?_; rintro e w7 ⟨adb, capb, adp, capp, rfl, hvb, hvp, hb⟩; rw [← HHH.out] at hvb hvp ⊢; have HVB := Lib.hid (hvb.mono (G' := fun b => X < b) (fun b hb => Nat.lt_of_lt_of_le zX hb)); have HVP := Lib.hid (hvp.mono (G' := fun b => X < b) (fun b hb => Nat.lt_of_lt_of_le zX hb)); clear hvb hvp; (try replace HVS := Lib.hid (HVS.out.below hb (fun _ h => h))); replace HBX := Lib.hid (HBX.out.belowS hb); replace HBR2 := Lib.hid (HBR2.out.belowS hb); replace HBZ2 := Lib.hid (HBZ2.out.belowS hb); replace HB2 := Lib.hid (HB2.out.trans (hb.mono HB2.out.size)); have zX := HBX.out.lt; have bR := HBR2.out; have y0 := bR.cell 0 rfl; have y1 := bR.cell 1 rfl; have y2 := bR.cell 2 rfl; have y3 := bR.cell 3 rfl; have y4 := bR.cell 4 rfl; clear bR; have nXR : X ≠ w.heap.size := (by omega); have c13 := HBX.out.cell 13 rfl; have g13 := HBX.out.free 13; have c14 := HBX.out.cell 14 rfl; have g14 := HBX.out.free 14; have c15 := HBX.out.cell 15 rfl; have g15 := HBX.out.free 15; have c16 := HBX.out.cell 16 rfl; have g16 := HBX.out.free 16; have c17 := HBX.out.cell 17 rfl; have g17 := HBX.out.free 17; clear hb)
          | (go_at_call 79; refine (voters_any _ _ c1 c2).mono ?_; rintro e w8 ⟨vv, rfl, hown, hb⟩; obtain ⟨ad8, cap8, rfl⟩ := ownsRow_form hown; have HVS := Lib.hid (RdS.of_owns (f := Value.int .i64) (G := fun b => X < b) hown (fun b hb => Nat.lt_of_lt_of_le zX hb)); clear hown; (try replace HVB := Lib.hid (HVB.out.below hb (fun _ h => h))); (try replace HVP := Lib.hid (HVP.out.below hb (fun _ h => h))); replace HBX := Lib.hid (HBX.out.belowS hb); replace HBR2 := Lib.hid (HBR2.out.belowS hb); replace HBZ2 := Lib.hid (HBZ2.out.belowS hb); replace HB2 := Lib.hid (HB2.out.trans (hb.mono HB2.out.size)); have zX := HBX.out.lt; have bR := HBR2.out; have y0 := bR.cell 0 rfl; have y1 := bR.cell 1 rfl; have y2 := bR.cell 2 rfl; have y3 := bR.cell 3 rfl; have y4 := bR.cell 4 rfl; clear bR; have nXR : X ≠ w.heap.size := (by omega); have c13 := HBX.out.cell 13 rfl; have g13 := HBX.out.free 13; have c14 := HBX.out.cell 14 rfl; have g14 := HBX.out.free 14; have c15 := HBX.out.cell 15 rfl; have g15 := HBX.out.free 15; have c16 := HBX.out.cell 16 rfl; have g16 := HBX.out.free 16; have c17 := HBX.out.cell 17 rfl; have g17 := HBX.out.free 17; clear hb))
      all_goals
        have HBX7 := Lib.hid ((((((HBX.out.set 13 (.int .i64 hh.a)).set 14 (.int .i64 hh.r)).set 15 (.slice adb hh.bs.length capb)).set 16 (.slice adp hh.ps.length capp)).set 17 (.slice ad8 (votersL C).length cap8)))
        have HBZ7 := Lib.hid ((((((HBZ2.out.setOther (p := ⟨X, 13, none⟩) (by simp; omega) (.int .i64 hh.a)).setOther (p := ⟨X, 14, none⟩) (by simp; omega) (.int .i64 hh.r)).setOther (p := ⟨X, 15, none⟩) (by simp; omega) (.slice adb hh.bs.length capb)).setOther (p := ⟨X, 16, none⟩) (by simp; omega) (.slice adp hh.ps.length capp)).setOther (p := ⟨X, 17, none⟩) (by simp; omega) (.slice ad8 (votersL C).length cap8)))
        have HB7 := Lib.hid ((((((HB2.out.setCell (p := ⟨X, 13, none⟩) (by simp; omega) (.int .i64 hh.a)).setCell (p := ⟨X, 14, none⟩) (by simp; omega) (.int .i64 hh.r)).setCell (p := ⟨X, 15, none⟩) (by simp; omega) (.slice adb hh.bs.length capb)).setCell (p := ⟨X, 16, none⟩) (by simp; omega) (.slice adp hh.ps.length capp)).setCell (p := ⟨X, 17, none⟩) (by simp; omega) (.slice ad8 (votersL C).length cap8)))
        replace HVB := Lib.hid (HVB.out.keep (Keep.setCell' (Keep.setCell' (Keep.setCell' (Keep.setCell' (Keep.setCell (p := ⟨X, 13, none⟩) (by simp) (.int .i64 hh.a)) (p := ⟨X, 14, none⟩) (by simp) (.int .i64 hh.r)) (p := ⟨X, 15, none⟩) (by simp) (.slice adb hh.bs.length capb)) (p := ⟨X, 16, none⟩) (by simp) (.slice adp hh.ps.length capp)) (p := ⟨X, 17, none⟩) (by simp) (.slice ad8 (votersL C).length cap8)) (G' := fun b => X < b) (fun _ h => h))
        replace HVP := Lib.hid (HVP.out.keep (Keep.setCell' (Keep.setCell' (Keep.setCell' (Keep.setCell' (Keep.setCell (p := ⟨X, 13, none⟩) (by simp) (.int .i64 hh.a)) (p := ⟨X, 14, none⟩) (by simp) (.int .i64 hh.r)) (p := ⟨X, 15, none⟩) (by simp) (.slice adb hh.bs.length capb)) (p := ⟨X, 16, none⟩) (by simp) (.slice adp hh.ps.length capp)) (p := ⟨X, 17, none⟩) (by simp) (.slice ad8 (votersL C).length cap8)) (G' := fun b => X < b) (fun _ h => h))
        replace HVS := Lib.hid (HVS.out.keep (Keep.setCell' (Keep.setCell' (Keep.setCell' (Keep.setCell' (Keep.setCell (p := ⟨X, 13, none⟩) (by simp) (.int .i64 hh.a)) (p := ⟨X, 14, none⟩) (by simp) (.int .i64 hh.r)) (p := ⟨X, 15, none⟩) (by simp) (.slice adb hh.bs.length capb)) (p := ⟨X, 16, none⟩) (by simp) (.slice adp hh.ps.length capp)) (p := ⟨X, 17, none⟩) (by simp) (.slice ad8 (votersL C).length cap8)) (G' := fun b => X < b) (fun _ h => h))
        clear HBX HBZ2 HBR2 HB2 y0 y1 y2 y3 y4
        go_wp2_with (first
          | (refine wpList_load_box rfl 106 _ rfl X rfl (msgCells ⟨f, t, 4, bat0, hdr0, slt0, ⟨hh, votersL C⟩, 0⟩ { mv0 with cbs := .slice adb hh.bs.length capb, cps := .slice adp hh.ps.length capp, vs := .slice ad8 (votersL C).length cap8 }) 106 HBX7.out Tryz.underlying106 rfl (by kernel_rfl) ?_)
          | (refine wpList_store_boxG rfl 106 _ _ rfl (w.heap.size + 1) (msgCells ⟨f, t, 4, bat0, hdr0, slt0, ⟨hh, votersL C⟩, 0⟩ { mv0 with cbs := .slice adb hh.bs.length capb, cps := .slice adp hh.ps.length capp, vs := .slice ad8 (votersL C).length cap8 }) rfl rfl 106 zeroMsg HBZ7.out (by kernel_rfl) rfl rfl ?_; intro w9 hb9 hB9 hg9))
        exact bodyPost_ret (results_cell_row Tryz.results47 _ w9 (w.heap.size + 1) 106 (msgCells ⟨f, t, 4, bat0, hdr0, slt0, ⟨hh, votersL C⟩, 0⟩ { mv0 with cbs := .slice adb hh.bs.length capb, cps := .slice adp hh.ps.length capp, vs := .slice ad8 (votersL C).length cap8 }).toArray _ _ rfl hb9 Tryz.underlying106 rfl (by kernel_rfl)) rfl ⟨{ mv0 with cbs := .slice adb hh.bs.length capb, cps := .slice adp hh.ps.length capp, vs := .slice ad8 (votersL C).length cap8 }, by rw [HM.out, HHH.out], by rw [HM.out, ← HHH.out]; exact rdM_proof (b := ⟨hh, votersL C⟩) _ _ _ (HVB.out.keep (Keep.grown hg9 (fun k e => by simp only [Option.some.injEq] at e; omega)) (fun b hb => by omega)) (HVP.out.keep (Keep.grown hg9 (fun k e => by simp only [Option.some.injEq] at e; omega)) (fun b hb => by omega)) (HVS.out.keep (Keep.grown hg9 (fun k e => by simp only [Option.some.injEq] at e; omega)) (fun b hb => by omega)), HB7.out.trans (hB9.mono (by omega))⟩
    · have HM := Lib.hid (show msgOf K A B C l = ⟨f, t, 5, bat0, hdr0, slt0, crt0, 1 + pickedZ B 9⟩ by rw [HMO.out]; rfl)
      obtain ⟨pr0, pr1⟩ := pickedZ_range B 9 (by omega)
      generalize hrr : pickedZ B 9 = rr at *
      have HRR := Lib.hid hrr
      have l2 : IntKind.i64.wrap (1 + rr) = 1 + rr := IntWalk.i64_in _ (by omega)
      clear hrr
      obtain ⟨w7, hw7⟩ : ∃ w7, w7 = w2 := ⟨_, rfl⟩
      have hb7 : Below w2.heap.size w2 w7 := by rw [hw7]; exact Below.refl _ _
      rw [← hw7]
      have y2 := ((bcellAt hb7 _ HBR2.out.lt).1 2).trans r2
      have bX7 := HBX.out.belowS hb7
      have bZ7 := HBZ2.out.belowS hb7
      have c18 : w7.cell? ⟨X, 18, none⟩ = some _ := bX7.cell 18 rfl
      have g18 := bX7.free 18
      have HBX7 := Lib.hid ((bX7.set 18 (.int .i64 (1 + rr))))
      have HBZ7 := Lib.hid ((bZ7.setOther (p := ⟨X, 18, none⟩) (by simp; omega) (.int .i64 (1 + rr))))
      have HB7 := Lib.hid (((HB2.out.trans (hb7.mono HB2.out.size)).setCell (p := ⟨X, 18, none⟩) (by simp; omega) (.int .i64 (1 + rr))))
      have q7 : w7.cell? ⟨X, 2, none⟩ = some (.int .i64 5) := bX7.cell 2 rfl
      have z7 := hb7.size
      clear bX7 bZ7 hb7 hw7
      go_wp2_with (first
        | (go_at_call 30; refine (picked_any _ _ _ (by omega) (by omega) (by omega) (by omega)).mono ?_; rintro e w' ⟨rfl, rfl⟩; rw [HRR.out])
        | (refine wpList_load_box rfl 106 _ rfl X rfl (msgCells ⟨f, t, 5, bat0, hdr0, slt0, crt0, 1 + rr⟩ mv0) 106 HBX7.out Tryz.underlying106 rfl (by kernel_rfl) ?_)
        | (refine wpList_store_boxG rfl 106 _ _ rfl (w.heap.size + 1) (msgCells ⟨f, t, 5, bat0, hdr0, slt0, crt0, 1 + rr⟩ mv0) rfl rfl 106 zeroMsg HBZ7.out (by kernel_rfl) rfl rfl ?_; intro w9 hb9 hB9 hg9))
      exact bodyPost_ret (results_cell_row Tryz.results47 _ w9 (w.heap.size + 1) 106 (msgCells ⟨f, t, 5, bat0, hdr0, slt0, crt0, 1 + rr⟩ mv0).toArray _ _ rfl hb9 Tryz.underlying106 rfl (by kernel_rfl)) rfl ⟨mv0, by rw [HM.out], by rw [HM.out]; exact rdM_want _ _ _ _ _, HB7.out.trans (hB9.mono (by omega))⟩
end Go.Proofs.YtmijiclocadimaaGreatDoor
