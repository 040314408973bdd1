/- sheavestop: acts of raw numbers. -/
import Derived.Test.YtmijiclocadimaaGreatDoorOpenGs
import Derived.Test.YtmijiclocadimaaGreatDoorBas
import Derived.Test.YtmijiclocadimaaGreatDoorSome0
set_option linter.unusedVariables false
set_option linter.unusedSimpArgs false
attribute [local go_sem ↓] Go.wp_at_zero Go.wp_at_succ
namespace Go.Proofs.YtmijiclocadimaaGreatDoor
open Go Go.RowKit

structure LAct where
  k : Int
  n : Int
  p : Int
  t : Bytes
def actCells (a : LAct) : List Value := [.int .i64 a.k, .int .i64 a.n, .int .i64 a.p, strV a.t]
def RAct : Rel LAct where
  size := 4
  rd := fun _ _ cs x => cs = actCells x
  len := fun h => by subst h; rfl
  keep := fun h _ _ => h
  low := fun h => h
theorem RAct_one {G : Nat → Prop} {w : World} {cs : List Value} {x : LAct} (h : RAct.rd G w cs x) : ∀ u ∈ cs, u.oneCell' = true := by
  have h' : cs = actCells x := h
  subst h'
  simp [actCells, Value.oneCell']
/-- The text of a gear: a transaction. -/
def wordB (g : GearD) : Bytes := [116, UInt8.ofNat (97 + pickedZ g.a 20).toNat, UInt8.ofNat (97 + pickedZ g.b 20).toNat]
set_option maxRecDepth 100000 in
set_option maxHeartbeats 8000000 in
theorem Picked_any (n many : Int) (w : World) (h1 : -9223372036854775808 ≤ n) (h2 : n ≤ 9223372036854775807) (h3 : 1 ≤ many) (h4 : many ≤ 9223372036854775807) :
    Calls Tryz.prog 16 #[.int .i64 n, .int .i64 many] w fun e w' => e = .returned (.int .i64 (pickedZ n many)) ∧ w = w' := by
  go_enter Tryz.func16, Tryz.ntmps16
  go_wp2_with fail
  refine (picked_any n many _ h1 h2 h3 h4).mono ?_
  rintro e w' ⟨rfl, rfl⟩
  go_wp2
  go_ret
  exact ⟨rfl, rfl⟩
set_option maxRecDepth 100000 in
set_option maxHeartbeats 8000000 in
theorem word_any (g : GearD) (hg : GearOk g) (w : World) :
    Calls Tryz.prog 18 #[.agg #[.int .i64 g.k, .int .i64 g.a, .int .i64 g.b, strV g.t]] w fun e w' => e = .returned (strV (wordB g)) ∧ Below w.heap.size w w' := by
  obtain ⟨⟨k1, k2⟩, ⟨a1, a2⟩, ⟨b1, b2⟩, ht⟩ := hg
  obtain ⟨pa0, pa1⟩ := pickedZ_range g.a 20 (by omega)
  obtain ⟨pb0, pb1⟩ := pickedZ_range g.b 20 (by omega)
  have HWB := Lib.hid (show (wordB g).map (fun c => Value.int .u8 (c.toNat : Int)) = [.int .u8 116, .int .u8 (97 + pickedZ g.a 20), .int .u8 (97 + pickedZ g.b 20)] by
    have ea : ((UInt8.ofNat (97 + pickedZ g.a 20).toNat).toNat : Int) = 97 + pickedZ g.a 20 := by rw [UInt8.toNat_ofNat']; omega
    have eb : ((UInt8.ofNat (97 + pickedZ g.b 20).toNat).toNat : Int) = 97 + pickedZ g.b 20 := by rw [UInt8.toNat_ofNat']; omega
    simp only [wordB, List.map_cons, List.map_nil, ea, eb]
    rfl)
  go_enter Tryz.func18, Tryz.ntmps18
  go_upto_region 1 with fail
  obtain ⟨w1, hw1⟩ : ∃ w1, w1 = w.alloc (.cells #[.int .i64 g.k, .int .i64 g.a, .int .i64 g.b, strV g.t] 24) := ⟨_, rfl⟩
  have HX := Lib.hid (show BoxAt w1 w.heap.size [.int .i64 g.k, .int .i64 g.a, .int .i64 g.b, strV g.t] 24 by rw [hw1]; exact BoxAt.new w [_, _, _, _] _)
  have HB1 := Lib.hid (show Below w.heap.size w w1 by rw [hw1]; exact (Below.refl _ _).alloc (Nat.le_refl _) _)
  rw [← hw1]
  clear hw1
  obtain ⟨za, hza⟩ : ∃ za, za = pickedZ g.a 20 := ⟨_, rfl⟩
  obtain ⟨zb, hzb⟩ : ∃ zb, zb = pickedZ g.b 20 := ⟨_, rfl⟩
  rw [← hza] at pa0 pa1 HWB
  rw [← hzb] at pb0 pb1 HWB
  have HZa := Lib.hid hza.symm
  have HZb := Lib.hid hzb.symm
  clear hza hzb
  have l1 : IntKind.i64.wrap (97 + za) = 97 + za := IntWalk.i64_in _ (by omega)
  have l2 : IntKind.i64.wrap (97 + zb) = 97 + zb := IntWalk.i64_in _ (by omega)
  have l3 : IntKind.u8.wrap (97 + za) = 97 + za := by rw [show IntKind.u8.wrap (97 + za) = (97 + za) % 256 by simp [IntKind.wrap, IntKind.bits, IntKind.signed]]; omega
  have l4 : IntKind.u8.wrap (97 + zb) = 97 + zb := by rw [show IntKind.u8.wrap (97 + zb) = (97 + zb) % 256 by simp [IntKind.wrap, IntKind.bits, IntKind.signed]]; omega
  refine wp_region_held_drew (S := fun w' => Below w1.heap.size w1 w') (by kernel_rfl) (by exact (Below.refl _ _).drew) (fun hHeld => ?_)
  obtain ⟨wd, hwd⟩ : ∃ wd, wd = w1.drew := ⟨_, rfl⟩
  rw [← hwd] at hHeld ⊢
  have HBd := Lib.hid (show Below w1.heap.size w1 wd from hHeld)
  have zwd : w1.heap.size ≤ wd.heap.size := by rw [hwd]; exact Nat.le_refl _
  clear hwd
  refine wpAnyH_take (i := 0) (v := .pointer (some ⟨w.heap.size, 1, none⟩)) rfl (by kernel_rfl) (by kernel_rfl) (by kernel_rfl) (fun _ _ _ h => h) (Or.inl ⟨by rfl, fun w hSw => ?_⟩) hHeld ?_
  · clear hSw; go_simp; all_goals (try first | rfl | omega)
  try simp only [Act.put, List.getElem_toArray, List.getElem_cons_succ, List.getElem_cons_zero, List.setIfInBounds_toArray, List.set_cons_zero, List.set_cons_succ]
  refine wpAnyH_take (i := 1) (v := .int .i64 g.a) rfl (by kernel_rfl) (by kernel_rfl) (by kernel_rfl) (fun _ _ _ h => h) (Or.inl ⟨by rfl, fun w hSw => ?_⟩) hHeld ?_
  · have q0 := (HX.out.belowS hSw).cell 1 rfl; clear hSw; go_simp
  try simp only [Act.put, List.getElem_toArray, List.getElem_cons_succ, List.getElem_cons_zero, List.setIfInBounds_toArray, List.set_cons_zero, List.set_cons_succ]
  refine wpAnyH_take (i := 5) (v := .pointer (some ⟨w.heap.size, 2, none⟩)) rfl (by kernel_rfl) (by kernel_rfl) (by kernel_rfl) (fun _ _ _ h => h) (Or.inl ⟨by rfl, fun w hSw => ?_⟩) hHeld ?_
  · clear hSw; go_simp; all_goals (try first | rfl | omega)
  try simp only [Act.put, List.getElem_toArray, List.getElem_cons_succ, List.getElem_cons_zero, List.setIfInBounds_toArray, List.set_cons_zero, List.set_cons_succ]
  refine wpAnyH_take (i := 6) (v := .int .i64 g.b) rfl (by kernel_rfl) (by kernel_rfl) (by kernel_rfl) (fun _ _ _ h => h) (Or.inl ⟨by rfl, fun w hSw => ?_⟩) hHeld ?_
  · have q0 := (HX.out.belowS hSw).cell 2 rfl; clear hSw; go_simp
  try simp only [Act.put, List.getElem_toArray, List.getElem_cons_succ, List.getElem_cons_zero, List.setIfInBounds_toArray, List.set_cons_zero, List.set_cons_succ]
  refine wpAnyH_ready (rs := [2]) (by kernel_rfl) (by simp) ?_
  refine AllReadyH.cons rfl (fun K hK => ?_) ?_
  · rw [if_pos (by rfl)]
    go_simp
    go_at_call 16
    refine (Picked_any g.a 20 _ a1 a2 (by omega) (by omega)).mono ?_
    rintro e w' ⟨rfl, rfl⟩
    rw [HZa.out]
    show K _ _
    refine hK.out _ _ (by exact hHeld) (fun hHeld => ?_)
    clear hK K
    try simp only [Act.put, List.getElem_toArray, List.getElem_cons_succ, List.getElem_cons_zero, List.setIfInBounds_toArray, List.set_cons_zero, List.set_cons_succ]
    refine wpAnyH_take (i := 3) (v := .int .i64 (97 + za)) rfl (by kernel_rfl) (by kernel_rfl) (by kernel_rfl) (fun _ _ _ h => h) (Or.inl ⟨by rfl, fun w hSw => ?_⟩) hHeld ?_
    · clear hSw; go_simp; all_goals (try first | rfl | omega)
    try simp only [Act.put, List.getElem_toArray, List.getElem_cons_succ, List.getElem_cons_zero, List.setIfInBounds_toArray, List.set_cons_zero, List.set_cons_succ]
    refine wpAnyH_take (i := 4) (v := .int .u8 (97 + za)) rfl (by kernel_rfl) (by kernel_rfl) (by kernel_rfl) (fun _ _ _ h => h) (Or.inl ⟨by rfl, fun w hSw => ?_⟩) hHeld ?_
    · clear hSw; go_simp; all_goals (try first | rfl | omega)
    try simp only [Act.put, List.getElem_toArray, List.getElem_cons_succ, List.getElem_cons_zero, List.setIfInBounds_toArray, List.set_cons_zero, List.set_cons_succ]
    refine wpAnyH_ready (rs := [7]) (by kernel_rfl) (by simp) ?_
    refine AllReadyH.cons rfl (fun K hK => ?_) ?_
    · rw [if_pos (by rfl)]
      go_simp
      go_at_call 16
      refine (Picked_any g.b 20 _ b1 b2 (by omega) (by omega)).mono ?_
      rintro e w' ⟨rfl, rfl⟩
      rw [HZb.out]
      show K _ _
      refine hK.out _ _ (by exact hHeld) (fun hHeld => ?_)
      clear hK K
      try simp only [Act.put, List.getElem_toArray, List.getElem_cons_succ, List.getElem_cons_zero, List.setIfInBounds_toArray, List.set_cons_zero, List.set_cons_succ]
      refine wpAnyH_take (i := 8) (v := .int .i64 (97 + zb)) rfl (by kernel_rfl) (by kernel_rfl) (by kernel_rfl) (fun _ _ _ h => h) (Or.inl ⟨by rfl, fun w hSw => ?_⟩) hHeld ?_
      · clear hSw; go_simp; all_goals (try first | rfl | omega)
      try simp only [Act.put, List.getElem_toArray, List.getElem_cons_succ, List.getElem_cons_zero, List.setIfInBounds_toArray, List.set_cons_zero, List.set_cons_succ]
      refine wpAnyH_take (i := 9) (v := .int .u8 (97 + zb)) rfl (by kernel_rfl) (by kernel_rfl) (by kernel_rfl) (fun _ _ _ h => h) (Or.inl ⟨by rfl, fun w hSw => ?_⟩) hHeld ?_
      · clear hSw; go_simp; all_goals (try first | rfl | omega)
      try simp only [Act.put, List.getElem_toArray, List.getElem_cons_succ, List.getElem_cons_zero, List.setIfInBounds_toArray, List.set_cons_zero, List.set_cons_succ]
      refine wpAnyH_ready (rs := [10]) (by kernel_rfl) (by simp) ?_
      refine AllReadyH.cons rfl (fun K hK => ?_) ?_
      · rw [if_pos (by rfl)]
        go_simp
        show K _ _
        refine hK.out _ _ (by exact (HBd.out.alloc (Below.size HBd.out) _)) (fun hHeld => ?_)
        clear hK K
        try simp only [Act.put, List.getElem_toArray, List.getElem_cons_succ, List.getElem_cons_zero, List.setIfInBounds_toArray, List.set_cons_zero, List.set_cons_succ]
        obtain ⟨wa1, hwn⟩ : ∃ wa1, wa1 = wd.alloc (.cells #[.int .u8 116, .int .u8 (97 + za), .int .u8 (97 + zb)] 5) := ⟨_, rfl⟩
        have FA1 := Lib.hid (show BoxAt wa1 (wd.heap.size) [.int .u8 116, .int .u8 (97 + za), .int .u8 (97 + zb)] 5 by rw [hwn]; exact BoxAt.newAt wd [.int .u8 116, .int .u8 (97 + za), .int .u8 (97 + zb)] 5 rfl)
        have HBwa1 := Lib.hid (show Below w1.heap.size w1 wa1 by rw [hwn]; exact HBd.out.alloc (Below.size HBd.out) _)
        rw [← hwn] at hHeld ⊢
        clear hwn
        have zwa1 := FA1.out.lt
        refine wpAnyH_ready (rs := [11]) (by kernel_rfl) (by simp) ?_
        refine AllReadyH.cons rfl (fun K hK => ?_) ?_
        · rw [if_pos (by rfl)]
          have hrd : RdB (fun _ => True) wa1 (.slice (some ⟨wd.heap.size, 0, none⟩) 3 3) (wordB g) := RdS.of_box (T := 5) (l := wordB g) (f := fun c => .int .u8 (c.toNat : Int)) (by have q := FA1.out; rw [HWB.out]; exact q) trivial (by simp [wordB]) (by unfold maxLen; simp)
          have hcv := conv_bytes_str (P := Tryz.prog) Tryz.underlying66 Tryz.underlying5 Tryz.underlying9 hrd
          go_simp
          show K _ _
          refine hK.out _ _ (by exact HBwa1.out) (fun hHeld => ?_)
          clear hK K
          try simp only [Act.put, List.getElem_toArray, List.getElem_cons_succ, List.getElem_cons_zero, List.setIfInBounds_toArray, List.set_cons_zero, List.set_cons_succ]
          refine wpAnyH_take (i := 12) (v := strV (wordB g)) rfl (by kernel_rfl) (by kernel_rfl) (by kernel_rfl) (fun _ _ _ h => h) (Or.inl ⟨by rfl, fun w hSw => ?_⟩) hHeld ?_
          · clear hSw; go_simp; all_goals (try first | rfl | omega)
          try simp only [Act.put, List.getElem_toArray, List.getElem_cons_succ, List.getElem_cons_zero, List.setIfInBounds_toArray, List.set_cons_zero, List.set_cons_succ]
          refine wpAnyH_done (by kernel_rfl) ?_ _
          go_wp2
          go_ret
          exact ⟨rfl, HB1.out.trans (HBwa1.out.mono HB1.out.size)⟩
        exact AllReadyH.nil
      exact AllReadyH.nil
    exact AllReadyH.nil
  exact AllReadyH.nil
end Go.Proofs.YtmijiclocadimaaGreatDoor
