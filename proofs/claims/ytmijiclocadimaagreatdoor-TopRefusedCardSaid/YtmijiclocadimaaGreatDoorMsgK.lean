/- wire.Check, kind by kind: what it computes. -/
import Derived.Test.YtmijiclocadimaaGreatDoorMsg2
set_option linter.unusedVariables false
set_option linter.unusedSimpArgs false
namespace Go.Proofs.YtmijiclocadimaaGreatDoor
open Go Go.RowKit

set_option maxRecDepth 100000 in
set_option maxHeartbeats 8000000 in
theorem wcheck_1 {G : Nat → Prop} {txs : List Bytes} (f t ba bn : Int) (a1 : Option Addr) (c1 : Nat) (ha hr : Int) (a2 : Option Addr) (nbs : Nat) (c2 : Nat) (a3 : Option Addr) (nps : Nat) (c3 : Nat) (sa sr : Int) (a4 : Option Addr) (nd c4 : Nat) (ca cr : Int) (a5 : Option Addr) (ncb : Nat) (c5 : Nat) (a6 : Option Addr) (ncp : Nat) (c6 : Nat) (a7 : Option Addr) (nvs : Nat) (c7 : Nat) (r : Int) (w : World)
    (e1 : nodeOk f = true) (e2 : nodeOk t = true) (g1 : RdT G w (.slice a1 txs.length c1) txs) (hl : ∀ t ∈ txs, t.length ≤ 9223372036854775807) (h1 : nbs + nps ≤ 9223372036854775807) (h2 : ncb + ncp ≤ 9223372036854775807) :
    Calls Tryz.prog 73 #[.agg #[.int .i64 f, .int .i64 t, .int .i64 1, .int .i64 ba, .int .i64 bn, .slice a1 txs.length c1, .int .i64 ha, .int .i64 hr, .slice a2 nbs c2, .slice a3 nps c3, .int .i64 sa, .int .i64 sr, .slice a4 nd c4, .int .i64 ca, .int .i64 cr, .slice a5 ncb c5, .slice a6 ncp c6, .slice a7 nvs c7, .int .i64 r]] w fun e w' => e = .returned (.int .i64 (if batCode ⟨ba, bn, txs⟩ ≠ 0 then batCode ⟨ba, bn, txs⟩ else if noneB 0 0 0 ha hr nbs nps sa sr nd ca cr ncb ncp nvs r = true then 0 else 4)) ∧ Below w.heap.size w w' := by
  have G1 := Lib.hid (g1.low (by decide))
  have HL := Lib.hid hl
  clear g1 hl
  go_enter Tryz.func73, Tryz.ntmps73
  go_upto_region 1 with fail
  obtain ⟨w1, hw1⟩ : ∃ w1, w1 = w.alloc (.cells #[.int .i64 f, .int .i64 t, .int .i64 1, .int .i64 ba, .int .i64 bn, .slice a1 txs.length c1, .int .i64 ha, .int .i64 hr, .slice a2 nbs c2, .slice a3 nps c3, .int .i64 sa, .int .i64 sr, .slice a4 nd c4, .int .i64 ca, .int .i64 cr, .slice a5 ncb c5, .slice a6 ncp c6, .slice a7 nvs c7, .int .i64 r] 106) := ⟨_, rfl⟩
  have bx : BoxAt w1 w.heap.size [.int .i64 f, .int .i64 t, .int .i64 1, .int .i64 ba, .int .i64 bn, .slice a1 txs.length c1, .int .i64 ha, .int .i64 hr, .slice a2 nbs c2, .slice a3 nps c3, .int .i64 sa, .int .i64 sr, .slice a4 nd c4, .int .i64 ca, .int .i64 cr, .slice a5 ncb c5, .slice a6 ncp c6, .slice a7 nvs c7, .int .i64 r] 106 := by rw [hw1]; exact BoxAt.new w [.int .i64 f, .int .i64 t, .int .i64 1, .int .i64 ba, .int .i64 bn, .slice a1 txs.length c1, .int .i64 ha, .int .i64 hr, .slice a2 nbs c2, .slice a3 nps c3, .int .i64 sa, .int .i64 sr, .slice a4 nd c4, .int .i64 ca, .int .i64 cr, .slice a5 ncb c5, .slice a6 ncp c6, .slice a7 nvs c7, .int .i64 r] _
  have hb1 : Below w.heap.size w w1 := by rw [hw1]; exact (Below.refl _ _).alloc (Nat.le_refl _) _
  have z1 : w1.heap.size = w.heap.size + 1 := by rw [hw1]; simp
  rw [← hw1]
  have HBX := Lib.hid bx
  have HB1 := Lib.hid hb1
  have HZ1 := Lib.hid z1
  have p0 := bx.cell 0 rfl
  have p1 := bx.cell 1 rfl
  clear hw1 bx hb1 z1
  go_upto_region 3 with (go_at_call 98; refine (node_any _ _).mono ?_; rintro e w' ⟨rfl, rfl⟩)
  go_upto_region 9 with (first
    | (refine wpList_load_box rfl 106 _ rfl w.heap.size rfl [.int .i64 f, .int .i64 t, .int .i64 1, .int .i64 ba, .int .i64 bn, .slice a1 txs.length c1, .int .i64 ha, .int .i64 hr, .slice a2 nbs c2, .slice a3 nps c3, .int .i64 sa, .int .i64 sr, .slice a4 nd c4, .int .i64 ca, .int .i64 cr, .slice a5 ncb c5, .slice a6 ncp c6, .slice a7 nvs c7, .int .i64 r] 106 HBX.out Tryz.underlying106 rfl (by kernel_rfl) ?_)
    | (refine wpList_store_new rfl 106 _ _ rfl [.int .i64 f, .int .i64 t, .int .i64 1, .int .i64 ba, .int .i64 bn, .slice a1 txs.length c1, .int .i64 ha, .int .i64 hr, .slice a2 nbs c2, .slice a3 nps c3, .int .i64 sa, .int .i64 sr, .slice a4 nd c4, .int .i64 ca, .int .i64 cr, .slice a5 ncb c5, .slice a6 ncp c6, .slice a7 nvs c7, .int .i64 r] 106 zeroMsg rfl rfl (by kernel_rfl) rfl rfl ?_; intro w2 hb2 hB2 hs2; have q2 := ((bcellAt hB2 _ HBX.out.lt).1 2).trans (HBX.out.cell 2 rfl); have q3 := ((bcellAt hB2 _ HBX.out.lt).1 3).trans (HBX.out.cell 3 rfl); have q4 := ((bcellAt hB2 _ HBX.out.lt).1 4).trans (HBX.out.cell 4 rfl); have q5 := ((bcellAt hB2 _ HBX.out.lt).1 5).trans (HBX.out.cell 5 rfl); have r3 := hb2.cell 3 rfl; have rf3 := hb2.free 3; have r4 := hb2.cell 4 rfl; have rf4 := hb2.free 4; have r5 := hb2.cell 5 rfl; have rf5 := hb2.free 5; have n12 : w1.heap.size ≠ w.heap.size := (by have := HZ1.out; omega); have n21 : w.heap.size ≠ w1.heap.size := (by have := HZ1.out; omega); have HB2 := Lib.hid hB2; have HBR := Lib.hid hb2; have HZ2 := Lib.hid hs2; clear hb2 hB2 hs2))
  obtain ⟨w3, hw3⟩ : ∃ w3, w3 = (((w2.setCell ⟨w1.heap.size, 3, none⟩ (.int .i64 0)).setCell ⟨w1.heap.size, 4, none⟩ (.int .i64 0)).setCell ⟨w1.heap.size, 5, none⟩ (.slice none 0 0)) := ⟨_, rfl⟩
  have hB3 : Below w1.heap.size w1 w3 := by rw [hw3]; exact (((HB2.out.setCell (p := ⟨w1.heap.size, 3, none⟩) (Nat.le_refl _) (.int .i64 0)).setCell (p := ⟨w1.heap.size, 4, none⟩) (Nat.le_refl _) (.int .i64 0)).setCell (p := ⟨w1.heap.size, 5, none⟩) (Nat.le_refl _) (.slice none 0 0))
  have hbz : BoxAt w3 w1.heap.size [.int .i64 f, .int .i64 t, .int .i64 1, .int .i64 0, .int .i64 0, .slice none 0 0, .int .i64 ha, .int .i64 hr, .slice a2 nbs c2, .slice a3 nps c3, .int .i64 sa, .int .i64 sr, .slice a4 nd c4, .int .i64 ca, .int .i64 cr, .slice a5 ncb c5, .slice a6 ncp c6, .slice a7 nvs c7, .int .i64 r] 106 := by rw [hw3]; exact (((HBR.out.set 3 (.int .i64 0)).set 4 (.int .i64 0)).set 5 (.slice none 0 0))
  have s3 : w3.heap.size = w1.heap.size + 1 := by rw [hw3]; simp [HZ2.out]
  rw [← hw3]
  have m3 := ((bcellAt hB3 _ HBX.out.lt).1 3).trans (HBX.out.cell 3 rfl)
  have m4 := ((bcellAt hB3 _ HBX.out.lt).1 4).trans (HBX.out.cell 4 rfl)
  have m5 := ((bcellAt hB3 _ HBX.out.lt).1 5).trans (HBX.out.cell 5 rfl)
  have HB3 := Lib.hid hB3
  have HBZ3 := Lib.hid hbz
  have HS3 := Lib.hid s3
  clear hw3 hB3 hbz s3 q2 q3 q4 q5 r3 rf3 r4 rf4 r5 rf5
  go_wp2_with fail
  refine (cbatch_any _ _ _ _ (G1.out.keep (G' := fun _ => True) ((Keep.below HB1.out).trans (Keep.below HB3.out)) (fun _ _ => trivial)) HL.out).mono ?_
  rintro e w4 ⟨rfl, hb4⟩
  have HBZ := Lib.hid (HBZ3.out.belowS hb4)
  have HB4 := Lib.hid (show Below w.heap.size w w4 from (HB1.out.trans (HB3.out.mono HB1.out.size)).trans (hb4.mono (by have := HB1.out.size; have := HB3.out.size; omega)))
  clear hb4
  by_cases d : batCode ⟨ba, bn, txs⟩ = 0
  · have d1c : (batCode ⟨ba, bn, txs⟩ != 0) = false := by simp [d]
    go_wp2_with (first | (refine wpList_load_box rfl 106 _ rfl w1.heap.size rfl [.int .i64 f, .int .i64 t, .int .i64 1, .int .i64 0, .int .i64 0, .slice none 0 0, .int .i64 ha, .int .i64 hr, .slice a2 nbs c2, .slice a3 nps c3, .int .i64 sa, .int .i64 sr, .slice a4 nd c4, .int .i64 ca, .int .i64 cr, .slice a5 ncb c5, .slice a6 ncp c6, .slice a7 nvs c7, .int .i64 r] 106 HBZ.out Tryz.underlying106 rfl (by kernel_rfl) ?_))
    refine (none_any f t 1 0 0 none 0 0 ha hr a2 nbs c2 a3 nps c3 sa sr a4 nd c4 ca cr a5 ncb c5 a6 ncp c6 a7 nvs c7 r _ h1 h2).mono ?_
    rintro e w5 ⟨rfl, hb5⟩
    have hB5 := HB4.out.trans (hb5.mono HB4.out.size)
    cases hn : noneB 0 0 0 ha hr nbs nps sa sr nd ca cr ncb ncp nvs r
    · go_wp2
      all_goals
        go_ret
        exact ⟨ret_intH (by first | rfl | (rw [if_neg (show ¬ (batCode ⟨ba, bn, txs⟩ ≠ 0) by simp [d])]; rfl)), hB5⟩
    · go_wp2
      all_goals
        go_ret
        exact ⟨ret_intH (by first | rfl | (rw [if_neg (show ¬ (batCode ⟨ba, bn, txs⟩ ≠ 0) by simp [d])]; rfl)), hB5⟩
  · have d1c : (batCode ⟨ba, bn, txs⟩ != 0) = true := by rw [bne_iff_ne]; exact d
    have HD := Lib.hid d
    clear d
    go_wp2
    go_ret
    exact ⟨ret_intH (by first | rfl | exact if_pos HD.out), HB4.out⟩
set_option maxRecDepth 100000 in
set_option maxHeartbeats 8000000 in
theorem wcheck_2 {G : Nat → Prop} {bs ps : List Bytes} (f t ba bn : Int) (a1 : Option Addr) (ntx : Nat) (c1 : Nat) (ha hr : Int) (a2 : Option Addr) (c2 : Nat) (a3 : Option Addr) (c3 : Nat) (sa sr : Int) (a4 : Option Addr) (nd c4 : Nat) (ca cr : Int) (a5 : Option Addr) (ncb : Nat) (c5 : Nat) (a6 : Option Addr) (ncp : Nat) (c6 : Nat) (a7 : Option Addr) (nvs : Nat) (c7 : Nat) (r : Int) (w : World)
    (e1 : nodeOk f = true) (e2 : nodeOk t = true) (g2 : RdBB G w (.slice a2 bs.length c2) bs) (g3 : RdBB G w (.slice a3 ps.length c3) ps) (h1 : 0 + 0 ≤ 9223372036854775807) (h2 : ncb + ncp ≤ 9223372036854775807) :
    Calls Tryz.prog 73 #[.agg #[.int .i64 f, .int .i64 t, .int .i64 2, .int .i64 ba, .int .i64 bn, .slice a1 ntx c1, .int .i64 ha, .int .i64 hr, .slice a2 bs.length c2, .slice a3 ps.length c3, .int .i64 sa, .int .i64 sr, .slice a4 nd c4, .int .i64 ca, .int .i64 cr, .slice a5 ncb c5, .slice a6 ncp c6, .slice a7 nvs c7, .int .i64 r]] w fun e w' => e = .returned (.int .i64 (if hdrCode ⟨ha, hr, bs, ps⟩ ≠ 0 then hdrCode ⟨ha, hr, bs, ps⟩ else if noneB ba bn ntx 0 0 0 0 sa sr nd ca cr ncb ncp nvs r = true then 0 else 4)) ∧ Below w.heap.size w w' := by
  have G2 := Lib.hid (g2.low (by decide))
  have G3 := Lib.hid (g3.low (by decide))
  clear g2 g3
  go_enter Tryz.func73, Tryz.ntmps73
  go_upto_region 1 with fail
  obtain ⟨w1, hw1⟩ : ∃ w1, w1 = w.alloc (.cells #[.int .i64 f, .int .i64 t, .int .i64 2, .int .i64 ba, .int .i64 bn, .slice a1 ntx c1, .int .i64 ha, .int .i64 hr, .slice a2 bs.length c2, .slice a3 ps.length c3, .int .i64 sa, .int .i64 sr, .slice a4 nd c4, .int .i64 ca, .int .i64 cr, .slice a5 ncb c5, .slice a6 ncp c6, .slice a7 nvs c7, .int .i64 r] 106) := ⟨_, rfl⟩
  have bx : BoxAt w1 w.heap.size [.int .i64 f, .int .i64 t, .int .i64 2, .int .i64 ba, .int .i64 bn, .slice a1 ntx c1, .int .i64 ha, .int .i64 hr, .slice a2 bs.length c2, .slice a3 ps.length c3, .int .i64 sa, .int .i64 sr, .slice a4 nd c4, .int .i64 ca, .int .i64 cr, .slice a5 ncb c5, .slice a6 ncp c6, .slice a7 nvs c7, .int .i64 r] 106 := by rw [hw1]; exact BoxAt.new w [.int .i64 f, .int .i64 t, .int .i64 2, .int .i64 ba, .int .i64 bn, .slice a1 ntx c1, .int .i64 ha, .int .i64 hr, .slice a2 bs.length c2, .slice a3 ps.length c3, .int .i64 sa, .int .i64 sr, .slice a4 nd c4, .int .i64 ca, .int .i64 cr, .slice a5 ncb c5, .slice a6 ncp c6, .slice a7 nvs c7, .int .i64 r] _
  have hb1 : Below w.heap.size w w1 := by rw [hw1]; exact (Below.refl _ _).alloc (Nat.le_refl _) _
  have z1 : w1.heap.size = w.heap.size + 1 := by rw [hw1]; simp
  rw [← hw1]
  have HBX := Lib.hid bx
  have HB1 := Lib.hid hb1
  have HZ1 := Lib.hid z1
  have p0 := bx.cell 0 rfl
  have p1 := bx.cell 1 rfl
  clear hw1 bx hb1 z1
  go_upto_region 3 with (go_at_call 98; refine (node_any _ _).mono ?_; rintro e w' ⟨rfl, rfl⟩)
  go_upto_region 12 with (first
    | (refine wpList_load_box rfl 106 _ rfl w.heap.size rfl [.int .i64 f, .int .i64 t, .int .i64 2, .int .i64 ba, .int .i64 bn, .slice a1 ntx c1, .int .i64 ha, .int .i64 hr, .slice a2 bs.length c2, .slice a3 ps.length c3, .int .i64 sa, .int .i64 sr, .slice a4 nd c4, .int .i64 ca, .int .i64 cr, .slice a5 ncb c5, .slice a6 ncp c6, .slice a7 nvs c7, .int .i64 r] 106 HBX.out Tryz.underlying106 rfl (by kernel_rfl) ?_)
    | (refine wpList_store_new rfl 106 _ _ rfl [.int .i64 f, .int .i64 t, .int .i64 2, .int .i64 ba, .int .i64 bn, .slice a1 ntx c1, .int .i64 ha, .int .i64 hr, .slice a2 bs.length c2, .slice a3 ps.length c3, .int .i64 sa, .int .i64 sr, .slice a4 nd c4, .int .i64 ca, .int .i64 cr, .slice a5 ncb c5, .slice a6 ncp c6, .slice a7 nvs c7, .int .i64 r] 106 zeroMsg rfl rfl (by kernel_rfl) rfl rfl ?_; intro w2 hb2 hB2 hs2; have q2 := ((bcellAt hB2 _ HBX.out.lt).1 2).trans (HBX.out.cell 2 rfl); have q6 := ((bcellAt hB2 _ HBX.out.lt).1 6).trans (HBX.out.cell 6 rfl); have q7 := ((bcellAt hB2 _ HBX.out.lt).1 7).trans (HBX.out.cell 7 rfl); have q8 := ((bcellAt hB2 _ HBX.out.lt).1 8).trans (HBX.out.cell 8 rfl); have q9 := ((bcellAt hB2 _ HBX.out.lt).1 9).trans (HBX.out.cell 9 rfl); have r6 := hb2.cell 6 rfl; have rf6 := hb2.free 6; have r7 := hb2.cell 7 rfl; have rf7 := hb2.free 7; have r8 := hb2.cell 8 rfl; have rf8 := hb2.free 8; have r9 := hb2.cell 9 rfl; have rf9 := hb2.free 9; have n12 : w1.heap.size ≠ w.heap.size := (by have := HZ1.out; omega); have n21 : w.heap.size ≠ w1.heap.size := (by have := HZ1.out; omega); have HB2 := Lib.hid hB2; have HBR := Lib.hid hb2; have HZ2 := Lib.hid hs2; clear hb2 hB2 hs2))
  obtain ⟨w3, hw3⟩ : ∃ w3, w3 = ((((w2.setCell ⟨w1.heap.size, 6, none⟩ (.int .i64 0)).setCell ⟨w1.heap.size, 7, none⟩ (.int .i64 0)).setCell ⟨w1.heap.size, 8, none⟩ (.slice none 0 0)).setCell ⟨w1.heap.size, 9, none⟩ (.slice none 0 0)) := ⟨_, rfl⟩
  have hB3 : Below w1.heap.size w1 w3 := by rw [hw3]; exact ((((HB2.out.setCell (p := ⟨w1.heap.size, 6, none⟩) (Nat.le_refl _) (.int .i64 0)).setCell (p := ⟨w1.heap.size, 7, none⟩) (Nat.le_refl _) (.int .i64 0)).setCell (p := ⟨w1.heap.size, 8, none⟩) (Nat.le_refl _) (.slice none 0 0)).setCell (p := ⟨w1.heap.size, 9, none⟩) (Nat.le_refl _) (.slice none 0 0))
  have hbz : BoxAt w3 w1.heap.size [.int .i64 f, .int .i64 t, .int .i64 2, .int .i64 ba, .int .i64 bn, .slice a1 ntx c1, .int .i64 0, .int .i64 0, .slice none 0 0, .slice none 0 0, .int .i64 sa, .int .i64 sr, .slice a4 nd c4, .int .i64 ca, .int .i64 cr, .slice a5 ncb c5, .slice a6 ncp c6, .slice a7 nvs c7, .int .i64 r] 106 := by rw [hw3]; exact ((((HBR.out.set 6 (.int .i64 0)).set 7 (.int .i64 0)).set 8 (.slice none 0 0)).set 9 (.slice none 0 0))
  have s3 : w3.heap.size = w1.heap.size + 1 := by rw [hw3]; simp [HZ2.out]
  rw [← hw3]
  have m6 := ((bcellAt hB3 _ HBX.out.lt).1 6).trans (HBX.out.cell 6 rfl)
  have m7 := ((bcellAt hB3 _ HBX.out.lt).1 7).trans (HBX.out.cell 7 rfl)
  have m8 := ((bcellAt hB3 _ HBX.out.lt).1 8).trans (HBX.out.cell 8 rfl)
  have m9 := ((bcellAt hB3 _ HBX.out.lt).1 9).trans (HBX.out.cell 9 rfl)
  have HB3 := Lib.hid hB3
  have HBZ3 := Lib.hid hbz
  have HS3 := Lib.hid s3
  clear hw3 hB3 hbz s3 q2 q6 q7 q8 q9 r6 rf6 r7 rf7 r8 rf8 r9 rf9
  go_wp2_with fail
  refine (cheader_any _ _ _ _ _ (G2.out.keep (G' := fun _ => True) ((Keep.below HB1.out).trans (Keep.below HB3.out)) (fun _ _ => trivial)) (G3.out.keep (G' := fun _ => True) ((Keep.below HB1.out).trans (Keep.below HB3.out)) (fun _ _ => trivial))).mono ?_
  rintro e w4 ⟨rfl, hb4⟩
  have HBZ := Lib.hid (HBZ3.out.belowS hb4)
  have HB4 := Lib.hid (show Below w.heap.size w w4 from (HB1.out.trans (HB3.out.mono HB1.out.size)).trans (hb4.mono (by have := HB1.out.size; have := HB3.out.size; omega)))
  clear hb4
  by_cases d : hdrCode ⟨ha, hr, bs, ps⟩ = 0
  · have d1c : (hdrCode ⟨ha, hr, bs, ps⟩ != 0) = false := by simp [d]
    go_wp2_with (first | (refine wpList_load_box rfl 106 _ rfl w1.heap.size rfl [.int .i64 f, .int .i64 t, .int .i64 2, .int .i64 ba, .int .i64 bn, .slice a1 ntx c1, .int .i64 0, .int .i64 0, .slice none 0 0, .slice none 0 0, .int .i64 sa, .int .i64 sr, .slice a4 nd c4, .int .i64 ca, .int .i64 cr, .slice a5 ncb c5, .slice a6 ncp c6, .slice a7 nvs c7, .int .i64 r] 106 HBZ.out Tryz.underlying106 rfl (by kernel_rfl) ?_))
    refine (none_any f t 2 ba bn a1 ntx c1 0 0 none 0 0 none 0 0 sa sr a4 nd c4 ca cr a5 ncb c5 a6 ncp c6 a7 nvs c7 r _ (by decide) h2).mono ?_
    rintro e w5 ⟨rfl, hb5⟩
    have hB5 := HB4.out.trans (hb5.mono HB4.out.size)
    cases hn : noneB ba bn ntx 0 0 0 0 sa sr nd ca cr ncb ncp nvs r
    · go_wp2
      all_goals
        go_ret
        exact ⟨ret_intH (by first | rfl | (rw [if_neg (show ¬ (hdrCode ⟨ha, hr, bs, ps⟩ ≠ 0) by simp [d])]; rfl)), hB5⟩
    · go_wp2
      all_goals
        go_ret
        exact ⟨ret_intH (by first | rfl | (rw [if_neg (show ¬ (hdrCode ⟨ha, hr, bs, ps⟩ ≠ 0) by simp [d])]; rfl)), hB5⟩
  · have d1c : (hdrCode ⟨ha, hr, bs, ps⟩ != 0) = true := by rw [bne_iff_ne]; exact d
    have HD := Lib.hid d
    clear d
    go_wp2
    go_ret
    exact ⟨ret_intH (by first | rfl | exact if_pos HD.out), HB4.out⟩
set_option maxRecDepth 100000 in
set_option maxHeartbeats 8000000 in
theorem wcheck_3 {G : Nat → Prop} (f t ba bn : Int) (a1 : Option Addr) (ntx : Nat) (c1 : Nat) (ha hr : Int) (a2 : Option Addr) (nbs : Nat) (c2 : Nat) (a3 : Option Addr) (nps : Nat) (c3 : Nat) (sa sr : Int) (a4 : Option Addr) (nd c4 : Nat) (ca cr : Int) (a5 : Option Addr) (ncb : Nat) (c5 : Nat) (a6 : Option Addr) (ncp : Nat) (c6 : Nat) (a7 : Option Addr) (nvs : Nat) (c7 : Nat) (r : Int) (w : World)
    (e1 : nodeOk f = true) (e2 : nodeOk t = true)  (h1 : nbs + nps ≤ 9223372036854775807) (h2 : ncb + ncp ≤ 9223372036854775807) :
    Calls Tryz.prog 73 #[.agg #[.int .i64 f, .int .i64 t, .int .i64 3, .int .i64 ba, .int .i64 bn, .slice a1 ntx c1, .int .i64 ha, .int .i64 hr, .slice a2 nbs c2, .slice a3 nps c3, .int .i64 sa, .int .i64 sr, .slice a4 nd c4, .int .i64 ca, .int .i64 cr, .slice a5 ncb c5, .slice a6 ncp c6, .slice a7 nvs c7, .int .i64 r]] w fun e w' => e = .returned (.int .i64 (if sltCode sa sr nd ≠ 0 then sltCode sa sr nd else if noneB ba bn ntx ha hr nbs nps 0 0 0 ca cr ncb ncp nvs r = true then 0 else 4)) ∧ Below w.heap.size w w' := by
  go_enter Tryz.func73, Tryz.ntmps73
  go_upto_region 1 with fail
  obtain ⟨w1, hw1⟩ : ∃ w1, w1 = w.alloc (.cells #[.int .i64 f, .int .i64 t, .int .i64 3, .int .i64 ba, .int .i64 bn, .slice a1 ntx c1, .int .i64 ha, .int .i64 hr, .slice a2 nbs c2, .slice a3 nps c3, .int .i64 sa, .int .i64 sr, .slice a4 nd c4, .int .i64 ca, .int .i64 cr, .slice a5 ncb c5, .slice a6 ncp c6, .slice a7 nvs c7, .int .i64 r] 106) := ⟨_, rfl⟩
  have bx : BoxAt w1 w.heap.size [.int .i64 f, .int .i64 t, .int .i64 3, .int .i64 ba, .int .i64 bn, .slice a1 ntx c1, .int .i64 ha, .int .i64 hr, .slice a2 nbs c2, .slice a3 nps c3, .int .i64 sa, .int .i64 sr, .slice a4 nd c4, .int .i64 ca, .int .i64 cr, .slice a5 ncb c5, .slice a6 ncp c6, .slice a7 nvs c7, .int .i64 r] 106 := by rw [hw1]; exact BoxAt.new w [.int .i64 f, .int .i64 t, .int .i64 3, .int .i64 ba, .int .i64 bn, .slice a1 ntx c1, .int .i64 ha, .int .i64 hr, .slice a2 nbs c2, .slice a3 nps c3, .int .i64 sa, .int .i64 sr, .slice a4 nd c4, .int .i64 ca, .int .i64 cr, .slice a5 ncb c5, .slice a6 ncp c6, .slice a7 nvs c7, .int .i64 r] _
  have hb1 : Below w.heap.size w w1 := by rw [hw1]; exact (Below.refl _ _).alloc (Nat.le_refl _) _
  have z1 : w1.heap.size = w.heap.size + 1 := by rw [hw1]; simp
  rw [← hw1]
  have HBX := Lib.hid bx
  have HB1 := Lib.hid hb1
  have HZ1 := Lib.hid z1
  have p0 := bx.cell 0 rfl
  have p1 := bx.cell 1 rfl
  clear hw1 bx hb1 z1
  go_upto_region 3 with (go_at_call 98; refine (node_any _ _).mono ?_; rintro e w' ⟨rfl, rfl⟩)
  go_upto_region 15 with (first
    | (refine wpList_load_box rfl 106 _ rfl w.heap.size rfl [.int .i64 f, .int .i64 t, .int .i64 3, .int .i64 ba, .int .i64 bn, .slice a1 ntx c1, .int .i64 ha, .int .i64 hr, .slice a2 nbs c2, .slice a3 nps c3, .int .i64 sa, .int .i64 sr, .slice a4 nd c4, .int .i64 ca, .int .i64 cr, .slice a5 ncb c5, .slice a6 ncp c6, .slice a7 nvs c7, .int .i64 r] 106 HBX.out Tryz.underlying106 rfl (by kernel_rfl) ?_)
    | (refine wpList_store_new rfl 106 _ _ rfl [.int .i64 f, .int .i64 t, .int .i64 3, .int .i64 ba, .int .i64 bn, .slice a1 ntx c1, .int .i64 ha, .int .i64 hr, .slice a2 nbs c2, .slice a3 nps c3, .int .i64 sa, .int .i64 sr, .slice a4 nd c4, .int .i64 ca, .int .i64 cr, .slice a5 ncb c5, .slice a6 ncp c6, .slice a7 nvs c7, .int .i64 r] 106 zeroMsg rfl rfl (by kernel_rfl) rfl rfl ?_; intro w2 hb2 hB2 hs2; have q2 := ((bcellAt hB2 _ HBX.out.lt).1 2).trans (HBX.out.cell 2 rfl); have q10 := ((bcellAt hB2 _ HBX.out.lt).1 10).trans (HBX.out.cell 10 rfl); have q11 := ((bcellAt hB2 _ HBX.out.lt).1 11).trans (HBX.out.cell 11 rfl); have q12 := ((bcellAt hB2 _ HBX.out.lt).1 12).trans (HBX.out.cell 12 rfl); have r10 := hb2.cell 10 rfl; have rf10 := hb2.free 10; have r11 := hb2.cell 11 rfl; have rf11 := hb2.free 11; have r12 := hb2.cell 12 rfl; have rf12 := hb2.free 12; have n12 : w1.heap.size ≠ w.heap.size := (by have := HZ1.out; omega); have n21 : w.heap.size ≠ w1.heap.size := (by have := HZ1.out; omega); have HB2 := Lib.hid hB2; have HBR := Lib.hid hb2; have HZ2 := Lib.hid hs2; clear hb2 hB2 hs2))
  obtain ⟨w3, hw3⟩ : ∃ w3, w3 = (((w2.setCell ⟨w1.heap.size, 10, none⟩ (.int .i64 0)).setCell ⟨w1.heap.size, 11, none⟩ (.int .i64 0)).setCell ⟨w1.heap.size, 12, none⟩ (.slice none 0 0)) := ⟨_, rfl⟩
  have hB3 : Below w1.heap.size w1 w3 := by rw [hw3]; exact (((HB2.out.setCell (p := ⟨w1.heap.size, 10, none⟩) (Nat.le_refl _) (.int .i64 0)).setCell (p := ⟨w1.heap.size, 11, none⟩) (Nat.le_refl _) (.int .i64 0)).setCell (p := ⟨w1.heap.size, 12, none⟩) (Nat.le_refl _) (.slice none 0 0))
  have hbz : BoxAt w3 w1.heap.size [.int .i64 f, .int .i64 t, .int .i64 3, .int .i64 ba, .int .i64 bn, .slice a1 ntx c1, .int .i64 ha, .int .i64 hr, .slice a2 nbs c2, .slice a3 nps c3, .int .i64 0, .int .i64 0, .slice none 0 0, .int .i64 ca, .int .i64 cr, .slice a5 ncb c5, .slice a6 ncp c6, .slice a7 nvs c7, .int .i64 r] 106 := by rw [hw3]; exact (((HBR.out.set 10 (.int .i64 0)).set 11 (.int .i64 0)).set 12 (.slice none 0 0))
  have s3 : w3.heap.size = w1.heap.size + 1 := by rw [hw3]; simp [HZ2.out]
  rw [← hw3]
  have m10 := ((bcellAt hB3 _ HBX.out.lt).1 10).trans (HBX.out.cell 10 rfl)
  have m11 := ((bcellAt hB3 _ HBX.out.lt).1 11).trans (HBX.out.cell 11 rfl)
  have m12 := ((bcellAt hB3 _ HBX.out.lt).1 12).trans (HBX.out.cell 12 rfl)
  have HB3 := Lib.hid hB3
  have HBZ3 := Lib.hid hbz
  have HS3 := Lib.hid s3
  clear hw3 hB3 hbz s3 q2 q10 q11 q12 r10 rf10 r11 rf11 r12 rf12
  go_wp2_with fail
  refine (cslot_any _ _ _ _ _ _).mono ?_
  rintro e w4 ⟨rfl, hb4⟩
  have HBZ := Lib.hid (HBZ3.out.belowS hb4)
  have HB4 := Lib.hid (show Below w.heap.size w w4 from (HB1.out.trans (HB3.out.mono HB1.out.size)).trans (hb4.mono (by have := HB1.out.size; have := HB3.out.size; omega)))
  clear hb4
  by_cases d : sltCode sa sr nd = 0
  · have d1c : (sltCode sa sr nd != 0) = false := by simp [d]
    go_wp2_with (first | (refine wpList_load_box rfl 106 _ rfl w1.heap.size rfl [.int .i64 f, .int .i64 t, .int .i64 3, .int .i64 ba, .int .i64 bn, .slice a1 ntx c1, .int .i64 ha, .int .i64 hr, .slice a2 nbs c2, .slice a3 nps c3, .int .i64 0, .int .i64 0, .slice none 0 0, .int .i64 ca, .int .i64 cr, .slice a5 ncb c5, .slice a6 ncp c6, .slice a7 nvs c7, .int .i64 r] 106 HBZ.out Tryz.underlying106 rfl (by kernel_rfl) ?_))
    refine (none_any f t 3 ba bn a1 ntx c1 ha hr a2 nbs c2 a3 nps c3 0 0 none 0 0 ca cr a5 ncb c5 a6 ncp c6 a7 nvs c7 r _ h1 h2).mono ?_
    rintro e w5 ⟨rfl, hb5⟩
    have hB5 := HB4.out.trans (hb5.mono HB4.out.size)
    cases hn : noneB ba bn ntx ha hr nbs nps 0 0 0 ca cr ncb ncp nvs r
    · go_wp2
      all_goals
        go_ret
        exact ⟨ret_intH (by first | rfl | (rw [if_neg (show ¬ (sltCode sa sr nd ≠ 0) by simp [d])]; rfl)), hB5⟩
    · go_wp2
      all_goals
        go_ret
        exact ⟨ret_intH (by first | rfl | (rw [if_neg (show ¬ (sltCode sa sr nd ≠ 0) by simp [d])]; rfl)), hB5⟩
  · have d1c : (sltCode sa sr nd != 0) = true := by rw [bne_iff_ne]; exact d
    have HD := Lib.hid d
    clear d
    go_wp2
    go_ret
    exact ⟨ret_intH (by first | rfl | exact if_pos HD.out), HB4.out⟩
set_option maxRecDepth 100000 in
set_option maxHeartbeats 8000000 in
theorem wcheck_4 {G : Nat → Prop} {cb cp : List Bytes} {vs : List Int} (f t ba bn : Int) (a1 : Option Addr) (ntx : Nat) (c1 : Nat) (ha hr : Int) (a2 : Option Addr) (nbs : Nat) (c2 : Nat) (a3 : Option Addr) (nps : Nat) (c3 : Nat) (sa sr : Int) (a4 : Option Addr) (nd c4 : Nat) (ca cr : Int) (a5 : Option Addr) (c5 : Nat) (a6 : Option Addr) (c6 : Nat) (a7 : Option Addr) (c7 : Nat) (r : Int) (w : World)
    (e1 : nodeOk f = true) (e2 : nodeOk t = true) (g5 : RdBB G w (.slice a5 cb.length c5) cb) (g6 : RdBB G w (.slice a6 cp.length c6) cp) (g7 : RdI G w (.slice a7 vs.length c7) vs) (h1 : nbs + nps ≤ 9223372036854775807) (h2 : 0 + 0 ≤ 9223372036854775807) :
    Calls Tryz.prog 73 #[.agg #[.int .i64 f, .int .i64 t, .int .i64 4, .int .i64 ba, .int .i64 bn, .slice a1 ntx c1, .int .i64 ha, .int .i64 hr, .slice a2 nbs c2, .slice a3 nps c3, .int .i64 sa, .int .i64 sr, .slice a4 nd c4, .int .i64 ca, .int .i64 cr, .slice a5 cb.length c5, .slice a6 cp.length c6, .slice a7 vs.length c7, .int .i64 r]] w fun e w' => e = .returned (.int .i64 (if crtCode ⟨⟨ca, cr, cb, cp⟩, vs⟩ ≠ 0 then crtCode ⟨⟨ca, cr, cb, cp⟩, vs⟩ else if noneB ba bn ntx ha hr nbs nps sa sr nd 0 0 0 0 0 r = true then 0 else 4)) ∧ Below w.heap.size w w' := by
  have G5 := Lib.hid (g5.low (by decide))
  have G6 := Lib.hid (g6.low (by decide))
  have G7 := Lib.hid (g7.low (by decide))
  clear g5 g6 g7
  go_enter Tryz.func73, Tryz.ntmps73
  go_upto_region 1 with fail
  obtain ⟨w1, hw1⟩ : ∃ w1, w1 = w.alloc (.cells #[.int .i64 f, .int .i64 t, .int .i64 4, .int .i64 ba, .int .i64 bn, .slice a1 ntx c1, .int .i64 ha, .int .i64 hr, .slice a2 nbs c2, .slice a3 nps c3, .int .i64 sa, .int .i64 sr, .slice a4 nd c4, .int .i64 ca, .int .i64 cr, .slice a5 cb.length c5, .slice a6 cp.length c6, .slice a7 vs.length c7, .int .i64 r] 106) := ⟨_, rfl⟩
  have bx : BoxAt w1 w.heap.size [.int .i64 f, .int .i64 t, .int .i64 4, .int .i64 ba, .int .i64 bn, .slice a1 ntx c1, .int .i64 ha, .int .i64 hr, .slice a2 nbs c2, .slice a3 nps c3, .int .i64 sa, .int .i64 sr, .slice a4 nd c4, .int .i64 ca, .int .i64 cr, .slice a5 cb.length c5, .slice a6 cp.length c6, .slice a7 vs.length c7, .int .i64 r] 106 := by rw [hw1]; exact BoxAt.new w [.int .i64 f, .int .i64 t, .int .i64 4, .int .i64 ba, .int .i64 bn, .slice a1 ntx c1, .int .i64 ha, .int .i64 hr, .slice a2 nbs c2, .slice a3 nps c3, .int .i64 sa, .int .i64 sr, .slice a4 nd c4, .int .i64 ca, .int .i64 cr, .slice a5 cb.length c5, .slice a6 cp.length c6, .slice a7 vs.length c7, .int .i64 r] _
  have hb1 : Below w.heap.size w w1 := by rw [hw1]; exact (Below.refl _ _).alloc (Nat.le_refl _) _
  have z1 : w1.heap.size = w.heap.size + 1 := by rw [hw1]; simp
  rw [← hw1]
  have HBX := Lib.hid bx
  have HB1 := Lib.hid hb1
  have HZ1 := Lib.hid z1
  have p0 := bx.cell 0 rfl
  have p1 := bx.cell 1 rfl
  clear hw1 bx hb1 z1
  go_upto_region 3 with (go_at_call 98; refine (node_any _ _).mono ?_; rintro e w' ⟨rfl, rfl⟩)
  go_upto_region 18 with (first
    | (refine wpList_load_box rfl 106 _ rfl w.heap.size rfl [.int .i64 f, .int .i64 t, .int .i64 4, .int .i64 ba, .int .i64 bn, .slice a1 ntx c1, .int .i64 ha, .int .i64 hr, .slice a2 nbs c2, .slice a3 nps c3, .int .i64 sa, .int .i64 sr, .slice a4 nd c4, .int .i64 ca, .int .i64 cr, .slice a5 cb.length c5, .slice a6 cp.length c6, .slice a7 vs.length c7, .int .i64 r] 106 HBX.out Tryz.underlying106 rfl (by kernel_rfl) ?_)
    | (refine wpList_store_new rfl 106 _ _ rfl [.int .i64 f, .int .i64 t, .int .i64 4, .int .i64 ba, .int .i64 bn, .slice a1 ntx c1, .int .i64 ha, .int .i64 hr, .slice a2 nbs c2, .slice a3 nps c3, .int .i64 sa, .int .i64 sr, .slice a4 nd c4, .int .i64 ca, .int .i64 cr, .slice a5 cb.length c5, .slice a6 cp.length c6, .slice a7 vs.length c7, .int .i64 r] 106 zeroMsg rfl rfl (by kernel_rfl) rfl rfl ?_; intro w2 hb2 hB2 hs2; have q2 := ((bcellAt hB2 _ HBX.out.lt).1 2).trans (HBX.out.cell 2 rfl); have q13 := ((bcellAt hB2 _ HBX.out.lt).1 13).trans (HBX.out.cell 13 rfl); have q14 := ((bcellAt hB2 _ HBX.out.lt).1 14).trans (HBX.out.cell 14 rfl); have q15 := ((bcellAt hB2 _ HBX.out.lt).1 15).trans (HBX.out.cell 15 rfl); have q16 := ((bcellAt hB2 _ HBX.out.lt).1 16).trans (HBX.out.cell 16 rfl); have q17 := ((bcellAt hB2 _ HBX.out.lt).1 17).trans (HBX.out.cell 17 rfl); have r13 := hb2.cell 13 rfl; have rf13 := hb2.free 13; have r14 := hb2.cell 14 rfl; have rf14 := hb2.free 14; have r15 := hb2.cell 15 rfl; have rf15 := hb2.free 15; have r16 := hb2.cell 16 rfl; have rf16 := hb2.free 16; have r17 := hb2.cell 17 rfl; have rf17 := hb2.free 17; have n12 : w1.heap.size ≠ w.heap.size := (by have := HZ1.out; omega); have n21 : w.heap.size ≠ w1.heap.size := (by have := HZ1.out; omega); have HB2 := Lib.hid hB2; have HBR := Lib.hid hb2; have HZ2 := Lib.hid hs2; clear hb2 hB2 hs2))
  obtain ⟨w3, hw3⟩ : ∃ w3, w3 = (((((w2.setCell ⟨w1.heap.size, 13, none⟩ (.int .i64 0)).setCell ⟨w1.heap.size, 14, none⟩ (.int .i64 0)).setCell ⟨w1.heap.size, 15, none⟩ (.slice none 0 0)).setCell ⟨w1.heap.size, 16, none⟩ (.slice none 0 0)).setCell ⟨w1.heap.size, 17, none⟩ (.slice none 0 0)) := ⟨_, rfl⟩
  have hB3 : Below w1.heap.size w1 w3 := by rw [hw3]; exact (((((HB2.out.setCell (p := ⟨w1.heap.size, 13, none⟩) (Nat.le_refl _) (.int .i64 0)).setCell (p := ⟨w1.heap.size, 14, none⟩) (Nat.le_refl _) (.int .i64 0)).setCell (p := ⟨w1.heap.size, 15, none⟩) (Nat.le_refl _) (.slice none 0 0)).setCell (p := ⟨w1.heap.size, 16, none⟩) (Nat.le_refl _) (.slice none 0 0)).setCell (p := ⟨w1.heap.size, 17, none⟩) (Nat.le_refl _) (.slice none 0 0))
  have hbz : BoxAt w3 w1.heap.size [.int .i64 f, .int .i64 t, .int .i64 4, .int .i64 ba, .int .i64 bn, .slice a1 ntx c1, .int .i64 ha, .int .i64 hr, .slice a2 nbs c2, .slice a3 nps c3, .int .i64 sa, .int .i64 sr, .slice a4 nd c4, .int .i64 0, .int .i64 0, .slice none 0 0, .slice none 0 0, .slice none 0 0, .int .i64 r] 106 := by rw [hw3]; exact (((((HBR.out.set 13 (.int .i64 0)).set 14 (.int .i64 0)).set 15 (.slice none 0 0)).set 16 (.slice none 0 0)).set 17 (.slice none 0 0))
  have s3 : w3.heap.size = w1.heap.size + 1 := by rw [hw3]; simp [HZ2.out]
  rw [← hw3]
  have m13 := ((bcellAt hB3 _ HBX.out.lt).1 13).trans (HBX.out.cell 13 rfl)
  have m14 := ((bcellAt hB3 _ HBX.out.lt).1 14).trans (HBX.out.cell 14 rfl)
  have m15 := ((bcellAt hB3 _ HBX.out.lt).1 15).trans (HBX.out.cell 15 rfl)
  have m16 := ((bcellAt hB3 _ HBX.out.lt).1 16).trans (HBX.out.cell 16 rfl)
  have m17 := ((bcellAt hB3 _ HBX.out.lt).1 17).trans (HBX.out.cell 17 rfl)
  have HB3 := Lib.hid hB3
  have HBZ3 := Lib.hid hbz
  have HS3 := Lib.hid s3
  clear hw3 hB3 hbz s3 q2 q13 q14 q15 q16 q17 r13 rf13 r14 rf14 r15 rf15 r16 rf16 r17 rf17
  go_wp2_with fail
  refine (ccert_any _ _ _ _ _ _ (G5.out.keep (G' := fun _ => True) ((Keep.below HB1.out).trans (Keep.below HB3.out)) (fun _ _ => trivial)) (G6.out.keep (G' := fun _ => True) ((Keep.below HB1.out).trans (Keep.below HB3.out)) (fun _ _ => trivial)) (G7.out.keep (G' := fun _ => True) ((Keep.below HB1.out).trans (Keep.below HB3.out)) (fun _ _ => trivial))).mono ?_
  rintro e w4 ⟨rfl, hb4⟩
  have HBZ := Lib.hid (HBZ3.out.belowS hb4)
  have HB4 := Lib.hid (show Below w.heap.size w w4 from (HB1.out.trans (HB3.out.mono HB1.out.size)).trans (hb4.mono (by have := HB1.out.size; have := HB3.out.size; omega)))
  clear hb4
  by_cases d : crtCode ⟨⟨ca, cr, cb, cp⟩, vs⟩ = 0
  · have d1c : (crtCode ⟨⟨ca, cr, cb, cp⟩, vs⟩ != 0) = false := by simp [d]
    go_wp2_with (first | (refine wpList_load_box rfl 106 _ rfl w1.heap.size rfl [.int .i64 f, .int .i64 t, .int .i64 4, .int .i64 ba, .int .i64 bn, .slice a1 ntx c1, .int .i64 ha, .int .i64 hr, .slice a2 nbs c2, .slice a3 nps c3, .int .i64 sa, .int .i64 sr, .slice a4 nd c4, .int .i64 0, .int .i64 0, .slice none 0 0, .slice none 0 0, .slice none 0 0, .int .i64 r] 106 HBZ.out Tryz.underlying106 rfl (by kernel_rfl) ?_))
    refine (none_any f t 4 ba bn a1 ntx c1 ha hr a2 nbs c2 a3 nps c3 sa sr a4 nd c4 0 0 none 0 0 none 0 0 none 0 0 r _ h1 (by decide)).mono ?_
    rintro e w5 ⟨rfl, hb5⟩
    have hB5 := HB4.out.trans (hb5.mono HB4.out.size)
    cases hn : noneB ba bn ntx ha hr nbs nps sa sr nd 0 0 0 0 0 r
    · go_wp2
      all_goals
        go_ret
        exact ⟨ret_intH (by first | rfl | (rw [if_neg (show ¬ (crtCode ⟨⟨ca, cr, cb, cp⟩, vs⟩ ≠ 0) by simp [d])]; rfl)), hB5⟩
    · go_wp2
      all_goals
        go_ret
        exact ⟨ret_intH (by first | rfl | (rw [if_neg (show ¬ (crtCode ⟨⟨ca, cr, cb, cp⟩, vs⟩ ≠ 0) by simp [d])]; rfl)), hB5⟩
  · have d1c : (crtCode ⟨⟨ca, cr, cb, cp⟩, vs⟩ != 0) = true := by rw [bne_iff_ne]; exact d
    have HD := Lib.hid d
    clear d
    go_wp2
    go_ret
    exact ⟨ret_intH (by first | rfl | exact if_pos HD.out), HB4.out⟩
set_option maxRecDepth 100000 in
set_option maxHeartbeats 8000000 in
theorem wcheck_5 {G : Nat → Prop} (f t ba bn : Int) (a1 : Option Addr) (ntx : Nat) (c1 : Nat) (ha hr : Int) (a2 : Option Addr) (nbs : Nat) (c2 : Nat) (a3 : Option Addr) (nps : Nat) (c3 : Nat) (sa sr : Int) (a4 : Option Addr) (nd c4 : Nat) (ca cr : Int) (a5 : Option Addr) (ncb : Nat) (c5 : Nat) (a6 : Option Addr) (ncp : Nat) (c6 : Nat) (a7 : Option Addr) (nvs : Nat) (c7 : Nat) (r : Int) (w : World)
    (e1 : nodeOk f = true) (e2 : nodeOk t = true)  (h1 : nbs + nps ≤ 9223372036854775807) (h2 : ncb + ncp ≤ 9223372036854775807) :
    Calls Tryz.prog 73 #[.agg #[.int .i64 f, .int .i64 t, .int .i64 5, .int .i64 ba, .int .i64 bn, .slice a1 ntx c1, .int .i64 ha, .int .i64 hr, .slice a2 nbs c2, .slice a3 nps c3, .int .i64 sa, .int .i64 sr, .slice a4 nd c4, .int .i64 ca, .int .i64 cr, .slice a5 ncb c5, .slice a6 ncp c6, .slice a7 nvs c7, .int .i64 r]] w fun e w' => e = .returned (.int .i64 (if (if countOk r = true then (0 : Int) else 2) ≠ 0 then (if countOk r = true then (0 : Int) else 2) else if noneB ba bn ntx ha hr nbs nps sa sr nd ca cr ncb ncp nvs 0 = true then 0 else 4)) ∧ Below w.heap.size w w' := by
  go_enter Tryz.func73, Tryz.ntmps73
  go_upto_region 1 with fail
  obtain ⟨w1, hw1⟩ : ∃ w1, w1 = w.alloc (.cells #[.int .i64 f, .int .i64 t, .int .i64 5, .int .i64 ba, .int .i64 bn, .slice a1 ntx c1, .int .i64 ha, .int .i64 hr, .slice a2 nbs c2, .slice a3 nps c3, .int .i64 sa, .int .i64 sr, .slice a4 nd c4, .int .i64 ca, .int .i64 cr, .slice a5 ncb c5, .slice a6 ncp c6, .slice a7 nvs c7, .int .i64 r] 106) := ⟨_, rfl⟩
  have bx : BoxAt w1 w.heap.size [.int .i64 f, .int .i64 t, .int .i64 5, .int .i64 ba, .int .i64 bn, .slice a1 ntx c1, .int .i64 ha, .int .i64 hr, .slice a2 nbs c2, .slice a3 nps c3, .int .i64 sa, .int .i64 sr, .slice a4 nd c4, .int .i64 ca, .int .i64 cr, .slice a5 ncb c5, .slice a6 ncp c6, .slice a7 nvs c7, .int .i64 r] 106 := by rw [hw1]; exact BoxAt.new w [.int .i64 f, .int .i64 t, .int .i64 5, .int .i64 ba, .int .i64 bn, .slice a1 ntx c1, .int .i64 ha, .int .i64 hr, .slice a2 nbs c2, .slice a3 nps c3, .int .i64 sa, .int .i64 sr, .slice a4 nd c4, .int .i64 ca, .int .i64 cr, .slice a5 ncb c5, .slice a6 ncp c6, .slice a7 nvs c7, .int .i64 r] _
  have hb1 : Below w.heap.size w w1 := by rw [hw1]; exact (Below.refl _ _).alloc (Nat.le_refl _) _
  have z1 : w1.heap.size = w.heap.size + 1 := by rw [hw1]; simp
  rw [← hw1]
  have HBX := Lib.hid bx
  have HB1 := Lib.hid hb1
  have HZ1 := Lib.hid z1
  have p0 := bx.cell 0 rfl
  have p1 := bx.cell 1 rfl
  clear hw1 bx hb1 z1
  go_upto_region 3 with (go_at_call 98; refine (node_any _ _).mono ?_; rintro e w' ⟨rfl, rfl⟩)
  go_upto_region 21 with (first
    | (refine wpList_load_box rfl 106 _ rfl w.heap.size rfl [.int .i64 f, .int .i64 t, .int .i64 5, .int .i64 ba, .int .i64 bn, .slice a1 ntx c1, .int .i64 ha, .int .i64 hr, .slice a2 nbs c2, .slice a3 nps c3, .int .i64 sa, .int .i64 sr, .slice a4 nd c4, .int .i64 ca, .int .i64 cr, .slice a5 ncb c5, .slice a6 ncp c6, .slice a7 nvs c7, .int .i64 r] 106 HBX.out Tryz.underlying106 rfl (by kernel_rfl) ?_)
    | (refine wpList_store_new rfl 106 _ _ rfl [.int .i64 f, .int .i64 t, .int .i64 5, .int .i64 ba, .int .i64 bn, .slice a1 ntx c1, .int .i64 ha, .int .i64 hr, .slice a2 nbs c2, .slice a3 nps c3, .int .i64 sa, .int .i64 sr, .slice a4 nd c4, .int .i64 ca, .int .i64 cr, .slice a5 ncb c5, .slice a6 ncp c6, .slice a7 nvs c7, .int .i64 r] 106 zeroMsg rfl rfl (by kernel_rfl) rfl rfl ?_; intro w2 hb2 hB2 hs2; have q2 := ((bcellAt hB2 _ HBX.out.lt).1 2).trans (HBX.out.cell 2 rfl); have q18 := ((bcellAt hB2 _ HBX.out.lt).1 18).trans (HBX.out.cell 18 rfl); have r18 := hb2.cell 18 rfl; have rf18 := hb2.free 18; have n12 : w1.heap.size ≠ w.heap.size := (by have := HZ1.out; omega); have n21 : w.heap.size ≠ w1.heap.size := (by have := HZ1.out; omega); have HB2 := Lib.hid hB2; have HBR := Lib.hid hb2; have HZ2 := Lib.hid hs2; clear hb2 hB2 hs2))
  obtain ⟨w3, hw3⟩ : ∃ w3, w3 = (w2.setCell ⟨w1.heap.size, 18, none⟩ (.int .i64 0)) := ⟨_, rfl⟩
  have hB3 : Below w1.heap.size w1 w3 := by rw [hw3]; exact (HB2.out.setCell (p := ⟨w1.heap.size, 18, none⟩) (Nat.le_refl _) (.int .i64 0))
  have hbz : BoxAt w3 w1.heap.size [.int .i64 f, .int .i64 t, .int .i64 5, .int .i64 ba, .int .i64 bn, .slice a1 ntx c1, .int .i64 ha, .int .i64 hr, .slice a2 nbs c2, .slice a3 nps c3, .int .i64 sa, .int .i64 sr, .slice a4 nd c4, .int .i64 ca, .int .i64 cr, .slice a5 ncb c5, .slice a6 ncp c6, .slice a7 nvs c7, .int .i64 0] 106 := by rw [hw3]; exact (HBR.out.set 18 (.int .i64 0))
  have s3 : w3.heap.size = w1.heap.size + 1 := by rw [hw3]; simp [HZ2.out]
  rw [← hw3]
  have m18 := ((bcellAt hB3 _ HBX.out.lt).1 18).trans (HBX.out.cell 18 rfl)
  have HB3 := Lib.hid hB3
  have HBZ3 := Lib.hid hbz
  have HS3 := Lib.hid s3
  clear hw3 hB3 hbz s3 q2 q18 r18 rf18
  have HBZ := HBZ3
  have HB4 := Lib.hid (show Below w.heap.size w w3 from HB1.out.trans (HB3.out.mono HB1.out.size))
  cases d : countOk r
  rotate_left
  · skip
    go_wp2_with (first | (refine wpList_load_box rfl 106 _ rfl w1.heap.size rfl [.int .i64 f, .int .i64 t, .int .i64 5, .int .i64 ba, .int .i64 bn, .slice a1 ntx c1, .int .i64 ha, .int .i64 hr, .slice a2 nbs c2, .slice a3 nps c3, .int .i64 sa, .int .i64 sr, .slice a4 nd c4, .int .i64 ca, .int .i64 cr, .slice a5 ncb c5, .slice a6 ncp c6, .slice a7 nvs c7, .int .i64 0] 106 HBZ.out Tryz.underlying106 rfl (by kernel_rfl) ?_) | (go_at_call 99; refine (count_any _ _).mono ?_; rintro e w' ⟨rfl, rfl⟩; rw [d]))
    refine (none_any f t 5 ba bn a1 ntx c1 ha hr a2 nbs c2 a3 nps c3 sa sr a4 nd c4 ca cr a5 ncb c5 a6 ncp c6 a7 nvs c7 0 _ h1 h2).mono ?_
    rintro e w5 ⟨rfl, hb5⟩
    have hB5 := HB4.out.trans (hb5.mono HB4.out.size)
    cases hn : noneB ba bn ntx ha hr nbs nps sa sr nd ca cr ncb ncp nvs 0
    · go_wp2
      all_goals
        go_ret
        exact ⟨ret_intH (by first | rfl | (rw [if_neg (show ¬ ((if countOk r = true then (0 : Int) else 2) ≠ 0) by simp [d])]; rfl)), hB5⟩
    · go_wp2
      all_goals
        go_ret
        exact ⟨ret_intH (by first | rfl | (rw [if_neg (show ¬ ((if countOk r = true then (0 : Int) else 2) ≠ 0) by simp [d])]; rfl)), hB5⟩
  · go_wp2_with (go_at_call 99; refine (count_any _ _).mono ?_; rintro e w' ⟨rfl, rfl⟩; rw [d])
    all_goals
      go_ret
      exact ⟨ret_intH (by first | rfl | simp [d]), HB4.out⟩
end Go.Proofs.YtmijiclocadimaaGreatDoor
