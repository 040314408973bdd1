/- sameSlot, sameInts, sameCert, sameMessage: of what is the same they answer true. -/
import Derived.Test.YtegdpjoncjmdeaaSameL
import Derived.Test.YtegdpjoncjmdeaaSameBat
import Derived.Test.YtegdpjoncjmdeaaBas
set_option linter.unusedVariables false
set_option linter.unusedSimpArgs false
namespace Go.Proofs.Ytegdpjoncjmdeaa
open Go Go.RowKit

set_option maxRecDepth 100000 in
set_option maxHeartbeats 2000000 in
theorem sameSlot_eq {G G' : Nat → Prop} (s : Slt) (v v' : Value) (w : World) (hv : RdB G w v s.d) (hv' : RdB G' w v' s.d) :
    Calls Try.prog 45 #[.agg #[.int .i64 s.a, .int .i64 s.r, v], .agg #[.int .i64 s.a, .int .i64 s.r, v']] w fun e w' => e = .returned (.bool true) ∧ Below w.heap.size w w' := by
  obtain ⟨a, r, d⟩ := s
  simp only at *
  obtain ⟨ad1, c1, rfl, -, -⟩ := hv.form
  obtain ⟨ad3, c3, rfl, -, -⟩ := hv'.form
  obtain ⟨w1, hw1⟩ : ∃ w1, w1 = (w.alloc (.cells #[.int .i64 a, .int .i64 r, .slice ad1 d.length c1] 30)).alloc (.cells #[.int .i64 a, .int .i64 r, .slice ad3 d.length c3] 30) := ⟨_, rfl⟩
  have hR : Below w.heap.size w w1 := by rw [hw1]; exact ((Below.refl _ _).alloc (Nat.le_refl _) _).alloc (by simp) _
  have bX : BoxAt w1 w.heap.size [.int .i64 a, .int .i64 r, .slice ad1 d.length c1] 30 := by rw [hw1]; exact (BoxAt.new w [_, _, _] _).alloc _
  have bY : BoxAt w1 (w.heap.size + 1) [.int .i64 a, .int .i64 r, .slice ad3 d.length c3] 30 := by rw [hw1]; exact BoxAt.newAt (w.alloc _) [_, _, _] _ (by simp)
  have H1 := Lib.hid (hv.below hR (fun _ h => h))
  have H3 := Lib.hid (hv'.below hR (fun _ h => h))
  have HR := Lib.hid hR
  have x0 := bX.cell 0 rfl
  have x1 := bX.cell 1 rfl
  have x2 := bX.cell 2 rfl
  have y0 := bY.cell 0 rfl
  have y1 := bY.cell 1 rfl
  have y2 := bY.cell 2 rfl
  have e1 : (a == a) = true := by simp
  have e2 : (r == r) = true := by simp
  go_enter Try.func45, Try.ntmps45
  go_upto_region 1 with fail
  rw [← hw1]
  clear hw1 hR bX bY hv hv'
  go_wp2_with (go_at_call 17; refine (same_any (l := d) (m := d) _ _ _ H1.out H3.out).mono ?_; rintro e w' ⟨rfl, rfl⟩; rw [decide_eq_true (rfl : d = d)])
  go_ret
  exact ⟨rfl, HR.out⟩
set_option maxRecDepth 100000 in
set_option maxHeartbeats 2000000 in
theorem sameInts_eq {G G' : Nat → Prop} (l : List Int) (v v' : Value) (w : World) (hv : RdI G w v l) (hv' : RdI G' w v' l) :
    Calls Try.prog 60 #[v, v'] w fun e w' => e = .returned (.bool true) ∧ Below w.heap.size w w' := by
  obtain ⟨ad1, c1, rfl, -, -⟩ := hv.form
  obtain ⟨ad2, c2, rfl, -, -⟩ := hv'.form
  obtain ⟨-, h1, h2, -⟩ := hv.len
  unfold maxLen at h2
  have HV := Lib.hid hv
  have HV' := Lib.hid hv'
  have hln : ((l.length : Int) != (l.length : Int)) = false := by simp
  go_enter Try.func60, Try.ntmps60
  go_wp2
  go_loopw [5] (fun i wr => ∃ k n : Nat, k ≤ l.length ∧ i = .int .i64 k ∧ wr = w.drewN n) (fun i _ => l.length - (intOf i).toNat)
  case atStart => exact ⟨0, 0, Nat.zero_le _, rfl, rfl⟩
  case round =>
    obtain ⟨k, n, hk, rfl, rfl⟩ := hrel
    by_cases hlt : k < l.length
    · obtain ⟨b, o, rfl, hc⟩ := hv.cell k hlt
      obtain ⟨b', o', rfl, hc'⟩ := hv'.cell k hlt
      have i0 : (0 : Int) ≤ (k : Int) := by omega
      have i1 : (k : Int) < (l.length : Int) := by omega
      have hb : (l[k] != l[k]) = false := by simp
      go_wp2_with fail
      go_quiet (fail)
      go_wp2
      go_roundw
      case rel => exact ⟨k + 1, _, by omega, by go_num, rfl⟩
      case measure => simp [intOf]; omega
    · go_wp2
      go_ret
      exact ⟨rfl, below_drewN (Below.refl _ _) _⟩
set_option maxRecDepth 100000 in
set_option maxHeartbeats 2000000 in
theorem sameCert_eq {G G' : Nat → Prop} (c : Crt) (b p v b' p' v' : Value) (w : World) (hb : RdBB G w b c.h.bs) (hp : RdBB G w p c.h.ps) (hv : RdI G w v c.vs) (hb' : RdBB G' w b' c.h.bs) (hp' : RdBB G' w p' c.h.ps) (hv' : RdI G' w v' c.vs) :
    Calls Try.prog 46 #[.agg #[.int .i64 c.h.a, .int .i64 c.h.r, b, p, v], .agg #[.int .i64 c.h.a, .int .i64 c.h.r, b', p', v']] w fun e w' => e = .returned (.bool true) ∧ Below w.heap.size w w' := by
  obtain ⟨⟨a, r, bs, ps⟩, vs⟩ := c
  simp only at *
  obtain ⟨ad1, c1, rfl, -, -⟩ := hb.form
  obtain ⟨ad2, c2, rfl, -, -⟩ := hp.form
  obtain ⟨ad3, c3, rfl, -, -⟩ := hv.form
  obtain ⟨ad4, c4, rfl, -, -⟩ := hb'.form
  obtain ⟨ad5, c5, rfl, -, -⟩ := hp'.form
  obtain ⟨ad6, c6, rfl, -, -⟩ := hv'.form
  obtain ⟨w1, hw1⟩ : ∃ w1, w1 = (w.alloc (.cells #[.int .i64 a, .int .i64 r, .slice ad1 bs.length c1, .slice ad2 ps.length c2, .slice ad3 vs.length c3] 33)).alloc (.cells #[.int .i64 a, .int .i64 r, .slice ad4 bs.length c4, .slice ad5 ps.length c5, .slice ad6 vs.length c6] 33) := ⟨_, rfl⟩
  have hR : Below w.heap.size w w1 := by rw [hw1]; exact ((Below.refl _ _).alloc (Nat.le_refl _) _).alloc (by simp) _
  have bX : BoxAt w1 w.heap.size [.int .i64 a, .int .i64 r, .slice ad1 bs.length c1, .slice ad2 ps.length c2, .slice ad3 vs.length c3] 33 := by rw [hw1]; exact (BoxAt.new w [_, _, _, _, _] _).alloc _
  have bY : BoxAt w1 (w.heap.size + 1) [.int .i64 a, .int .i64 r, .slice ad4 bs.length c4, .slice ad5 ps.length c5, .slice ad6 vs.length c6] 33 := by rw [hw1]; exact BoxAt.newAt (w.alloc _) [_, _, _, _, _] _ (by simp)
  have H1 := Lib.hid (hb.below hR (fun _ h => h))
  have H2 := Lib.hid (hp.below hR (fun _ h => h))
  have H3 := Lib.hid (hv.low (by decide) |>.below hR (fun _ h => h))
  have H4 := Lib.hid (hb'.below hR (fun _ h => h))
  have H5 := Lib.hid (hp'.below hR (fun _ h => h))
  have H6 := Lib.hid (hv'.low (by decide) |>.below hR (fun _ h => h))
  have HR := Lib.hid hR
  have x0 := bX.cell 0 rfl
  have x1 := bX.cell 1 rfl
  have x2 := bX.cell 2 rfl
  have x3 := bX.cell 3 rfl
  have x4 := bX.cell 4 rfl
  have y0 := bY.cell 0 rfl
  have y1 := bY.cell 1 rfl
  have y2 := bY.cell 2 rfl
  have y3 := bY.cell 3 rfl
  have y4 := bY.cell 4 rfl
  have hEQ := Lib.hid (show decide (a = a ∧ r = r ∧ bs = bs ∧ ps = ps) = true by simp)
  have HX := Lib.hid bX
  have HY := Lib.hid bY
  go_enter Try.func46, Try.ntmps46
  go_upto_region 1 with fail
  rw [← hw1]
  clear hw1 hR bX bY hb hp hv hb' hp' hv'
  go_wp2_with fail
  refine (sameHeader_any a r a r bs ps bs ps _ _ _ _ w1 H1.out H2.out H4.out H5.out).mono ?_
  rintro e w2 ⟨rfl, hb2⟩
  rw [decide_eq_true (show a = a ∧ r = r ∧ bs = bs ∧ ps = ps from ⟨rfl, rfl, rfl, rfl⟩)]
  have HB2 := Lib.hid (HR.out.trans (hb2.mono HR.out.size))
  have u4 := (HX.out.belowS hb2).cell 4 rfl
  have t4 := (HY.out.belowS hb2).cell 4 rfl
  have K3 := Lib.hid (H3.out.below hb2 (fun _ h => h))
  have K6 := Lib.hid (H6.out.below hb2 (fun _ h => h))
  clear x0 x1 x2 x3 x4 y0 y1 y2 y3 y4 HX HY hb2
  go_wp2_with fail
  refine (sameInts_eq vs _ _ w2 K3.out K6.out).mono ?_
  rintro e w3 ⟨rfl, hb3⟩
  have HB3 := Lib.hid (HB2.out.trans (hb3.mono HB2.out.size))
  clear hb3
  go_wp2
  go_ret
  exact ⟨rfl, HB3.out⟩
set_option maxRecDepth 100000 in
set_option maxHeartbeats 4000000 in
theorem sameMessage_eq {G G' : Nat → Prop} (m : Msg) (v v' : MV) (w : World) (h : RdM G w v m) (h' : RdM G' w v' m) :
    Calls Try.prog 29 #[.agg (msgCells m v).toArray, .agg (msgCells m v').toArray] w fun e w' => e = .returned (.bool true) ∧ Below w.heap.size w w' := by
  obtain ⟨w1, hw1⟩ : ∃ w1, w1 = (w.alloc (.cells (msgCells m v).toArray 35)).alloc (.cells (msgCells m v').toArray 35) := ⟨_, rfl⟩
  have hR : Below w.heap.size w w1 := by rw [hw1]; exact ((Below.refl _ _).alloc (Nat.le_refl _) _).alloc (by simp) _
  have bX : BoxAt w1 w.heap.size (msgCells m v) 35 := by rw [hw1]; exact (BoxAt.new w (msgCells m v) _).alloc _
  have bY : BoxAt w1 (w.heap.size + 1) (msgCells m v') 35 := by rw [hw1]; exact BoxAt.newAt (w.alloc _) (msgCells m v') _ (by simp)
  have G := Lib.hid (h.below hR (fun _ h => h))
  have H := Lib.hid (h'.below hR (fun _ h => h))
  have HR := Lib.hid hR
  have HX := Lib.hid bX
  have HY := Lib.hid bY
  have x0 : w1.cell? ⟨w.heap.size, 0, none⟩ = some (.int .i64 m.f) := bX.cell 0 rfl
  have y0 : w1.cell? ⟨w.heap.size + 1, 0, none⟩ = some (.int .i64 m.f) := bY.cell 0 rfl
  have x1 : w1.cell? ⟨w.heap.size, 1, none⟩ = some (.int .i64 m.t) := bX.cell 1 rfl
  have y1 : w1.cell? ⟨w.heap.size + 1, 1, none⟩ = some (.int .i64 m.t) := bY.cell 1 rfl
  have x2 : w1.cell? ⟨w.heap.size, 2, none⟩ = some (.int .i64 m.k) := bX.cell 2 rfl
  have y2 : w1.cell? ⟨w.heap.size + 1, 2, none⟩ = some (.int .i64 m.k) := bY.cell 2 rfl
  have x3 : w1.cell? ⟨w.heap.size, 3, none⟩ = some (.int .i64 m.b.a) := bX.cell 3 rfl
  have y3 : w1.cell? ⟨w.heap.size + 1, 3, none⟩ = some (.int .i64 m.b.a) := bY.cell 3 rfl
  have x4 : w1.cell? ⟨w.heap.size, 4, none⟩ = some (.int .i64 m.b.n) := bX.cell 4 rfl
  have y4 : w1.cell? ⟨w.heap.size + 1, 4, none⟩ = some (.int .i64 m.b.n) := bY.cell 4 rfl
  have x5 : w1.cell? ⟨w.heap.size, 5, none⟩ = some (v.tx) := bX.cell 5 rfl
  have y5 : w1.cell? ⟨w.heap.size + 1, 5, none⟩ = some (v'.tx) := bY.cell 5 rfl
  have x6 : w1.cell? ⟨w.heap.size, 6, none⟩ = some (.int .i64 m.h.a) := bX.cell 6 rfl
  have y6 : w1.cell? ⟨w.heap.size + 1, 6, none⟩ = some (.int .i64 m.h.a) := bY.cell 6 rfl
  have x7 : w1.cell? ⟨w.heap.size, 7, none⟩ = some (.int .i64 m.h.r) := bX.cell 7 rfl
  have y7 : w1.cell? ⟨w.heap.size + 1, 7, none⟩ = some (.int .i64 m.h.r) := bY.cell 7 rfl
  have x8 : w1.cell? ⟨w.heap.size, 8, none⟩ = some (v.bs) := bX.cell 8 rfl
  have y8 : w1.cell? ⟨w.heap.size + 1, 8, none⟩ = some (v'.bs) := bY.cell 8 rfl
  have x9 : w1.cell? ⟨w.heap.size, 9, none⟩ = some (v.ps) := bX.cell 9 rfl
  have y9 : w1.cell? ⟨w.heap.size + 1, 9, none⟩ = some (v'.ps) := bY.cell 9 rfl
  have x10 : w1.cell? ⟨w.heap.size, 10, none⟩ = some (.int .i64 m.s.a) := bX.cell 10 rfl
  have y10 : w1.cell? ⟨w.heap.size + 1, 10, none⟩ = some (.int .i64 m.s.a) := bY.cell 10 rfl
  have x11 : w1.cell? ⟨w.heap.size, 11, none⟩ = some (.int .i64 m.s.r) := bX.cell 11 rfl
  have y11 : w1.cell? ⟨w.heap.size + 1, 11, none⟩ = some (.int .i64 m.s.r) := bY.cell 11 rfl
  have x12 : w1.cell? ⟨w.heap.size, 12, none⟩ = some (v.d) := bX.cell 12 rfl
  have y12 : w1.cell? ⟨w.heap.size + 1, 12, none⟩ = some (v'.d) := bY.cell 12 rfl
  have x13 : w1.cell? ⟨w.heap.size, 13, none⟩ = some (.int .i64 m.c.h.a) := bX.cell 13 rfl
  have y13 : w1.cell? ⟨w.heap.size + 1, 13, none⟩ = some (.int .i64 m.c.h.a) := bY.cell 13 rfl
  have x14 : w1.cell? ⟨w.heap.size, 14, none⟩ = some (.int .i64 m.c.h.r) := bX.cell 14 rfl
  have y14 : w1.cell? ⟨w.heap.size + 1, 14, none⟩ = some (.int .i64 m.c.h.r) := bY.cell 14 rfl
  have x15 : w1.cell? ⟨w.heap.size, 15, none⟩ = some (v.cbs) := bX.cell 15 rfl
  have y15 : w1.cell? ⟨w.heap.size + 1, 15, none⟩ = some (v'.cbs) := bY.cell 15 rfl
  have x16 : w1.cell? ⟨w.heap.size, 16, none⟩ = some (v.cps) := bX.cell 16 rfl
  have y16 : w1.cell? ⟨w.heap.size + 1, 16, none⟩ = some (v'.cps) := bY.cell 16 rfl
  have x17 : w1.cell? ⟨w.heap.size, 17, none⟩ = some (v.vs) := bX.cell 17 rfl
  have y17 : w1.cell? ⟨w.heap.size + 1, 17, none⟩ = some (v'.vs) := bY.cell 17 rfl
  have x18 : w1.cell? ⟨w.heap.size, 18, none⟩ = some (.int .i64 m.r) := bX.cell 18 rfl
  have y18 : w1.cell? ⟨w.heap.size + 1, 18, none⟩ = some (.int .i64 m.r) := bY.cell 18 rfl
  have e0 : (m.f == m.f) = true := by simp
  have e1 : (m.t == m.t) = true := by simp
  have e2 : (m.k == m.k) = true := by simp
  have e3 : (m.r == m.r) = true := by simp
  go_enter Try.func29, Try.ntmps29
  go_upto_region 1 with fail
  rw [← hw1]
  clear hw1 hR bX bY h h'
  go_wp2_with fail
  refine (sameBatch_any m.b.a m.b.n m.b.a m.b.n m.b.txs m.b.txs _ _ w1 G.out.tx H.out.tx).mono ?_
  rintro e w2 ⟨rfl, hb2⟩
  rw [decide_eq_true (show m.b.a = m.b.a ∧ m.b.n = m.b.n ∧ m.b.txs = m.b.txs from ⟨rfl, rfl, rfl⟩)]
  have HB2 := Lib.hid (HR.out.trans (hb2.mono HR.out.size))
  have bX := HX.out.belowS hb2
  have bY := HY.out.belowS hb2
  have HX2 := Lib.hid bX
  have HY2 := Lib.hid bY
  have G2 := Lib.hid (G.out.below hb2 (fun _ h => h))
  have H2 := Lib.hid (H.out.below hb2 (fun _ h => h))
  clear x0 y0 x1 y1 x2 y2 x3 y3 x4 y4 x5 y5 x6 y6 x7 y7 x8 y8 x9 y9 x10 y10 x11 y11 x12 y12 x13 y13 x14 y14 x15 y15 x16 y16 x17 y17 x18 y18 hb2 HX HY 
  have x6 : w2.cell? ⟨w.heap.size, 6, none⟩ = some (.int .i64 m.h.a) := bX.cell 6 rfl
  have y6 : w2.cell? ⟨w.heap.size + 1, 6, none⟩ = some (.int .i64 m.h.a) := bY.cell 6 rfl
  have x7 : w2.cell? ⟨w.heap.size, 7, none⟩ = some (.int .i64 m.h.r) := bX.cell 7 rfl
  have y7 : w2.cell? ⟨w.heap.size + 1, 7, none⟩ = some (.int .i64 m.h.r) := bY.cell 7 rfl
  have x8 : w2.cell? ⟨w.heap.size, 8, none⟩ = some (v.bs) := bX.cell 8 rfl
  have y8 : w2.cell? ⟨w.heap.size + 1, 8, none⟩ = some (v'.bs) := bY.cell 8 rfl
  have x9 : w2.cell? ⟨w.heap.size, 9, none⟩ = some (v.ps) := bX.cell 9 rfl
  have y9 : w2.cell? ⟨w.heap.size + 1, 9, none⟩ = some (v'.ps) := bY.cell 9 rfl
  have x10 : w2.cell? ⟨w.heap.size, 10, none⟩ = some (.int .i64 m.s.a) := bX.cell 10 rfl
  have y10 : w2.cell? ⟨w.heap.size + 1, 10, none⟩ = some (.int .i64 m.s.a) := bY.cell 10 rfl
  have x11 : w2.cell? ⟨w.heap.size, 11, none⟩ = some (.int .i64 m.s.r) := bX.cell 11 rfl
  have y11 : w2.cell? ⟨w.heap.size + 1, 11, none⟩ = some (.int .i64 m.s.r) := bY.cell 11 rfl
  have x12 : w2.cell? ⟨w.heap.size, 12, none⟩ = some (v.d) := bX.cell 12 rfl
  have y12 : w2.cell? ⟨w.heap.size + 1, 12, none⟩ = some (v'.d) := bY.cell 12 rfl
  have x13 : w2.cell? ⟨w.heap.size, 13, none⟩ = some (.int .i64 m.c.h.a) := bX.cell 13 rfl
  have y13 : w2.cell? ⟨w.heap.size + 1, 13, none⟩ = some (.int .i64 m.c.h.a) := bY.cell 13 rfl
  have x14 : w2.cell? ⟨w.heap.size, 14, none⟩ = some (.int .i64 m.c.h.r) := bX.cell 14 rfl
  have y14 : w2.cell? ⟨w.heap.size + 1, 14, none⟩ = some (.int .i64 m.c.h.r) := bY.cell 14 rfl
  have x15 : w2.cell? ⟨w.heap.size, 15, none⟩ = some (v.cbs) := bX.cell 15 rfl
  have y15 : w2.cell? ⟨w.heap.size + 1, 15, none⟩ = some (v'.cbs) := bY.cell 15 rfl
  have x16 : w2.cell? ⟨w.heap.size, 16, none⟩ = some (v.cps) := bX.cell 16 rfl
  have y16 : w2.cell? ⟨w.heap.size + 1, 16, none⟩ = some (v'.cps) := bY.cell 16 rfl
  have x17 : w2.cell? ⟨w.heap.size, 17, none⟩ = some (v.vs) := bX.cell 17 rfl
  have y17 : w2.cell? ⟨w.heap.size + 1, 17, none⟩ = some (v'.vs) := bY.cell 17 rfl
  have x18 : w2.cell? ⟨w.heap.size, 18, none⟩ = some (.int .i64 m.r) := bX.cell 18 rfl
  have y18 : w2.cell? ⟨w.heap.size + 1, 18, none⟩ = some (.int .i64 m.r) := bY.cell 18 rfl
  clear bX bY
  go_wp2_with fail
  refine (sameHeader_any m.h.a m.h.r m.h.a m.h.r m.h.bs m.h.ps m.h.bs m.h.ps _ _ _ _ w2 G2.out.bs G2.out.ps H2.out.bs H2.out.ps).mono ?_
  rintro e w3 ⟨rfl, hb3⟩
  rw [decide_eq_true (show m.h.a = m.h.a ∧ m.h.r = m.h.r ∧ m.h.bs = m.h.bs ∧ m.h.ps = m.h.ps from ⟨rfl, rfl, rfl, rfl⟩)]
  have HB3 := Lib.hid (HB2.out.trans (hb3.mono HB2.out.size))
  have bX := HX2.out.belowS hb3
  have bY := HY2.out.belowS hb3
  have HX3 := Lib.hid bX
  have HY3 := Lib.hid bY
  have G3 := Lib.hid (G2.out.below hb3 (fun _ h => h))
  have H3 := Lib.hid (H2.out.below hb3 (fun _ h => h))
  clear x6 y6 x7 y7 x8 y8 x9 y9 x10 y10 x11 y11 x12 y12 x13 y13 x14 y14 x15 y15 x16 y16 x17 y17 x18 y18 hb3 HX2 HY2 G2 H2 HB2
  have x10 : w3.cell? ⟨w.heap.size, 10, none⟩ = some (.int .i64 m.s.a) := bX.cell 10 rfl
  have y10 : w3.cell? ⟨w.heap.size + 1, 10, none⟩ = some (.int .i64 m.s.a) := bY.cell 10 rfl
  have x11 : w3.cell? ⟨w.heap.size, 11, none⟩ = some (.int .i64 m.s.r) := bX.cell 11 rfl
  have y11 : w3.cell? ⟨w.heap.size + 1, 11, none⟩ = some (.int .i64 m.s.r) := bY.cell 11 rfl
  have x12 : w3.cell? ⟨w.heap.size, 12, none⟩ = some (v.d) := bX.cell 12 rfl
  have y12 : w3.cell? ⟨w.heap.size + 1, 12, none⟩ = some (v'.d) := bY.cell 12 rfl
  have x13 : w3.cell? ⟨w.heap.size, 13, none⟩ = some (.int .i64 m.c.h.a) := bX.cell 13 rfl
  have y13 : w3.cell? ⟨w.heap.size + 1, 13, none⟩ = some (.int .i64 m.c.h.a) := bY.cell 13 rfl
  have x14 : w3.cell? ⟨w.heap.size, 14, none⟩ = some (.int .i64 m.c.h.r) := bX.cell 14 rfl
  have y14 : w3.cell? ⟨w.heap.size + 1, 14, none⟩ = some (.int .i64 m.c.h.r) := bY.cell 14 rfl
  have x15 : w3.cell? ⟨w.heap.size, 15, none⟩ = some (v.cbs) := bX.cell 15 rfl
  have y15 : w3.cell? ⟨w.heap.size + 1, 15, none⟩ = some (v'.cbs) := bY.cell 15 rfl
  have x16 : w3.cell? ⟨w.heap.size, 16, none⟩ = some (v.cps) := bX.cell 16 rfl
  have y16 : w3.cell? ⟨w.heap.size + 1, 16, none⟩ = some (v'.cps) := bY.cell 16 rfl
  have x17 : w3.cell? ⟨w.heap.size, 17, none⟩ = some (v.vs) := bX.cell 17 rfl
  have y17 : w3.cell? ⟨w.heap.size + 1, 17, none⟩ = some (v'.vs) := bY.cell 17 rfl
  have x18 : w3.cell? ⟨w.heap.size, 18, none⟩ = some (.int .i64 m.r) := bX.cell 18 rfl
  have y18 : w3.cell? ⟨w.heap.size + 1, 18, none⟩ = some (.int .i64 m.r) := bY.cell 18 rfl
  clear bX bY
  go_wp2_with fail
  refine (sameSlot_eq m.s _ _ w3 G3.out.d H3.out.d).mono ?_
  rintro e w4 ⟨rfl, hb4⟩
  have HB4 := Lib.hid (HB3.out.trans (hb4.mono HB3.out.size))
  have bX := HX3.out.belowS hb4
  have bY := HY3.out.belowS hb4
  have HX4 := Lib.hid bX
  have HY4 := Lib.hid bY
  have G4 := Lib.hid (G3.out.below hb4 (fun _ h => h))
  have H4 := Lib.hid (H3.out.below hb4 (fun _ h => h))
  clear x10 y10 x11 y11 x12 y12 x13 y13 x14 y14 x15 y15 x16 y16 x17 y17 x18 y18 hb4 HX3 HY3 G3 H3 HB3
  have x13 : w4.cell? ⟨w.heap.size, 13, none⟩ = some (.int .i64 m.c.h.a) := bX.cell 13 rfl
  have y13 : w4.cell? ⟨w.heap.size + 1, 13, none⟩ = some (.int .i64 m.c.h.a) := bY.cell 13 rfl
  have x14 : w4.cell? ⟨w.heap.size, 14, none⟩ = some (.int .i64 m.c.h.r) := bX.cell 14 rfl
  have y14 : w4.cell? ⟨w.heap.size + 1, 14, none⟩ = some (.int .i64 m.c.h.r) := bY.cell 14 rfl
  have x15 : w4.cell? ⟨w.heap.size, 15, none⟩ = some (v.cbs) := bX.cell 15 rfl
  have y15 : w4.cell? ⟨w.heap.size + 1, 15, none⟩ = some (v'.cbs) := bY.cell 15 rfl
  have x16 : w4.cell? ⟨w.heap.size, 16, none⟩ = some (v.cps) := bX.cell 16 rfl
  have y16 : w4.cell? ⟨w.heap.size + 1, 16, none⟩ = some (v'.cps) := bY.cell 16 rfl
  have x17 : w4.cell? ⟨w.heap.size, 17, none⟩ = some (v.vs) := bX.cell 17 rfl
  have y17 : w4.cell? ⟨w.heap.size + 1, 17, none⟩ = some (v'.vs) := bY.cell 17 rfl
  have x18 : w4.cell? ⟨w.heap.size, 18, none⟩ = some (.int .i64 m.r) := bX.cell 18 rfl
  have y18 : w4.cell? ⟨w.heap.size + 1, 18, none⟩ = some (.int .i64 m.r) := bY.cell 18 rfl
  clear bX bY
  go_wp2_with fail
  refine (sameCert_eq m.c _ _ _ _ _ _ w4 G4.out.cbs G4.out.cps G4.out.vs H4.out.cbs H4.out.cps H4.out.vs).mono ?_
  rintro e w5 ⟨rfl, hb5⟩
  have HB5 := Lib.hid (HB4.out.trans (hb5.mono HB4.out.size))
  clear hb5
  go_wp2
  go_ret
  exact ⟨rfl, HB5.out⟩
end Go.Proofs.Ytegdpjoncjmdeaa
