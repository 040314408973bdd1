/- wire.Decode: what it computes, of all bytes. -/
import Derived.Test.YtegdpjoncjmdeaaDecode
set_option linter.unusedVariables false
set_option linter.unusedSimpArgs false
namespace Go.Proofs.Ytegdpjoncjmdeaa
open Go Go.RowKit

theorem num_nil (s : Bool) : (⟨[], s⟩ : Rdr).num 1 = (0, ⟨[], true⟩) := by
  unfold Rdr.num
  rw [Rdr.take_ends (by unfold Rdr.ends; simp)]; rfl
set_option maxRecDepth 100000 in
set_option maxHeartbeats 8000000 in
theorem wdecode_nil {G : Nat → Prop} (v : Value) (w : World) (hv : RdB G w v []) :
    Calls Try.prog 15 #[v] w fun e w' => e = .returned (.tuple #[.agg (msgCells msg0 mv0).toArray, .int .i64 5]) ∧ Below w.heap.size w w' := by
  obtain ⟨ad, cap, rfl, -, -⟩ := hv.form
  rw [msg0_cells]
  have HV := Lib.hid (hv.low (by decide))
  obtain ⟨w1, hw1⟩ : ∃ w1, w1 = (w.alloc (.cells zeroMsg.toArray 35)).alloc (.cells #[.slice ad 0 cap, .bool false] 71) := ⟨_, rfl⟩
  have hb1 : Below w.heap.size w w1 := by rw [hw1]; exact ((Below.refl _ _).alloc (Nat.le_refl _) _).alloc (by simp) _
  have bZ : BoxAt w1 w.heap.size zeroMsg 35 := by rw [hw1]; exact (BoxAt.new w zeroMsg _).alloc _
  have bR : BoxAt w1 (w.heap.size + 1) [.slice ad 0 cap, .bool false] 71 := by rw [hw1]; exact BoxAt.newAt (w.alloc _) [_, _] _ (by simp)
  have hr1 : RdrAt (w.heap.size + 1) w1 ⟨[], false⟩ := ⟨_, bR, HV.out.below hb1 (fun b hb => by omega)⟩
  have HB1 := Lib.hid hb1
  have HBZ := Lib.hid bZ
  clear hv
  go_enter Try.func15, Try.ntmps15
  go_upto_region 4 with fail
  rw [← hw1]
  clear hw1 hb1 bZ bR
  go_wp2_with fail
  refine (rnum_any _ _ 1 _ hr1 (by omega)).mono ?_
  rintro e w2 ⟨rfl, hr2, hg2⟩
  have zz := hr2.lt
  have HBZ2 := Lib.hid (HBZ.out.grown hg2 (fun e => by simp only [Option.some.injEq] at e; omega))
  have HB2 := Lib.hid (HB1.out.grown hg2 (by have := HB1.out.size; omega) (fun k e => by simp only [Option.some.injEq] at e; omega))
  have hk : ((⟨[], false⟩ : Rdr).num 1).1 = 0 := by rw [num_nil]
  have hrr : ((⟨[], false⟩ : Rdr).num 1).2 = ⟨[], true⟩ := by rw [num_nil]
  generalize ((⟨[], false⟩ : Rdr).num 1).1 = k at *
  generalize ((⟨[], false⟩ : Rdr).num 1).2 = r2 at *
  have k1 : (k == 1) = false := by rw [hk]; rfl
  have k2 : (k == 2) = false := by rw [hk]; rfl
  have k3 : (k == 3) = false := by rw [hk]; rfl
  have k4 : (k == 4) = false := by rw [hk]; rfl
  have k5 : (k == 5) = false := by rw [hk]; rfl
  have HRR := Lib.hid hrr
  clear hg2 HBZ HB1 hk hrr
  go_upto_region 5 with (refine wpList_store_new rfl 35 _ _ rfl (msgCells { msg0 with k := k } mv0) 35 zeroMsg rfl rfl (by kernel_rfl) rfl rfl ?_; intro w3 hb3 hB3 hs3)
  have HBX := Lib.hid hb3
  have HBZ3 := Lib.hid (HBZ2.out.belowS hB3)
  have HB3 := Lib.hid (HB2.out.trans (hB3.mono HB2.out.size))
  have hr3 := hr2.below hB3
  have hX : w.heap.size + 1 < w2.heap.size := zz
  generalize hXX : w2.heap.size = X at *
  clear hXX hb3 hB3 hs3 HBZ2 HB2 hr2
  go_wp2_with fail
  refine (rnum_any _ _ 1 _ hr3 (by omega)).mono ?_
  rintro e w4 ⟨rfl, hr4, hg4⟩
  go_wp2_with fail
  refine (rnum_any _ _ 1 _ hr4 (by omega)).mono ?_
  rintro e w5 ⟨rfl, hr5, hg5⟩
  have hg35 := grownBy_trans hg4 hg5 (.inl rfl)
  have bX5 := HBX.out.grown hg35 (fun e => by simp only [Option.some.injEq] at e; omega)
  have p0 := bX5.cell 0 rfl
  have p1 := bX5.cell 1 rfl
  have p2 : w5.cell? ⟨X, 2, none⟩ = some (.int .i64 k) := bX5.cell 2 rfl
  have f0 := bX5.free 0
  have f1 := bX5.free 1
  have r1 : w5.cell? ⟨w.heap.size + 1, 1, none⟩ = some (.bool true) := by
    rw [HRR.out, num_nil] at hr5
    simp only at hr5
    rw [num_nil] at hr5
    obtain ⟨v, hb, -⟩ := hr5; exact hb.cell 1 rfl
  have n1 : X ≠ w.heap.size + 1 := by omega
  generalize (r2.num 1).1 = f at *
  generalize ((r2.num 1).2.num 1).1 = t at *
  have zX3 := HBX.out.lt
  have HBZ5 := Lib.hid (((HBZ3.out.grown hg35 (fun e => by simp only [Option.some.injEq] at e; omega)).setOther (p := ⟨X, 0, none⟩) (by simp; omega) (.int .i64 f)).setOther (p := ⟨X, 1, none⟩) (by simp; omega) (.int .i64 t))
  have HB5 := Lib.hid (((HB3.out.grown hg35 (by have := HB3.out.size; omega) (fun k e => by simp only [Option.some.injEq] at e; omega)).setCell (p := ⟨X, 0, none⟩) (by simp; omega) (.int .i64 f)).setCell (p := ⟨X, 1, none⟩) (by simp; omega) (.int .i64 t))
  clear hr3 hr4 hr5 hg4 hg5 hg35 bX5
  go_wp2_with (refine wpList_store_box rfl 35 _ _ rfl w.heap.size zeroMsg rfl rfl 35 zeroMsg HBZ5.out (by kernel_rfl) rfl rfl ?_; intro w6 hb6 hB6 hoth hs6)
  exact bodyPost_ret (results_cell_tmp Try.results15 _ w6 w.heap.size 35 zeroMsg _ _ rfl rfl hb6 Try.underlying35 rfl (by kernel_rfl)) rfl ⟨rfl, HB5.out.trans hB6⟩
/-- Decode, of all bytes. -/
theorem wdecode_any {G : Nat → Prop} (l : Bytes) (v : Value) (w : World) (hv : RdB G w v l) :
    Calls Try.prog 15 #[v] w fun e w' => ∃ mv, e = .returned (.tuple #[.agg (msgCells (decode l).1 mv).toArray, .int .i64 (decode l).2]) ∧ RdM (fun b => w.heap.size ≤ b) w' mv (decode l).1 ∧ Below w.heap.size w w' := by
  by_cases h1 : 4000 < l.length
  · have hd : decode l = (msg0, 1) := by unfold decode; rw [if_pos h1]
    obtain ⟨ad, cap, rfl, -, -⟩ := hv.form
    exact (wdecode_size ad l.length cap w h1).mono fun e w' ⟨he, hb⟩ => ⟨mv0, by rw [hd]; exact he, by rw [hd]; exact rdM_zero _ _, hb⟩
  by_cases h2 : 0 < l.length
  · exact wdecode_go l v w hv (by omega) h2
  · have hl : l = [] := List.eq_nil_of_length_eq_zero (by omega)
    subst hl
    have hd : decode [] = (msg0, 5) := by unfold decode; rw [if_neg (by simp), if_neg (by simp), if_pos (.inr rfl)]
    exact (wdecode_nil v w hv).mono fun e w' ⟨he, hb⟩ => ⟨mv0, by rw [hd]; exact he, by rw [hd]; exact rdM_zero _ _, hb⟩
end Go.Proofs.Ytegdpjoncjmdeaa
