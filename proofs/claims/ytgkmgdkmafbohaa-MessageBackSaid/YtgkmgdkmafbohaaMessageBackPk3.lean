/- MessageBack: the statement, from its walk: for every input that reads as data the call returns true, and the input reads as it did. -/
import Derived.Deep.CutBlock
import Derived.Test.YtgkmgdkmafbohaaRows
import Derived.Outline
import Derived.BigGuardPart
import Derived.BigQuiet
import Derived.Deep.QuietTactic
import Derived.WalkSmall
import Derived.Deep.RegionHeld3
import Derived.Test.YtgkmgdkmafbohaaMessageBackPk2
/- wire.Decode: what it computes. -/
set_option linter.unusedVariables false
set_option linter.unusedSimpArgs false
namespace Go.Proofs.Ytgkmgdkmafbohaa
open Go Go.RowKit

theorem many_all {α : Type} {p : α → Prop} (f : Rdr → α × Rdr) (hf : ∀ r, p (f r).1) : ∀ (k : Nat) (r : Rdr), ∀ x ∈ (Rdr.many f k r).1, p x
  | 0, r => by simp [Rdr.many_zero]
  | k + 1, r => by
    cases h : r.short
    · rw [Rdr.many_next f k r h]
      intro x hx
      rcases List.mem_cons.1 hx with rfl | hx
      · exact hf r
      · exact many_all f hf k _ x hx
    · rw [Rdr.many_short f _ r h]; simp
theorem list_len {α : Type} (f : Rdr → α × Rdr) (r : Rdr) : (Rdr.list f r).1.length ≤ 255 := by
  have h1 := Rdr.many_len f (r.num 1).1.toNat (r.num 1).2
  have h2 := (r.num_bound 1).2
  have h3 : (Rdr.list f r).1 = (Rdr.many f (r.num 1).1.toNat (r.num 1).2).1 := rfl
  rw [h3]; simp at h2; omega
theorem text_len (r : Rdr) : r.text.1.length ≤ 255 := by
  have h1 := (r.num 1).2.take_len (r.num 1).1.toNat
  have h2 := (r.num_bound 1).2
  have h3 : r.text.1 = ((r.num 1).2.take (r.num 1).1.toNat).1 := rfl
  rw [h3]; simp at h2; omega
theorem header_len (r : Rdr) : r.header.1.bs.length + r.header.1.ps.length ≤ 9223372036854775807 := by
  have h1 := list_len (fun r => r.take 32) ((r.num 1).2.num 3).2
  have h2 := list_len (fun r => r.take 32) ((r.num 1).2.num 3).2.digests.2
  have e1 : r.header.1.bs = (Rdr.list (fun r => r.take 32) ((r.num 1).2.num 3).2).1 := rfl
  have e2 : r.header.1.ps = (Rdr.list (fun r => r.take 32) ((r.num 1).2.num 3).2.digests.2).1 := rfl
  rw [e1, e2]; omega
theorem decM_ok (l : Bytes) : MsgOk (decM l).1 := by
  unfold decM
  simp only
  generalize hr : ((((⟨l, false⟩ : Rdr).num 1).2.num 1).2.num 1).2 = r
  generalize ((⟨l, false⟩ : Rdr).num 1).1 = k
  generalize (((⟨l, false⟩ : Rdr).num 1).2.num 1).1 = f
  generalize ((((⟨l, false⟩ : Rdr).num 1).2.num 1).2.num 1).1 = t
  unfold Rdr.body
  simp only
  split
  · exact ⟨fun x hx => Nat.le_trans (many_all (p := fun t => t.length ≤ 255) Rdr.text (fun r => text_len r) _ _ x hx) (by decide), Nat.zero_le _, Nat.zero_le _⟩
  split
  · exact ⟨fun x hx => absurd hx (by simp [msg0, bat0]), header_len r, Nat.zero_le _⟩
  split
  · exact ⟨fun x hx => absurd hx (by simp [msg0, bat0]), Nat.zero_le _, Nat.zero_le _⟩
  split
  · exact ⟨fun x hx => absurd hx (by simp [msg0, bat0]), Nat.zero_le _, header_len r⟩
  split
  · exact ⟨fun x hx => absurd hx (by simp [msg0, bat0]), Nat.zero_le _, Nat.zero_le _⟩
  · exact ⟨fun x hx => absurd hx (by simp [msg0, bat0]), Nat.zero_le _, Nat.zero_le _⟩
theorem msg0_cells : msgCells msg0 mv0 = zeroMsg := rfl
set_option maxRecDepth 100000 in
set_option maxHeartbeats 4000000 in
theorem wdecode_size (ad : Option Addr) (n cap : Nat) (w : World) (h : 4000 < n) :
    Calls Try.prog 27 #[.slice ad n cap] w fun e w' => e = .returned (.tuple #[.agg (msgCells msg0 mv0).toArray, .int .i64 1]) ∧ Below w.heap.size w w' := by
  have h1 : (4000 : Int) < (n : Int) := by omega
  rw [msg0_cells]
  go_enter Try.func27, Try.ntmps27
  go_wp2_with (refine wpList_store_new rfl 42 _ _ rfl zeroMsg 42 zeroMsg rfl rfl (by kernel_rfl) rfl rfl ?_; intro w2 hb2 hB2 hs2)
  exact bodyPost_ret (results_cell_tmp Try.results27 _ w2 w.heap.size 42 zeroMsg _ _ rfl rfl hb2 Try.underlying42 rfl (by kernel_rfl)) rfl ⟨rfl, hB2⟩
theorem rdM_zero (G : Nat → Prop) (w : World) : RdM G w mv0 msg0 := ⟨RdS.nil _ _ _, RdS.nil _ _ _, RdS.nil _ _ _, RdS.nil _ _ _, RdS.nil _ _ _, RdS.nil _ _ _, RdS.nil _ _ _⟩
theorem num_zero_of_nil (r : Rdr) (h : r.rest = []) : (r.num 1).1 = 0 := by
  unfold Rdr.num
  rw [Rdr.take_ends (by unfold Rdr.ends; simp [h])]; rfl
set_option maxRecDepth 100000 in
set_option maxHeartbeats 8000000 in
theorem wdecode_go {G : Nat → Prop} (l : Bytes) (v : Value) (w : World) (hv : RdB G w v l) (hl : l.length ≤ 4000) (h0 : 0 < l.length) :
    Calls Try.prog 27 #[v] w fun e w' => ∃ mv, e = .returned (.tuple #[.agg (msgCells (decode l).1 mv).toArray, .int .i64 (decode l).2]) ∧ RdM (fun b => w.heap.size ≤ b) w' mv (decode l).1 ∧ Below w.heap.size w w' := by
  obtain ⟨ad, cap, rfl, -, -⟩ := hv.form
  have h1 : ¬ (4000 : Int) < (l.length : Int) := by omega
  have HV := Lib.hid (hv.low (by decide))
  obtain ⟨w1, hw1⟩ : ∃ w1, w1 = (w.alloc (.cells zeroMsg.toArray 42)).alloc (.cells #[.slice ad l.length cap, .bool false] 75) := ⟨_, rfl⟩
  have hb1 : Below w.heap.size w w1 := by rw [hw1]; exact ((Below.refl _ _).alloc (Nat.le_refl _) _).alloc (by simp) _
  have bZ : BoxAt w1 w.heap.size zeroMsg 42 := by rw [hw1]; exact (BoxAt.new w zeroMsg _).alloc _
  have bR : BoxAt w1 (w.heap.size + 1) [.slice ad l.length cap, .bool false] 75 := by rw [hw1]; exact BoxAt.newAt (w.alloc _) [_, _] _ (by simp)
  have hr1 : RdrAt (w.heap.size + 1) w1 ⟨l, false⟩ := ⟨_, bR, HV.out.below hb1 (fun b hb => by omega)⟩
  have hkb := (⟨l, false⟩ : Rdr).num_bound 1
  have HB1 := Lib.hid hb1
  have HBZ := Lib.hid bZ
  clear hv
  go_enter Try.func27, Try.ntmps27
  go_upto_region 4 with fail
  rw [← hw1]
  clear hw1 hb1 bZ bR
  go_wp2_with fail
  refine (rnum_any _ _ 1 _ hr1 (by omega)).mono ?_
  rintro e w2 ⟨rfl, hr2, hg2⟩
  have hK : ((⟨l, false⟩ : Rdr).num 1).1 = decK l := rfl
  generalize hR2 : ((⟨l, false⟩ : Rdr).num 1).2 = r2 at *
  rw [hK] at hkb ⊢
  have hD : decode l = if 4000 < l.length then (msg0, 1) else if 0 < l.length ∧ (decK l < 1 ∨ 5 < decK l) then (msg0, 3) else if (decM l).2.short = true ∨ l.length = 0 then (msg0, 5) else if 0 < (decM l).2.rest.length then (msg0, 4) else if msgCode (decM l).1 ≠ 0 then (msg0, msgCode (decM l).1) else ((decM l).1, 0) := rfl
  rw [if_neg (by omega)] at hD
  have hM : decM l = Rdr.body { msg0 with k := decK l, f := (r2.num 1).1, t := ((r2.num 1).2.num 1).1 } ((r2.num 1).2.num 1).2 := by rw [← hR2]; rfl
  have HD := Lib.hid hD
  have HM := Lib.hid hM
  have bZ2 := HBZ.out.grown hg2 (fun e => by simp only [Option.some.injEq] at e; omega)
  have HBZ2 := Lib.hid bZ2
  have hB2 : Below w.heap.size w w2 := HB1.out.grown hg2 (by have := HB1.out.size; omega) (fun k e => by simp only [Option.some.injEq] at e; omega)
  have HB2 := Lib.hid hB2
  have Hr2 := Lib.hid hr2
  have zz := hr2.lt
  clear hD hM hR2 hK bZ2 hB2 hr2 hg2 hr1
  generalize hkk : decK l = k at *
  have HKK := Lib.hid hkk
  clear hkk
  go_upto_region 5 with (refine wpList_store_new rfl 42 _ _ rfl (msgCells { msg0 with k := k } mv0) 42 zeroMsg rfl rfl (by kernel_rfl) rfl rfl ?_; intro w3 hb3 hB3 hs3)
  have HBX := Lib.hid hb3
  have HBZ3 := Lib.hid (HBZ2.out.belowS hB3)
  have HB3 := Lib.hid (HB2.out.trans (hB3.mono HB2.out.size))
  have hr3 := Hr2.out.below hB3
  have p2 : w3.cell? ⟨w2.heap.size, 2, none⟩ = some (.int .i64 k) := hb3.cell 2 rfl
  have hX : w.heap.size + 1 < w2.heap.size := zz
  generalize hXX : w2.heap.size = X at *
  clear hXX hb3 hB3 hs3 HBZ HBZ2 HB1 HB2 Hr2
  by_cases hbad : 0 < l.length ∧ (k < 1 ∨ 5 < k)
  · have HF := Lib.hid (show decode l = (msg0, 3) by rw [HD.out, if_pos hbad])
    obtain ⟨i0, hk⟩ := hbad
    have i1 : (0 : Int) < (l.length : Int) := by omega
    clear hr3
    rcases hk with hk | hk
    · go_wp2_with (refine wpList_store_box rfl 42 _ _ rfl w.heap.size zeroMsg rfl rfl 42 zeroMsg HBZ3.out (by kernel_rfl) rfl rfl ?_; intro w4 hb4 hB4 hoth hs4)
      exact bodyPost_ret (results_cell_tmp Try.results27 _ w4 w.heap.size 42 zeroMsg _ _ rfl rfl hb4 Try.underlying42 rfl (by kernel_rfl)) rfl ⟨mv0, by rw [HF.out]; rfl, by rw [HF.out]; exact rdM_zero _ _, HB3.out.trans hB4⟩
    · have hk1 : ¬ k < 1 := by omega
      go_wp2_with (refine wpList_store_box rfl 42 _ _ rfl w.heap.size zeroMsg rfl rfl 42 zeroMsg HBZ3.out (by kernel_rfl) rfl rfl ?_; intro w4 hb4 hB4 hoth hs4)
      exact bodyPost_ret (results_cell_tmp Try.results27 _ w4 w.heap.size 42 zeroMsg _ _ rfl rfl hb4 Try.underlying42 rfl (by kernel_rfl)) rfl ⟨mv0, by rw [HF.out]; rfl, by rw [HF.out]; exact rdM_zero _ _, HB3.out.trans hB4⟩
  · have k1 : 1 ≤ k := by omega
    have k5 : k ≤ 5 := by omega
    have HF := Lib.hid (show decode l = if (decM l).2.short = true ∨ l.length = 0 then (msg0, 5) else if 0 < (decM l).2.rest.length then (msg0, 4) else if msgCode (decM l).1 ≠ 0 then (msg0, msgCode (decM l).1) else ((decM l).1, 0) by rw [HD.out, if_neg hbad])
    have i1 : (0 : Int) < (l.length : Int) := by omega
    have hk1 : ¬ k < 1 := by omega
    have hk5 : ¬ 5 < k := by omega
    have zX3 := HBX.out.lt
    clear hbad HD
    go_wp2_with fail
    refine (rnum_any _ _ 1 _ hr3 (by omega)).mono ?_
    rintro e w4 ⟨rfl, hr4, hg4⟩
    go_wp2_with fail
    refine (rnum_any _ _ 1 _ hr4 (by omega)).mono ?_
    rintro e w5 ⟨rfl, hr5, hg5⟩
    have hg35 := grownBy_trans hg4 hg5 (.inl rfl)
    have bX5 := HBX.out.grown hg35 (fun e => by simp only [Option.some.injEq] at e; omega)
    have bZ5 := HBZ3.out.grown hg35 (fun e => by simp only [Option.some.injEq] at e; omega)
    have p0 := bX5.cell 0 rfl
    have p1 := bX5.cell 1 rfl
    have p2 := bX5.cell 2 rfl
    have f0 := bX5.free 0
    have f1 := bX5.free 1
    generalize hf : (r2.num 1).1 = f at *
    generalize ht : ((r2.num 1).2.num 1).1 = t at *
    generalize hR5 : ((r2.num 1).2.num 1).2 = r5 at *
    have HBX5 := Lib.hid ((bX5.set 0 (.int .i64 f)).set 1 (.int .i64 t))
    have HBZ5 := Lib.hid ((bZ5.setOther (p := ⟨X, 0, none⟩) (by simp; omega) (.int .i64 f)).setOther (p := ⟨X, 1, none⟩) (by simp; omega) (.int .i64 t))
    have HB5 := Lib.hid (((HB3.out.grown hg35 (by have := HB3.out.size; omega) (fun k e => by simp only [Option.some.injEq] at e; omega)).setCell (p := ⟨X, 0, none⟩) (by simp; omega) (.int .i64 f)).setCell (p := ⟨X, 1, none⟩) (by simp; omega) (.int .i64 t))
    have Hr5 := Lib.hid ((hr5.set (b := X) (j := 0) hX (.int .i64 f)).set (b := X) (j := 1) hX (.int .i64 t))
    obtain ⟨w6, hw6⟩ : ∃ w6, w6 = (w5.setCell ⟨X, 0, none⟩ (.int .i64 f)).setCell ⟨X, 1, none⟩ (.int .i64 t) := ⟨_, rfl⟩
    clear hf ht hR5 bX5 bZ5 hr3 hr4 hr5 hg35 hg4 hg5 HBX HBZ3 HB3
    go_upto_block 0 with fail
    rw [← hw6] at HBX5 HBZ5 HB5 Hr5 ⊢
    clear hw6
    have q2 := HBX5.out.cell 2 rfl
    have zX := HBX5.out.lt
    have zR := Hr5.out.lt
    have z6 := HB5.out.size
    go_cut [] (fun wx => ∃ mv, BoxAt wx X (msgCells (decM l).1 mv) 42 ∧ RdM (fun b => X < b) wx mv (decM l).1 ∧ RdrAt (w.heap.size + 1) wx (decM l).2 ∧ BoxAt wx w.heap.size zeroMsg 42 ∧ Below w.heap.size w wx)
    case first =>
      obtain rfl | rfl | rfl | rfl | rfl : k = 1 ∨ k = 2 ∨ k = 3 ∨ k = 4 ∨ k = 5 := by omega
      · have HMM := Lib.hid (show decM l = (⟨f, t, 1, r5.batch.1, hdr0, slt0, crt0, 0⟩, r5.batch.2) by rw [HM.out]; rfl)
        clear HM k1 k5 hk1 hk5
        go_wp2_with fail
        refine (rbatch_any _ _ _ Hr5.out).mono ?_
        rintro e w7 ⟨v7, rfl, hown7, hr7, hg7⟩
        obtain ⟨ad7, cap7, rfl⟩ := ownsRow_form hown7
        have bX7 := HBX5.out.grown hg7 (fun e => by simp only [Option.some.injEq] at e; omega)
        have hB7 : Below w.heap.size w w7 := HB5.out.grown hg7 z6 (fun k e => by simp only [Option.some.injEq] at e; omega)
        have c3 := bX7.cell 3 rfl
        have c4 := bX7.cell 4 rfl
        have c5 := bX7.cell 5 rfl
        have g3 := bX7.free 3
        have g4 := bX7.free 4
        have g5 := bX7.free 5
        have HBX7 := Lib.hid (((bX7.set 3 (.int .i64 r5.batch.1.a)).set 4 (.int .i64 r5.batch.1.n)).set 5 (.slice ad7 r5.batch.1.txs.length cap7))
        have HBZ7 := Lib.hid ((((HBZ5.out.grown hg7 (fun e => by simp only [Option.some.injEq] at e; omega)).setOther (p := ⟨X, 3, none⟩) (by simp; omega) (.int .i64 r5.batch.1.a)).setOther (p := ⟨X, 4, none⟩) (by simp; omega) (.int .i64 r5.batch.1.n)).setOther (p := ⟨X, 5, none⟩) (by simp; omega) (.slice ad7 r5.batch.1.txs.length cap7))
        have HB7 := Lib.hid (((hB7.setCell (p := ⟨X, 3, none⟩) (by simp; omega) (.int .i64 r5.batch.1.a)).setCell (p := ⟨X, 4, none⟩) (by simp; omega) (.int .i64 r5.batch.1.n)).setCell (p := ⟨X, 5, none⟩) (by simp; omega) (.slice ad7 r5.batch.1.txs.length cap7))
        have HR7 := Lib.hid (((hr7.set (b := X) (j := 3) hX (.int .i64 r5.batch.1.a)).set (b := X) (j := 4) hX (.int .i64 r5.batch.1.n)).set (b := X) (j := 5) hX (.slice ad7 r5.batch.1.txs.length cap7))
        have HO7 := Lib.hid (RdS.of_owns (f := fun s : Bytes => strV s) (G := fun b => X < b) (ownsRow_setCell (ownsRow_setCell (ownsRow_setCell hown7 (p := ⟨X, 3, none⟩) zX (.int .i64 r5.batch.1.a)) (p := ⟨X, 4, none⟩) zX (.int .i64 r5.batch.1.n)) (p := ⟨X, 5, none⟩) zX (.slice ad7 r5.batch.1.txs.length cap7)) (fun b hb => by omega))
        clear bX7 hB7 hown7 hr7 hg7
        go_wp2_with fail
        go_meet
        exact ⟨{ mv0 with tx := .slice ad7 r5.batch.1.txs.length cap7 }, by rw [HMM.out]; exact HBX7.out, by rw [HMM.out]; exact rdM_bundle _ _ _ HO7.out, by rw [HMM.out]; exact HR7.out, HBZ7.out, HB7.out⟩
      -- KIND 2
      · have HMM := Lib.hid (show decM l = (⟨f, t, 2, bat0, r5.header.1, slt0, crt0, 0⟩, r5.header.2) by rw [HM.out]; rfl)
        clear HM k1 k5 hk1 hk5
        go_wp2_with fail
        refine (rheader_any _ _ _ Hr5.out).mono ?_
        rintro e w7 ⟨vb, vp, rfl, hvb, hvp, hr7, hg7⟩
        obtain ⟨adb, capb, rfl, -, -⟩ := hvb.form
        obtain ⟨adp, capp, rfl, -, -⟩ := hvp.form
        have bX7 := HBX5.out.grown hg7 (fun e => by simp only [Option.some.injEq] at e; omega)
        have hB7 : Below w.heap.size w w7 := HB5.out.grown hg7 z6 (fun k e => by simp only [Option.some.injEq] at e; omega)
        have c6 := bX7.cell 6 rfl
        have g6 := bX7.free 6
        have c7 := bX7.cell 7 rfl
        have g7 := bX7.free 7
        have c8 := bX7.cell 8 rfl
        have g8 := bX7.free 8
        have c9 := bX7.cell 9 rfl
        have g9 := bX7.free 9
        have HBX7 := Lib.hid (((((bX7.set 6 (.int .i64 r5.header.1.a)).set 7 (.int .i64 r5.header.1.r)).set 8 (.slice adb r5.header.1.bs.length capb)).set 9 (.slice adp r5.header.1.ps.length capp)))
        have HBZ7 := Lib.hid ((((((HBZ5.out.grown hg7 (fun e => by simp only [Option.some.injEq] at e; omega)).setOther (p := ⟨X, 6, none⟩) (by simp; omega) (.int .i64 r5.header.1.a)).setOther (p := ⟨X, 7, none⟩) (by simp; omega) (.int .i64 r5.header.1.r)).setOther (p := ⟨X, 8, none⟩) (by simp; omega) (.slice adb r5.header.1.bs.length capb)).setOther (p := ⟨X, 9, none⟩) (by simp; omega) (.slice adp r5.header.1.ps.length capp)))
        have HB7 := Lib.hid (((((hB7.setCell (p := ⟨X, 6, none⟩) (by simp; omega) (.int .i64 r5.header.1.a)).setCell (p := ⟨X, 7, none⟩) (by simp; omega) (.int .i64 r5.header.1.r)).setCell (p := ⟨X, 8, none⟩) (by simp; omega) (.slice adb r5.header.1.bs.length capb)).setCell (p := ⟨X, 9, none⟩) (by simp; omega) (.slice adp r5.header.1.ps.length capp)))
        have HR7 := Lib.hid (((((hr7.set (b := X) (j := 6) hX (.int .i64 r5.header.1.a)).set (b := X) (j := 7) hX (.int .i64 r5.header.1.r)).set (b := X) (j := 8) hX (.slice adb r5.header.1.bs.length capb)).set (b := X) (j := 9) hX (.slice adp r5.header.1.ps.length capp)))
        have HVB := Lib.hid (hvb.keep (Keep.setCell' (Keep.setCell' (Keep.setCell' (Keep.setCell (p := ⟨X, 6, none⟩) (by simp; omega) (.int .i64 r5.header.1.a)) (p := ⟨X, 7, none⟩) (by simp; omega) (.int .i64 r5.header.1.r)) (p := ⟨X, 8, none⟩) (by simp; omega) (.slice adb r5.header.1.bs.length capb)) (p := ⟨X, 9, none⟩) (by simp; omega) (.slice adp r5.header.1.ps.length capp)) (G' := fun b => X < b) (fun b hb => by omega))
        have HVP := Lib.hid (hvp.keep (Keep.setCell' (Keep.setCell' (Keep.setCell' (Keep.setCell (p := ⟨X, 6, none⟩) (by simp; omega) (.int .i64 r5.header.1.a)) (p := ⟨X, 7, none⟩) (by simp; omega) (.int .i64 r5.header.1.r)) (p := ⟨X, 8, none⟩) (by simp; omega) (.slice adb r5.header.1.bs.length capb)) (p := ⟨X, 9, none⟩) (by simp; omega) (.slice adp r5.header.1.ps.length capp)) (G' := fun b => X < b) (fun b hb => by omega))
        clear bX7 hB7 hvb hvp hr7 hg7
        go_wp2_with fail
        go_meet
        exact ⟨{ mv0 with bs := .slice adb r5.header.1.bs.length capb, ps := .slice adp r5.header.1.ps.length capp }, by rw [HMM.out]; exact HBX7.out, by rw [HMM.out]; exact rdM_offer _ _ _ HVB.out HVP.out, by rw [HMM.out]; exact HR7.out, HBZ7.out, HB7.out⟩
      -- END 2
      -- KIND 3
      · have HMM := Lib.hid (show decM l = (⟨f, t, 3, bat0, hdr0, r5.slot.1, crt0, 0⟩, r5.slot.2) by rw [HM.out]; rfl)
        have HSL := Lib.hid (show r5.slot = (⟨(r5.num 1).1, ((r5.num 1).2.num 3).1, (((r5.num 1).2.num 3).2.take 32).1⟩, (((r5.num 1).2.num 3).2.take 32).2) from rfl)
        clear HM k1 k5 hk1 hk5
        go_wp2_with fail
        refine (rnum_any _ _ 1 _ Hr5.out (by omega)).mono ?_
        rintro e w71 ⟨rfl, hr71, hg71⟩
        go_wp2_with fail
        refine (rnum_any _ _ 3 _ hr71 (by omega)).mono ?_
        rintro e w72 ⟨rfl, hr72, hg72⟩
        go_wp2_with fail
        refine (rtake_any _ _ 32 _ hr72 (by omega)).mono ?_
        rintro e w7 ⟨vd, rfl, hvd, hr7, hg73⟩
        have hg712 := grownBy_trans hg71 hg72 (.inl rfl)
        have z72 := hg712.size
        have hg7 := grownBy_trans hg712 hg73 (.inl rfl)
        generalize hsa : (r5.num 1).1 = sa at *
        generalize hsr : ((r5.num 1).2.num 3).1 = sr at *
        generalize hsd : (((r5.num 1).2.num 3).2.take 32).1 = sd at *
        generalize hsq : (((r5.num 1).2.num 3).2.take 32).2 = rq at *
        obtain ⟨add, capd, rfl, -, -⟩ := hvd.form
        have bX7 := HBX5.out.grown hg7 (fun e => by simp only [Option.some.injEq] at e; omega)
        have hB7 : Below w.heap.size w w7 := HB5.out.grown hg7 z6 (fun k e => by simp only [Option.some.injEq] at e; omega)
        have c10 := bX7.cell 10 rfl
        have g10 := bX7.free 10
        have c11 := bX7.cell 11 rfl
        have g11 := bX7.free 11
        have c12 := bX7.cell 12 rfl
        have g12 := bX7.free 12
        have HBX7 := Lib.hid ((((bX7.set 10 (.int .i64 sa)).set 11 (.int .i64 sr)).set 12 (.slice add sd.length capd)))
        have HBZ7 := Lib.hid (((((HBZ5.out.grown hg7 (fun e => by simp only [Option.some.injEq] at e; omega)).setOther (p := ⟨X, 10, none⟩) (by simp; omega) (.int .i64 sa)).setOther (p := ⟨X, 11, none⟩) (by simp; omega) (.int .i64 sr)).setOther (p := ⟨X, 12, none⟩) (by simp; omega) (.slice add sd.length capd)))
        have HB7 := Lib.hid ((((hB7.setCell (p := ⟨X, 10, none⟩) (by simp; omega) (.int .i64 sa)).setCell (p := ⟨X, 11, none⟩) (by simp; omega) (.int .i64 sr)).setCell (p := ⟨X, 12, none⟩) (by simp; omega) (.slice add sd.length capd)))
        have HR7 := Lib.hid ((((hr7.set (b := X) (j := 10) hX (.int .i64 sa)).set (b := X) (j := 11) hX (.int .i64 sr)).set (b := X) (j := 12) hX (.slice add sd.length capd)))
        have HVD := Lib.hid (hvd.keep (Keep.setCell' (Keep.setCell' (Keep.setCell (p := ⟨X, 10, none⟩) (by simp; omega) (.int .i64 sa)) (p := ⟨X, 11, none⟩) (by simp; omega) (.int .i64 sr)) (p := ⟨X, 12, none⟩) (by simp; omega) (.slice add sd.length capd)) (G' := fun b => X < b) (fun b hb => by omega))
        clear bX7 hB7 hvd hr7 hg7 hg71 hg72 hg73 hg712 hr71 hr72 hsa hsr hsd hsq
        go_wp2_with fail
        go_meet
        exact ⟨{ mv0 with d := .slice add sd.length capd }, by rw [HMM.out, HSL.out]; exact HBX7.out, by rw [HMM.out, HSL.out]; exact rdM_vote (b := ⟨sa, sr, sd⟩) _ _ _ HVD.out, by rw [HMM.out, HSL.out]; exact HR7.out, HBZ7.out, HB7.out⟩
      -- END 3
      -- KIND 4
      · obtain ⟨m, hm, hm2⟩ := num1_nat r5.header.2
        have HMM := Lib.hid (show decM l = (⟨f, t, 4, bat0, hdr0, slt0, ⟨r5.header.1, (Rdr.many (fun r => r.num 1) (r5.header.2.num 1).1.toNat (r5.header.2.num 1).2).1⟩, 0⟩, (Rdr.many (fun r => r.num 1) (r5.header.2.num 1).1.toNat (r5.header.2.num 1).2).2) by rw [HM.out]; rfl)
        clear HM k1 k5 hk1 hk5
        go_wp2_with fail
        refine (rheader_any _ _ _ Hr5.out).mono ?_
        rintro e w7 ⟨vb, vp, rfl, hvb, hvp, hr7, hg7⟩
        generalize hch : r5.header.1 = ch at *
        generalize hcr : r5.header.2 = cr at *
        obtain ⟨adb, capb, rfl, -, -⟩ := hvb.form
        obtain ⟨adp, capp, rfl, -, -⟩ := hvp.form
        have z67 := hg7.size
        have bX7 := HBX5.out.grown hg7 (fun e => by simp only [Option.some.injEq] at e; omega)
        have hB7 : Below w.heap.size w w7 := HB5.out.grown hg7 z6 (fun k e => by simp only [Option.some.injEq] at e; omega)
        have c13 := bX7.cell 13 rfl
        have g13 := bX7.free 13
        have c14 := bX7.cell 14 rfl
        have g14 := bX7.free 14
        have c15 := bX7.cell 15 rfl
        have g15 := bX7.free 15
        have c16 := bX7.cell 16 rfl
        have g16 := bX7.free 16
        have HBX7 := Lib.hid (((((bX7.set 13 (.int .i64 ch.a)).set 14 (.int .i64 ch.r)).set 15 (.slice adb ch.bs.length capb)).set 16 (.slice adp ch.ps.length capp)))
        have HBZ7 := Lib.hid ((((((HBZ5.out.grown hg7 (fun e => by simp only [Option.some.injEq] at e; omega)).setOther (p := ⟨X, 13, none⟩) (by simp; omega) (.int .i64 ch.a)).setOther (p := ⟨X, 14, none⟩) (by simp; omega) (.int .i64 ch.r)).setOther (p := ⟨X, 15, none⟩) (by simp; omega) (.slice adb ch.bs.length capb)).setOther (p := ⟨X, 16, none⟩) (by simp; omega) (.slice adp ch.ps.length capp)))
        have HB7 := Lib.hid (((((hB7.setCell (p := ⟨X, 13, none⟩) (by simp; omega) (.int .i64 ch.a)).setCell (p := ⟨X, 14, none⟩) (by simp; omega) (.int .i64 ch.r)).setCell (p := ⟨X, 15, none⟩) (by simp; omega) (.slice adb ch.bs.length capb)).setCell (p := ⟨X, 16, none⟩) (by simp; omega) (.slice adp ch.ps.length capp)))
        have HR7 := Lib.hid (((((hr7.set (b := X) (j := 13) hX (.int .i64 ch.a)).set (b := X) (j := 14) hX (.int .i64 ch.r)).set (b := X) (j := 15) hX (.slice adb ch.bs.length capb)).set (b := X) (j := 16) hX (.slice adp ch.ps.length capp)))
        have HVB := Lib.hid ((hvb.low (by decide)).keep (Keep.setCell' (Keep.setCell' (Keep.setCell' (Keep.setCell (p := ⟨X, 13, none⟩) (by simp; omega) (.int .i64 ch.a)) (p := ⟨X, 14, none⟩) (by simp; omega) (.int .i64 ch.r)) (p := ⟨X, 15, none⟩) (by simp; omega) (.slice adb ch.bs.length capb)) (p := ⟨X, 16, none⟩) (by simp; omega) (.slice adp ch.ps.length capp)) (G' := fun b => X < b ∧ b < w7.heap.size) (fun b hb => by omega))
        have HVP := Lib.hid ((hvp.low (by decide)).keep (Keep.setCell' (Keep.setCell' (Keep.setCell' (Keep.setCell (p := ⟨X, 13, none⟩) (by simp; omega) (.int .i64 ch.a)) (p := ⟨X, 14, none⟩) (by simp; omega) (.int .i64 ch.r)) (p := ⟨X, 15, none⟩) (by simp; omega) (.slice adb ch.bs.length capb)) (p := ⟨X, 16, none⟩) (by simp; omega) (.slice adp ch.ps.length capp)) (G' := fun b => X < b ∧ b < w7.heap.size) (fun b hb => by omega))
        clear bX7 hB7 hvb hvp hr7 hg7 hch hcr
        go_wp2_with fail
        obtain ⟨w8, hw8⟩ : ∃ w8, w8 = ((((w7.setCell ⟨X, 13, none⟩ (.int .i64 ch.a)).setCell ⟨X, 14, none⟩ (.int .i64 ch.r)).setCell ⟨X, 15, none⟩ (.slice adb ch.bs.length capb)).setCell ⟨X, 16, none⟩ (.slice adp ch.ps.length capp)) := ⟨_, rfl⟩
        have hs8 : w8.heap.size = w7.heap.size := by rw [hw8]; simp [World.setCell]
        rw [← hw8] at HBX7 HBZ7 HB7 HR7 HVB HVP ⊢
        clear hw8 c13 c14 c15 c16 g13 g14 g15 g16 q2 HBX5 HBZ5 HB5 Hr5
        refine (rnum_any _ _ 1 _ HR7.out (by omega)).mono ?_
        rintro e w9 ⟨rfl, hr9, hg9⟩
        rw [hm]
        rw [hm, Int.toNat_natCast] at HMM
        generalize hR9 : (cr.num 1).2 = r9 at *
        have nR : ∀ j, some (w.heap.size + 1) = some j → j = w.heap.size + 1 := fun j e => by simp only [Option.some.injEq] at e; omega
        have HBX9 := Lib.hid (HBX7.out.grown hg9 (fun e => by simp only [Option.some.injEq] at e; omega))
        have HBZ9 := Lib.hid (HBZ7.out.grown hg9 (fun e => by simp only [Option.some.injEq] at e; omega))
        have HB9 := Lib.hid (HB7.out.grown hg9 HB7.out.size (fun k e => by have := nR k e; omega))
        have HVB9 := Lib.hid (HVB.out.grownR hg9 (by omega))
        have HVP9 := Lib.hid (HVP.out.grownR hg9 (by omega))
        have Hr9 := Lib.hid hr9
        have z9 := hg9.size
        clear hR9 hm hr9 hg9 HBX7 HBZ7 HB7 HR7 HVB HVP
        go_wp2_with fail
        go_loopw [6] (fun i wx => ∃ (k : Nat) (L : List Int) (vt : Value) (rk : Rdr), k ≤ m ∧ i = .int .i64 k ∧ BoxAt wx X (msgCells ⟨f, t, 4, bat0, hdr0, slt0, ⟨ch, L⟩, 0⟩ { mv0 with cbs := .slice adb ch.bs.length capb, cps := .slice adp ch.ps.length capp, vs := vt }) 42 ∧ BoxAt wx w.heap.size zeroMsg 42 ∧
            wx.ownsRow w7.heap.size 3 1 vt L.length (L.map (Value.int .i64)) ∧ L.length + k ≤ m ∧ w7.heap.size ≤ wx.heap.size ∧ RdrAt (w.heap.size + 1) wx rk ∧ Below w.heap.size w wx ∧ RdBB (fun b => X < b ∧ b < w7.heap.size) wx (.slice adb ch.bs.length capb) ch.bs ∧ RdBB (fun b => X < b ∧ b < w7.heap.size) wx (.slice adp ch.ps.length capp) ch.ps ∧
            Hid (decM l = (⟨f, t, 4, bat0, hdr0, slt0, ⟨ch, L ++ (Rdr.many (fun r => r.num 1) k rk).1⟩, 0⟩, (Rdr.many (fun r => r.num 1) k rk).2))) (fun i _ => (intOf i).toNat)
        case atStart => exact ⟨m, [], .slice none 0 0, r9, Nat.le_refl _, rfl, HBX9.out, HBZ9.out, World.ownsRow_nil _ _ _ _, by simp, by omega, Hr9.out, HB9.out, HVB9.out, HVP9.out, Lib.hid HMM.out⟩
        case round =>
          clear HBX9 HBZ9 HB9 Hr9 HVB9 HVP9
          obtain ⟨k, L, vt, rk, hk, rfl, bX, bZ, hown, hLk, hLz, hr, hB, hvb, hvp, HEQ⟩ := hrel
          obtain ⟨adv, capv, rfl⟩ := ownsRow_form hown
          have c1 : wr.cell? ⟨w.heap.size + 1, 1, none⟩ = some (.bool rk.short) := by obtain ⟨v, hb, -⟩ := hr; exact hb.cell 1 rfl
          have HBX := Lib.hid bX
          have HBZ := Lib.hid bZ
          have HO := Lib.hid hown
          have Hr := Lib.hid hr
          have HB := Lib.hid hB
          have HVB := Lib.hid hvb
          have HVP := Lib.hid hvp
          have hvlt := hown.lt
          have zXr := bX.lt
          have zB := hB.size
          by_cases hstop : k = 0 ∨ rk.short = true
          · have HF := Lib.hid (show decM l = (⟨f, t, 4, bat0, hdr0, slt0, ⟨ch, L⟩, 0⟩, rk) by
              rw [HEQ.out]
              rcases hstop with e | e
              · subst e; rw [Rdr.many_zero]; simp
              · rw [Rdr.many_short _ _ _ e]; simp)
            have HRV : Hid (RdI (fun b => X < b) wr (.slice adv L.length capv) L) := Lib.hid (RdS.of_owns (f := Value.int .i64) hown (fun b hb => by omega))
            clear bX bZ hown hr hB hvb hvp HEQ hvlt
            rcases Nat.eq_zero_or_pos k with e | e1
            · subst e
              clear hstop c1
              go_wp2_with fail
              go_meet
              exact ⟨{ mv0 with cbs := .slice adb ch.bs.length capb, cps := .slice adp ch.ps.length capp, vs := .slice adv L.length capv }, by rw [HF.out]; exact HBX.out, by rw [HF.out]; exact rdM_proof (b := ⟨ch, L⟩) _ _ _ (HVB.out.mono (fun b hb => hb.1)) (HVP.out.mono (fun b hb => hb.1)) HRV.out, by rw [HF.out]; exact Hr.out, HBZ.out, HB.out⟩
            · have e2 : rk.short = true := by rcases hstop with e | e; omega; exact e
              have k1 : (0 : Int) < (k : Int) := by omega
              rw [e2] at c1
              clear hstop e2
              go_wp2_with fail
              go_meet
              exact ⟨{ mv0 with cbs := .slice adb ch.bs.length capb, cps := .slice adp ch.ps.length capp, vs := .slice adv L.length capv }, by rw [HF.out]; exact HBX.out, by rw [HF.out]; exact rdM_proof (b := ⟨ch, L⟩) _ _ _ (HVB.out.mono (fun b hb => hb.1)) (HVP.out.mono (fun b hb => hb.1)) HRV.out, by rw [HF.out]; exact Hr.out, HBZ.out, HB.out⟩
          · obtain ⟨j, rfl⟩ : ∃ j, k = j + 1 := ⟨k - 1, by omega⟩
            have hsh : rk.short = false := by cases q : rk.short; rfl; exact absurd (.inr q) hstop
            have k1 : (0 : Int) < ((j + 1 : Nat) : Int) := by omega
            rw [hsh] at c1
            have HF := Lib.hid (show decM l = (⟨f, t, 4, bat0, hdr0, slt0, ⟨ch, (L ++ [(rk.num 1).1]) ++ (Rdr.many (fun r => r.num 1) j (rk.num 1).2).1⟩, 0⟩, (Rdr.many (fun r => r.num 1) j (rk.num 1).2).2) by rw [HEQ.out, Rdr.many_next _ _ _ hsh]; simp)
            have HNB := Lib.hid (rk.num_bound 1)
            have x17 : wr.cell? ⟨X, 17, none⟩ = some (.slice adv L.length capv) := bX.cell 17 rfl
            have f17 := bX.free 17
            have lk : L.length ≤ 256 := by omega
            have nXR : X ≠ w.heap.size + 1 := by omega
            clear bX bZ hown hr hB hvb hvp hstop hsh HEQ
            have HH := Lib.hid hLk
            clear hLk
            have hbs1 : ∀ (w : World) (x : Int), (Instr.buildSlice 38 1 #[(0, .int .i64 x)]).run Try.prog w = .ok (.slice (some ⟨w.heap.size, 0, none⟩) 1 1) (w.alloc (.cells #[.int .i64 x] 3)) := fun _ _ => by kernel_rfl
            have HBS := Lib.hid hbs1
            clear hbs1
            go_wp2_with fail
            have hbs1 := HBS.out
            refine wp_region_any (by kernel_rfl) ?_
            change wpAny _ _ _ _ _ _ _ (World.drew _)
            refine wpAny_take (i := 0) (v := .pointer (some ⟨X, 13, none⟩)) rfl (by kernel_rfl) (by kernel_rfl) (by kernel_rfl) (fun _ _ _ h => h) (Or.inl ⟨by rfl, fun w => ?_⟩) ?_
            · go_simp
            try simp only [Act.put, List.setIfInBounds_toArray, List.set_cons_zero, List.set_cons_succ]
            refine wpAny_take (i := 1) (v := .pointer (some ⟨X, 17, none⟩)) rfl (by kernel_rfl) (by kernel_rfl) (by kernel_rfl) (fun _ _ _ h => h) (Or.inl ⟨by rfl, fun w => ?_⟩) ?_
            · go_simp
            try simp only [Act.put, List.setIfInBounds_toArray, List.set_cons_zero, List.set_cons_succ]
            refine wpAny_take (i := 3) (v := .pointer (some ⟨w.heap.size + 1, 0, none⟩)) rfl (by kernel_rfl) (by kernel_rfl) (by kernel_rfl) (fun _ _ _ h => h) (Or.inl ⟨by rfl, fun w => ?_⟩) ?_
            · go_simp
            try simp only [Act.put, List.setIfInBounds_toArray, List.set_cons_zero, List.set_cons_succ]
            refine wpAny_ready (rs := [2, 4]) (by kernel_rfl) (by simp) ?_
            refine AllReady.cons rfl (fun K hK => ?_) ?_
            · rw [if_pos (by rfl)]
              go_simp
              refine hK _ _ ?_
              clear hK K
              try simp only [Act.put, List.setIfInBounds_toArray, List.set_cons_zero, List.set_cons_succ]
              refine wpAny_ready (rs := [4]) (by kernel_rfl) (by simp) ?_
              refine AllReady.cons rfl (fun K hK => ?_) ?_
              · rw [if_pos (by rfl)]
                go_simp
                go_at_call 41
                refine (rnum_any _ rk 1 _ (Hr.out.below (Below.refl _ _).drew) (by omega)).mono ?_
                rintro e w10 ⟨rfl, hr10, hg10⟩
                generalize hx10 : (rk.num 1).1 = x10 at *
                generalize hq10 : (rk.num 1).2 = q10 at *
                clear hx10 hq10
                have Hg10 := Lib.hid (grownBy_trans (grownBy_of_below (Below.refl wr.heap.size wr).drew _) hg10 (.inl rfl))
                have HBX10 := Lib.hid (HBX.out.grown Hg10.out (fun e => by simp only [Option.some.injEq] at e; omega))
                have HO10 := Lib.hid (ownsRow_grown HO.out Hg10.out (fun k e => by simp only [Option.some.injEq] at e; omega))
                have y17 : w10.cell? ⟨X, 17, none⟩ = some (.slice adv L.length capv) := HBX10.out.cell 17 rfl
                have z10 := HBX10.out.lt
                have zs10 := Hg10.out.size
                have Hr10 := Lib.hid hr10
                clear hr10 hg10
                refine hK _ _ ?_
                clear hK K
                try simp only [Act.put, List.setIfInBounds_toArray, List.set_cons_zero, List.set_cons_succ]
                refine wpAny_ready (rs := [5]) (by kernel_rfl) (by simp) ?_
                refine AllReady.cons rfl (fun K hK => ?_) ?_
                · rw [if_pos (by rfl)]
                  refine wp_build1 _ (by rfl) (fun w => hbs1 w x10) (by rfl) ?_
                  refine hK _ _ ?_
                  clear hK K
                  try simp only [Act.put, List.setIfInBounds_toArray, List.set_cons_zero, List.set_cons_succ]
                  refine wpAny_ready (rs := [6]) (by kernel_rfl) (by simp) ?_
                  refine AllReady.cons rfl (fun K hK => ?_) ?_
                  · rw [if_pos (by rfl)]
                    refine wp_append_oneK _ _ _ (by rfl) elemI w7.heap.size (.slice adv L.length capv) L.length _ (by rfl) (by exact HO10.out.alloc _) _ 3 [.int .i64 x10] (by rfl) (by exact BoxAt.new _ [_] _) rfl (by simp [Value.oneCell']) (by unfold maxLen; omega) (by omega) (by simp; omega) ?_
                    intro g cap3 w11 hown11 hgr hat hlt11
                    have bX11 := ((HBX10.out).alloc (.cells #[.int .i64 x10] 3)).grown (w' := w11) hgr (fun e => by have := (hvlt _ e).1; omega)
                    have z17 : w11.cell? ⟨X, 17, none⟩ = some (.slice adv L.length capv) := bX11.cell 17 rfl
                    have f17 := bX11.free 17
                    refine hK _ _ ?_
                    clear hK K
                    try simp only [Act.put, List.setIfInBounds_toArray, List.set_cons_zero, List.set_cons_succ]
                    refine wpAny_take (i := 7) (v := .pointer (some ⟨X, 13, none⟩)) rfl (by kernel_rfl) (by kernel_rfl) (by kernel_rfl) (fun _ _ _ h => h) (Or.inl ⟨by rfl, fun w => ?_⟩) ?_
                    · go_simp
                    try simp only [Act.put, List.setIfInBounds_toArray, List.set_cons_zero, List.set_cons_succ]
                    refine wpAny_take (i := 8) (v := .pointer (some ⟨X, 17, none⟩)) rfl (by kernel_rfl) (by kernel_rfl) (by kernel_rfl) (fun _ _ _ h => h) (Or.inl ⟨by rfl, fun w => ?_⟩) ?_
                    · go_simp
                    try simp only [Act.put, List.setIfInBounds_toArray, List.set_cons_zero, List.set_cons_succ]
                    refine wpAny_ready (rs := [9]) (by kernel_rfl) (by simp) ?_
                    refine AllReady.cons rfl (fun K hK => ?_) ?_
                    · rw [if_pos (by rfl)]
                      go_simp
                      refine hK _ _ ?_
                      clear hK K
                      try simp only [Act.put, List.setIfInBounds_toArray, List.set_cons_zero, List.set_cons_succ]
                      refine wpAny_done (by kernel_rfl) ?_ _
                      have hrow : ∀ k, (Value.slice adv L.length capv).ownBlock = some k → w7.heap.size ≤ k := fun k e => (hvlt k e).1
                      have nR : ∀ j, some (w.heap.size + 1) = some j → j = w.heap.size + 1 := fun j e => by simp only [Option.some.injEq] at e; omega
                      have HB11 := Lib.hid (bX11.set 17 (.slice (some ⟨g, 0, none⟩) (L.length + 1) cap3))
                      have HZ11 := Lib.hid ((((HBZ.out.grown Hg10.out (fun e => by simp only [Option.some.injEq] at e; omega)).alloc (.cells #[.int .i64 x10] 3)).grown hgr (fun e => by have := hrow _ e; omega)).setOther (p := ⟨X, 17, none⟩) (by simp; omega) (.slice (some ⟨g, 0, none⟩) (L.length + 1) cap3))
                      have HO11 := Lib.hid (ownsRow_setCell (p := ⟨X, 17, none⟩) hown11 (by simp; omega) (.slice (some ⟨g, 0, none⟩) (L.length + 1) cap3))
                      have HR11 := Lib.hid (((Hr10.out.below ((Below.refl _ _).alloc (Nat.le_refl _) (.cells #[.int .i64 x10] 3))).grown hgr (fun k e => by have := hrow k e; omega)).set (b := X) (j := 17) (by omega) (.slice (some ⟨g, 0, none⟩) (L.length + 1) cap3))
                      have HW11 := Lib.hid ((((HB.out.grown Hg10.out zB (fun k e => by have := nR k e; omega)).alloc (by have := Hg10.out.size; omega) (.cells #[.int .i64 x10] 3)).grown hgr (by have := Hg10.out.size; simp; omega) (fun k e => by have := hrow k e; omega)).setCell (p := ⟨X, 17, none⟩) (by simp; omega) (.slice (some ⟨g, 0, none⟩) (L.length + 1) cap3))
                      have hkp : Keep (fun b => X < b ∧ b < w7.heap.size) wr (w11.setCell ⟨X, 17, none⟩ (.slice (some ⟨g, 0, none⟩) (L.length + 1) cap3)) := (((Keep.grown Hg10.out (fun k e => by have := nR k e; omega)).trans (Keep.alloc _ _ _)).trans (Keep.grown hgr (fun k e => by have := hrow k e; omega))).setCell' (by simp) _
                      have HVB11 := Lib.hid (HVB.out.keep hkp (fun _ h => h))
                      have HVP11 := Lib.hid (HVP.out.keep hkp (fun _ h => h))
                      have hgrs := hgr.size
                      clear hown11 hgr hat bX11 hvlt hrow hkp HBX HBZ HO Hr HB HVB HVP
                      go_wp2_with fail
                      go_roundw
                      case rel => exact ⟨j, L ++ [x10], .slice (some ⟨g, 0, none⟩) (L.length + 1) cap3, q10, by omega, by go_num, HB11.out, HZ11.out, by rw [List.length_append, List.map_append]; exact HO11.out, by have := HH.out; simp; omega, by have := Hg10.out.size; have := hgrs; simp [World.setCell] at this ⊢; omega, HR11.out, HW11.out, HVB11.out, HVP11.out, HF⟩
                      case measure => simp [intOf]
                    exact AllReady.nil
                  exact AllReady.nil
                exact AllReady.nil
              exact AllReady.nil
            refine AllReady.cons rfl (fun K hK => ?_) ?_
            · rw [if_pos (by rfl)]
              go_simp
              go_at_call 41
              refine (rnum_any _ rk 1 _ (Hr.out.below (Below.refl _ _).drew) (by omega)).mono ?_
              rintro e w10 ⟨rfl, hr10, hg10⟩
              generalize hx10 : (rk.num 1).1 = x10 at *
              generalize hq10 : (rk.num 1).2 = q10 at *
              clear hx10 hq10
              have Hg10 := Lib.hid (grownBy_trans (grownBy_of_below (Below.refl wr.heap.size wr).drew _) hg10 (.inl rfl))
              have HBX10 := Lib.hid (HBX.out.grown Hg10.out (fun e => by simp only [Option.some.injEq] at e; omega))
              have HO10 := Lib.hid (ownsRow_grown HO.out Hg10.out (fun k e => by simp only [Option.some.injEq] at e; omega))
              have y17 : w10.cell? ⟨X, 17, none⟩ = some (.slice adv L.length capv) := HBX10.out.cell 17 rfl
              have z10 := HBX10.out.lt
              have zs10 := Hg10.out.size
              have Hr10 := Lib.hid hr10
              clear hr10 hg10
              refine hK _ _ ?_
              clear hK K
              try simp only [Act.put, List.setIfInBounds_toArray, List.set_cons_zero, List.set_cons_succ]
              refine wpAny_ready (rs := [2, 5]) (by kernel_rfl) (by simp) ?_
              refine AllReady.cons rfl (fun K hK => ?_) ?_
              · rw [if_pos (by rfl)]
                go_simp
                refine hK _ _ ?_
                clear hK K
                try simp only [Act.put, List.setIfInBounds_toArray, List.set_cons_zero, List.set_cons_succ]
                refine wpAny_ready (rs := [5]) (by kernel_rfl) (by simp) ?_
                refine AllReady.cons rfl (fun K hK => ?_) ?_
                · rw [if_pos (by rfl)]
                  refine wp_build1 _ (by rfl) (fun w => hbs1 w x10) (by rfl) ?_
                  refine hK _ _ ?_
                  clear hK K
                  try simp only [Act.put, List.setIfInBounds_toArray, List.set_cons_zero, List.set_cons_succ]
                  refine wpAny_ready (rs := [6]) (by kernel_rfl) (by simp) ?_
                  refine AllReady.cons rfl (fun K hK => ?_) ?_
                  · rw [if_pos (by rfl)]
                    refine wp_append_oneK _ _ _ (by rfl) elemI w7.heap.size (.slice adv L.length capv) L.length _ (by rfl) (by exact HO10.out.alloc _) _ 3 [.int .i64 x10] (by rfl) (by exact BoxAt.new _ [_] _) rfl (by simp [Value.oneCell']) (by unfold maxLen; omega) (by omega) (by simp; omega) ?_
                    intro g cap3 w11 hown11 hgr hat hlt11
                    have bX11 := ((HBX10.out).alloc (.cells #[.int .i64 x10] 3)).grown (w' := w11) hgr (fun e => by have := (hvlt _ e).1; omega)
                    have z17 : w11.cell? ⟨X, 17, none⟩ = some (.slice adv L.length capv) := bX11.cell 17 rfl
                    have f17 := bX11.free 17
                    refine hK _ _ ?_
                    clear hK K
                    try simp only [Act.put, List.setIfInBounds_toArray, List.set_cons_zero, List.set_cons_succ]
                    refine wpAny_take (i := 7) (v := .pointer (some ⟨X, 13, none⟩)) rfl (by kernel_rfl) (by kernel_rfl) (by kernel_rfl) (fun _ _ _ h => h) (Or.inl ⟨by rfl, fun w => ?_⟩) ?_
                    · go_simp
                    try simp only [Act.put, List.setIfInBounds_toArray, List.set_cons_zero, List.set_cons_succ]
                    refine wpAny_take (i := 8) (v := .pointer (some ⟨X, 17, none⟩)) rfl (by kernel_rfl) (by kernel_rfl) (by kernel_rfl) (fun _ _ _ h => h) (Or.inl ⟨by rfl, fun w => ?_⟩) ?_
                    · go_simp
                    try simp only [Act.put, List.setIfInBounds_toArray, List.set_cons_zero, List.set_cons_succ]
                    refine wpAny_ready (rs := [9]) (by kernel_rfl) (by simp) ?_
                    refine AllReady.cons rfl (fun K hK => ?_) ?_
                    · rw [if_pos (by rfl)]
                      go_simp
                      refine hK _ _ ?_
                      clear hK K
                      try simp only [Act.put, List.setIfInBounds_toArray, List.set_cons_zero, List.set_cons_succ]
                      refine wpAny_done (by kernel_rfl) ?_ _
                      have hrow : ∀ k, (Value.slice adv L.length capv).ownBlock = some k → w7.heap.size ≤ k := fun k e => (hvlt k e).1
                      have nR : ∀ j, some (w.heap.size + 1) = some j → j = w.heap.size + 1 := fun j e => by simp only [Option.some.injEq] at e; omega
                      have HB11 := Lib.hid (bX11.set 17 (.slice (some ⟨g, 0, none⟩) (L.length + 1) cap3))
                      have HZ11 := Lib.hid ((((HBZ.out.grown Hg10.out (fun e => by simp only [Option.some.injEq] at e; omega)).alloc (.cells #[.int .i64 x10] 3)).grown hgr (fun e => by have := hrow _ e; omega)).setOther (p := ⟨X, 17, none⟩) (by simp; omega) (.slice (some ⟨g, 0, none⟩) (L.length + 1) cap3))
                      have HO11 := Lib.hid (ownsRow_setCell (p := ⟨X, 17, none⟩) hown11 (by simp; omega) (.slice (some ⟨g, 0, none⟩) (L.length + 1) cap3))
                      have HR11 := Lib.hid (((Hr10.out.below ((Below.refl _ _).alloc (Nat.le_refl _) (.cells #[.int .i64 x10] 3))).grown hgr (fun k e => by have := hrow k e; omega)).set (b := X) (j := 17) (by omega) (.slice (some ⟨g, 0, none⟩) (L.length + 1) cap3))
                      have HW11 := Lib.hid ((((HB.out.grown Hg10.out zB (fun k e => by have := nR k e; omega)).alloc (by have := Hg10.out.size; omega) (.cells #[.int .i64 x10] 3)).grown hgr (by have := Hg10.out.size; simp; omega) (fun k e => by have := hrow k e; omega)).setCell (p := ⟨X, 17, none⟩) (by simp; omega) (.slice (some ⟨g, 0, none⟩) (L.length + 1) cap3))
                      have hkp : Keep (fun b => X < b ∧ b < w7.heap.size) wr (w11.setCell ⟨X, 17, none⟩ (.slice (some ⟨g, 0, none⟩) (L.length + 1) cap3)) := (((Keep.grown Hg10.out (fun k e => by have := nR k e; omega)).trans (Keep.alloc _ _ _)).trans (Keep.grown hgr (fun k e => by have := hrow k e; omega))).setCell' (by simp) _
                      have HVB11 := Lib.hid (HVB.out.keep hkp (fun _ h => h))
                      have HVP11 := Lib.hid (HVP.out.keep hkp (fun _ h => h))
                      have hgrs := hgr.size
                      clear hown11 hgr hat bX11 hvlt hrow hkp HBX HBZ HO Hr HB HVB HVP
                      go_wp2_with fail
                      go_roundw
                      case rel => exact ⟨j, L ++ [x10], .slice (some ⟨g, 0, none⟩) (L.length + 1) cap3, q10, by omega, by go_num, HB11.out, HZ11.out, by rw [List.length_append, List.map_append]; exact HO11.out, by have := HH.out; simp; omega, by have := Hg10.out.size; have := hgrs; simp [World.setCell] at this ⊢; omega, HR11.out, HW11.out, HVB11.out, HVP11.out, HF⟩
                      case measure => simp [intOf]
                    exact AllReady.nil
                  exact AllReady.nil
                exact AllReady.nil
              refine AllReady.cons rfl (fun K hK => ?_) ?_
              · rw [if_pos (by rfl)]
                refine wp_build1 _ (by rfl) (fun w => hbs1 w x10) (by rfl) ?_
                refine hK _ _ ?_
                clear hK K
                try simp only [Act.put, List.setIfInBounds_toArray, List.set_cons_zero, List.set_cons_succ]
                refine wpAny_ready (rs := [2]) (by kernel_rfl) (by simp) ?_
                refine AllReady.cons rfl (fun K hK => ?_) ?_
                · rw [if_pos (by rfl)]
                  go_simp
                  refine hK _ _ ?_
                  clear hK K
                  try simp only [Act.put, List.setIfInBounds_toArray, List.set_cons_zero, List.set_cons_succ]
                  refine wpAny_ready (rs := [6]) (by kernel_rfl) (by simp) ?_
                  refine AllReady.cons rfl (fun K hK => ?_) ?_
                  · rw [if_pos (by rfl)]
                    refine wp_append_oneK _ _ _ (by rfl) elemI w7.heap.size (.slice adv L.length capv) L.length _ (by rfl) (by exact HO10.out.alloc _) _ 3 [.int .i64 x10] (by rfl) (by exact BoxAt.new _ [_] _) rfl (by simp [Value.oneCell']) (by unfold maxLen; omega) (by omega) (by simp; omega) ?_
                    intro g cap3 w11 hown11 hgr hat hlt11
                    have bX11 := ((HBX10.out).alloc (.cells #[.int .i64 x10] 3)).grown (w' := w11) hgr (fun e => by have := (hvlt _ e).1; omega)
                    have z17 : w11.cell? ⟨X, 17, none⟩ = some (.slice adv L.length capv) := bX11.cell 17 rfl
                    have f17 := bX11.free 17
                    refine hK _ _ ?_
                    clear hK K
                    try simp only [Act.put, List.setIfInBounds_toArray, List.set_cons_zero, List.set_cons_succ]
                    refine wpAny_take (i := 7) (v := .pointer (some ⟨X, 13, none⟩)) rfl (by kernel_rfl) (by kernel_rfl) (by kernel_rfl) (fun _ _ _ h => h) (Or.inl ⟨by rfl, fun w => ?_⟩) ?_
                    · go_simp
                    try simp only [Act.put, List.setIfInBounds_toArray, List.set_cons_zero, List.set_cons_succ]
                    refine wpAny_take (i := 8) (v := .pointer (some ⟨X, 17, none⟩)) rfl (by kernel_rfl) (by kernel_rfl) (by kernel_rfl) (fun _ _ _ h => h) (Or.inl ⟨by rfl, fun w => ?_⟩) ?_
                    · go_simp
                    try simp only [Act.put, List.setIfInBounds_toArray, List.set_cons_zero, List.set_cons_succ]
                    refine wpAny_ready (rs := [9]) (by kernel_rfl) (by simp) ?_
                    refine AllReady.cons rfl (fun K hK => ?_) ?_
                    · rw [if_pos (by rfl)]
                      go_simp
                      refine hK _ _ ?_
                      clear hK K
                      try simp only [Act.put, List.setIfInBounds_toArray, List.set_cons_zero, List.set_cons_succ]
                      refine wpAny_done (by kernel_rfl) ?_ _
                      have hrow : ∀ k, (Value.slice adv L.length capv).ownBlock = some k → w7.heap.size ≤ k := fun k e => (hvlt k e).1
                      have nR : ∀ j, some (w.heap.size + 1) = some j → j = w.heap.size + 1 := fun j e => by simp only [Option.some.injEq] at e; omega
                      have HB11 := Lib.hid (bX11.set 17 (.slice (some ⟨g, 0, none⟩) (L.length + 1) cap3))
                      have HZ11 := Lib.hid ((((HBZ.out.grown Hg10.out (fun e => by simp only [Option.some.injEq] at e; omega)).alloc (.cells #[.int .i64 x10] 3)).grown hgr (fun e => by have := hrow _ e; omega)).setOther (p := ⟨X, 17, none⟩) (by simp; omega) (.slice (some ⟨g, 0, none⟩) (L.length + 1) cap3))
                      have HO11 := Lib.hid (ownsRow_setCell (p := ⟨X, 17, none⟩) hown11 (by simp; omega) (.slice (some ⟨g, 0, none⟩) (L.length + 1) cap3))
                      have HR11 := Lib.hid (((Hr10.out.below ((Below.refl _ _).alloc (Nat.le_refl _) (.cells #[.int .i64 x10] 3))).grown hgr (fun k e => by have := hrow k e; omega)).set (b := X) (j := 17) (by omega) (.slice (some ⟨g, 0, none⟩) (L.length + 1) cap3))
                      have HW11 := Lib.hid ((((HB.out.grown Hg10.out zB (fun k e => by have := nR k e; omega)).alloc (by have := Hg10.out.size; omega) (.cells #[.int .i64 x10] 3)).grown hgr (by have := Hg10.out.size; simp; omega) (fun k e => by have := hrow k e; omega)).setCell (p := ⟨X, 17, none⟩) (by simp; omega) (.slice (some ⟨g, 0, none⟩) (L.length + 1) cap3))
                      have hkp : Keep (fun b => X < b ∧ b < w7.heap.size) wr (w11.setCell ⟨X, 17, none⟩ (.slice (some ⟨g, 0, none⟩) (L.length + 1) cap3)) := (((Keep.grown Hg10.out (fun k e => by have := nR k e; omega)).trans (Keep.alloc _ _ _)).trans (Keep.grown hgr (fun k e => by have := hrow k e; omega))).setCell' (by simp) _
                      have HVB11 := Lib.hid (HVB.out.keep hkp (fun _ h => h))
                      have HVP11 := Lib.hid (HVP.out.keep hkp (fun _ h => h))
                      have hgrs := hgr.size
                      clear hown11 hgr hat bX11 hvlt hrow hkp HBX HBZ HO Hr HB HVB HVP
                      go_wp2_with fail
                      go_roundw
                      case rel => exact ⟨j, L ++ [x10], .slice (some ⟨g, 0, none⟩) (L.length + 1) cap3, q10, by omega, by go_num, HB11.out, HZ11.out, by rw [List.length_append, List.map_append]; exact HO11.out, by have := HH.out; simp; omega, by have := Hg10.out.size; have := hgrs; simp [World.setCell] at this ⊢; omega, HR11.out, HW11.out, HVB11.out, HVP11.out, HF⟩
                      case measure => simp [intOf]
                    exact AllReady.nil
                  exact AllReady.nil
                exact AllReady.nil
              exact AllReady.nil
            exact AllReady.nil
      -- END 4
      -- KIND 5
      · have HMM := Lib.hid (show decM l = (⟨f, t, 5, bat0, hdr0, slt0, crt0, (r5.num 3).1⟩, (r5.num 3).2) by rw [HM.out]; rfl)
        clear HM k1 k5 hk1 hk5
        go_wp2_with fail
        refine (rnum_any _ _ 3 _ Hr5.out (by omega)).mono ?_
        rintro e w7 ⟨rfl, hr7, hg7⟩
        have bX7 := HBX5.out.grown hg7 (fun e => by simp only [Option.some.injEq] at e; omega)
        have hB7 : Below w.heap.size w w7 := HB5.out.grown hg7 z6 (fun k e => by simp only [Option.some.injEq] at e; omega)
        have c18 := bX7.cell 18 rfl
        have g18 := bX7.free 18
        have HBX7 := Lib.hid ((bX7.set 18 (.int .i64 (r5.num 3).1)))
        have HBZ7 := Lib.hid (((HBZ5.out.grown hg7 (fun e => by simp only [Option.some.injEq] at e; omega)).setOther (p := ⟨X, 18, none⟩) (by simp; omega) (.int .i64 (r5.num 3).1)))
        have HB7 := Lib.hid ((hB7.setCell (p := ⟨X, 18, none⟩) (by simp; omega) (.int .i64 (r5.num 3).1)))
        have HR7 := Lib.hid ((hr7.set (b := X) (j := 18) hX (.int .i64 (r5.num 3).1)))
        clear bX7 hB7 hr7 hg7
        go_wp2_with fail
        go_meet
        exact ⟨mv0, by rw [HMM.out]; exact HBX7.out, by rw [HMM.out]; exact rdM_want _ _ _ _ _, by rw [HMM.out]; exact HR7.out, HBZ7.out, HB7.out⟩
      -- END 5
    case rest =>
      clear HBX5 HBZ5 HB5 Hr5 q2 HM
      obtain ⟨mv, bX, hM, hr, bZ, hB⟩ := hcut
      obtain ⟨rv, bRd, hrv⟩ := hr
      obtain ⟨adr, capr, rfl, -, -⟩ := hrv.form
      have r0 := bRd.cell 0 rfl
      have r1 := bRd.cell 1 rfl
      have HOK := Lib.hid (decM_ok l)
      have HBX := Lib.hid bX
      have HMr := Lib.hid hM
      have HBZ := Lib.hid bZ
      have HB := Lib.hid hB
      have zB := hB.size
      have zXc := bX.lt
      have i2 : ((l.length : Int) == 0) = false := by rw [beq_eq_false_iff_ne]; omega
      have hl0 : ¬ l.length = 0 := by omega
      clear bRd hrv bX hM bZ hB
      generalize hm : (decM l).1 = m at *
      generalize hq : (decM l).2 = rq at *
      have HHM := Lib.hid hm
      have HHQ := Lib.hid hq
      clear hm hq
      cases hsh : rq.short
      · rw [hsh] at r1
        by_cases hre : 0 < rq.rest.length
        · have HG := Lib.hid (show decode l = (msg0, 4) by rw [HF.out, if_neg (by simp [hsh, hl0]), if_pos hre])
          have j1 : (0 : Int) < (rq.rest.length : Int) := by omega
          clear hsh hre
          go_wp2_with (refine wpList_store_box rfl 42 _ _ rfl w.heap.size zeroMsg rfl rfl 42 zeroMsg HBZ.out (by kernel_rfl) rfl rfl ?_; intro w4 hb4 hB4 hoth hs4)
          exact bodyPost_ret (results_cell_tmp Try.results27 _ w4 w.heap.size 42 zeroMsg _ _ rfl rfl hb4 Try.underlying42 rfl (by kernel_rfl)) rfl ⟨mv0, by rw [HG.out]; rfl, by rw [HG.out]; exact rdM_zero _ _, HB.out.trans hB4⟩
        · have j1 : ¬ (0 : Int) < (rq.rest.length : Int) := by omega
          have HG := Lib.hid (show decode l = if msgCode m ≠ 0 then (msg0, msgCode m) else (m, 0) by rw [HF.out, if_neg (by simp [hsh, hl0]), if_neg hre])
          clear hsh hre
          go_wp2_with (refine wpList_load_box rfl 42 _ rfl X rfl (msgCells m mv) 42 HBX.out Try.underlying42 rfl (by kernel_rfl) ?_)
          refine (wcheck_any m mv _ HMr.out HOK.out).mono ?_
          rintro e w8 ⟨rfl, hb8⟩
          have HBX8 := Lib.hid (HBX.out.belowS hb8)
          have HBZ8 := Lib.hid (HBZ.out.belowS hb8)
          have HB8 := Lib.hid (HB.out.trans (hb8.mono zB))
          have HM8 := Lib.hid (HMr.out.below hb8 (fun _ h => h))
          clear hb8
          cases hc : msgCode m == 0
          · have hc' : (msgCode m != 0) = true := by simp only [bne, hc, Bool.not_false]
            have HG2 := Lib.hid (show decode l = (msg0, msgCode m) by rw [HG.out, if_pos (by simpa using hc)])
            generalize msgCode m = c at *
            clear hc
            go_wp2_with (refine wpList_store_box rfl 42 _ _ rfl w.heap.size zeroMsg rfl rfl 42 zeroMsg HBZ8.out (by kernel_rfl) rfl rfl ?_; intro w4 hb4 hB4 hoth hs4)
            exact bodyPost_ret (results_cell_tmp Try.results27 _ w4 w.heap.size 42 zeroMsg _ _ rfl rfl hb4 Try.underlying42 rfl (by kernel_rfl)) rfl ⟨mv0, by rw [HG2.out]; rfl, by rw [HG2.out]; exact rdM_zero _ _, HB8.out.trans hB4⟩
          · have hc' : (msgCode m != 0) = false := by simp only [bne, hc, Bool.not_true]
            have HG2 := Lib.hid (show decode l = (m, 0) by rw [HG.out, if_neg (by simpa using hc)])
            generalize msgCode m = c at *
            clear hc
            go_wp2_with (first
              | (refine wpList_load_box rfl 42 _ rfl X rfl (msgCells m mv) 42 HBX8.out Try.underlying42 rfl (by kernel_rfl) ?_)
              | (refine wpList_store_boxG rfl 42 _ _ rfl w.heap.size (msgCells m mv) rfl rfl 42 zeroMsg HBZ8.out (by kernel_rfl) rfl (msgCells_one HM8.out) ?_; intro w4 hb4 hB4 hg4))
            exact bodyPost_ret (results_cell_tmp Try.results27 _ w4 w.heap.size 42 (msgCells m mv) _ _ rfl rfl hb4 Try.underlying42 rfl (by kernel_rfl)) rfl ⟨mv, by rw [HG2.out]; rfl, by rw [HG2.out]; exact HM8.out.keep (Keep.grown hg4 (fun k e => by simp only [Option.some.injEq] at e; omega)) (fun b hb => by omega), HB8.out.trans hB4⟩
      · have HG := Lib.hid (show decode l = (msg0, 5) by rw [HF.out, if_pos (.inl hsh)])
        rw [hsh] at r1
        clear hsh
        go_wp2_with (refine wpList_store_box rfl 42 _ _ rfl w.heap.size zeroMsg rfl rfl 42 zeroMsg HBZ.out (by kernel_rfl) rfl rfl ?_; intro w4 hb4 hB4 hoth hs4)
        exact bodyPost_ret (results_cell_tmp Try.results27 _ w4 w.heap.size 42 zeroMsg _ _ rfl rfl hb4 Try.underlying42 rfl (by kernel_rfl)) rfl ⟨mv0, by rw [HG.out]; rfl, by rw [HG.out]; exact rdM_zero _ _, HB.out.trans hB4⟩
end Go.Proofs.Ytgkmgdkmafbohaa
/- wire.Decode: what it computes, of all bytes. -/
set_option linter.unusedVariables false
set_option linter.unusedSimpArgs false
namespace Go.Proofs.Ytgkmgdkmafbohaa
open Go Go.RowKit

theorem num_nil (s : Bool) : (⟨[], s⟩ : Rdr).num 1 = (0, ⟨[], true⟩) := by
  unfold Rdr.num
  rw [Rdr.take_ends (by unfold Rdr.ends; simp)]; rfl
set_option maxRecDepth 100000 in
set_option maxHeartbeats 8000000 in
theorem wdecode_nil {G : Nat → Prop} (v : Value) (w : World) (hv : RdB G w v []) :
    Calls Try.prog 27 #[v] w fun e w' => e = .returned (.tuple #[.agg (msgCells msg0 mv0).toArray, .int .i64 5]) ∧ Below w.heap.size w w' := by
  obtain ⟨ad, cap, rfl, -, -⟩ := hv.form
  rw [msg0_cells]
  have HV := Lib.hid (hv.low (by decide))
  obtain ⟨w1, hw1⟩ : ∃ w1, w1 = (w.alloc (.cells zeroMsg.toArray 42)).alloc (.cells #[.slice ad 0 cap, .bool false] 75) := ⟨_, rfl⟩
  have hb1 : Below w.heap.size w w1 := by rw [hw1]; exact ((Below.refl _ _).alloc (Nat.le_refl _) _).alloc (by simp) _
  have bZ : BoxAt w1 w.heap.size zeroMsg 42 := by rw [hw1]; exact (BoxAt.new w zeroMsg _).alloc _
  have bR : BoxAt w1 (w.heap.size + 1) [.slice ad 0 cap, .bool false] 75 := by rw [hw1]; exact BoxAt.newAt (w.alloc _) [_, _] _ (by simp)
  have hr1 : RdrAt (w.heap.size + 1) w1 ⟨[], false⟩ := ⟨_, bR, HV.out.below hb1 (fun b hb => by omega)⟩
  have HB1 := Lib.hid hb1
  have HBZ := Lib.hid bZ
  clear hv
  go_enter Try.func27, Try.ntmps27
  go_upto_region 4 with fail
  rw [← hw1]
  clear hw1 hb1 bZ bR
  go_wp2_with fail
  refine (rnum_any _ _ 1 _ hr1 (by omega)).mono ?_
  rintro e w2 ⟨rfl, hr2, hg2⟩
  have zz := hr2.lt
  have HBZ2 := Lib.hid (HBZ.out.grown hg2 (fun e => by simp only [Option.some.injEq] at e; omega))
  have HB2 := Lib.hid (HB1.out.grown hg2 (by have := HB1.out.size; omega) (fun k e => by simp only [Option.some.injEq] at e; omega))
  have hk : ((⟨[], false⟩ : Rdr).num 1).1 = 0 := by rw [num_nil]
  have hrr : ((⟨[], false⟩ : Rdr).num 1).2 = ⟨[], true⟩ := by rw [num_nil]
  generalize ((⟨[], false⟩ : Rdr).num 1).1 = k at *
  generalize ((⟨[], false⟩ : Rdr).num 1).2 = r2 at *
  have k1 : (k == 1) = false := by rw [hk]; rfl
  have k2 : (k == 2) = false := by rw [hk]; rfl
  have k3 : (k == 3) = false := by rw [hk]; rfl
  have k4 : (k == 4) = false := by rw [hk]; rfl
  have k5 : (k == 5) = false := by rw [hk]; rfl
  have HRR := Lib.hid hrr
  clear hg2 HBZ HB1 hk hrr
  go_upto_region 5 with (refine wpList_store_new rfl 42 _ _ rfl (msgCells { msg0 with k := k } mv0) 42 zeroMsg rfl rfl (by kernel_rfl) rfl rfl ?_; intro w3 hb3 hB3 hs3)
  have HBX := Lib.hid hb3
  have HBZ3 := Lib.hid (HBZ2.out.belowS hB3)
  have HB3 := Lib.hid (HB2.out.trans (hB3.mono HB2.out.size))
  have hr3 := hr2.below hB3
  have hX : w.heap.size + 1 < w2.heap.size := zz
  generalize hXX : w2.heap.size = X at *
  clear hXX hb3 hB3 hs3 HBZ2 HB2 hr2
  go_wp2_with fail
  refine (rnum_any _ _ 1 _ hr3 (by omega)).mono ?_
  rintro e w4 ⟨rfl, hr4, hg4⟩
  go_wp2_with fail
  refine (rnum_any _ _ 1 _ hr4 (by omega)).mono ?_
  rintro e w5 ⟨rfl, hr5, hg5⟩
  have hg35 := grownBy_trans hg4 hg5 (.inl rfl)
  have bX5 := HBX.out.grown hg35 (fun e => by simp only [Option.some.injEq] at e; omega)
  have p0 := bX5.cell 0 rfl
  have p1 := bX5.cell 1 rfl
  have p2 : w5.cell? ⟨X, 2, none⟩ = some (.int .i64 k) := bX5.cell 2 rfl
  have f0 := bX5.free 0
  have f1 := bX5.free 1
  have r1 : w5.cell? ⟨w.heap.size + 1, 1, none⟩ = some (.bool true) := by
    rw [HRR.out, num_nil] at hr5
    simp only at hr5
    rw [num_nil] at hr5
    obtain ⟨v, hb, -⟩ := hr5; exact hb.cell 1 rfl
  have n1 : X ≠ w.heap.size + 1 := by omega
  generalize (r2.num 1).1 = f at *
  generalize ((r2.num 1).2.num 1).1 = t at *
  have zX3 := HBX.out.lt
  have HBZ5 := Lib.hid (((HBZ3.out.grown hg35 (fun e => by simp only [Option.some.injEq] at e; omega)).setOther (p := ⟨X, 0, none⟩) (by simp; omega) (.int .i64 f)).setOther (p := ⟨X, 1, none⟩) (by simp; omega) (.int .i64 t))
  have HB5 := Lib.hid (((HB3.out.grown hg35 (by have := HB3.out.size; omega) (fun k e => by simp only [Option.some.injEq] at e; omega)).setCell (p := ⟨X, 0, none⟩) (by simp; omega) (.int .i64 f)).setCell (p := ⟨X, 1, none⟩) (by simp; omega) (.int .i64 t))
  clear hr3 hr4 hr5 hg4 hg5 hg35 bX5
  go_wp2_with (refine wpList_store_box rfl 42 _ _ rfl w.heap.size zeroMsg rfl rfl 42 zeroMsg HBZ5.out (by kernel_rfl) rfl rfl ?_; intro w6 hb6 hB6 hoth hs6)
  exact bodyPost_ret (results_cell_tmp Try.results27 _ w6 w.heap.size 42 zeroMsg _ _ rfl rfl hb6 Try.underlying42 rfl (by kernel_rfl)) rfl ⟨rfl, HB5.out.trans hB6⟩
/-- Decode, of all bytes. -/
theorem wdecode_any {G : Nat → Prop} (l : Bytes) (v : Value) (w : World) (hv : RdB G w v l) :
    Calls Try.prog 27 #[v] w fun e w' => ∃ mv, e = .returned (.tuple #[.agg (msgCells (decode l).1 mv).toArray, .int .i64 (decode l).2]) ∧ RdM (fun b => w.heap.size ≤ b) w' mv (decode l).1 ∧ Below w.heap.size w w' := by
  by_cases h1 : 4000 < l.length
  · have hd : decode l = (msg0, 1) := by unfold decode; rw [if_pos h1]
    obtain ⟨ad, cap, rfl, -, -⟩ := hv.form
    exact (wdecode_size ad l.length cap w h1).mono fun e w' ⟨he, hb⟩ => ⟨mv0, by rw [hd]; exact he, by rw [hd]; exact rdM_zero _ _, hb⟩
  by_cases h2 : 0 < l.length
  · exact wdecode_go l v w hv (by omega) h2
  · have hl : l = [] := List.eq_nil_of_length_eq_zero (by omega)
    subst hl
    have hd : decode [] = (msg0, 5) := by unfold decode; rw [if_neg (by simp), if_neg (by simp), if_pos (.inr rfl)]
    exact (wdecode_nil v w hv).mono fun e w' ⟨he, hb⟩ => ⟨mv0, by rw [hd]; exact he, by rw [hd]; exact rdM_zero _ _, hb⟩
end Go.Proofs.Ytgkmgdkmafbohaa
/- sheaveskeep: sameTexts. -/
set_option linter.unusedVariables false
set_option linter.unusedSimpArgs false
namespace Go.Proofs.Ytgkmgdkmafbohaa
open Go Go.RowKit

/-- The world after some draws. -/
def Drawn (w w' : World) : Prop := ∃ n, w' = w.drewN n
theorem Drawn.refl (w : World) : Drawn w w := ⟨0, rfl⟩
theorem Drawn.step {w w' : World} (h : Drawn w w') (n : Nat) : Drawn w (w'.drewN n) := by
  obtain ⟨m, rfl⟩ := h
  exact ⟨m + n, World.drewN_drewN w m n⟩

theorem sameT_miss {l m : List (List UInt8)} {k : Nat} (h1 : k < l.length) (h2 : k < m.length) (h : l[k] ≠ m[k]) : decide (l = m) = false := by
  simp only [decide_eq_false_iff_not]
  rintro rfl
  exact h rfl
theorem sameT_all {l m : List (List UInt8)} (hl : l.length = m.length) (h : ∀ j, j < l.length → l[j]? = m[j]?) : decide (l = m) = true := by
  simp only [decide_eq_true_eq]
  apply List.ext_getElem? 
  intro j
  rcases Nat.lt_or_ge j l.length with hj | hj
  · exact h j hj
  · rw [List.getElem?_eq_none hj, List.getElem?_eq_none (by omega)]

set_option maxHeartbeats 400000 in
theorem sameTexts_any {G G' : Nat → Prop} {l m : List (List UInt8)} (u v : Value) (w : World) (hu : RdT G w u l) (hv : RdT G' w v m) :
    Calls Try.prog 39 #[u, v] w fun e w' => e = .returned (.bool (decide (l = m))) ∧ Drawn w w' := by
  obtain ⟨ad, cap, rfl, h1, h2⟩ := hu.form
  obtain ⟨ad', cap', rfl, h1', h2'⟩ := hv.form
  unfold maxLen at h2 h2'
  by_cases hl : l.length = m.length
  · have hln : ((l.length : Int) != (m.length : Int)) = false := by simp [hl]
    have HL := Lib.hid hl
    clear hl
    go_enter Try.func39, Try.ntmps39
    go_wp2
    go_loopw [5] (fun i wr => ∃ k n : Nat, k ≤ l.length ∧ i = .int .i64 k ∧ (∀ j, j < k → l[j]? = m[j]?) ∧ wr = w.drewN n) (fun i _ => l.length - (intOf i).toNat)
    case atStart => exact ⟨0, 0, Nat.zero_le _, rfl, fun j hj => by omega, rfl⟩
    case round =>
      obtain ⟨k, n, hk, rfl, hno, rfl⟩ := hrel
      have HN := Lib.hid hno; clear hno
      by_cases hlt : k < l.length
      · have hlt' : k < m.length := by have := HL.out; omega
        obtain ⟨b, o, rfl, -, hc⟩ := hu.cell k hlt
        obtain ⟨b', o', rfl, -, hc'⟩ := hv.cell k hlt'
        have i0 : (0 : Int) ≤ (k : Int) := by omega
        have i1 : (k : Int) < (l.length : Int) := by omega
        have i2 : (k : Int) < (m.length : Int) := by omega
        by_cases he : l[k] = m[k]
        · have hb : (l[k] == m[k]) = true := by simp [he]
          have HE := Lib.hid he
          clear he
          go_wp2_with fail
          go_quiet (fail)
          go_wp2
          go_roundw
          case rel => exact ⟨k + 1, _, by omega, by go_num, fun j hj => by
            rcases Nat.lt_or_eq_of_le (Nat.le_of_lt_succ hj) with h' | h'
            · exact HN.out j h'
            · subst h'; rw [List.getElem?_eq_getElem hlt, List.getElem?_eq_getElem hlt', HE.out], rfl⟩
          case measure => simp [intOf]; omega
        · have hb : (l[k] == m[k]) = false := by simp [he]
          have HE := Lib.hid (sameT_miss hlt hlt' he)
          clear he
          go_wp2_with fail
          go_quiet (fail)
          go_wp2
          go_ret
          exact ⟨ret_boolH HE.out, Drawn.step ⟨n, rfl⟩ nq⟩
      · have HE := Lib.hid (sameT_all HL.out (fun j hj => HN.out j (by omega)))
        go_wp2
        go_ret
        exact ⟨ret_boolH HE.out, _, rfl⟩
  · have hln : ((l.length : Int) != (m.length : Int)) = true := by simp; omega
    have HR := Lib.hid (show decide (l = m) = false by simp only [decide_eq_false_iff_not]; rintro rfl; exact hl rfl)
    clear hl
    go_enter Try.func39, Try.ntmps39
    go_wp2
    go_ret
    exact ⟨ret_boolH HR.out, Drawn.refl _⟩
end Go.Proofs.Ytgkmgdkmafbohaa
/- sheaveskeep.same: are bytes the same? -/
set_option linter.unusedVariables false
set_option linter.unusedSimpArgs false
namespace Go.Proofs.Ytgkmgdkmafbohaa
open Go Go.RowKit
theorem same_any {G G' : Nat → Prop} {l m : List UInt8} (u v : Value) (w : World) (hu : RdB G w u l) (hv : RdB G' w v m) :
    Calls Try.prog 21 #[u, v] w fun e w' => e = .returned (.bool (decide (l = m))) ∧ w = w' := by
  go_enter Try.func21, Try.ntmps21
  go_wp2_with (first
    | (refine wpList_bytes_str rfl 26 9 (.tmp 5) rfl Try.underlying26 Try.underlying5 Try.underlying9 _ rfl _ hu ?_)
    | (refine wpList_bytes_str rfl 26 9 (.tmp 7) rfl Try.underlying26 Try.underlying5 Try.underlying9 _ rfl _ hv ?_))
  go_ret
  exact ⟨ret_boolH (by rw [Bool.eq_iff_iff]; simp), rfl⟩
end Go.Proofs.Ytgkmgdkmafbohaa
/- sheaveskeep.sameLists, sameHeader: what they compute. -/
set_option linter.unusedVariables false
set_option linter.unusedSimpArgs false
namespace Go.Proofs.Ytgkmgdkmafbohaa
open Go Go.RowKit

theorem keep_drewN (G : Nat → Prop) (w : World) (n : Nat) : Keep G w (w.drewN n) := Keep.below (below_drewN (Below.refl _ _) n)
set_option maxRecDepth 100000 in
set_option maxHeartbeats 1000000 in
theorem sameLists_any {G G' : Nat → Prop} {l m : List Bytes} (u v : Value) (w : World) (hu : RdBB G w u l) (hv : RdBB G' w v m) :
    Calls Try.prog 40 #[u, v] w fun e w' => e = .returned (.bool (decide (l = m))) ∧ Drawn w w' := by
  obtain ⟨ad, cap, rfl, h1, h2⟩ := hu.form
  obtain ⟨ad', cap', rfl, h1', h2'⟩ := hv.form
  unfold maxLen at h2 h2'
  by_cases hl : l.length = m.length
  · have hln : ((l.length : Int) != (m.length : Int)) = false := by simp [hl]
    have HL := Lib.hid hl
    clear hl
    go_enter Try.func40, Try.ntmps40
    go_wp2
    go_loopw [5] (fun i wr => ∃ k n : Nat, k ≤ l.length ∧ i = .int .i64 k ∧ (∀ j, j < k → l[j]? = m[j]?) ∧ wr = w.drewN n) (fun i _ => l.length - (intOf i).toNat)
    case atStart => exact ⟨0, 0, Nat.zero_le _, rfl, fun j hj => by omega, rfl⟩
    case round =>
      obtain ⟨k, n, hk, rfl, hno, rfl⟩ := hrel
      have HN := Lib.hid hno; clear hno
      by_cases hlt : k < l.length
      · have hlt' : k < m.length := by have := HL.out; omega
        obtain ⟨b, o, x, rfl, -, hc, hx⟩ := hu.cellS k hlt
        obtain ⟨b', o', x', rfl, -, hc', hx'⟩ := hv.cellS k hlt'
        have HX := Lib.hid (hx.keep (G' := fun _ => True) (keep_drewN _ w (n + 1)) (fun _ _ => trivial))
        have HX' := Lib.hid (hx'.keep (G' := fun _ => True) (keep_drewN _ w (n + 1)) (fun _ _ => trivial))
        have i0 : (0 : Int) ≤ (k : Int) := by omega
        have i1 : (k : Int) < (l.length : Int) := by omega
        have i2 : (k : Int) < (m.length : Int) := by omega
        clear hx hx'
        cases hb : decide (l[k] = m[k])
        · have he : ¬ l[k] = m[k] := by simpa using hb
          have HE := Lib.hid (show decide (l = m) = false by simp only [decide_eq_false_iff_not]; rintro rfl; exact he rfl)
          have HBB := Lib.hid hb
          clear he hb
          go_wp2_with fail
          go_region_held3 (fun w' => w'.cell? ⟨b, o + k, none⟩ = some x ∧ w'.cell? ⟨b', o' + k, none⟩ = some x') (go_keep)
            (first
              | (go_at_call 21; refine (same_any (l := l[k]) (m := m[k]) _ _ _ HX.out HX'.out).mono ?_; rintro e w' ⟨rfl, rfl⟩; rw [HBB.out]))
          all_goals
            go_wp2
            go_ret
            exact ⟨ret_boolH HE.out, n + 1, rfl⟩
        · have HE := Lib.hid (show l[k] = m[k] by simpa using hb)
          have HBB := Lib.hid hb
          clear hb
          go_wp2_with fail
          go_region_held3 (fun w' => w'.cell? ⟨b, o + k, none⟩ = some x ∧ w'.cell? ⟨b', o' + k, none⟩ = some x') (go_keep)
            (first
              | (go_at_call 21; refine (same_any (l := l[k]) (m := m[k]) _ _ _ HX.out HX'.out).mono ?_; rintro e w' ⟨rfl, rfl⟩; rw [HBB.out]))
          all_goals
            go_wp2
            go_roundw
            case rel => exact ⟨k + 1, n + 1, by omega, by go_num, fun j hj => by
              rcases Nat.lt_or_eq_of_le (Nat.le_of_lt_succ hj) with h' | h'
              · exact HN.out j h'
              · subst h'; rw [List.getElem?_eq_getElem hlt, List.getElem?_eq_getElem hlt', HE.out], rfl⟩
            case measure => simp [intOf]; omega
      · have HE := Lib.hid (show decide (l = m) = true by
          simp only [decide_eq_true_eq]
          apply List.ext_getElem?
          intro j
          rcases Nat.lt_or_ge j l.length with hj | hj
          · exact HN.out j (by omega)
          · rw [List.getElem?_eq_none hj, List.getElem?_eq_none (by have := HL.out; omega)])
        go_wp2
        go_ret
        exact ⟨ret_boolH HE.out, _, rfl⟩
  · have hln : ((l.length : Int) != (m.length : Int)) = true := by simp; omega
    have HR := Lib.hid (show decide (l = m) = false by simp only [decide_eq_false_iff_not]; rintro rfl; exact hl rfl)
    clear hl
    go_enter Try.func40, Try.ntmps40
    go_wp2
    go_ret
    exact ⟨ret_boolH HR.out, Drawn.refl _⟩

set_option maxRecDepth 100000 in
set_option maxHeartbeats 2000000 in
theorem sameHeader_any {G G' : Nat → Prop} (a n a' n' : Int) (b p b' p' : List Bytes) (vb vp vb' vp' : Value) (w : World) (hb : RdBB G w vb b) (hp : RdBB G w vp p) (hb' : RdBB G' w vb' b') (hp' : RdBB G' w vp' p') :
    Calls Try.prog 26 #[.agg #[.int .i64 a, .int .i64 n, vb, vp], .agg #[.int .i64 a', .int .i64 n', vb', vp']] w fun e w' => e = .returned (.bool (decide (a = a' ∧ n = n' ∧ b = b' ∧ p = p'))) ∧ Below w.heap.size w w' := by
  obtain ⟨ad1, c1, rfl, -, -⟩ := hb.form
  obtain ⟨ad2, c2, rfl, -, -⟩ := hp.form
  obtain ⟨ad3, c3, rfl, -, -⟩ := hb'.form
  obtain ⟨ad4, c4, rfl, -, -⟩ := hp'.form
  obtain ⟨w1, hw1⟩ : ∃ w1, w1 = (w.alloc (.cells #[.int .i64 a, .int .i64 n, .slice ad1 b.length c1, .slice ad2 p.length c2] 37)).alloc (.cells #[.int .i64 a', .int .i64 n', .slice ad3 b'.length c3, .slice ad4 p'.length c4] 37) := ⟨_, rfl⟩
  have hR : Below w.heap.size w w1 := by rw [hw1]; exact ((Below.refl _ _).alloc (Nat.le_refl _) _).alloc (by simp) _
  have bX : BoxAt w1 w.heap.size [.int .i64 a, .int .i64 n, .slice ad1 b.length c1, .slice ad2 p.length c2] 37 := by rw [hw1]; exact (BoxAt.new w [_, _, _, _] _).alloc _
  have bY : BoxAt w1 (w.heap.size + 1) [.int .i64 a', .int .i64 n', .slice ad3 b'.length c3, .slice ad4 p'.length c4] 37 := by rw [hw1]; exact BoxAt.newAt (w.alloc _) [_, _, _, _] _ (by simp)
  have H1 := Lib.hid (hb.below hR (fun _ h => h))
  have H2 := Lib.hid (hp.below hR (fun _ h => h))
  have H3 := Lib.hid (hb'.below hR (fun _ h => h))
  have H4 := Lib.hid (hp'.below hR (fun _ h => h))
  have HR := Lib.hid hR
  have x0 := bX.cell 0 rfl
  have x1 := bX.cell 1 rfl
  have x2 := bX.cell 2 rfl
  have x3 := bX.cell 3 rfl
  have y0 := bY.cell 0 rfl
  have y1 := bY.cell 1 rfl
  have y2 := bY.cell 2 rfl
  have y3 := bY.cell 3 rfl
  go_enter Try.func26, Try.ntmps26
  go_upto_region 1 with fail
  rw [← hw1]
  clear hw1 hR bX bY hb hp hb' hp'
  by_cases h1 : a = a'
  · by_cases h2 : n = n'
    · have e1 : (a == a') = true := by simp [h1]
      have e2 : (n == n') = true := by simp [h2]
      cases h3 : decide (b = b')
      · have HE := Lib.hid (show decide (a = a' ∧ n = n' ∧ b = b' ∧ p = p') = false by simp only [decide_eq_false_iff_not] at h3 ⊢; rintro ⟨-, -, h, -⟩; exact h3 h)
        have HH := Lib.hid h3
        clear h1 h2 h3
        go_wp2_with (go_at_call 40; refine (sameLists_any (l := b) (m := b') _ _ _ H1.out H3.out).mono ?_; rintro e w' ⟨rfl, m, rfl⟩; rw [HH.out])
        go_ret
        exact ⟨ret_boolH HE.out, below_drewN HR.out _⟩
      · have HE := Lib.hid (show decide (a = a' ∧ n = n' ∧ b = b' ∧ p = p') = decide (p = p') by have := of_decide_eq_true h3; simp [h1, h2, this])
        have HH := Lib.hid h3
        clear h1 h2 h3
        go_wp2_with (first
          | (go_at_call 40; refine (sameLists_any (l := p) (m := p') _ _ _ (H2.out.keep (keep_drewN _ _ mm) (fun _ h => h)) (H4.out.keep (keep_drewN _ _ mm) (fun _ h => h))).mono ?_; rintro e w' ⟨rfl, m2, rfl⟩)
          | (go_at_call 40; refine (sameLists_any (l := b) (m := b') _ _ _ H1.out H3.out).mono ?_; rintro e w' ⟨rfl, mm, rfl⟩; rw [HH.out]))
        go_ret
        exact ⟨ret_boolH HE.out, below_drewN HR.out _⟩
    · have HE := Lib.hid (show decide (a = a' ∧ n = n' ∧ b = b' ∧ p = p') = false by simp [h1, h2])
      have e1 : (a == a') = true := by simp [h1]
      have e2 : (n == n') = false := by simp [h2]
      clear h1 h2
      go_wp2
      go_ret
      exact ⟨ret_boolH HE.out, HR.out⟩
  · have HE := Lib.hid (show decide (a = a' ∧ n = n' ∧ b = b' ∧ p = p') = false by simp [h1])
    have e1 : (a == a') = false := by simp [h1]
    clear h1
    go_wp2
    go_ret
    exact ⟨ret_boolH HE.out, HR.out⟩
end Go.Proofs.Ytgkmgdkmafbohaa
/- sheaveskeep.sameBatch: what it computes. -/
set_option linter.unusedVariables false
set_option linter.unusedSimpArgs false
namespace Go.Proofs.Ytgkmgdkmafbohaa
open Go Go.RowKit

theorem Drawn.below {w w' : World} (h : Drawn w w') : Below w.heap.size w w' := by obtain ⟨n, rfl⟩ := h; exact below_drewN (Below.refl _ _) n
set_option maxRecDepth 100000 in
set_option maxHeartbeats 1000000 in
theorem sameBatch_any {G G' : Nat → Prop} (a n a' n' : Int) (d d' : List (List UInt8)) (v v' : Value) (w : World) (hd : RdT G w v d) (hd' : RdT G' w v' d') :
    Calls Try.prog 25 #[.agg #[.int .i64 a, .int .i64 n, v], .agg #[.int .i64 a', .int .i64 n', v']] w fun e w' => e = .returned (.bool (decide (a = a' ∧ n = n' ∧ d = d'))) ∧ Below w.heap.size w w' := by
  obtain ⟨ad, cap, rfl, -, -⟩ := hd.form
  obtain ⟨ad', cap', rfl, -, -⟩ := hd'.form
  have hR := ((Below.refl w.heap.size w).alloc (Nat.le_refl _) (.cells #[.int .i64 a, .int .i64 n, .slice ad d.length cap] 34)).alloc (by simp) (.cells #[.int .i64 a', .int .i64 n', .slice ad' d'.length cap'] 34)
  have HD := Lib.hid (hd.keep ((Keep.alloc G w (.cells #[.int .i64 a, .int .i64 n, .slice ad d.length cap] 34)).trans (Keep.alloc G _ (.cells #[.int .i64 a', .int .i64 n', .slice ad' d'.length cap'] 34))) (fun _ h => h))
  have HD' := Lib.hid (hd'.keep ((Keep.alloc G' w (.cells #[.int .i64 a, .int .i64 n, .slice ad d.length cap] 34)).trans (Keep.alloc G' _ (.cells #[.int .i64 a', .int .i64 n', .slice ad' d'.length cap'] 34))) (fun _ h => h))
  have HR := Lib.hid hR
  clear hR
  go_enter Try.func25, Try.ntmps25
  by_cases h1 : a = a'
  · by_cases h2 : n = n'
    · have HE := Lib.hid (show decide (a = a' ∧ n = n' ∧ d = d') = decide (d = d') by simp [h1, h2])
      have e1 : (a == a') = true := by simp [h1]
      have e2 : (n == n') = true := by simp [h2]
      clear h1 h2
      go_wp2_with (go_at_call 39; refine (sameTexts_any _ _ _ HD.out HD'.out).mono ?_; rintro e w' ⟨rfl, m, rfl⟩)
      go_ret
      exact ⟨ret_boolH HE.out, below_drewN HR.out _⟩
    · have HE := Lib.hid (show decide (a = a' ∧ n = n' ∧ d = d') = false by simp [h1, h2])
      have e1 : (a == a') = true := by simp [h1]
      have e2 : (n == n') = false := by simp [h2]
      clear h1 h2
      go_wp2
      go_ret
      exact ⟨ret_boolH HE.out, HR.out⟩
  · have HE := Lib.hid (show decide (a = a' ∧ n = n' ∧ d = d') = false by simp [h1])
    have e1 : (a == a') = false := by simp [h1]
    clear h1
    go_wp2
    go_ret
    exact ⟨ret_boolH HE.out, HR.out⟩
end Go.Proofs.Ytgkmgdkmafbohaa
/- sameSlot, sameInts, sameCert, sameMessage: of what is the same they answer true. -/
set_option linter.unusedVariables false
set_option linter.unusedSimpArgs false
namespace Go.Proofs.Ytgkmgdkmafbohaa
open Go Go.RowKit

set_option maxRecDepth 100000 in
set_option maxHeartbeats 2000000 in
theorem sameSlot_eq {G G' : Nat → Prop} (s : Slt) (v v' : Value) (w : World) (hv : RdB G w v s.d) (hv' : RdB G' w v' s.d) :
    Calls Try.prog 45 #[.agg #[.int .i64 s.a, .int .i64 s.r, v], .agg #[.int .i64 s.a, .int .i64 s.r, v']] w fun e w' => e = .returned (.bool true) ∧ Below w.heap.size w w' := by
  obtain ⟨a, r, d⟩ := s
  simp only at *
  obtain ⟨ad1, c1, rfl, -, -⟩ := hv.form
  obtain ⟨ad3, c3, rfl, -, -⟩ := hv'.form
  obtain ⟨w1, hw1⟩ : ∃ w1, w1 = (w.alloc (.cells #[.int .i64 a, .int .i64 r, .slice ad1 d.length c1] 29)).alloc (.cells #[.int .i64 a, .int .i64 r, .slice ad3 d.length c3] 29) := ⟨_, rfl⟩
  have hR : Below w.heap.size w w1 := by rw [hw1]; exact ((Below.refl _ _).alloc (Nat.le_refl _) _).alloc (by simp) _
  have bX : BoxAt w1 w.heap.size [.int .i64 a, .int .i64 r, .slice ad1 d.length c1] 29 := by rw [hw1]; exact (BoxAt.new w [_, _, _] _).alloc _
  have bY : BoxAt w1 (w.heap.size + 1) [.int .i64 a, .int .i64 r, .slice ad3 d.length c3] 29 := by rw [hw1]; exact BoxAt.newAt (w.alloc _) [_, _, _] _ (by simp)
  have H1 := Lib.hid (hv.below hR (fun _ h => h))
  have H3 := Lib.hid (hv'.below hR (fun _ h => h))
  have HR := Lib.hid hR
  have x0 := bX.cell 0 rfl
  have x1 := bX.cell 1 rfl
  have x2 := bX.cell 2 rfl
  have y0 := bY.cell 0 rfl
  have y1 := bY.cell 1 rfl
  have y2 := bY.cell 2 rfl
  have e1 : (a == a) = true := by simp
  have e2 : (r == r) = true := by simp
  go_enter Try.func45, Try.ntmps45
  go_upto_region 1 with fail
  rw [← hw1]
  clear hw1 hR bX bY hv hv'
  go_wp2_with (go_at_call 21; refine (same_any (l := d) (m := d) _ _ _ H1.out H3.out).mono ?_; rintro e w' ⟨rfl, rfl⟩; rw [decide_eq_true (rfl : d = d)])
  go_ret
  exact ⟨rfl, HR.out⟩
set_option maxRecDepth 100000 in
set_option maxHeartbeats 2000000 in
theorem sameInts_eq {G G' : Nat → Prop} (l : List Int) (v v' : Value) (w : World) (hv : RdI G w v l) (hv' : RdI G' w v' l) :
    Calls Try.prog 53 #[v, v'] w fun e w' => e = .returned (.bool true) ∧ Below w.heap.size w w' := by
  obtain ⟨ad1, c1, rfl, -, -⟩ := hv.form
  obtain ⟨ad2, c2, rfl, -, -⟩ := hv'.form
  obtain ⟨-, h1, h2, -⟩ := hv.len
  unfold maxLen at h2
  have HV := Lib.hid hv
  have HV' := Lib.hid hv'
  have hln : ((l.length : Int) != (l.length : Int)) = false := by simp
  go_enter Try.func53, Try.ntmps53
  go_wp2
  go_loopw [5] (fun i wr => ∃ k n : Nat, k ≤ l.length ∧ i = .int .i64 k ∧ wr = w.drewN n) (fun i _ => l.length - (intOf i).toNat)
  case atStart => exact ⟨0, 0, Nat.zero_le _, rfl, rfl⟩
  case round =>
    obtain ⟨k, n, hk, rfl, rfl⟩ := hrel
    by_cases hlt : k < l.length
    · obtain ⟨b, o, rfl, hc⟩ := hv.cell k hlt
      obtain ⟨b', o', rfl, hc'⟩ := hv'.cell k hlt
      have i0 : (0 : Int) ≤ (k : Int) := by omega
      have i1 : (k : Int) < (l.length : Int) := by omega
      have hb : (l[k] != l[k]) = false := by simp
      go_wp2_with fail
      go_quiet (fail)
      go_wp2
      go_roundw
      case rel => exact ⟨k + 1, _, by omega, by go_num, rfl⟩
      case measure => simp [intOf]; omega
    · go_wp2
      go_ret
      exact ⟨rfl, below_drewN (Below.refl _ _) _⟩
set_option maxRecDepth 100000 in
set_option maxHeartbeats 2000000 in
theorem sameCert_eq {G G' : Nat → Prop} (c : Crt) (b p v b' p' v' : Value) (w : World) (hb : RdBB G w b c.h.bs) (hp : RdBB G w p c.h.ps) (hv : RdI G w v c.vs) (hb' : RdBB G' w b' c.h.bs) (hp' : RdBB G' w p' c.h.ps) (hv' : RdI G' w v' c.vs) :
    Calls Try.prog 46 #[.agg #[.int .i64 c.h.a, .int .i64 c.h.r, b, p, v], .agg #[.int .i64 c.h.a, .int .i64 c.h.r, b', p', v']] w fun e w' => e = .returned (.bool true) ∧ Below w.heap.size w w' := by
  obtain ⟨⟨a, r, bs, ps⟩, vs⟩ := c
  simp only at *
  obtain ⟨ad1, c1, rfl, -, -⟩ := hb.form
  obtain ⟨ad2, c2, rfl, -, -⟩ := hp.form
  obtain ⟨ad3, c3, rfl, -, -⟩ := hv.form
  obtain ⟨ad4, c4, rfl, -, -⟩ := hb'.form
  obtain ⟨ad5, c5, rfl, -, -⟩ := hp'.form
  obtain ⟨ad6, c6, rfl, -, -⟩ := hv'.form
  obtain ⟨w1, hw1⟩ : ∃ w1, w1 = (w.alloc (.cells #[.int .i64 a, .int .i64 r, .slice ad1 bs.length c1, .slice ad2 ps.length c2, .slice ad3 vs.length c3] 40)).alloc (.cells #[.int .i64 a, .int .i64 r, .slice ad4 bs.length c4, .slice ad5 ps.length c5, .slice ad6 vs.length c6] 40) := ⟨_, rfl⟩
  have hR : Below w.heap.size w w1 := by rw [hw1]; exact ((Below.refl _ _).alloc (Nat.le_refl _) _).alloc (by simp) _
  have bX : BoxAt w1 w.heap.size [.int .i64 a, .int .i64 r, .slice ad1 bs.length c1, .slice ad2 ps.length c2, .slice ad3 vs.length c3] 40 := by rw [hw1]; exact (BoxAt.new w [_, _, _, _, _] _).alloc _
  have bY : BoxAt w1 (w.heap.size + 1) [.int .i64 a, .int .i64 r, .slice ad4 bs.length c4, .slice ad5 ps.length c5, .slice ad6 vs.length c6] 40 := by rw [hw1]; exact BoxAt.newAt (w.alloc _) [_, _, _, _, _] _ (by simp)
  have H1 := Lib.hid (hb.below hR (fun _ h => h))
  have H2 := Lib.hid (hp.below hR (fun _ h => h))
  have H3 := Lib.hid (hv.low (by decide) |>.below hR (fun _ h => h))
  have H4 := Lib.hid (hb'.below hR (fun _ h => h))
  have H5 := Lib.hid (hp'.below hR (fun _ h => h))
  have H6 := Lib.hid (hv'.low (by decide) |>.below hR (fun _ h => h))
  have HR := Lib.hid hR
  have x0 := bX.cell 0 rfl
  have x1 := bX.cell 1 rfl
  have x2 := bX.cell 2 rfl
  have x3 := bX.cell 3 rfl
  have x4 := bX.cell 4 rfl
  have y0 := bY.cell 0 rfl
  have y1 := bY.cell 1 rfl
  have y2 := bY.cell 2 rfl
  have y3 := bY.cell 3 rfl
  have y4 := bY.cell 4 rfl
  have hEQ := Lib.hid (show decide (a = a ∧ r = r ∧ bs = bs ∧ ps = ps) = true by simp)
  have HX := Lib.hid bX
  have HY := Lib.hid bY
  go_enter Try.func46, Try.ntmps46
  go_upto_region 1 with fail
  rw [← hw1]
  clear hw1 hR bX bY hb hp hv hb' hp' hv'
  go_wp2_with fail
  refine (sameHeader_any a r a r bs ps bs ps _ _ _ _ w1 H1.out H2.out H4.out H5.out).mono ?_
  rintro e w2 ⟨rfl, hb2⟩
  rw [decide_eq_true (show a = a ∧ r = r ∧ bs = bs ∧ ps = ps from ⟨rfl, rfl, rfl, rfl⟩)]
  have HB2 := Lib.hid (HR.out.trans (hb2.mono HR.out.size))
  have u4 := (HX.out.belowS hb2).cell 4 rfl
  have t4 := (HY.out.belowS hb2).cell 4 rfl
  have K3 := Lib.hid (H3.out.below hb2 (fun _ h => h))
  have K6 := Lib.hid (H6.out.below hb2 (fun _ h => h))
  clear x0 x1 x2 x3 x4 y0 y1 y2 y3 y4 HX HY hb2
  go_wp2_with fail
  refine (sameInts_eq vs _ _ w2 K3.out K6.out).mono ?_
  rintro e w3 ⟨rfl, hb3⟩
  have HB3 := Lib.hid (HB2.out.trans (hb3.mono HB2.out.size))
  clear hb3
  go_wp2
  go_ret
  exact ⟨rfl, HB3.out⟩
set_option maxRecDepth 100000 in
set_option maxHeartbeats 4000000 in
theorem sameMessage_eq {G G' : Nat → Prop} (m : Msg) (v v' : MV) (w : World) (h : RdM G w v m) (h' : RdM G' w v' m) :
    Calls Try.prog 28 #[.agg (msgCells m v).toArray, .agg (msgCells m v').toArray] w fun e w' => e = .returned (.bool true) ∧ Below w.heap.size w w' := by
  obtain ⟨w1, hw1⟩ : ∃ w1, w1 = (w.alloc (.cells (msgCells m v).toArray 42)).alloc (.cells (msgCells m v').toArray 42) := ⟨_, rfl⟩
  have hR : Below w.heap.size w w1 := by rw [hw1]; exact ((Below.refl _ _).alloc (Nat.le_refl _) _).alloc (by simp) _
  have bX : BoxAt w1 w.heap.size (msgCells m v) 42 := by rw [hw1]; exact (BoxAt.new w (msgCells m v) _).alloc _
  have bY : BoxAt w1 (w.heap.size + 1) (msgCells m v') 42 := by rw [hw1]; exact BoxAt.newAt (w.alloc _) (msgCells m v') _ (by simp)
  have G := Lib.hid (h.below hR (fun _ h => h))
  have H := Lib.hid (h'.below hR (fun _ h => h))
  have HR := Lib.hid hR
  have HX := Lib.hid bX
  have HY := Lib.hid bY
  have x0 : w1.cell? ⟨w.heap.size, 0, none⟩ = some (.int .i64 m.f) := bX.cell 0 rfl
  have y0 : w1.cell? ⟨w.heap.size + 1, 0, none⟩ = some (.int .i64 m.f) := bY.cell 0 rfl
  have x1 : w1.cell? ⟨w.heap.size, 1, none⟩ = some (.int .i64 m.t) := bX.cell 1 rfl
  have y1 : w1.cell? ⟨w.heap.size + 1, 1, none⟩ = some (.int .i64 m.t) := bY.cell 1 rfl
  have x2 : w1.cell? ⟨w.heap.size, 2, none⟩ = some (.int .i64 m.k) := bX.cell 2 rfl
  have y2 : w1.cell? ⟨w.heap.size + 1, 2, none⟩ = some (.int .i64 m.k) := bY.cell 2 rfl
  have x3 : w1.cell? ⟨w.heap.size, 3, none⟩ = some (.int .i64 m.b.a) := bX.cell 3 rfl
  have y3 : w1.cell? ⟨w.heap.size + 1, 3, none⟩ = some (.int .i64 m.b.a) := bY.cell 3 rfl
  have x4 : w1.cell? ⟨w.heap.size, 4, none⟩ = some (.int .i64 m.b.n) := bX.cell 4 rfl
  have y4 : w1.cell? ⟨w.heap.size + 1, 4, none⟩ = some (.int .i64 m.b.n) := bY.cell 4 rfl
  have x5 : w1.cell? ⟨w.heap.size, 5, none⟩ = some (v.tx) := bX.cell 5 rfl
  have y5 : w1.cell? ⟨w.heap.size + 1, 5, none⟩ = some (v'.tx) := bY.cell 5 rfl
  have x6 : w1.cell? ⟨w.heap.size, 6, none⟩ = some (.int .i64 m.h.a) := bX.cell 6 rfl
  have y6 : w1.cell? ⟨w.heap.size + 1, 6, none⟩ = some (.int .i64 m.h.a) := bY.cell 6 rfl
  have x7 : w1.cell? ⟨w.heap.size, 7, none⟩ = some (.int .i64 m.h.r) := bX.cell 7 rfl
  have y7 : w1.cell? ⟨w.heap.size + 1, 7, none⟩ = some (.int .i64 m.h.r) := bY.cell 7 rfl
  have x8 : w1.cell? ⟨w.heap.size, 8, none⟩ = some (v.bs) := bX.cell 8 rfl
  have y8 : w1.cell? ⟨w.heap.size + 1, 8, none⟩ = some (v'.bs) := bY.cell 8 rfl
  have x9 : w1.cell? ⟨w.heap.size, 9, none⟩ = some (v.ps) := bX.cell 9 rfl
  have y9 : w1.cell? ⟨w.heap.size + 1, 9, none⟩ = some (v'.ps) := bY.cell 9 rfl
  have x10 : w1.cell? ⟨w.heap.size, 10, none⟩ = some (.int .i64 m.s.a) := bX.cell 10 rfl
  have y10 : w1.cell? ⟨w.heap.size + 1, 10, none⟩ = some (.int .i64 m.s.a) := bY.cell 10 rfl
  have x11 : w1.cell? ⟨w.heap.size, 11, none⟩ = some (.int .i64 m.s.r) := bX.cell 11 rfl
  have y11 : w1.cell? ⟨w.heap.size + 1, 11, none⟩ = some (.int .i64 m.s.r) := bY.cell 11 rfl
  have x12 : w1.cell? ⟨w.heap.size, 12, none⟩ = some (v.d) := bX.cell 12 rfl
  have y12 : w1.cell? ⟨w.heap.size + 1, 12, none⟩ = some (v'.d) := bY.cell 12 rfl
  have x13 : w1.cell? ⟨w.heap.size, 13, none⟩ = some (.int .i64 m.c.h.a) := bX.cell 13 rfl
  have y13 : w1.cell? ⟨w.heap.size + 1, 13, none⟩ = some (.int .i64 m.c.h.a) := bY.cell 13 rfl
  have x14 : w1.cell? ⟨w.heap.size, 14, none⟩ = some (.int .i64 m.c.h.r) := bX.cell 14 rfl
  have y14 : w1.cell? ⟨w.heap.size + 1, 14, none⟩ = some (.int .i64 m.c.h.r) := bY.cell 14 rfl
  have x15 : w1.cell? ⟨w.heap.size, 15, none⟩ = some (v.cbs) := bX.cell 15 rfl
  have y15 : w1.cell? ⟨w.heap.size + 1, 15, none⟩ = some (v'.cbs) := bY.cell 15 rfl
  have x16 : w1.cell? ⟨w.heap.size, 16, none⟩ = some (v.cps) := bX.cell 16 rfl
  have y16 : w1.cell? ⟨w.heap.size + 1, 16, none⟩ = some (v'.cps) := bY.cell 16 rfl
  have x17 : w1.cell? ⟨w.heap.size, 17, none⟩ = some (v.vs) := bX.cell 17 rfl
  have y17 : w1.cell? ⟨w.heap.size + 1, 17, none⟩ = some (v'.vs) := bY.cell 17 rfl
  have x18 : w1.cell? ⟨w.heap.size, 18, none⟩ = some (.int .i64 m.r) := bX.cell 18 rfl
  have y18 : w1.cell? ⟨w.heap.size + 1, 18, none⟩ = some (.int .i64 m.r) := bY.cell 18 rfl
  have e0 : (m.f == m.f) = true := by simp
  have e1 : (m.t == m.t) = true := by simp
  have e2 : (m.k == m.k) = true := by simp
  have e3 : (m.r == m.r) = true := by simp
  go_enter Try.func28, Try.ntmps28
  go_upto_region 1 with fail
  rw [← hw1]
  clear hw1 hR bX bY h h'
  go_wp2_with fail
  refine (sameBatch_any m.b.a m.b.n m.b.a m.b.n m.b.txs m.b.txs _ _ w1 G.out.tx H.out.tx).mono ?_
  rintro e w2 ⟨rfl, hb2⟩
  rw [decide_eq_true (show m.b.a = m.b.a ∧ m.b.n = m.b.n ∧ m.b.txs = m.b.txs from ⟨rfl, rfl, rfl⟩)]
  have HB2 := Lib.hid (HR.out.trans (hb2.mono HR.out.size))
  have bX := HX.out.belowS hb2
  have bY := HY.out.belowS hb2
  have HX2 := Lib.hid bX
  have HY2 := Lib.hid bY
  have G2 := Lib.hid (G.out.below hb2 (fun _ h => h))
  have H2 := Lib.hid (H.out.below hb2 (fun _ h => h))
  clear x0 y0 x1 y1 x2 y2 x3 y3 x4 y4 x5 y5 x6 y6 x7 y7 x8 y8 x9 y9 x10 y10 x11 y11 x12 y12 x13 y13 x14 y14 x15 y15 x16 y16 x17 y17 x18 y18 hb2 HX HY 
  have x6 : w2.cell? ⟨w.heap.size, 6, none⟩ = some (.int .i64 m.h.a) := bX.cell 6 rfl
  have y6 : w2.cell? ⟨w.heap.size + 1, 6, none⟩ = some (.int .i64 m.h.a) := bY.cell 6 rfl
  have x7 : w2.cell? ⟨w.heap.size, 7, none⟩ = some (.int .i64 m.h.r) := bX.cell 7 rfl
  have y7 : w2.cell? ⟨w.heap.size + 1, 7, none⟩ = some (.int .i64 m.h.r) := bY.cell 7 rfl
  have x8 : w2.cell? ⟨w.heap.size, 8, none⟩ = some (v.bs) := bX.cell 8 rfl
  have y8 : w2.cell? ⟨w.heap.size + 1, 8, none⟩ = some (v'.bs) := bY.cell 8 rfl
  have x9 : w2.cell? ⟨w.heap.size, 9, none⟩ = some (v.ps) := bX.cell 9 rfl
  have y9 : w2.cell? ⟨w.heap.size + 1, 9, none⟩ = some (v'.ps) := bY.cell 9 rfl
  have x10 : w2.cell? ⟨w.heap.size, 10, none⟩ = some (.int .i64 m.s.a) := bX.cell 10 rfl
  have y10 : w2.cell? ⟨w.heap.size + 1, 10, none⟩ = some (.int .i64 m.s.a) := bY.cell 10 rfl
  have x11 : w2.cell? ⟨w.heap.size, 11, none⟩ = some (.int .i64 m.s.r) := bX.cell 11 rfl
  have y11 : w2.cell? ⟨w.heap.size + 1, 11, none⟩ = some (.int .i64 m.s.r) := bY.cell 11 rfl
  have x12 : w2.cell? ⟨w.heap.size, 12, none⟩ = some (v.d) := bX.cell 12 rfl
  have y12 : w2.cell? ⟨w.heap.size + 1, 12, none⟩ = some (v'.d) := bY.cell 12 rfl
  have x13 : w2.cell? ⟨w.heap.size, 13, none⟩ = some (.int .i64 m.c.h.a) := bX.cell 13 rfl
  have y13 : w2.cell? ⟨w.heap.size + 1, 13, none⟩ = some (.int .i64 m.c.h.a) := bY.cell 13 rfl
  have x14 : w2.cell? ⟨w.heap.size, 14, none⟩ = some (.int .i64 m.c.h.r) := bX.cell 14 rfl
  have y14 : w2.cell? ⟨w.heap.size + 1, 14, none⟩ = some (.int .i64 m.c.h.r) := bY.cell 14 rfl
  have x15 : w2.cell? ⟨w.heap.size, 15, none⟩ = some (v.cbs) := bX.cell 15 rfl
  have y15 : w2.cell? ⟨w.heap.size + 1, 15, none⟩ = some (v'.cbs) := bY.cell 15 rfl
  have x16 : w2.cell? ⟨w.heap.size, 16, none⟩ = some (v.cps) := bX.cell 16 rfl
  have y16 : w2.cell? ⟨w.heap.size + 1, 16, none⟩ = some (v'.cps) := bY.cell 16 rfl
  have x17 : w2.cell? ⟨w.heap.size, 17, none⟩ = some (v.vs) := bX.cell 17 rfl
  have y17 : w2.cell? ⟨w.heap.size + 1, 17, none⟩ = some (v'.vs) := bY.cell 17 rfl
  have x18 : w2.cell? ⟨w.heap.size, 18, none⟩ = some (.int .i64 m.r) := bX.cell 18 rfl
  have y18 : w2.cell? ⟨w.heap.size + 1, 18, none⟩ = some (.int .i64 m.r) := bY.cell 18 rfl
  clear bX bY
  go_wp2_with fail
  refine (sameHeader_any m.h.a m.h.r m.h.a m.h.r m.h.bs m.h.ps m.h.bs m.h.ps _ _ _ _ w2 G2.out.bs G2.out.ps H2.out.bs H2.out.ps).mono ?_
  rintro e w3 ⟨rfl, hb3⟩
  rw [decide_eq_true (show m.h.a = m.h.a ∧ m.h.r = m.h.r ∧ m.h.bs = m.h.bs ∧ m.h.ps = m.h.ps from ⟨rfl, rfl, rfl, rfl⟩)]
  have HB3 := Lib.hid (HB2.out.trans (hb3.mono HB2.out.size))
  have bX := HX2.out.belowS hb3
  have bY := HY2.out.belowS hb3
  have HX3 := Lib.hid bX
  have HY3 := Lib.hid bY
  have G3 := Lib.hid (G2.out.below hb3 (fun _ h => h))
  have H3 := Lib.hid (H2.out.below hb3 (fun _ h => h))
  clear x6 y6 x7 y7 x8 y8 x9 y9 x10 y10 x11 y11 x12 y12 x13 y13 x14 y14 x15 y15 x16 y16 x17 y17 x18 y18 hb3 HX2 HY2 G2 H2 HB2
  have x10 : w3.cell? ⟨w.heap.size, 10, none⟩ = some (.int .i64 m.s.a) := bX.cell 10 rfl
  have y10 : w3.cell? ⟨w.heap.size + 1, 10, none⟩ = some (.int .i64 m.s.a) := bY.cell 10 rfl
  have x11 : w3.cell? ⟨w.heap.size, 11, none⟩ = some (.int .i64 m.s.r) := bX.cell 11 rfl
  have y11 : w3.cell? ⟨w.heap.size + 1, 11, none⟩ = some (.int .i64 m.s.r) := bY.cell 11 rfl
  have x12 : w3.cell? ⟨w.heap.size, 12, none⟩ = some (v.d) := bX.cell 12 rfl
  have y12 : w3.cell? ⟨w.heap.size + 1, 12, none⟩ = some (v'.d) := bY.cell 12 rfl
  have x13 : w3.cell? ⟨w.heap.size, 13, none⟩ = some (.int .i64 m.c.h.a) := bX.cell 13 rfl
  have y13 : w3.cell? ⟨w.heap.size + 1, 13, none⟩ = some (.int .i64 m.c.h.a) := bY.cell 13 rfl
  have x14 : w3.cell? ⟨w.heap.size, 14, none⟩ = some (.int .i64 m.c.h.r) := bX.cell 14 rfl
  have y14 : w3.cell? ⟨w.heap.size + 1, 14, none⟩ = some (.int .i64 m.c.h.r) := bY.cell 14 rfl
  have x15 : w3.cell? ⟨w.heap.size, 15, none⟩ = some (v.cbs) := bX.cell 15 rfl
  have y15 : w3.cell? ⟨w.heap.size + 1, 15, none⟩ = some (v'.cbs) := bY.cell 15 rfl
  have x16 : w3.cell? ⟨w.heap.size, 16, none⟩ = some (v.cps) := bX.cell 16 rfl
  have y16 : w3.cell? ⟨w.heap.size + 1, 16, none⟩ = some (v'.cps) := bY.cell 16 rfl
  have x17 : w3.cell? ⟨w.heap.size, 17, none⟩ = some (v.vs) := bX.cell 17 rfl
  have y17 : w3.cell? ⟨w.heap.size + 1, 17, none⟩ = some (v'.vs) := bY.cell 17 rfl
  have x18 : w3.cell? ⟨w.heap.size, 18, none⟩ = some (.int .i64 m.r) := bX.cell 18 rfl
  have y18 : w3.cell? ⟨w.heap.size + 1, 18, none⟩ = some (.int .i64 m.r) := bY.cell 18 rfl
  clear bX bY
  go_wp2_with fail
  refine (sameSlot_eq m.s _ _ w3 G3.out.d H3.out.d).mono ?_
  rintro e w4 ⟨rfl, hb4⟩
  have HB4 := Lib.hid (HB3.out.trans (hb4.mono HB3.out.size))
  have bX := HX3.out.belowS hb4
  have bY := HY3.out.belowS hb4
  have HX4 := Lib.hid bX
  have HY4 := Lib.hid bY
  have G4 := Lib.hid (G3.out.below hb4 (fun _ h => h))
  have H4 := Lib.hid (H3.out.below hb4 (fun _ h => h))
  clear x10 y10 x11 y11 x12 y12 x13 y13 x14 y14 x15 y15 x16 y16 x17 y17 x18 y18 hb4 HX3 HY3 G3 H3 HB3
  have x13 : w4.cell? ⟨w.heap.size, 13, none⟩ = some (.int .i64 m.c.h.a) := bX.cell 13 rfl
  have y13 : w4.cell? ⟨w.heap.size + 1, 13, none⟩ = some (.int .i64 m.c.h.a) := bY.cell 13 rfl
  have x14 : w4.cell? ⟨w.heap.size, 14, none⟩ = some (.int .i64 m.c.h.r) := bX.cell 14 rfl
  have y14 : w4.cell? ⟨w.heap.size + 1, 14, none⟩ = some (.int .i64 m.c.h.r) := bY.cell 14 rfl
  have x15 : w4.cell? ⟨w.heap.size, 15, none⟩ = some (v.cbs) := bX.cell 15 rfl
  have y15 : w4.cell? ⟨w.heap.size + 1, 15, none⟩ = some (v'.cbs) := bY.cell 15 rfl
  have x16 : w4.cell? ⟨w.heap.size, 16, none⟩ = some (v.cps) := bX.cell 16 rfl
  have y16 : w4.cell? ⟨w.heap.size + 1, 16, none⟩ = some (v'.cps) := bY.cell 16 rfl
  have x17 : w4.cell? ⟨w.heap.size, 17, none⟩ = some (v.vs) := bX.cell 17 rfl
  have y17 : w4.cell? ⟨w.heap.size + 1, 17, none⟩ = some (v'.vs) := bY.cell 17 rfl
  have x18 : w4.cell? ⟨w.heap.size, 18, none⟩ = some (.int .i64 m.r) := bX.cell 18 rfl
  have y18 : w4.cell? ⟨w.heap.size + 1, 18, none⟩ = some (.int .i64 m.r) := bY.cell 18 rfl
  clear bX bY
  go_wp2_with fail
  refine (sameCert_eq m.c _ _ _ _ _ _ w4 G4.out.cbs G4.out.cps G4.out.vs H4.out.cbs H4.out.cps H4.out.vs).mono ?_
  rintro e w5 ⟨rfl, hb5⟩
  have HB5 := Lib.hid (HB4.out.trans (hb5.mono HB4.out.size))
  clear hb5
  go_wp2
  go_ret
  exact ⟨rfl, HB5.out⟩
end Go.Proofs.Ytgkmgdkmafbohaa
/- append at an operation that is guarded, its guard met. No program is named. -/
set_option linter.unusedVariables false
set_option linter.unusedSimpArgs false
namespace Go.Proofs.Ytgkmgdkmafbohaa
open Go Go.RowKit

theorem wpList_wanted {P : Program} {w : World} {ops : Array Oper} {rest : List Oper} {o : Oper} {a : Act} {Q : Exit → Act → World → Prop} (hw : Region.wanted o (yielded ops a.tmps) = true)
    (h : ∀ K : Act → World → Prop, (∀ a w, wpList P ops Q rest a w → K a w) → o.wp P a w K Q) : wpList P ops Q (o :: rest) a w :=
  wpList_step fun K hK => by rw [if_pos hw]; exact h K hK
theorem wpList_append_at1G {P : Program} {w : World} {ops : Array Oper} {rest : List Oper} {o : Oper} {a : Act} {Q : Exit → Act → World → Prop} (hgd : Region.wanted o (yielded ops a.tmps) = true) (s x : Operand) (t : TypeId)
    (ho : o.op = .call { callee := .builtin .append, args := #[s, x], argTypes := #[t, t] })
    {e : TypeId} {size bytes : Nat} (hE : ElemOk P t e size bytes) (base : Nat) (vs : Value) (hs : a.eval s = vs) (n : Nat) (xs : List Value) (hown : w.ownsRow base e size vs n xs)
    (vx : Value) (hvx : a.eval x = vx) (m : Nat) (news : List Value) (hx : SlCells w vx m size news) (h1 : ∀ u ∈ news, u.oneCell' = true) (hm : 0 < m) (h63 : n + m ≤ maxLen) (hbytes : (n + m) * bytes ≤ 140737488355328) (hbase : base ≤ w.heap.size)
    (H : Nat) (hH : w.heap.size = H)
    (h : ∀ g cap w', w'.ownsRow base e size (.slice (some ⟨g, 0, none⟩) (n + m) cap) (n + m) (xs ++ news) → w.grownBy w' vs.ownBlock → (vs.ownBlock = some g ∨ g = H) → g < w'.heap.size → wpList P ops Q rest (a.put o.dst (.slice (some ⟨g, 0, none⟩) (n + m) cap)) w') : wpList P ops Q (o :: rest) a w := by
  obtain ⟨ht, i, z, hi, hz, hsize, hby, hzs, hsz⟩ := hE
  obtain ⟨ad, c, rfl, h0, hl, hc⟩ := hx
  rcases ad with _ | ad
  · have := (h0 rfl).2; omega
  · refine wpList_wanted hgd fun K hK => wp_append_lies w s x t ho base e i z size bytes ht hi hz hsize hby hzs hsz vs n xs hs hown ad m c news hvx hl (fun j u hj => ?_) h1 hm h63 hbytes hbase H hH fun g cap w' h2 h3 h4 h5 => hK _ _ (h g cap w' h2 h3 h4 h5)
    obtain ⟨b, o, ha, hcell⟩ := hc j u hj
    simp only [Option.some.injEq] at ha
    subst ha
    unfold Addr.add
    split
    · rename_i h; subst h; simpa using hcell
    · exact hcell
end Go.Proofs.Ytgkmgdkmafbohaa
/- MessageBack: the walk. -/
set_option linter.unusedVariables false
set_option linter.unusedSimpArgs false
namespace Go.Proofs.Ytgkmgdkmafbohaa
open Go Go.RowKit

theorem wpList_load_boxG {P : Program} {w : World} {ops : Array Oper} {rest : List Oper} {o : Oper} {a : Act} {Q : Exit → Act → World → Prop} (hw : Region.wanted o (yielded ops a.tmps) = true) (ty : TypeId) (x : Operand) (ho : o.op = .load ty x)
    (b : Nat) (hx : a.eval x = .pointer (some ⟨b, 0, none⟩)) (cs : List Value) (T : TypeId) (hb : BoxAt w b cs T) {d : TypeDesc}
    (hu : P.underlying ty = some d) (hd : (match d with | .struct _ | .array _ _ => true | _ => false) = true) (hi : (P.info? ty).map (·.size) = some cs.toArray.size)
    (h : wpList P ops Q rest (a.put o.dst (.agg cs.toArray)) w) : wpList P ops Q (o :: rest) a w :=
  wpList_wanted hw fun K hK => wp_load_row ty x ho b hx T cs.toArray (0, 0) d hb hu hd hi (hK _ _ h)
set_option maxRecDepth 100000 in
set_option maxHeartbeats 8000000 in
theorem messageBack_case {Gx : Nat → Prop} (K A B C : Int) (vt : Value) (l : List Bytes) (tail : UInt8) (w : World) (k1 : -9223372036854775808 ≤ K) (k2 : K ≤ 9223372036854775807) (a1 : -9223372036854775808 ≤ A) (a2 : A ≤ 9223372036854775807) (b1 : -9223372036854775808 ≤ B) (b2 : B ≤ 9223372036854775807) (c1 : -9223372036854775808 ≤ C) (c2 : C ≤ 9223372036854775807)
    (hr : RdT Gx w vt l) (hs : ∀ t ∈ l, t.length ≤ 9223372036854775807) :
    Calls Try.prog 14 #[.agg #[.int .i64 K, .int .i64 A, .int .i64 B, .int .i64 C, vt], .int .u8 (tail.toNat : Int)] w fun e w' => e = .returned (.bool true) ∧ Below w.heap.size w w' := by
  have hMsg := fun (q : World) (hq : Below w.heap.size w q) => message_any (Gx := fun b => Gx b) K A B C vt l q k1 k2 a1 a2 b1 b2 c1 c2 (hr.below hq (fun _ h => h)) hs
  have hcode := msgOf_code K A B C l
  have hok := msgOf_size K A B C l
  have hone : vt.oneCell' = true := by obtain ⟨ad, cap, rfl, _⟩ := hr.form; rfl
  generalize msgOf K A B C l = M at *
  have HMSG := Lib.hid hMsg
  have HCODE := Lib.hid hcode
  have HOK := Lib.hid hok
  have hE := encL_len hcode
  have HD1 := Lib.hid (decode_enc M hcode)
  have HD2 := Lib.hid (decode_tail M tail hcode)
  have HEN := Lib.hid (rfl : encL M = encL M)
  clear hMsg hcode hok hr hs
  go_enter Try.func14, Try.ntmps14
  go_wp2_with fail
  refine (HMSG.out _ ((Below.refl _ _).alloc (Nat.le_refl _) _)).mono ?_
  rintro e w2 ⟨mv, rfl, hM, hb2⟩
  have HM := Lib.hid (hM.low)
  have HB2 := Lib.hid (((Below.refl w.heap.size w).alloc (Nat.le_refl _) (.cells #[.int .i64 K, .int .i64 A, .int .i64 B, .int .i64 C, vt] 24)).trans (hb2.mono (by simp)))
  clear hM hb2
  go_wp2_with (first
    | (refine wpList_store_new rfl 42 _ _ rfl (msgCells M mv) 42 zeroMsg rfl rfl (by kernel_rfl) rfl (msgCells_one HM.out) ?_; intro w3 hb3 hB3 hs3; have HB3 := Lib.hid (HB2.out.trans (hB3.mono HB2.out.size)); have HBX := Lib.hid hb3; have HM3 := Lib.hid (HM.out.keep (G' := fun b => b < w2.heap.size) (Keep.below hB3) (fun _ h => h.2)); have z3 := hB3.size; clear hb3 hB3)
    | (refine wpList_load_box rfl 42 _ rfl w2.heap.size rfl (msgCells M mv) 42 HBX.out Try.underlying42 rfl (by kernel_rfl) ?_))
  refine (wencode_ok M mv w3 HM3.out HOK.out HCODE.out).mono ?_
  rintro e w4 ⟨vb, rfl, hown4, hb4⟩
  have HO4 := Lib.hid hown4
  have HBX4 := Lib.hid (HBX.out.belowS hb4)
  have HM4 := Lib.hid (HM3.out.below hb4 (fun _ h => h))
  have HB4 := Lib.hid (HB3.out.trans (hb4.mono HB3.out.size))
  obtain ⟨bad, bcap, rfl⟩ := ownsRow_form hown4
  clear HBX HM3 hb4 HB3 hown4
  go_wp2_with fail
  refine (wdecode_any (encL M) _ w4 (RdS.of_owns (G := fun _ => True) HO4.out (fun _ _ => trivial))).mono ?_
  rw [HD1.out]
  rintro e w5 ⟨nv, rfl, hN, hb5⟩
  have HO5 := Lib.hid (ownsRow_below HO4.out hb5)
  have HBX5 := Lib.hid (HBX4.out.belowS hb5)
  have HM5 := Lib.hid (HM4.out.below hb5 (fun _ h => h))
  have HB5 := Lib.hid (HB4.out.trans (hb5.mono HB4.out.size))
  have HN5 := Lib.hid hN.low
  clear HBX4 HM4 hb5 HB4 HO4 hN
  go_upto_region 4 with (refine wpList_store_new rfl 42 _ _ rfl (msgCells M nv) 42 zeroMsg rfl rfl (by kernel_rfl) rfl (msgCells_one HN5.out) ?_; intro w6 hb6 hB6 hs6; have HB6 := Lib.hid (HB5.out.trans (hB6.mono HB5.out.size)); have HBY := Lib.hid hb6; have HBX6 := Lib.hid (HBX5.out.belowS hB6); have HM6 := Lib.hid (HM5.out.below hB6 (fun _ h => h)); have HN6 := Lib.hid (HN5.out.keep (G' := fun b => b < w5.heap.size) (Keep.below hB6) (fun _ h => h.2)); have HO6 := Lib.hid (ownsRow_below HO5.out hB6); clear hb6 hB6)
  have HR6 := Lib.hid (RdS.of_owns (G := fun _ => True) HO6.out (fun _ _ => trivial) : RdB (fun _ => True) w6 (.slice bad (encL M).length bcap) (encL M))
  have zs6 : w.heap.size ≤ w6.heap.size := HB6.out.size
  generalize hEE : encL M = E at *
  have HEE := Lib.hid hEE
  clear hEE HBX5 HM5 HB5 HO5 HN5
  go_wp2_with (first
    | (at_builtin; refine wpList_append_sl rfl _ _ 26 rfl elemB w6.heap.size (.slice none 0 0) rfl 0 [] (World.ownsRow_nil _ _ _ _) _ rfl E.length (byteVs E) (by exact HR6.out.slCells) (oneCell_map _ _ (fun _ => rfl)) (by unfold maxLen; omega) (by omega) (Nat.le_refl _) ?_; intro v7 w7 hown7 hgr7; have HO7 := Lib.hid hown7; have HB67 := Lib.hid (show Below w6.heap.size w6 w7 from (Below.refl _ _).grown hgr7 (Nat.le_refl _) (fun k hk => absurd hk (by simp [Value.ownBlock]))); clear hown7 hgr7)
    | (at_builtin; refine wpList_append_sl rfl _ _ 26 rfl elemB w6.heap.size _ rfl (0 + E.length) ([] ++ byteVs E) (HO7.out.alloc _) _ rfl 1 [.int .u8 (tail.toNat : Int)] (by exact slCells_new _ [_] _ 1 rfl) (by simp [Value.oneCell']) (by unfold maxLen; omega) (by omega) (by have := HB67.out.size; simp; omega) ?_; intro v8 w8 hown8 hgr8; have HO8 := Lib.hid hown8; have HB68 := Lib.hid (show Below w6.heap.size w6 w8 from (HB67.out.alloc HB67.out.size _).grown hgr8 (by have := HB67.out.size; simp; omega) (ownBlock_ge HO7.out)); clear hown8 hgr8))
  have hR8 : RdB (fun _ => True) w8 v8 (E ++ [tail]) := RdS.of_owns (base := w6.heap.size) (e := 5) (n := 0 + E.length + 1) (by have := HO8.out; simpa [byteVs] using this) (fun _ _ => trivial)
  refine (wdecode_any (E ++ [tail]) _ w8 hR8).mono ?_
  rw [HD2.out]
  rintro e w9 ⟨tv, rfl, hN9, hb9⟩
  have HT9 := Lib.hid hN9
  have hb69 : Below w6.heap.size w6 w9 := HB68.out.trans (hb9.mono HB68.out.size)
  have HBX9 := Lib.hid (HBX6.out.belowS hb69)
  have HBY9 := Lib.hid (HBY.out.belowS hb69)
  have HM9 := Lib.hid (HM6.out.below hb69 (fun _ h => h))
  have HN9 := Lib.hid (HN6.out.below hb69 (fun _ h => h))
  have HB9 := Lib.hid (HB6.out.trans (hb69.mono HB6.out.size))
  clear hN9 hb9 hb69 HBX6 HBY HM6 HN6 HB6 hR8 HO8 HB68 HO7 HB67 HR6 HO6
  go_upto_region 5 with (refine wpList_store_new rfl 42 _ _ rfl (msgCells msg0 tv) 42 zeroMsg rfl rfl (by kernel_rfl) rfl (msgCells_one HT9.out) ?_; intro w10 hb10 hB10 hs10; have HBX10 := Lib.hid (HBX9.out.belowS hB10); have HBY10 := Lib.hid (HBY9.out.belowS hB10); have HM10 := Lib.hid (HM9.out.below hB10 (fun _ h => h)); have HN10 := Lib.hid (HN9.out.below hB10 (fun _ h => h)); have HB10 := Lib.hid (HB9.out.trans (hB10.mono HB9.out.size)); clear hb10 hB10)
  clear HBX9 HBY9 HM9 HN9 HB9
  have l3 : (3 : Int) < (E.length : Int) := by omega
  go_wp2_with (first
    | (refine wpList_load_boxG (by rfl) 42 _ rfl w2.heap.size rfl (msgCells M mv) 42 HBX10.out Try.underlying42 rfl (by kernel_rfl) ?_)
    | (refine wpList_load_boxG (by rfl) 42 _ rfl w5.heap.size rfl (msgCells M nv) 42 HBY10.out Try.underlying42 rfl (by kernel_rfl) ?_))
  refine (sameMessage_eq M mv nv w10 HM10.out HN10.out).mono ?_
  rintro e w11 ⟨rfl, hb11⟩
  have HBX11 := Lib.hid (HBX10.out.belowS hb11)
  have HM11 := Lib.hid (HM10.out.below hb11 (fun _ h => h))
  have HB11 := Lib.hid (HB10.out.trans (hb11.mono HB10.out.size))
  clear hb11 HBX10 HBY10 HM10 HN10 HB10
  go_wp2_with (refine wpList_load_boxG (by rfl) 42 _ rfl w2.heap.size rfl (msgCells M mv) 42 HBX11.out Try.underlying42 rfl (by kernel_rfl) ?_)
  refine (wcheck_any M mv w11 HM11.out HOK.out).mono ?_
  rintro e w12 ⟨rfl, hb12⟩
  rw [HCODE.out]
  have HB12 := Lib.hid (HB11.out.trans (hb12.mono HB11.out.size))
  clear hb12
  go_wp2
  go_ret
  exact ⟨rfl, HB12.out⟩
theorem messageBack_walk (vt : Value) (r : RawD) (tail : UInt8) (w : World) (hr : RawOk (fun _ => True) w vt r) :
    Calls Try.prog 14 #[.agg #[.int .i64 r.k, .int .i64 r.a, .int .i64 r.b, .int .i64 r.c, vt], .int .u8 (tail.toNat : Int)] w fun e w' => e = .returned (.bool true) ∧ Below w.heap.size w w' :=
  messageBack_case r.k r.a r.b r.c vt r.txs tail w hr.1.1 hr.1.2 hr.2.1.1 hr.2.1.2 hr.2.2.1.1 hr.2.2.1.2 hr.2.2.2.1.1 hr.2.2.2.1.2 hr.2.2.2.2.1 hr.2.2.2.2.2
end Go.Proofs.Ytgkmgdkmafbohaa
/- MessageBack: the statement, from its walk: for every input that reads as data the call returns true, and the input reads as it did. -/
set_option linter.unusedVariables false
set_option linter.unusedSimpArgs false
namespace Go.Proofs.Ytgkmgdkmafbohaa.messageBack
open Go Go.ChangeShapes Go.WideShapes Go.ChangeAt Go.RowKit
open Go.ChangeMaps (open_string)
theorem own : ownKnob Try.prog.godebug = none := by kernel_rfl
theorem laidOut : laidOutB Try.prog = true := by kernel_rfl
set_option maxRecDepth 100000 in
theorem lifted (os : Os) (started : os.Started) (H : Type) (enc : TypeId × Value → H) :
    ReturnsInHanded {} Try.checked os 14 .any (Rows.messageBackSpec.pre6 enc Try.prog Try.f14 Rows.messageBackRow.domain false) (Rows.messageBackSpec.post enc Try.prog Try.f14 false true false false) := by
  refine returnsInHanded_of_change (C := Try.checked) own started (by kernel_rfl) Try.func14
    (ChangeSpec.witness6 (enc := enc) (C := Try.checked) false ⟨#[], #[.agg #[.int .i64 0, .int .i64 0, .int .i64 0, .int .i64 0, .slice none 0 0], .int .u8 0], []⟩ 8 (by kernel_rfl) (by kernel_rfl) (by kernel_rfl) (by kernel_rfl)) ?_
  intro W base args ds gs before hval0 hW hcnd _
  have hval : ∀ (j : Nat) t v, Try.f14.params[j]? = some t → args[j]? = some v → Value.okWide Try.prog W .any base t v := hval0
  have hW' := hW
  obtain ⟨p, q, hA0, hV, rfl, hfz, hnd⟩ := hW
  have hA : DataW.TrodAll enc Try.prog W 0 (fun _ => true) true Try.f14.params.toList args.toList ds p := hA0
  rw [Try.params14] at hA hval
  obtain ⟨v0, vs0, d0, ds0, p0, q0, hargs, rfl, rfl, h0, r0⟩ := trodAll_cons hA
  obtain ⟨v1, vs1, d1, ds1, p1, q1, rfl, rfl, rfl, h1, r1⟩ := trodAll_cons r0
  obtain ⟨rfl, rfl, rfl⟩ := trodAll_nil r1
  obtain rfl : args = #[v0, v1] := by cases args; simp_all
  obtain ⟨rfl, rfl⟩ := trodVars_none hV
  have k0 := h0
  have k1 := h1
  obtain ⟨vv0, l0, rfl, hl0⟩ := open_raw (hval 0 24 v0 rfl rfl) h0
  obtain ⟨b1, rfl, rfl, rfl, w1⟩ := open_int Try.underlying5 (hval 1 5 v1 rfl rfl) h1
  obtain ⟨a1, rfl⟩ : ∃ c : UInt8, b1 = (c.toNat : Int) := ⟨UInt8.ofNat b1.toNat, by have := bounds_u8 w1; rw [UInt8.toNat_ofNat']; omega⟩
  clear hA0 hval0
  refine (messageBack_walk vv0 l0 a1 W hl0).mono fun e W' ⟨he, bel⟩ => ?_
  subst he
  exact ⟨_, rfl, _, _, _, [], _, [], hW', trodAll_mk1 (shut_bool Try.underlying4 _), (trodAll_cons_mk (argBack laidOut (by kernel_rfl) (of_decide_eq_true (by kernel_rfl)) k0 bel) (trodAll_cons_mk (argBack laidOut (by kernel_rfl) (of_decide_eq_true (by kernel_rfl)) k1 bel) trodAll_mk0)), rfl, bel.frame _, fun h => by cases h⟩
theorem named : Try.pinned.checked.prog.funcNamed Rows.messageBackRow.func = some 14 := by kernel_rfl
theorem closed : joinedFacts Try.pinned.checked.prog 14 Try.f14 Rows.messageBackSpec Rows.messageBackRow = true := by kernel_rfl
theorem over : Rows.messageBackRow.holds Try.pinned (OpenSpec.ofChange Rows.messageBackSpec) :=
  OpenClaim.holds_of_wide 14 Try.f14 rfl rfl rfl rfl rfl rfl rfl ⟨rfl, rfl, rfl, rfl, rfl⟩ rfl rfl rfl rfl rfl named Try.func14 closed
    (of_decide_eq_true (by kernel_rfl)) (by unfold Func.isWrapper; first | (rw [if_pos (by decide +kernel)]; kernel_rfl) | (rw [if_neg (by decide +kernel)]; exact ⟨rfl, rfl⟩))
    (fun os started H enc _ => lifted os started H enc)
/-- The statement. -/
theorem proved : Rows.MessageBackSaid := over
end Go.Proofs.Ytgkmgdkmafbohaa.messageBack
