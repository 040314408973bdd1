/- wire.Decode: what it computes. -/
import Derived.Test.YtegdpjoncjmdeaaSome
import Derived.Test.YtegdpjoncjmdeaaDecH
import Derived.Test.YtegdpjoncjmdeaaBas
import Derived.Test.YtegdpjoncjmdeaaMsgC
import Derived.Test.YtegdpjoncjmdeaaEncC
import Derived.Deep.CutBlock
set_option linter.unusedVariables false
set_option linter.unusedSimpArgs false
namespace Go.Proofs.Ytegdpjoncjmdeaa
open Go Go.RowKit

theorem many_all {α : Type} {p : α → Prop} (f : Rdr → α × Rdr) (hf : ∀ r, p (f r).1) : ∀ (k : Nat) (r : Rdr), ∀ x ∈ (Rdr.many f k r).1, p x
  | 0, r => by simp [Rdr.many_zero]
  | k + 1, r => by
    cases h : r.short
    · rw [Rdr.many_next f k r h]
      intro x hx
      rcases List.mem_cons.1 hx with rfl | hx
      · exact hf r
      · exact many_all f hf k _ x hx
    · rw [Rdr.many_short f _ r h]; simp
theorem list_len {α : Type} (f : Rdr → α × Rdr) (r : Rdr) : (Rdr.list f r).1.length ≤ 255 := by
  have h1 := Rdr.many_len f (r.num 1).1.toNat (r.num 1).2
  have h2 := (r.num_bound 1).2
  have h3 : (Rdr.list f r).1 = (Rdr.many f (r.num 1).1.toNat (r.num 1).2).1 := rfl
  rw [h3]; simp at h2; omega
theorem text_len (r : Rdr) : r.text.1.length ≤ 255 := by
  have h1 := (r.num 1).2.take_len (r.num 1).1.toNat
  have h2 := (r.num_bound 1).2
  have h3 : r.text.1 = ((r.num 1).2.take (r.num 1).1.toNat).1 := rfl
  rw [h3]; simp at h2; omega
theorem header_len (r : Rdr) : r.header.1.bs.length + r.header.1.ps.length ≤ 9223372036854775807 := by
  have h1 := list_len (fun r => r.take 32) ((r.num 1).2.num 3).2
  have h2 := list_len (fun r => r.take 32) ((r.num 1).2.num 3).2.digests.2
  have e1 : r.header.1.bs = (Rdr.list (fun r => r.take 32) ((r.num 1).2.num 3).2).1 := rfl
  have e2 : r.header.1.ps = (Rdr.list (fun r => r.take 32) ((r.num 1).2.num 3).2.digests.2).1 := rfl
  rw [e1, e2]; omega
theorem decM_ok (l : Bytes) : MsgOk (decM l).1 := by
  unfold decM
  simp only
  generalize hr : ((((⟨l, false⟩ : Rdr).num 1).2.num 1).2.num 1).2 = r
  generalize ((⟨l, false⟩ : Rdr).num 1).1 = k
  generalize (((⟨l, false⟩ : Rdr).num 1).2.num 1).1 = f
  generalize ((((⟨l, false⟩ : Rdr).num 1).2.num 1).2.num 1).1 = t
  unfold Rdr.body
  simp only
  split
  · exact ⟨fun x hx => Nat.le_trans (many_all (p := fun t => t.length ≤ 255) Rdr.text (fun r => text_len r) _ _ x hx) (by decide), Nat.zero_le _, Nat.zero_le _⟩
  split
  · exact ⟨fun x hx => absurd hx (by simp [msg0, bat0]), header_len r, Nat.zero_le _⟩
  split
  · exact ⟨fun x hx => absurd hx (by simp [msg0, bat0]), Nat.zero_le _, Nat.zero_le _⟩
  split
  · exact ⟨fun x hx => absurd hx (by simp [msg0, bat0]), Nat.zero_le _, header_len r⟩
  split
  · exact ⟨fun x hx => absurd hx (by simp [msg0, bat0]), Nat.zero_le _, Nat.zero_le _⟩
  · exact ⟨fun x hx => absurd hx (by simp [msg0, bat0]), Nat.zero_le _, Nat.zero_le _⟩
theorem msg0_cells : msgCells msg0 mv0 = zeroMsg := rfl
set_option maxRecDepth 100000 in
set_option maxHeartbeats 4000000 in
theorem wdecode_size (ad : Option Addr) (n cap : Nat) (w : World) (h : 4000 < n) :
    Calls Try.prog 15 #[.slice ad n cap] w fun e w' => e = .returned (.tuple #[.agg (msgCells msg0 mv0).toArray, .int .i64 1]) ∧ Below w.heap.size w w' := by
  have h1 : (4000 : Int) < (n : Int) := by omega
  rw [msg0_cells]
  go_enter Try.func15, Try.ntmps15
  go_wp2_with (refine wpList_store_new rfl 35 _ _ rfl zeroMsg 35 zeroMsg rfl rfl (by kernel_rfl) rfl rfl ?_; intro w2 hb2 hB2 hs2)
  exact bodyPost_ret (results_cell_tmp Try.results15 _ w2 w.heap.size 35 zeroMsg _ _ rfl rfl hb2 Try.underlying35 rfl (by kernel_rfl)) rfl ⟨rfl, hB2⟩
theorem rdM_zero (G : Nat → Prop) (w : World) : RdM G w mv0 msg0 := ⟨RdS.nil _ _ _, RdS.nil _ _ _, RdS.nil _ _ _, RdS.nil _ _ _, RdS.nil _ _ _, RdS.nil _ _ _, RdS.nil _ _ _⟩
theorem num_zero_of_nil (r : Rdr) (h : r.rest = []) : (r.num 1).1 = 0 := by
  unfold Rdr.num
  rw [Rdr.take_ends (by unfold Rdr.ends; simp [h])]; rfl
set_option maxRecDepth 100000 in
set_option maxHeartbeats 8000000 in
theorem wdecode_go {G : Nat → Prop} (l : Bytes) (v : Value) (w : World) (hv : RdB G w v l) (hl : l.length ≤ 4000) (h0 : 0 < l.length) :
    Calls Try.prog 15 #[v] w fun e w' => ∃ mv, e = .returned (.tuple #[.agg (msgCells (decode l).1 mv).toArray, .int .i64 (decode l).2]) ∧ RdM (fun b => w.heap.size ≤ b) w' mv (decode l).1 ∧ Below w.heap.size w w' := by
  obtain ⟨ad, cap, rfl, -, -⟩ := hv.form
  have h1 : ¬ (4000 : Int) < (l.length : Int) := by omega
  have HV := Lib.hid (hv.low (by decide))
  obtain ⟨w1, hw1⟩ : ∃ w1, w1 = (w.alloc (.cells zeroMsg.toArray 35)).alloc (.cells #[.slice ad l.length cap, .bool false] 71) := ⟨_, rfl⟩
  have hb1 : Below w.heap.size w w1 := by rw [hw1]; exact ((Below.refl _ _).alloc (Nat.le_refl _) _).alloc (by simp) _
  have bZ : BoxAt w1 w.heap.size zeroMsg 35 := by rw [hw1]; exact (BoxAt.new w zeroMsg _).alloc _
  have bR : BoxAt w1 (w.heap.size + 1) [.slice ad l.length cap, .bool false] 71 := by rw [hw1]; exact BoxAt.newAt (w.alloc _) [_, _] _ (by simp)
  have hr1 : RdrAt (w.heap.size + 1) w1 ⟨l, false⟩ := ⟨_, bR, HV.out.below hb1 (fun b hb => by omega)⟩
  have hkb := (⟨l, false⟩ : Rdr).num_bound 1
  have HB1 := Lib.hid hb1
  have HBZ := Lib.hid bZ
  clear hv
  go_enter Try.func15, Try.ntmps15
  go_upto_region 4 with fail
  rw [← hw1]
  clear hw1 hb1 bZ bR
  go_wp2_with fail
  refine (rnum_any _ _ 1 _ hr1 (by omega)).mono ?_
  rintro e w2 ⟨rfl, hr2, hg2⟩
  have hK : ((⟨l, false⟩ : Rdr).num 1).1 = decK l := rfl
  generalize hR2 : ((⟨l, false⟩ : Rdr).num 1).2 = r2 at *
  rw [hK] at hkb ⊢
  have hD : decode l = if 4000 < l.length then (msg0, 1) else if 0 < l.length ∧ (decK l < 1 ∨ 5 < decK l) then (msg0, 3) else if (decM l).2.short = true ∨ l.length = 0 then (msg0, 5) else if 0 < (decM l).2.rest.length then (msg0, 4) else if msgCode (decM l).1 ≠ 0 then (msg0, msgCode (decM l).1) else ((decM l).1, 0) := rfl
  rw [if_neg (by omega)] at hD
  have hM : decM l = Rdr.body { msg0 with k := decK l, f := (r2.num 1).1, t := ((r2.num 1).2.num 1).1 } ((r2.num 1).2.num 1).2 := by rw [← hR2]; rfl
  have HD := Lib.hid hD
  have HM := Lib.hid hM
  have bZ2 := HBZ.out.grown hg2 (fun e => by simp only [Option.some.injEq] at e; omega)
  have HBZ2 := Lib.hid bZ2
  have hB2 : Below w.heap.size w w2 := HB1.out.grown hg2 (by have := HB1.out.size; omega) (fun k e => by simp only [Option.some.injEq] at e; omega)
  have HB2 := Lib.hid hB2
  have Hr2 := Lib.hid hr2
  have zz := hr2.lt
  clear hD hM hR2 hK bZ2 hB2 hr2 hg2 hr1
  generalize hkk : decK l = k at *
  have HKK := Lib.hid hkk
  clear hkk
  go_upto_region 5 with (refine wpList_store_new rfl 35 _ _ rfl (msgCells { msg0 with k := k } mv0) 35 zeroMsg rfl rfl (by kernel_rfl) rfl rfl ?_; intro w3 hb3 hB3 hs3)
  have HBX := Lib.hid hb3
  have HBZ3 := Lib.hid (HBZ2.out.belowS hB3)
  have HB3 := Lib.hid (HB2.out.trans (hB3.mono HB2.out.size))
  have hr3 := Hr2.out.below hB3
  have p2 : w3.cell? ⟨w2.heap.size, 2, none⟩ = some (.int .i64 k) := hb3.cell 2 rfl
  have hX : w.heap.size + 1 < w2.heap.size := zz
  generalize hXX : w2.heap.size = X at *
  clear hXX hb3 hB3 hs3 HBZ HBZ2 HB1 HB2 Hr2
  by_cases hbad : 0 < l.length ∧ (k < 1 ∨ 5 < k)
  · have HF := Lib.hid (show decode l = (msg0, 3) by rw [HD.out, if_pos hbad])
    obtain ⟨i0, hk⟩ := hbad
    have i1 : (0 : Int) < (l.length : Int) := by omega
    clear hr3
    rcases hk with hk | hk
    · go_wp2_with (refine wpList_store_box rfl 35 _ _ rfl w.heap.size zeroMsg rfl rfl 35 zeroMsg HBZ3.out (by kernel_rfl) rfl rfl ?_; intro w4 hb4 hB4 hoth hs4)
      exact bodyPost_ret (results_cell_tmp Try.results15 _ w4 w.heap.size 35 zeroMsg _ _ rfl rfl hb4 Try.underlying35 rfl (by kernel_rfl)) rfl ⟨mv0, by rw [HF.out]; rfl, by rw [HF.out]; exact rdM_zero _ _, HB3.out.trans hB4⟩
    · have hk1 : ¬ k < 1 := by omega
      go_wp2_with (refine wpList_store_box rfl 35 _ _ rfl w.heap.size zeroMsg rfl rfl 35 zeroMsg HBZ3.out (by kernel_rfl) rfl rfl ?_; intro w4 hb4 hB4 hoth hs4)
      exact bodyPost_ret (results_cell_tmp Try.results15 _ w4 w.heap.size 35 zeroMsg _ _ rfl rfl hb4 Try.underlying35 rfl (by kernel_rfl)) rfl ⟨mv0, by rw [HF.out]; rfl, by rw [HF.out]; exact rdM_zero _ _, HB3.out.trans hB4⟩
  · have k1 : 1 ≤ k := by omega
    have k5 : k ≤ 5 := by omega
    have HF := Lib.hid (show decode l = if (decM l).2.short = true ∨ l.length = 0 then (msg0, 5) else if 0 < (decM l).2.rest.length then (msg0, 4) else if msgCode (decM l).1 ≠ 0 then (msg0, msgCode (decM l).1) else ((decM l).1, 0) by rw [HD.out, if_neg hbad])
    have i1 : (0 : Int) < (l.length : Int) := by omega
    have hk1 : ¬ k < 1 := by omega
    have hk5 : ¬ 5 < k := by omega
    have zX3 := HBX.out.lt
    clear hbad HD
    go_wp2_with fail
    refine (rnum_any _ _ 1 _ hr3 (by omega)).mono ?_
    rintro e w4 ⟨rfl, hr4, hg4⟩
    go_wp2_with fail
    refine (rnum_any _ _ 1 _ hr4 (by omega)).mono ?_
    rintro e w5 ⟨rfl, hr5, hg5⟩
    have hg35 := grownBy_trans hg4 hg5 (.inl rfl)
    have bX5 := HBX.out.grown hg35 (fun e => by simp only [Option.some.injEq] at e; omega)
    have bZ5 := HBZ3.out.grown hg35 (fun e => by simp only [Option.some.injEq] at e; omega)
    have p0 := bX5.cell 0 rfl
    have p1 := bX5.cell 1 rfl
    have p2 := bX5.cell 2 rfl
    have f0 := bX5.free 0
    have f1 := bX5.free 1
    generalize hf : (r2.num 1).1 = f at *
    generalize ht : ((r2.num 1).2.num 1).1 = t at *
    generalize hR5 : ((r2.num 1).2.num 1).2 = r5 at *
    have HBX5 := Lib.hid ((bX5.set 0 (.int .i64 f)).set 1 (.int .i64 t))
    have HBZ5 := Lib.hid ((bZ5.setOther (p := ⟨X, 0, none⟩) (by simp; omega) (.int .i64 f)).setOther (p := ⟨X, 1, none⟩) (by simp; omega) (.int .i64 t))
    have HB5 := Lib.hid (((HB3.out.grown hg35 (by have := HB3.out.size; omega) (fun k e => by simp only [Option.some.injEq] at e; omega)).setCell (p := ⟨X, 0, none⟩) (by simp; omega) (.int .i64 f)).setCell (p := ⟨X, 1, none⟩) (by simp; omega) (.int .i64 t))
    have Hr5 := Lib.hid ((hr5.set (b := X) (j := 0) hX (.int .i64 f)).set (b := X) (j := 1) hX (.int .i64 t))
    obtain ⟨w6, hw6⟩ : ∃ w6, w6 = (w5.setCell ⟨X, 0, none⟩ (.int .i64 f)).setCell ⟨X, 1, none⟩ (.int .i64 t) := ⟨_, rfl⟩
    clear hf ht hR5 bX5 bZ5 hr3 hr4 hr5 hg35 hg4 hg5 HBX HBZ3 HB3
    go_upto_block 0 with fail
    rw [← hw6] at HBX5 HBZ5 HB5 Hr5 ⊢
    clear hw6
    have q2 := HBX5.out.cell 2 rfl
    have zX := HBX5.out.lt
    have zR := Hr5.out.lt
    have z6 := HB5.out.size
    go_cut [] (fun wx => ∃ mv, BoxAt wx X (msgCells (decM l).1 mv) 35 ∧ RdM (fun b => X < b) wx mv (decM l).1 ∧ RdrAt (w.heap.size + 1) wx (decM l).2 ∧ BoxAt wx w.heap.size zeroMsg 35 ∧ Below w.heap.size w wx)
    case first =>
      obtain rfl | rfl | rfl | rfl | rfl : k = 1 ∨ k = 2 ∨ k = 3 ∨ k = 4 ∨ k = 5 := by omega
      · have HMM := Lib.hid (show decM l = (⟨f, t, 1, r5.batch.1, hdr0, slt0, crt0, 0⟩, r5.batch.2) by rw [HM.out]; rfl)
        clear HM k1 k5 hk1 hk5
        go_wp2_with fail
        refine (rbatch_any _ _ _ Hr5.out).mono ?_
        rintro e w7 ⟨v7, rfl, hown7, hr7, hg7⟩
        obtain ⟨ad7, cap7, rfl⟩ := ownsRow_form hown7
        have bX7 := HBX5.out.grown hg7 (fun e => by simp only [Option.some.injEq] at e; omega)
        have hB7 : Below w.heap.size w w7 := HB5.out.grown hg7 z6 (fun k e => by simp only [Option.some.injEq] at e; omega)
        have c3 := bX7.cell 3 rfl
        have c4 := bX7.cell 4 rfl
        have c5 := bX7.cell 5 rfl
        have g3 := bX7.free 3
        have g4 := bX7.free 4
        have g5 := bX7.free 5
        have HBX7 := Lib.hid (((bX7.set 3 (.int .i64 r5.batch.1.a)).set 4 (.int .i64 r5.batch.1.n)).set 5 (.slice ad7 r5.batch.1.txs.length cap7))
        have HBZ7 := Lib.hid ((((HBZ5.out.grown hg7 (fun e => by simp only [Option.some.injEq] at e; omega)).setOther (p := ⟨X, 3, none⟩) (by simp; omega) (.int .i64 r5.batch.1.a)).setOther (p := ⟨X, 4, none⟩) (by simp; omega) (.int .i64 r5.batch.1.n)).setOther (p := ⟨X, 5, none⟩) (by simp; omega) (.slice ad7 r5.batch.1.txs.length cap7))
        have HB7 := Lib.hid (((hB7.setCell (p := ⟨X, 3, none⟩) (by simp; omega) (.int .i64 r5.batch.1.a)).setCell (p := ⟨X, 4, none⟩) (by simp; omega) (.int .i64 r5.batch.1.n)).setCell (p := ⟨X, 5, none⟩) (by simp; omega) (.slice ad7 r5.batch.1.txs.length cap7))
        have HR7 := Lib.hid (((hr7.set (b := X) (j := 3) hX (.int .i64 r5.batch.1.a)).set (b := X) (j := 4) hX (.int .i64 r5.batch.1.n)).set (b := X) (j := 5) hX (.slice ad7 r5.batch.1.txs.length cap7))
        have HO7 := Lib.hid (RdS.of_owns (f := fun s : Bytes => strV s) (G := fun b => X < b) (ownsRow_setCell (ownsRow_setCell (ownsRow_setCell hown7 (p := ⟨X, 3, none⟩) zX (.int .i64 r5.batch.1.a)) (p := ⟨X, 4, none⟩) zX (.int .i64 r5.batch.1.n)) (p := ⟨X, 5, none⟩) zX (.slice ad7 r5.batch.1.txs.length cap7)) (fun b hb => by omega))
        clear bX7 hB7 hown7 hr7 hg7
        go_wp2_with fail
        go_meet
        exact ⟨{ mv0 with tx := .slice ad7 r5.batch.1.txs.length cap7 }, by rw [HMM.out]; exact HBX7.out, by rw [HMM.out]; exact rdM_bundle _ _ _ HO7.out, by rw [HMM.out]; exact HR7.out, HBZ7.out, HB7.out⟩
      -- KIND 2
      · have HMM := Lib.hid (show decM l = (⟨f, t, 2, bat0, r5.header.1, slt0, crt0, 0⟩, r5.header.2) by rw [HM.out]; rfl)
        clear HM k1 k5 hk1 hk5
        go_wp2_with fail
        refine (rheader_any _ _ _ Hr5.out).mono ?_
        rintro e w7 ⟨vb, vp, rfl, hvb, hvp, hr7, hg7⟩
        obtain ⟨adb, capb, rfl, -, -⟩ := hvb.form
        obtain ⟨adp, capp, rfl, -, -⟩ := hvp.form
        have bX7 := HBX5.out.grown hg7 (fun e => by simp only [Option.some.injEq] at e; omega)
        have hB7 : Below w.heap.size w w7 := HB5.out.grown hg7 z6 (fun k e => by simp only [Option.some.injEq] at e; omega)
        have c6 := bX7.cell 6 rfl
        have g6 := bX7.free 6
        have c7 := bX7.cell 7 rfl
        have g7 := bX7.free 7
        have c8 := bX7.cell 8 rfl
        have g8 := bX7.free 8
        have c9 := bX7.cell 9 rfl
        have g9 := bX7.free 9
        have HBX7 := Lib.hid (((((bX7.set 6 (.int .i64 r5.header.1.a)).set 7 (.int .i64 r5.header.1.r)).set 8 (.slice adb r5.header.1.bs.length capb)).set 9 (.slice adp r5.header.1.ps.length capp)))
        have HBZ7 := Lib.hid ((((((HBZ5.out.grown hg7 (fun e => by simp only [Option.some.injEq] at e; omega)).setOther (p := ⟨X, 6, none⟩) (by simp; omega) (.int .i64 r5.header.1.a)).setOther (p := ⟨X, 7, none⟩) (by simp; omega) (.int .i64 r5.header.1.r)).setOther (p := ⟨X, 8, none⟩) (by simp; omega) (.slice adb r5.header.1.bs.length capb)).setOther (p := ⟨X, 9, none⟩) (by simp; omega) (.slice adp r5.header.1.ps.length capp)))
        have HB7 := Lib.hid (((((hB7.setCell (p := ⟨X, 6, none⟩) (by simp; omega) (.int .i64 r5.header.1.a)).setCell (p := ⟨X, 7, none⟩) (by simp; omega) (.int .i64 r5.header.1.r)).setCell (p := ⟨X, 8, none⟩) (by simp; omega) (.slice adb r5.header.1.bs.length capb)).setCell (p := ⟨X, 9, none⟩) (by simp; omega) (.slice adp r5.header.1.ps.length capp)))
        have HR7 := Lib.hid (((((hr7.set (b := X) (j := 6) hX (.int .i64 r5.header.1.a)).set (b := X) (j := 7) hX (.int .i64 r5.header.1.r)).set (b := X) (j := 8) hX (.slice adb r5.header.1.bs.length capb)).set (b := X) (j := 9) hX (.slice adp r5.header.1.ps.length capp)))
        have HVB := Lib.hid (hvb.keep (Keep.setCell' (Keep.setCell' (Keep.setCell' (Keep.setCell (p := ⟨X, 6, none⟩) (by simp; omega) (.int .i64 r5.header.1.a)) (p := ⟨X, 7, none⟩) (by simp; omega) (.int .i64 r5.header.1.r)) (p := ⟨X, 8, none⟩) (by simp; omega) (.slice adb r5.header.1.bs.length capb)) (p := ⟨X, 9, none⟩) (by simp; omega) (.slice adp r5.header.1.ps.length capp)) (G' := fun b => X < b) (fun b hb => by omega))
        have HVP := Lib.hid (hvp.keep (Keep.setCell' (Keep.setCell' (Keep.setCell' (Keep.setCell (p := ⟨X, 6, none⟩) (by simp; omega) (.int .i64 r5.header.1.a)) (p := ⟨X, 7, none⟩) (by simp; omega) (.int .i64 r5.header.1.r)) (p := ⟨X, 8, none⟩) (by simp; omega) (.slice adb r5.header.1.bs.length capb)) (p := ⟨X, 9, none⟩) (by simp; omega) (.slice adp r5.header.1.ps.length capp)) (G' := fun b => X < b) (fun b hb => by omega))
        clear bX7 hB7 hvb hvp hr7 hg7
        go_wp2_with fail
        go_meet
        exact ⟨{ mv0 with bs := .slice adb r5.header.1.bs.length capb, ps := .slice adp r5.header.1.ps.length capp }, by rw [HMM.out]; exact HBX7.out, by rw [HMM.out]; exact rdM_offer _ _ _ HVB.out HVP.out, by rw [HMM.out]; exact HR7.out, HBZ7.out, HB7.out⟩
      -- END 2
      -- KIND 3
      · have HMM := Lib.hid (show decM l = (⟨f, t, 3, bat0, hdr0, r5.slot.1, crt0, 0⟩, r5.slot.2) by rw [HM.out]; rfl)
        have HSL := Lib.hid (show r5.slot = (⟨(r5.num 1).1, ((r5.num 1).2.num 3).1, (((r5.num 1).2.num 3).2.take 32).1⟩, (((r5.num 1).2.num 3).2.take 32).2) from rfl)
        clear HM k1 k5 hk1 hk5
        go_wp2_with fail
        refine (rnum_any _ _ 1 _ Hr5.out (by omega)).mono ?_
        rintro e w71 ⟨rfl, hr71, hg71⟩
        go_wp2_with fail
        refine (rnum_any _ _ 3 _ hr71 (by omega)).mono ?_
        rintro e w72 ⟨rfl, hr72, hg72⟩
        go_wp2_with fail
        refine (rtake_any _ _ 32 _ hr72 (by omega)).mono ?_
        rintro e w7 ⟨vd, rfl, hvd, hr7, hg73⟩
        have hg712 := grownBy_trans hg71 hg72 (.inl rfl)
        have z72 := hg712.size
        have hg7 := grownBy_trans hg712 hg73 (.inl rfl)
        generalize hsa : (r5.num 1).1 = sa at *
        generalize hsr : ((r5.num 1).2.num 3).1 = sr at *
        generalize hsd : (((r5.num 1).2.num 3).2.take 32).1 = sd at *
        generalize hsq : (((r5.num 1).2.num 3).2.take 32).2 = rq at *
        obtain ⟨add, capd, rfl, -, -⟩ := hvd.form
        have bX7 := HBX5.out.grown hg7 (fun e => by simp only [Option.some.injEq] at e; omega)
        have hB7 : Below w.heap.size w w7 := HB5.out.grown hg7 z6 (fun k e => by simp only [Option.some.injEq] at e; omega)
        have c10 := bX7.cell 10 rfl
        have g10 := bX7.free 10
        have c11 := bX7.cell 11 rfl
        have g11 := bX7.free 11
        have c12 := bX7.cell 12 rfl
        have g12 := bX7.free 12
        have HBX7 := Lib.hid ((((bX7.set 10 (.int .i64 sa)).set 11 (.int .i64 sr)).set 12 (.slice add sd.length capd)))
        have HBZ7 := Lib.hid (((((HBZ5.out.grown hg7 (fun e => by simp only [Option.some.injEq] at e; omega)).setOther (p := ⟨X, 10, none⟩) (by simp; omega) (.int .i64 sa)).setOther (p := ⟨X, 11, none⟩) (by simp; omega) (.int .i64 sr)).setOther (p := ⟨X, 12, none⟩) (by simp; omega) (.slice add sd.length capd)))
        have HB7 := Lib.hid ((((hB7.setCell (p := ⟨X, 10, none⟩) (by simp; omega) (.int .i64 sa)).setCell (p := ⟨X, 11, none⟩) (by simp; omega) (.int .i64 sr)).setCell (p := ⟨X, 12, none⟩) (by simp; omega) (.slice add sd.length capd)))
        have HR7 := Lib.hid ((((hr7.set (b := X) (j := 10) hX (.int .i64 sa)).set (b := X) (j := 11) hX (.int .i64 sr)).set (b := X) (j := 12) hX (.slice add sd.length capd)))
        have HVD := Lib.hid (hvd.keep (Keep.setCell' (Keep.setCell' (Keep.setCell (p := ⟨X, 10, none⟩) (by simp; omega) (.int .i64 sa)) (p := ⟨X, 11, none⟩) (by simp; omega) (.int .i64 sr)) (p := ⟨X, 12, none⟩) (by simp; omega) (.slice add sd.length capd)) (G' := fun b => X < b) (fun b hb => by omega))
        clear bX7 hB7 hvd hr7 hg7 hg71 hg72 hg73 hg712 hr71 hr72 hsa hsr hsd hsq
        go_wp2_with fail
        go_meet
        exact ⟨{ mv0 with d := .slice add sd.length capd }, by rw [HMM.out, HSL.out]; exact HBX7.out, by rw [HMM.out, HSL.out]; exact rdM_vote (b := ⟨sa, sr, sd⟩) _ _ _ HVD.out, by rw [HMM.out, HSL.out]; exact HR7.out, HBZ7.out, HB7.out⟩
      -- END 3
      -- KIND 4
      · obtain ⟨m, hm, hm2⟩ := num1_nat r5.header.2
        have HMM := Lib.hid (show decM l = (⟨f, t, 4, bat0, hdr0, slt0, ⟨r5.header.1, (Rdr.many (fun r => r.num 1) (r5.header.2.num 1).1.toNat (r5.header.2.num 1).2).1⟩, 0⟩, (Rdr.many (fun r => r.num 1) (r5.header.2.num 1).1.toNat (r5.header.2.num 1).2).2) by rw [HM.out]; rfl)
        clear HM k1 k5 hk1 hk5
        go_wp2_with fail
        refine (rheader_any _ _ _ Hr5.out).mono ?_
        rintro e w7 ⟨vb, vp, rfl, hvb, hvp, hr7, hg7⟩
        generalize hch : r5.header.1 = ch at *
        generalize hcr : r5.header.2 = cr at *
        obtain ⟨adb, capb, rfl, -, -⟩ := hvb.form
        obtain ⟨adp, capp, rfl, -, -⟩ := hvp.form
        have z67 := hg7.size
        have bX7 := HBX5.out.grown hg7 (fun e => by simp only [Option.some.injEq] at e; omega)
        have hB7 : Below w.heap.size w w7 := HB5.out.grown hg7 z6 (fun k e => by simp only [Option.some.injEq] at e; omega)
        have c13 := bX7.cell 13 rfl
        have g13 := bX7.free 13
        have c14 := bX7.cell 14 rfl
        have g14 := bX7.free 14
        have c15 := bX7.cell 15 rfl
        have g15 := bX7.free 15
        have c16 := bX7.cell 16 rfl
        have g16 := bX7.free 16
        have HBX7 := Lib.hid (((((bX7.set 13 (.int .i64 ch.a)).set 14 (.int .i64 ch.r)).set 15 (.slice adb ch.bs.length capb)).set 16 (.slice adp ch.ps.length capp)))
        have HBZ7 := Lib.hid ((((((HBZ5.out.grown hg7 (fun e => by simp only [Option.some.injEq] at e; omega)).setOther (p := ⟨X, 13, none⟩) (by simp; omega) (.int .i64 ch.a)).setOther (p := ⟨X, 14, none⟩) (by simp; omega) (.int .i64 ch.r)).setOther (p := ⟨X, 15, none⟩) (by simp; omega) (.slice adb ch.bs.length capb)).setOther (p := ⟨X, 16, none⟩) (by simp; omega) (.slice adp ch.ps.length capp)))
        have HB7 := Lib.hid (((((hB7.setCell (p := ⟨X, 13, none⟩) (by simp; omega) (.int .i64 ch.a)).setCell (p := ⟨X, 14, none⟩) (by simp; omega) (.int .i64 ch.r)).setCell (p := ⟨X, 15, none⟩) (by simp; omega) (.slice adb ch.bs.length capb)).setCell (p := ⟨X, 16, none⟩) (by simp; omega) (.slice adp ch.ps.length capp)))
        have HR7 := Lib.hid (((((hr7.set (b := X) (j := 13) hX (.int .i64 ch.a)).set (b := X) (j := 14) hX (.int .i64 ch.r)).set (b := X) (j := 15) hX (.slice adb ch.bs.length capb)).set (b := X) (j := 16) hX (.slice adp ch.ps.length capp)))
        have HVB := Lib.hid ((hvb.low (by decide)).keep (Keep.setCell' (Keep.setCell' (Keep.setCell' (Keep.setCell (p := ⟨X, 13, none⟩) (by simp; omega) (.int .i64 ch.a)) (p := ⟨X, 14, none⟩) (by simp; omega) (.int .i64 ch.r)) (p := ⟨X, 15, none⟩) (by simp; omega) (.slice adb ch.bs.length capb)) (p := ⟨X, 16, none⟩) (by simp; omega) (.slice adp ch.ps.length capp)) (G' := fun b => X < b ∧ b < w7.heap.size) (fun b hb => by omega))
        have HVP := Lib.hid ((hvp.low (by decide)).keep (Keep.setCell' (Keep.setCell' (Keep.setCell' (Keep.setCell (p := ⟨X, 13, none⟩) (by simp; omega) (.int .i64 ch.a)) (p := ⟨X, 14, none⟩) (by simp; omega) (.int .i64 ch.r)) (p := ⟨X, 15, none⟩) (by simp; omega) (.slice adb ch.bs.length capb)) (p := ⟨X, 16, none⟩) (by simp; omega) (.slice adp ch.ps.length capp)) (G' := fun b => X < b ∧ b < w7.heap.size) (fun b hb => by omega))
        clear bX7 hB7 hvb hvp hr7 hg7 hch hcr
        go_wp2_with fail
        obtain ⟨w8, hw8⟩ : ∃ w8, w8 = ((((w7.setCell ⟨X, 13, none⟩ (.int .i64 ch.a)).setCell ⟨X, 14, none⟩ (.int .i64 ch.r)).setCell ⟨X, 15, none⟩ (.slice adb ch.bs.length capb)).setCell ⟨X, 16, none⟩ (.slice adp ch.ps.length capp)) := ⟨_, rfl⟩
        have hs8 : w8.heap.size = w7.heap.size := by rw [hw8]; simp [World.setCell]
        rw [← hw8] at HBX7 HBZ7 HB7 HR7 HVB HVP ⊢
        clear hw8 c13 c14 c15 c16 g13 g14 g15 g16 q2 HBX5 HBZ5 HB5 Hr5
        refine (rnum_any _ _ 1 _ HR7.out (by omega)).mono ?_
        rintro e w9 ⟨rfl, hr9, hg9⟩
        rw [hm]
        rw [hm, Int.toNat_natCast] at HMM
        generalize hR9 : (cr.num 1).2 = r9 at *
        have nR : ∀ j, some (w.heap.size + 1) = some j → j = w.heap.size + 1 := fun j e => by simp only [Option.some.injEq] at e; omega
        have HBX9 := Lib.hid (HBX7.out.grown hg9 (fun e => by simp only [Option.some.injEq] at e; omega))
        have HBZ9 := Lib.hid (HBZ7.out.grown hg9 (fun e => by simp only [Option.some.injEq] at e; omega))
        have HB9 := Lib.hid (HB7.out.grown hg9 HB7.out.size (fun k e => by have := nR k e; omega))
        have HVB9 := Lib.hid (HVB.out.grownR hg9 (by omega))
        have HVP9 := Lib.hid (HVP.out.grownR hg9 (by omega))
        have Hr9 := Lib.hid hr9
        have z9 := hg9.size
        clear hR9 hm hr9 hg9 HBX7 HBZ7 HB7 HR7 HVB HVP
        go_wp2_with fail
        go_loopw [6] (fun i wx => ∃ (k : Nat) (L : List Int) (vt : Value) (rk : Rdr), k ≤ m ∧ i = .int .i64 k ∧ BoxAt wx X (msgCells ⟨f, t, 4, bat0, hdr0, slt0, ⟨ch, L⟩, 0⟩ { mv0 with cbs := .slice adb ch.bs.length capb, cps := .slice adp ch.ps.length capp, vs := vt }) 35 ∧ BoxAt wx w.heap.size zeroMsg 35 ∧
            wx.ownsRow w7.heap.size 3 1 vt L.length (L.map (Value.int .i64)) ∧ L.length + k ≤ m ∧ w7.heap.size ≤ wx.heap.size ∧ RdrAt (w.heap.size + 1) wx rk ∧ Below w.heap.size w wx ∧ RdBB (fun b => X < b ∧ b < w7.heap.size) wx (.slice adb ch.bs.length capb) ch.bs ∧ RdBB (fun b => X < b ∧ b < w7.heap.size) wx (.slice adp ch.ps.length capp) ch.ps ∧
            Hid (decM l = (⟨f, t, 4, bat0, hdr0, slt0, ⟨ch, L ++ (Rdr.many (fun r => r.num 1) k rk).1⟩, 0⟩, (Rdr.many (fun r => r.num 1) k rk).2))) (fun i _ => (intOf i).toNat)
        case atStart => exact ⟨m, [], .slice none 0 0, r9, Nat.le_refl _, rfl, HBX9.out, HBZ9.out, World.ownsRow_nil _ _ _ _, by simp, by omega, Hr9.out, HB9.out, HVB9.out, HVP9.out, Lib.hid HMM.out⟩
        case round =>
          clear HBX9 HBZ9 HB9 Hr9 HVB9 HVP9
          obtain ⟨k, L, vt, rk, hk, rfl, bX, bZ, hown, hLk, hLz, hr, hB, hvb, hvp, HEQ⟩ := hrel
          obtain ⟨adv, capv, rfl⟩ := ownsRow_form hown
          have c1 : wr.cell? ⟨w.heap.size + 1, 1, none⟩ = some (.bool rk.short) := by obtain ⟨v, hb, -⟩ := hr; exact hb.cell 1 rfl
          have HBX := Lib.hid bX
          have HBZ := Lib.hid bZ
          have HO := Lib.hid hown
          have Hr := Lib.hid hr
          have HB := Lib.hid hB
          have HVB := Lib.hid hvb
          have HVP := Lib.hid hvp
          have hvlt := hown.lt
          have zXr := bX.lt
          have zB := hB.size
          by_cases hstop : k = 0 ∨ rk.short = true
          · have HF := Lib.hid (show decM l = (⟨f, t, 4, bat0, hdr0, slt0, ⟨ch, L⟩, 0⟩, rk) by
              rw [HEQ.out]
              rcases hstop with e | e
              · subst e; rw [Rdr.many_zero]; simp
              · rw [Rdr.many_short _ _ _ e]; simp)
            have HRV : Hid (RdI (fun b => X < b) wr (.slice adv L.length capv) L) := Lib.hid (RdS.of_owns (f := Value.int .i64) hown (fun b hb => by omega))
            clear bX bZ hown hr hB hvb hvp HEQ hvlt
            rcases Nat.eq_zero_or_pos k with e | e1
            · subst e
              clear hstop c1
              go_wp2_with fail
              go_meet
              exact ⟨{ mv0 with cbs := .slice adb ch.bs.length capb, cps := .slice adp ch.ps.length capp, vs := .slice adv L.length capv }, by rw [HF.out]; exact HBX.out, by rw [HF.out]; exact rdM_proof (b := ⟨ch, L⟩) _ _ _ (HVB.out.mono (fun b hb => hb.1)) (HVP.out.mono (fun b hb => hb.1)) HRV.out, by rw [HF.out]; exact Hr.out, HBZ.out, HB.out⟩
            · have e2 : rk.short = true := by rcases hstop with e | e; omega; exact e
              have k1 : (0 : Int) < (k : Int) := by omega
              rw [e2] at c1
              clear hstop e2
              go_wp2_with fail
              go_meet
              exact ⟨{ mv0 with cbs := .slice adb ch.bs.length capb, cps := .slice adp ch.ps.length capp, vs := .slice adv L.length capv }, by rw [HF.out]; exact HBX.out, by rw [HF.out]; exact rdM_proof (b := ⟨ch, L⟩) _ _ _ (HVB.out.mono (fun b hb => hb.1)) (HVP.out.mono (fun b hb => hb.1)) HRV.out, by rw [HF.out]; exact Hr.out, HBZ.out, HB.out⟩
          · obtain ⟨j, rfl⟩ : ∃ j, k = j + 1 := ⟨k - 1, by omega⟩
            have hsh : rk.short = false := by cases q : rk.short; rfl; exact absurd (.inr q) hstop
            have k1 : (0 : Int) < ((j + 1 : Nat) : Int) := by omega
            rw [hsh] at c1
            have HF := Lib.hid (show decM l = (⟨f, t, 4, bat0, hdr0, slt0, ⟨ch, (L ++ [(rk.num 1).1]) ++ (Rdr.many (fun r => r.num 1) j (rk.num 1).2).1⟩, 0⟩, (Rdr.many (fun r => r.num 1) j (rk.num 1).2).2) by rw [HEQ.out, Rdr.many_next _ _ _ hsh]; simp)
            have HNB := Lib.hid (rk.num_bound 1)
            have x17 : wr.cell? ⟨X, 17, none⟩ = some (.slice adv L.length capv) := bX.cell 17 rfl
            have f17 := bX.free 17
            have lk : L.length ≤ 256 := by omega
            have nXR : X ≠ w.heap.size + 1 := by omega
            clear bX bZ hown hr hB hvb hvp hstop hsh HEQ
            have HH := Lib.hid hLk
            clear hLk
            have hbs1 : ∀ (w : World) (x : Int), (Instr.buildSlice 31 1 #[(0, .int .i64 x)]).run Try.prog w = .ok (.slice (some ⟨w.heap.size, 0, none⟩) 1 1) (w.alloc (.cells #[.int .i64 x] 3)) := fun _ _ => by kernel_rfl
            have HBS := Lib.hid hbs1
            clear hbs1
            go_wp2_with fail
            have hbs1 := HBS.out
            refine wp_region_any (by kernel_rfl) ?_
            change wpAny _ _ _ _ _ _ _ (World.drew _)
            refine wpAny_take (i := 0) (v := .pointer (some ⟨X, 13, none⟩)) rfl (by kernel_rfl) (by kernel_rfl) (by kernel_rfl) (fun _ _ _ h => h) (Or.inl ⟨by rfl, fun w => ?_⟩) ?_
            · go_simp
            try simp only [Act.put, List.setIfInBounds_toArray, List.set_cons_zero, List.set_cons_succ]
            refine wpAny_take (i := 1) (v := .pointer (some ⟨X, 17, none⟩)) rfl (by kernel_rfl) (by kernel_rfl) (by kernel_rfl) (fun _ _ _ h => h) (Or.inl ⟨by rfl, fun w => ?_⟩) ?_
            · go_simp
            try simp only [Act.put, List.setIfInBounds_toArray, List.set_cons_zero, List.set_cons_succ]
            refine wpAny_take (i := 3) (v := .pointer (some ⟨w.heap.size + 1, 0, none⟩)) rfl (by kernel_rfl) (by kernel_rfl) (by kernel_rfl) (fun _ _ _ h => h) (Or.inl ⟨by rfl, fun w => ?_⟩) ?_
            · go_simp
            try simp only [Act.put, List.setIfInBounds_toArray, List.set_cons_zero, List.set_cons_succ]
            refine wpAny_ready (rs := [2, 4]) (by kernel_rfl) (by simp) ?_
            refine AllReady.cons rfl (fun K hK => ?_) ?_
            · rw [if_pos (by rfl)]
              go_simp
              refine hK _ _ ?_
              clear hK K
              try simp only [Act.put, List.setIfInBounds_toArray, List.set_cons_zero, List.set_cons_succ]
              refine wpAny_ready (rs := [4]) (by kernel_rfl) (by simp) ?_
              refine AllReady.cons rfl (fun K hK => ?_) ?_
              · rw [if_pos (by rfl)]
                go_simp
                go_at_call 30
                refine (rnum_any _ rk 1 _ (Hr.out.below (Below.refl _ _).drew) (by omega)).mono ?_
                rintro e w10 ⟨rfl, hr10, hg10⟩
                generalize hx10 : (rk.num 1).1 = x10 at *
                generalize hq10 : (rk.num 1).2 = q10 at *
                clear hx10 hq10
                have Hg10 := Lib.hid (grownBy_trans (grownBy_of_below (Below.refl wr.heap.size wr).drew _) hg10 (.inl rfl))
                have HBX10 := Lib.hid (HBX.out.grown Hg10.out (fun e => by simp only [Option.some.injEq] at e; omega))
                have HO10 := Lib.hid (ownsRow_grown HO.out Hg10.out (fun k e => by simp only [Option.some.injEq] at e; omega))
                have y17 : w10.cell? ⟨X, 17, none⟩ = some (.slice adv L.length capv) := HBX10.out.cell 17 rfl
                have z10 := HBX10.out.lt
                have zs10 := Hg10.out.size
                have Hr10 := Lib.hid hr10
                clear hr10 hg10
                refine hK _ _ ?_
                clear hK K
                try simp only [Act.put, List.setIfInBounds_toArray, List.set_cons_zero, List.set_cons_succ]
                refine wpAny_ready (rs := [5]) (by kernel_rfl) (by simp) ?_
                refine AllReady.cons rfl (fun K hK => ?_) ?_
                · rw [if_pos (by rfl)]
                  refine wp_build1 _ (by rfl) (fun w => hbs1 w x10) (by rfl) ?_
                  refine hK _ _ ?_
                  clear hK K
                  try simp only [Act.put, List.setIfInBounds_toArray, List.set_cons_zero, List.set_cons_succ]
                  refine wpAny_ready (rs := [6]) (by kernel_rfl) (by simp) ?_
                  refine AllReady.cons rfl (fun K hK => ?_) ?_
                  · rw [if_pos (by rfl)]
                    refine wp_append_oneK _ _ _ (by rfl) elemI w7.heap.size (.slice adv L.length capv) L.length _ (by rfl) (by exact HO10.out.alloc _) _ 3 [.int .i64 x10] (by rfl) (by exact BoxAt.new _ [_] _) rfl (by simp [Value.oneCell']) (by unfold maxLen; omega) (by omega) (by simp; omega) ?_
                    intro g cap3 w11 hown11 hgr hat hlt11
                    have bX11 := ((HBX10.out).alloc (.cells #[.int .i64 x10] 3)).grown (w' := w11) hgr (fun e => by have := (hvlt _ e).1; omega)
                    have z17 : w11.cell? ⟨X, 17, none⟩ = some (.slice adv L.length capv) := bX11.cell 17 rfl
                    have f17 := bX11.free 17
                    refine hK _ _ ?_
                    clear hK K
                    try simp only [Act.put, List.setIfInBounds_toArray, List.set_cons_zero, List.set_cons_succ]
                    refine wpAny_take (i := 7) (v := .pointer (some ⟨X, 13, none⟩)) rfl (by kernel_rfl) (by kernel_rfl) (by kernel_rfl) (fun _ _ _ h => h) (Or.inl ⟨by rfl, fun w => ?_⟩) ?_
                    · go_simp
                    try simp only [Act.put, List.setIfInBounds_toArray, List.set_cons_zero, List.set_cons_succ]
                    refine wpAny_take (i := 8) (v := .pointer (some ⟨X, 17, none⟩)) rfl (by kernel_rfl) (by kernel_rfl) (by kernel_rfl) (fun _ _ _ h => h) (Or.inl ⟨by rfl, fun w => ?_⟩) ?_
                    · go_simp
                    try simp only [Act.put, List.setIfInBounds_toArray, List.set_cons_zero, List.set_cons_succ]
                    refine wpAny_ready (rs := [9]) (by kernel_rfl) (by simp) ?_
                    refine AllReady.cons rfl (fun K hK => ?_) ?_
                    · rw [if_pos (by rfl)]
                      go_simp
                      refine hK _ _ ?_
                      clear hK K
                      try simp only [Act.put, List.setIfInBounds_toArray, List.set_cons_zero, List.set_cons_succ]
                      refine wpAny_done (by kernel_rfl) ?_ _
                      have hrow : ∀ k, (Value.slice adv L.length capv).ownBlock = some k → w7.heap.size ≤ k := fun k e => (hvlt k e).1
                      have nR : ∀ j, some (w.heap.size + 1) = some j → j = w.heap.size + 1 := fun j e => by simp only [Option.some.injEq] at e; omega
                      have HB11 := Lib.hid (bX11.set 17 (.slice (some ⟨g, 0, none⟩) (L.length + 1) cap3))
                      have HZ11 := Lib.hid ((((HBZ.out.grown Hg10.out (fun e => by simp only [Option.some.injEq] at e; omega)).alloc (.cells #[.int .i64 x10] 3)).grown hgr (fun e => by have := hrow _ e; omega)).setOther (p := ⟨X, 17, none⟩) (by simp; omega) (.slice (some ⟨g, 0, none⟩) (L.length + 1) cap3))
                      have HO11 := Lib.hid (ownsRow_setCell (p := ⟨X, 17, none⟩) hown11 (by simp; omega) (.slice (some ⟨g, 0, none⟩) (L.length + 1) cap3))
                      have HR11 := Lib.hid (((Hr10.out.below ((Below.refl _ _).alloc (Nat.le_refl _) (.cells #[.int .i64 x10] 3))).grown hgr (fun k e => by have := hrow k e; omega)).set (b := X) (j := 17) (by omega) (.slice (some ⟨g, 0, none⟩) (L.length + 1) cap3))
                      have HW11 := Lib.hid ((((HB.out.grown Hg10.out zB (fun k e => by have := nR k e; omega)).alloc (by have := Hg10.out.size; omega) (.cells #[.int .i64 x10] 3)).grown hgr (by have := Hg10.out.size; simp; omega) (fun k e => by have := hrow k e; omega)).setCell (p := ⟨X, 17, none⟩) (by simp; omega) (.slice (some ⟨g, 0, none⟩) (L.length + 1) cap3))
                      have hkp : Keep (fun b => X < b ∧ b < w7.heap.size) wr (w11.setCell ⟨X, 17, none⟩ (.slice (some ⟨g, 0, none⟩) (L.length + 1) cap3)) := (((Keep.grown Hg10.out (fun k e => by have := nR k e; omega)).trans (Keep.alloc _ _ _)).trans (Keep.grown hgr (fun k e => by have := hrow k e; omega))).setCell' (by simp) _
                      have HVB11 := Lib.hid (HVB.out.keep hkp (fun _ h => h))
                      have HVP11 := Lib.hid (HVP.out.keep hkp (fun _ h => h))
                      have hgrs := hgr.size
                      clear hown11 hgr hat bX11 hvlt hrow hkp HBX HBZ HO Hr HB HVB HVP
                      go_wp2_with fail
                      go_roundw
                      case rel => exact ⟨j, L ++ [x10], .slice (some ⟨g, 0, none⟩) (L.length + 1) cap3, q10, by omega, by go_num, HB11.out, HZ11.out, by rw [List.length_append, List.map_append]; exact HO11.out, by have := HH.out; simp; omega, by have := Hg10.out.size; have := hgrs; simp [World.setCell] at this ⊢; omega, HR11.out, HW11.out, HVB11.out, HVP11.out, HF⟩
                      case measure => simp [intOf]
                    exact AllReady.nil
                  exact AllReady.nil
                exact AllReady.nil
              exact AllReady.nil
            refine AllReady.cons rfl (fun K hK => ?_) ?_
            · rw [if_pos (by rfl)]
              go_simp
              go_at_call 30
              refine (rnum_any _ rk 1 _ (Hr.out.below (Below.refl _ _).drew) (by omega)).mono ?_
              rintro e w10 ⟨rfl, hr10, hg10⟩
              generalize hx10 : (rk.num 1).1 = x10 at *
              generalize hq10 : (rk.num 1).2 = q10 at *
              clear hx10 hq10
              have Hg10 := Lib.hid (grownBy_trans (grownBy_of_below (Below.refl wr.heap.size wr).drew _) hg10 (.inl rfl))
              have HBX10 := Lib.hid (HBX.out.grown Hg10.out (fun e => by simp only [Option.some.injEq] at e; omega))
              have HO10 := Lib.hid (ownsRow_grown HO.out Hg10.out (fun k e => by simp only [Option.some.injEq] at e; omega))
              have y17 : w10.cell? ⟨X, 17, none⟩ = some (.slice adv L.length capv) := HBX10.out.cell 17 rfl
              have z10 := HBX10.out.lt
              have zs10 := Hg10.out.size
              have Hr10 := Lib.hid hr10
              clear hr10 hg10
              refine hK _ _ ?_
              clear hK K
              try simp only [Act.put, List.setIfInBounds_toArray, List.set_cons_zero, List.set_cons_succ]
              refine wpAny_ready (rs := [2, 5]) (by kernel_rfl) (by simp) ?_
              refine AllReady.cons rfl (fun K hK => ?_) ?_
              · rw [if_pos (by rfl)]
                go_simp
                refine hK _ _ ?_
                clear hK K
                try simp only [Act.put, List.setIfInBounds_toArray, List.set_cons_zero, List.set_cons_succ]
                refine wpAny_ready (rs := [5]) (by kernel_rfl) (by simp) ?_
                refine AllReady.cons rfl (fun K hK => ?_) ?_
                · rw [if_pos (by rfl)]
                  refine wp_build1 _ (by rfl) (fun w => hbs1 w x10) (by rfl) ?_
                  refine hK _ _ ?_
                  clear hK K
                  try simp only [Act.put, List.setIfInBounds_toArray, List.set_cons_zero, List.set_cons_succ]
                  refine wpAny_ready (rs := [6]) (by kernel_rfl) (by simp) ?_
                  refine AllReady.cons rfl (fun K hK => ?_) ?_
                  · rw [if_pos (by rfl)]
                    refine wp_append_oneK _ _ _ (by rfl) elemI w7.heap.size (.slice adv L.length capv) L.length _ (by rfl) (by exact HO10.out.alloc _) _ 3 [.int .i64 x10] (by rfl) (by exact BoxAt.new _ [_] _) rfl (by simp [Value.oneCell']) (by unfold maxLen; omega) (by omega) (by simp; omega) ?_
                    intro g cap3 w11 hown11 hgr hat hlt11
                    have bX11 := ((HBX10.out).alloc (.cells #[.int .i64 x10] 3)).grown (w' := w11) hgr (fun e => by have := (hvlt _ e).1; omega)
                    have z17 : w11.cell? ⟨X, 17, none⟩ = some (.slice adv L.length capv) := bX11.cell 17 rfl
                    have f17 := bX11.free 17
                    refine hK _ _ ?_
                    clear hK K
                    try simp only [Act.put, List.setIfInBounds_toArray, List.set_cons_zero, List.set_cons_succ]
                    refine wpAny_take (i := 7) (v := .pointer (some ⟨X, 13, none⟩)) rfl (by kernel_rfl) (by kernel_rfl) (by kernel_rfl) (fun _ _ _ h => h) (Or.inl ⟨by rfl, fun w => ?_⟩) ?_
                    · go_simp
                    try simp only [Act.put, List.setIfInBounds_toArray, List.set_cons_zero, List.set_cons_succ]
                    refine wpAny_take (i := 8) (v := .pointer (some ⟨X, 17, none⟩)) rfl (by kernel_rfl) (by kernel_rfl) (by kernel_rfl) (fun _ _ _ h => h) (Or.inl ⟨by rfl, fun w => ?_⟩) ?_
                    · go_simp
                    try simp only [Act.put, List.setIfInBounds_toArray, List.set_cons_zero, List.set_cons_succ]
                    refine wpAny_ready (rs := [9]) (by kernel_rfl) (by simp) ?_
                    refine AllReady.cons rfl (fun K hK => ?_) ?_
                    · rw [if_pos (by rfl)]
                      go_simp
                      refine hK _ _ ?_
                      clear hK K
                      try simp only [Act.put, List.setIfInBounds_toArray, List.set_cons_zero, List.set_cons_succ]
                      refine wpAny_done (by kernel_rfl) ?_ _
                      have hrow : ∀ k, (Value.slice adv L.length capv).ownBlock = some k → w7.heap.size ≤ k := fun k e => (hvlt k e).1
                      have nR : ∀ j, some (w.heap.size + 1) = some j → j = w.heap.size + 1 := fun j e => by simp only [Option.some.injEq] at e; omega
                      have HB11 := Lib.hid (bX11.set 17 (.slice (some ⟨g, 0, none⟩) (L.length + 1) cap3))
                      have HZ11 := Lib.hid ((((HBZ.out.grown Hg10.out (fun e => by simp only [Option.some.injEq] at e; omega)).alloc (.cells #[.int .i64 x10] 3)).grown hgr (fun e => by have := hrow _ e; omega)).setOther (p := ⟨X, 17, none⟩) (by simp; omega) (.slice (some ⟨g, 0, none⟩) (L.length + 1) cap3))
                      have HO11 := Lib.hid (ownsRow_setCell (p := ⟨X, 17, none⟩) hown11 (by simp; omega) (.slice (some ⟨g, 0, none⟩) (L.length + 1) cap3))
                      have HR11 := Lib.hid (((Hr10.out.below ((Below.refl _ _).alloc (Nat.le_refl _) (.cells #[.int .i64 x10] 3))).grown hgr (fun k e => by have := hrow k e; omega)).set (b := X) (j := 17) (by omega) (.slice (some ⟨g, 0, none⟩) (L.length + 1) cap3))
                      have HW11 := Lib.hid ((((HB.out.grown Hg10.out zB (fun k e => by have := nR k e; omega)).alloc (by have := Hg10.out.size; omega) (.cells #[.int .i64 x10] 3)).grown hgr (by have := Hg10.out.size; simp; omega) (fun k e => by have := hrow k e; omega)).setCell (p := ⟨X, 17, none⟩) (by simp; omega) (.slice (some ⟨g, 0, none⟩) (L.length + 1) cap3))
                      have hkp : Keep (fun b => X < b ∧ b < w7.heap.size) wr (w11.setCell ⟨X, 17, none⟩ (.slice (some ⟨g, 0, none⟩) (L.length + 1) cap3)) := (((Keep.grown Hg10.out (fun k e => by have := nR k e; omega)).trans (Keep.alloc _ _ _)).trans (Keep.grown hgr (fun k e => by have := hrow k e; omega))).setCell' (by simp) _
                      have HVB11 := Lib.hid (HVB.out.keep hkp (fun _ h => h))
                      have HVP11 := Lib.hid (HVP.out.keep hkp (fun _ h => h))
                      have hgrs := hgr.size
                      clear hown11 hgr hat bX11 hvlt hrow hkp HBX HBZ HO Hr HB HVB HVP
                      go_wp2_with fail
                      go_roundw
                      case rel => exact ⟨j, L ++ [x10], .slice (some ⟨g, 0, none⟩) (L.length + 1) cap3, q10, by omega, by go_num, HB11.out, HZ11.out, by rw [List.length_append, List.map_append]; exact HO11.out, by have := HH.out; simp; omega, by have := Hg10.out.size; have := hgrs; simp [World.setCell] at this ⊢; omega, HR11.out, HW11.out, HVB11.out, HVP11.out, HF⟩
                      case measure => simp [intOf]
                    exact AllReady.nil
                  exact AllReady.nil
                exact AllReady.nil
              refine AllReady.cons rfl (fun K hK => ?_) ?_
              · rw [if_pos (by rfl)]
                refine wp_build1 _ (by rfl) (fun w => hbs1 w x10) (by rfl) ?_
                refine hK _ _ ?_
                clear hK K
                try simp only [Act.put, List.setIfInBounds_toArray, List.set_cons_zero, List.set_cons_succ]
                refine wpAny_ready (rs := [2]) (by kernel_rfl) (by simp) ?_
                refine AllReady.cons rfl (fun K hK => ?_) ?_
                · rw [if_pos (by rfl)]
                  go_simp
                  refine hK _ _ ?_
                  clear hK K
                  try simp only [Act.put, List.setIfInBounds_toArray, List.set_cons_zero, List.set_cons_succ]
                  refine wpAny_ready (rs := [6]) (by kernel_rfl) (by simp) ?_
                  refine AllReady.cons rfl (fun K hK => ?_) ?_
                  · rw [if_pos (by rfl)]
                    refine wp_append_oneK _ _ _ (by rfl) elemI w7.heap.size (.slice adv L.length capv) L.length _ (by rfl) (by exact HO10.out.alloc _) _ 3 [.int .i64 x10] (by rfl) (by exact BoxAt.new _ [_] _) rfl (by simp [Value.oneCell']) (by unfold maxLen; omega) (by omega) (by simp; omega) ?_
                    intro g cap3 w11 hown11 hgr hat hlt11
                    have bX11 := ((HBX10.out).alloc (.cells #[.int .i64 x10] 3)).grown (w' := w11) hgr (fun e => by have := (hvlt _ e).1; omega)
                    have z17 : w11.cell? ⟨X, 17, none⟩ = some (.slice adv L.length capv) := bX11.cell 17 rfl
                    have f17 := bX11.free 17
                    refine hK _ _ ?_
                    clear hK K
                    try simp only [Act.put, List.setIfInBounds_toArray, List.set_cons_zero, List.set_cons_succ]
                    refine wpAny_take (i := 7) (v := .pointer (some ⟨X, 13, none⟩)) rfl (by kernel_rfl) (by kernel_rfl) (by kernel_rfl) (fun _ _ _ h => h) (Or.inl ⟨by rfl, fun w => ?_⟩) ?_
                    · go_simp
                    try simp only [Act.put, List.setIfInBounds_toArray, List.set_cons_zero, List.set_cons_succ]
                    refine wpAny_take (i := 8) (v := .pointer (some ⟨X, 17, none⟩)) rfl (by kernel_rfl) (by kernel_rfl) (by kernel_rfl) (fun _ _ _ h => h) (Or.inl ⟨by rfl, fun w => ?_⟩) ?_
                    · go_simp
                    try simp only [Act.put, List.setIfInBounds_toArray, List.set_cons_zero, List.set_cons_succ]
                    refine wpAny_ready (rs := [9]) (by kernel_rfl) (by simp) ?_
                    refine AllReady.cons rfl (fun K hK => ?_) ?_
                    · rw [if_pos (by rfl)]
                      go_simp
                      refine hK _ _ ?_
                      clear hK K
                      try simp only [Act.put, List.setIfInBounds_toArray, List.set_cons_zero, List.set_cons_succ]
                      refine wpAny_done (by kernel_rfl) ?_ _
                      have hrow : ∀ k, (Value.slice adv L.length capv).ownBlock = some k → w7.heap.size ≤ k := fun k e => (hvlt k e).1
                      have nR : ∀ j, some (w.heap.size + 1) = some j → j = w.heap.size + 1 := fun j e => by simp only [Option.some.injEq] at e; omega
                      have HB11 := Lib.hid (bX11.set 17 (.slice (some ⟨g, 0, none⟩) (L.length + 1) cap3))
                      have HZ11 := Lib.hid ((((HBZ.out.grown Hg10.out (fun e => by simp only [Option.some.injEq] at e; omega)).alloc (.cells #[.int .i64 x10] 3)).grown hgr (fun e => by have := hrow _ e; omega)).setOther (p := ⟨X, 17, none⟩) (by simp; omega) (.slice (some ⟨g, 0, none⟩) (L.length + 1) cap3))
                      have HO11 := Lib.hid (ownsRow_setCell (p := ⟨X, 17, none⟩) hown11 (by simp; omega) (.slice (some ⟨g, 0, none⟩) (L.length + 1) cap3))
                      have HR11 := Lib.hid (((Hr10.out.below ((Below.refl _ _).alloc (Nat.le_refl _) (.cells #[.int .i64 x10] 3))).grown hgr (fun k e => by have := hrow k e; omega)).set (b := X) (j := 17) (by omega) (.slice (some ⟨g, 0, none⟩) (L.length + 1) cap3))
                      have HW11 := Lib.hid ((((HB.out.grown Hg10.out zB (fun k e => by have := nR k e; omega)).alloc (by have := Hg10.out.size; omega) (.cells #[.int .i64 x10] 3)).grown hgr (by have := Hg10.out.size; simp; omega) (fun k e => by have := hrow k e; omega)).setCell (p := ⟨X, 17, none⟩) (by simp; omega) (.slice (some ⟨g, 0, none⟩) (L.length + 1) cap3))
                      have hkp : Keep (fun b => X < b ∧ b < w7.heap.size) wr (w11.setCell ⟨X, 17, none⟩ (.slice (some ⟨g, 0, none⟩) (L.length + 1) cap3)) := (((Keep.grown Hg10.out (fun k e => by have := nR k e; omega)).trans (Keep.alloc _ _ _)).trans (Keep.grown hgr (fun k e => by have := hrow k e; omega))).setCell' (by simp) _
                      have HVB11 := Lib.hid (HVB.out.keep hkp (fun _ h => h))
                      have HVP11 := Lib.hid (HVP.out.keep hkp (fun _ h => h))
                      have hgrs := hgr.size
                      clear hown11 hgr hat bX11 hvlt hrow hkp HBX HBZ HO Hr HB HVB HVP
                      go_wp2_with fail
                      go_roundw
                      case rel => exact ⟨j, L ++ [x10], .slice (some ⟨g, 0, none⟩) (L.length + 1) cap3, q10, by omega, by go_num, HB11.out, HZ11.out, by rw [List.length_append, List.map_append]; exact HO11.out, by have := HH.out; simp; omega, by have := Hg10.out.size; have := hgrs; simp [World.setCell] at this ⊢; omega, HR11.out, HW11.out, HVB11.out, HVP11.out, HF⟩
                      case measure => simp [intOf]
                    exact AllReady.nil
                  exact AllReady.nil
                exact AllReady.nil
              exact AllReady.nil
            exact AllReady.nil
      -- END 4
      -- KIND 5
      · have HMM := Lib.hid (show decM l = (⟨f, t, 5, bat0, hdr0, slt0, crt0, (r5.num 3).1⟩, (r5.num 3).2) by rw [HM.out]; rfl)
        clear HM k1 k5 hk1 hk5
        go_wp2_with fail
        refine (rnum_any _ _ 3 _ Hr5.out (by omega)).mono ?_
        rintro e w7 ⟨rfl, hr7, hg7⟩
        have bX7 := HBX5.out.grown hg7 (fun e => by simp only [Option.some.injEq] at e; omega)
        have hB7 : Below w.heap.size w w7 := HB5.out.grown hg7 z6 (fun k e => by simp only [Option.some.injEq] at e; omega)
        have c18 := bX7.cell 18 rfl
        have g18 := bX7.free 18
        have HBX7 := Lib.hid ((bX7.set 18 (.int .i64 (r5.num 3).1)))
        have HBZ7 := Lib.hid (((HBZ5.out.grown hg7 (fun e => by simp only [Option.some.injEq] at e; omega)).setOther (p := ⟨X, 18, none⟩) (by simp; omega) (.int .i64 (r5.num 3).1)))
        have HB7 := Lib.hid ((hB7.setCell (p := ⟨X, 18, none⟩) (by simp; omega) (.int .i64 (r5.num 3).1)))
        have HR7 := Lib.hid ((hr7.set (b := X) (j := 18) hX (.int .i64 (r5.num 3).1)))
        clear bX7 hB7 hr7 hg7
        go_wp2_with fail
        go_meet
        exact ⟨mv0, by rw [HMM.out]; exact HBX7.out, by rw [HMM.out]; exact rdM_want _ _ _ _ _, by rw [HMM.out]; exact HR7.out, HBZ7.out, HB7.out⟩
      -- END 5
    case rest =>
      clear HBX5 HBZ5 HB5 Hr5 q2 HM
      obtain ⟨mv, bX, hM, hr, bZ, hB⟩ := hcut
      obtain ⟨rv, bRd, hrv⟩ := hr
      obtain ⟨adr, capr, rfl, -, -⟩ := hrv.form
      have r0 := bRd.cell 0 rfl
      have r1 := bRd.cell 1 rfl
      have HOK := Lib.hid (decM_ok l)
      have HBX := Lib.hid bX
      have HMr := Lib.hid hM
      have HBZ := Lib.hid bZ
      have HB := Lib.hid hB
      have zB := hB.size
      have zXc := bX.lt
      have i2 : ((l.length : Int) == 0) = false := by rw [beq_eq_false_iff_ne]; omega
      have hl0 : ¬ l.length = 0 := by omega
      clear bRd hrv bX hM bZ hB
      generalize hm : (decM l).1 = m at *
      generalize hq : (decM l).2 = rq at *
      have HHM := Lib.hid hm
      have HHQ := Lib.hid hq
      clear hm hq
      cases hsh : rq.short
      · rw [hsh] at r1
        by_cases hre : 0 < rq.rest.length
        · have HG := Lib.hid (show decode l = (msg0, 4) by rw [HF.out, if_neg (by simp [hsh, hl0]), if_pos hre])
          have j1 : (0 : Int) < (rq.rest.length : Int) := by omega
          clear hsh hre
          go_wp2_with (refine wpList_store_box rfl 35 _ _ rfl w.heap.size zeroMsg rfl rfl 35 zeroMsg HBZ.out (by kernel_rfl) rfl rfl ?_; intro w4 hb4 hB4 hoth hs4)
          exact bodyPost_ret (results_cell_tmp Try.results15 _ w4 w.heap.size 35 zeroMsg _ _ rfl rfl hb4 Try.underlying35 rfl (by kernel_rfl)) rfl ⟨mv0, by rw [HG.out]; rfl, by rw [HG.out]; exact rdM_zero _ _, HB.out.trans hB4⟩
        · have j1 : ¬ (0 : Int) < (rq.rest.length : Int) := by omega
          have HG := Lib.hid (show decode l = if msgCode m ≠ 0 then (msg0, msgCode m) else (m, 0) by rw [HF.out, if_neg (by simp [hsh, hl0]), if_neg hre])
          clear hsh hre
          go_wp2_with (refine wpList_load_box rfl 35 _ rfl X rfl (msgCells m mv) 35 HBX.out Try.underlying35 rfl (by kernel_rfl) ?_)
          refine (wcheck_any m mv _ HMr.out HOK.out).mono ?_
          rintro e w8 ⟨rfl, hb8⟩
          have HBX8 := Lib.hid (HBX.out.belowS hb8)
          have HBZ8 := Lib.hid (HBZ.out.belowS hb8)
          have HB8 := Lib.hid (HB.out.trans (hb8.mono zB))
          have HM8 := Lib.hid (HMr.out.below hb8 (fun _ h => h))
          clear hb8
          cases hc : msgCode m == 0
          · have hc' : (msgCode m != 0) = true := by simp only [bne, hc, Bool.not_false]
            have HG2 := Lib.hid (show decode l = (msg0, msgCode m) by rw [HG.out, if_pos (by simpa using hc)])
            generalize msgCode m = c at *
            clear hc
            go_wp2_with (refine wpList_store_box rfl 35 _ _ rfl w.heap.size zeroMsg rfl rfl 35 zeroMsg HBZ8.out (by kernel_rfl) rfl rfl ?_; intro w4 hb4 hB4 hoth hs4)
            exact bodyPost_ret (results_cell_tmp Try.results15 _ w4 w.heap.size 35 zeroMsg _ _ rfl rfl hb4 Try.underlying35 rfl (by kernel_rfl)) rfl ⟨mv0, by rw [HG2.out]; rfl, by rw [HG2.out]; exact rdM_zero _ _, HB8.out.trans hB4⟩
          · have hc' : (msgCode m != 0) = false := by simp only [bne, hc, Bool.not_true]
            have HG2 := Lib.hid (show decode l = (m, 0) by rw [HG.out, if_neg (by simpa using hc)])
            generalize msgCode m = c at *
            clear hc
            go_wp2_with (first
              | (refine wpList_load_box rfl 35 _ rfl X rfl (msgCells m mv) 35 HBX8.out Try.underlying35 rfl (by kernel_rfl) ?_)
              | (refine wpList_store_boxG rfl 35 _ _ rfl w.heap.size (msgCells m mv) rfl rfl 35 zeroMsg HBZ8.out (by kernel_rfl) rfl (msgCells_one HM8.out) ?_; intro w4 hb4 hB4 hg4))
            exact bodyPost_ret (results_cell_tmp Try.results15 _ w4 w.heap.size 35 (msgCells m mv) _ _ rfl rfl hb4 Try.underlying35 rfl (by kernel_rfl)) rfl ⟨mv, by rw [HG2.out]; rfl, by rw [HG2.out]; exact HM8.out.keep (Keep.grown hg4 (fun k e => by simp only [Option.some.injEq] at e; omega)) (fun b hb => by omega), HB8.out.trans hB4⟩
      · have HG := Lib.hid (show decode l = (msg0, 5) by rw [HF.out, if_pos (.inl hsh)])
        rw [hsh] at r1
        clear hsh
        go_wp2_with (refine wpList_store_box rfl 35 _ _ rfl w.heap.size zeroMsg rfl rfl 35 zeroMsg HBZ.out (by kernel_rfl) rfl rfl ?_; intro w4 hb4 hB4 hoth hs4)
        exact bodyPost_ret (results_cell_tmp Try.results15 _ w4 w.heap.size 35 zeroMsg _ _ rfl rfl hb4 Try.underlying35 rfl (by kernel_rfl)) rfl ⟨mv0, by rw [HG.out]; rfl, by rw [HG.out]; exact rdM_zero _ _, HB.out.trans hB4⟩
end Go.Proofs.Ytegdpjoncjmdeaa
