/- wire's reader: batch, header: what they compute. -/
import Derived.Test.YtegdpjoncjmdeaaBas
import Derived.Test.YtegdpjoncjmdeaaDecL
import Derived.Deep.DeepCutAuto
import Derived.Deep.RegionLaw
set_option linter.unusedVariables false
set_option linter.unusedSimpArgs false
namespace Go.Proofs.Ytegdpjoncjmdeaa
open Go Go.RowKit

theorem elemTx' : ElemOk Try.prog 23 9 1 16 := elemOk_of (z := .string ⟨#[]⟩) (by kernel_rfl) (by kernel_rfl) rfl (by decide)
theorem num1_nat (r : Rdr) : ∃ m : Nat, (r.num 1).1 = (m : Int) ∧ m < 256 := by
  have hb := r.num_bound 1
  obtain ⟨m, hm⟩ := Int.eq_ofNat_of_zero_le hb.1
  exact ⟨m, hm, by have := hb.2; simp at this; omega⟩

theorem RdrAt.set {R b j : Nat} {w : World} {r : Rdr} (h : RdrAt R w r) (hb : R < b) (u : Value) : RdrAt R (w.setCell ⟨b, j, none⟩ u) r :=
  h.grown (grownBy_setCell w b j u) (fun k e => by simp only [Option.some.injEq] at e; omega)
theorem grownBy_set' {w w' : World} {row : Option Nat} {b j : Nat} (h : w.grownBy w' row) (hb : w.heap.size ≤ b) (u : Value) : w.grownBy (w'.setCell ⟨b, j, none⟩ u) row :=
  grownBy_trans h (grownBy_setCell w' b j u) (.inr fun k e => by simp only [Option.some.injEq] at e; omega)
set_option maxRecDepth 100000 in
set_option maxHeartbeats 4000000 in
theorem rbatch_any (R : Nat) (r : Rdr) (w : World) (h : RdrAt R w r) :
    Calls Try.prog 31 #[.pointer (some ⟨R, 0, none⟩)] w fun e w' => ∃ v, e = .returned (.agg #[.int .i64 r.batch.1.a, .int .i64 r.batch.1.n, v]) ∧
      w'.ownsRow w.heap.size 9 1 v r.batch.1.txs.length (r.batch.1.txs.map fun s => strV s) ∧ RdrAt R w' r.batch.2 ∧ w.grownBy w' (some R) := by
  have zR := h.lt
  have HE := Lib.hid (show r.batch = (⟨(r.num 1).1, ((r.num 1).2.num 3).1, (Rdr.many Rdr.text (((r.num 1).2.num 3).2.num 1).1.toNat (((r.num 1).2.num 3).2.num 1).2).1⟩, (Rdr.many Rdr.text (((r.num 1).2.num 3).2.num 1).1.toNat (((r.num 1).2.num 3).2.num 1).2).2) from rfl)
  have hb0 := r.num_bound 1
  have hb1 := (r.num 1).2.num_bound 3
  obtain ⟨m, hm, hm2⟩ := num1_nat ((r.num 1).2.num 3).2
  go_enter Try.func31, Try.ntmps31
  go_wp2_with fail
  refine (rnum_any R r 1 _ (h.below ((Below.refl _ _).alloc (Nat.le_refl _) _)) (by omega)).mono ?_
  rintro e w2 ⟨rfl, hr2, hg2⟩
  go_wp2_with fail
  refine (rnum_any R _ 3 _ hr2 (by omega)).mono ?_
  rintro e w3 ⟨rfl, hr3, hg3⟩
  go_upto_region 2 with fail
  obtain ⟨w4, hw4⟩ : ∃ w4, w4 = w3.alloc (.cells #[.int .i64 (r.num 1).1, .int .i64 ((r.num 1).2.num 3).1, .slice none 0 0] 25) := ⟨_, rfl⟩
  have hb4 : Below w3.heap.size w3 w4 := by rw [hw4]; exact (Below.refl _ _).alloc (Nat.le_refl _) _
  have bX : BoxAt w4 w3.heap.size [.int .i64 (r.num 1).1, .int .i64 ((r.num 1).2.num 3).1, .slice none 0 0] 25 := by rw [hw4]; exact BoxAt.new w3 [_, _, _] _
  rw [← hw4]
  have hg23 := grownBy_trans hg2 hg3 (.inl rfl)
  have hrow : ∀ k, some R = some k → w.heap.size ≠ k := fun k e => by simp only [Option.some.injEq] at e; omega
  have bH : BoxAt w4 w.heap.size [.int .i64 0, .int .i64 0, .slice none 0 0] 25 := ((BoxAt.new w [_, _, _] _).grown hg23 (fun e => hrow _ e rfl)).belowS hb4
  have hg4 : w.grownBy w4 (some R) := grownBy_trans (grownBy_trans (World.grownBy_alloc w _ _) hg23 (.inl rfl)) (grownBy_of_below hb4 _) (.inl rfl)
  have hX : w.heap.size < w3.heap.size := by have := hg23.size; simp at this; omega
  generalize hXX : w3.heap.size = X at *
  generalize hA : (r.num 1).1 = a at *
  generalize hN : ((r.num 1).2.num 3).1 = nn at *
  have hr4 := hr3.below (w' := w4) (by rw [hXX]; exact hb4)
  generalize hR4 : ((r.num 1).2.num 3).2 = r4 at *
  have HBX := Lib.hid bX
  have HBH := Lib.hid bH
  have Hg4 := Lib.hid hg4
  clear hXX hA hN hR4 hw4 hb4 hg23 hrow bX bH hg4 hg2 hg3 hr2 hr3 h
  go_wp2_with fail
  refine (rnum_any R r4 1 _ hr4 (by omega)).mono ?_
  rintro e w5 ⟨rfl, hr5, hg5⟩
  rw [hm]
  rw [hm, Int.toNat_natCast] at HE
  generalize hR5 : (r4.num 1).2 = r5 at *
  have HBX5 := Lib.hid (HBX.out.grown hg5 (fun e => by simp only [Option.some.injEq] at e; omega))
  have HBH5 := Lib.hid (HBH.out.grown hg5 (fun e => by simp only [Option.some.injEq] at e; omega))
  have Hg5 := Lib.hid (grownBy_trans Hg4.out hg5 (.inl rfl))
  have Hr5 := Lib.hid hr5
  clear hR5 hm hg5 hr5 hr4 HBX HBH Hg4
  go_wp2_with fail
  go_loopw [4] (fun i wx => ∃ (k : Nat) (l : List Bytes) (vt : Value) (rk : Rdr), k ≤ m ∧ i = .int .i64 k ∧ BoxAt wx X [.int .i64 a, .int .i64 nn, vt] 25 ∧ BoxAt wx w.heap.size [.int .i64 0, .int .i64 0, .slice none 0 0] 25 ∧
      wx.ownsRow (X + 1) 9 1 vt l.length (l.map fun s => strV s) ∧ l.length + k ≤ m ∧ RdrAt R wx rk ∧ w.grownBy wx (some R) ∧ Hid (r.batch = (⟨a, nn, l ++ (Rdr.many Rdr.text k rk).1⟩, (Rdr.many Rdr.text k rk).2))) (fun i _ => (intOf i).toNat)
  case atStart => exact ⟨m, [], _, r5, Nat.le_refl _, rfl, HBX5.out, HBH5.out, World.ownsRow_nil _ _ _ _, by simp, Hr5.out, Hg5.out, Lib.hid HE.out⟩
  case round =>
    clear HBX5 HBH5 Hg5 Hr5
    obtain ⟨k, l, vt, rk, hk, rfl, bX, bH, hown, hlk, hr, hg, HEQ⟩ := hrel
    obtain ⟨ad, cap, rfl⟩ := ownsRow_form hown
    have HBX := Lib.hid bX
    have HBH := Lib.hid bH
    have HO := Lib.hid hown
    have Hr := Lib.hid hr
    have Hg := Lib.hid hg
    have hvlt := hown.lt
    have c1 : wr.cell? ⟨R, 1, none⟩ = some (.bool rk.short) := by obtain ⟨v, hb, -⟩ := hr; exact hb.cell 1 rfl
    have zr := hr.lt
    have zX := bX.lt
    have hz := hg.size
    by_cases hstop : k = 0 ∨ rk.short = true
    · have HF := Lib.hid (show r.batch = (⟨a, nn, l⟩, rk) by
        rw [HEQ.out]
        rcases hstop with e | e
        · subst e; rw [Rdr.many_zero]; simp
        · rw [Rdr.many_short _ _ _ e]; simp)
      have x0 := bX.cell 0 rfl
      have x1 := bX.cell 1 rfl
      have x2 := bX.cell 2 rfl
      have y0 := bH.cell 0 rfl
      have y1 := bH.cell 1 rfl
      have y2 := bH.cell 2 rfl
      have f0 := bH.free 0
      have f1 := bH.free 1
      have f2 := bH.free 2
      have n1 : w.heap.size ≠ X := by omega
      clear bX bH hown hr hg
      clear HEQ hvlt
      rcases Nat.eq_zero_or_pos k with e | e1
      · subst e
        clear hstop c1
        go_wp2
        have HY := ((HBH.out.set 0 (.int .i64 a)).set 1 (.int .i64 nn)).set 2 (.slice ad l.length cap)
        have g0 := HY.cell 0 rfl
        have g1 := HY.cell 1 rfl
        have g2 := HY.cell 2 rfl
        refine bodyPost_ret (v := .agg #[.int .i64 a, .int .i64 nn, .slice ad l.length cap]) (by simp [results, Try.results31, go_sem, g0, g1, g2]) rfl ⟨.slice ad l.length cap, by rw [HF.out], ?_, by rw [HF.out]; exact ((Hr.out.set zR _).set zR _).set zR _, grownBy_set' (grownBy_set' (grownBy_set' Hg.out (Nat.le_refl _) _) (Nat.le_refl _) _) (Nat.le_refl _) _⟩
        rw [HF.out]
        exact ownsRow_mono (ownsRow_setCell (ownsRow_setCell (ownsRow_setCell HO.out (by simp; omega) _) (by simp; omega) _) (by simp; omega) _) (by omega)
      · have e2 : rk.short = true := by rcases hstop with e | e; omega; exact e
        have k1 : (0 : Int) < (k : Int) := by omega
        rw [e2] at c1
        clear hstop e2
        go_wp2
        have HY := ((HBH.out.set 0 (.int .i64 a)).set 1 (.int .i64 nn)).set 2 (.slice ad l.length cap)
        have g0 := HY.cell 0 rfl
        have g1 := HY.cell 1 rfl
        have g2 := HY.cell 2 rfl
        refine bodyPost_ret (v := .agg #[.int .i64 a, .int .i64 nn, .slice ad l.length cap]) (by simp [results, Try.results31, go_sem, g0, g1, g2]) rfl ⟨.slice ad l.length cap, by rw [HF.out], ?_, by rw [HF.out]; exact ((Hr.out.set zR _).set zR _).set zR _, grownBy_set' (grownBy_set' (grownBy_set' Hg.out (Nat.le_refl _) _) (Nat.le_refl _) _) (Nat.le_refl _) _⟩
        rw [HF.out]
        exact ownsRow_mono (ownsRow_setCell (ownsRow_setCell (ownsRow_setCell HO.out (by simp; omega) _) (by simp; omega) _) (by simp; omega) _) (by omega)
    · obtain ⟨j, rfl⟩ : ∃ j, k = j + 1 := ⟨k - 1, by omega⟩
      have hsh : rk.short = false := by cases q : rk.short; rfl; exact absurd (.inr q) hstop
      have k1 : (0 : Int) < ((j + 1 : Nat) : Int) := by omega
      rw [hsh] at c1
      have HF := Lib.hid (show r.batch = (⟨a, nn, (l ++ [rk.text.1]) ++ (Rdr.many Rdr.text j rk.text.2).1⟩, (Rdr.many Rdr.text j rk.text.2).2) by rw [HEQ.out, Rdr.many_next _ _ _ hsh]; simp)
      obtain ⟨q, hq, hq2⟩ := num1_nat rk
      have HT := Lib.hid (show rk.text = (rk.num 1).2.take q by unfold Rdr.text; rw [hq, Int.toNat_natCast])
      generalize rk.text = T at *
      have x2 := bX.cell 2 rfl
      have f2 := bX.free 2
      have lk : l.length ≤ 256 := by omega
      have nXR : X ≠ R := by omega
      clear bX bH hown hr hg hstop hsh HEQ
      have HH := Lib.hid hlk
      clear hlk
      go_wp2_with fail
      go_region_law
        (first
          | ((refine step_append_one (by rfl) _ _ _ (by rfl) elemTx' (X + 1) (.slice ad l.length cap) l.length _ (by rfl) (by exact HO7.out.alloc _) _ 9 [strV T.1] (by rfl) (by exact BoxAt.new _ [_] _) rfl (by simp [Value.oneCell']) (by unfold maxLen; omega) (by omega) (by simp; omega) ?_; intro g cap3 w8 hown8 hgr hat hlt8;
              have bX8 := ((HBX7.out).alloc (.cells #[strV T.1] 9)).grown (w' := w8) hgr (fun e => by have := (hvlt _ e).1; omega);
              have x2 := bX8.cell 2 rfl; have f2 := bX8.free 2))
          | ((go_simp; go_at_call 30; refine (rnum_any R rk 1 _ (Hr.out.below (Below.refl _ _).drew) (by omega)).mono ?_; rintro e w6 ⟨rfl, hr6, hg6⟩; rw [hq]; have x2 := ((HBX.out.drew).grown hg6 (fun e => by simp only [Option.some.injEq] at e; omega)).cell 2 rfl; have Hr6 := Lib.hid hr6; have Hg6 := Lib.hid hg6; clear hr6 hg6))
          | ((go_simp; go_at_call 33; refine (rtake_any R _ q _ Hr6.out (by omega)).mono ?_; rintro e w7 ⟨v7, rfl, hv7, hr7, hg7⟩; rw [← HT.out] at hv7 hr7; have hcv := conv_bytes_str (P := Try.prog) Try.underlying22 Try.underlying5 Try.underlying9 hv7; have Hg7 := Lib.hid (grownBy_trans (grownBy_trans (grownBy_of_below (Below.refl wr.heap.size wr).drew _) Hg6.out (.inl rfl)) hg7 (.inl rfl)); have HBX7 := Lib.hid (HBX.out.grown Hg7.out (fun e => by simp only [Option.some.injEq] at e; omega)); have HO7 := Lib.hid (ownsRow_grown HO.out Hg7.out (fun k e => by simp only [Option.some.injEq] at e; omega)); have x2 := HBX7.out.cell 2 rfl; have z7 := HBX7.out.lt; have Hr7 := Lib.hid hr7; clear hv7 hr7 hg7)))
      all_goals
        have hrow : ∀ k, (Value.slice ad l.length cap).ownBlock = some k → X < k := fun k e => by have := (hvlt k e).1; omega
        have HB8 := Lib.hid (bX8.set 2 (.slice (some ⟨g, 0, none⟩) (l.length + 1) cap3))
        have HH8 := Lib.hid ((((HBH.out.grown Hg7.out (fun e => by simp only [Option.some.injEq] at e; omega)).alloc (.cells #[strV T.1] 9)).grown hgr (fun e => by have := hrow _ e; omega)).setOther (p := ⟨X, 2, none⟩) (by simp; omega) (.slice (some ⟨g, 0, none⟩) (l.length + 1) cap3))
        have HO8 := Lib.hid (ownsRow_setCell (p := ⟨X, 2, none⟩) hown8 (by simp) (.slice (some ⟨g, 0, none⟩) (l.length + 1) cap3))
        have HR8 := Lib.hid (((Hr7.out.below ((Below.refl _ _).alloc (Nat.le_refl _) (.cells #[strV T.1] 9))).grown hgr (fun k e => by have := hrow k e; omega)).set (b := X) (j := 2) (by omega) (.slice (some ⟨g, 0, none⟩) (l.length + 1) cap3))
        have HG8 := Lib.hid (grownBy_set' (b := X) (j := 2) (grownBy_trans (grownBy_trans (grownBy_trans Hg.out Hg7.out (.inl rfl)) (World.grownBy_alloc w7 (.cells #[strV T.1] 9) (some R)) (.inl rfl)) hgr (.inr fun k e => by have := hrow k e; omega)) (by omega) (.slice (some ⟨g, 0, none⟩) (l.length + 1) cap3))
        clear hown8 hgr hat bX8 hvlt hrow
        go_wp2
        go_roundw
        case rel => exact ⟨j, l ++ [T.1], _, T.2, by omega, by go_num, HB8.out, HH8.out, by rw [List.length_append, List.map_append]; exact HO8.out, by have := HH.out; simp; omega, HR8.out, HG8.out, HF⟩
        case measure => simp [intOf]
end Go.Proofs.Ytegdpjoncjmdeaa
