/- wire's reader: header: what it computes. -/
import Derived.Test.YtegdpjoncjmdeaaDecB
set_option linter.unusedVariables false
set_option linter.unusedSimpArgs false
namespace Go.Proofs.Ytegdpjoncjmdeaa
open Go Go.RowKit

theorem LstO.rdNew {w w' : World} {v : Value} {l : List Bytes} (h : LstO RBytes (fun b => w.heap.size ≤ b) w.heap.size 22 w' v l) : RdBB (fun b => w.heap.size ≤ b) w' v l :=
  h.rd (by decide) (fun b hb _ => hb) (fun b hb _ => hb)
theorem RdS.grownR {α : Type} {Rl : Rel α} {G : Nat → Prop} {w w' : World} {v : Value} {l : List α} {R : Nat} (h : RdS Rl G w v l) (hg : w.grownBy w' (some R)) (hR : ¬ G R) : RdS Rl G w' v l :=
  h.keep (Keep.grown hg (fun k e => by simp only [Option.some.injEq] at e; subst e; exact hR)) (fun _ h => h)
set_option maxRecDepth 100000 in
set_option maxHeartbeats 4000000 in
theorem rheader_any (R : Nat) (r : Rdr) (w : World) (h : RdrAt R w r) :
    Calls Try.prog 32 #[.pointer (some ⟨R, 0, none⟩)] w fun e w' => ∃ vb vp, e = .returned (.agg #[.int .i64 r.header.1.a, .int .i64 r.header.1.r, vb, vp]) ∧
      RdBB (fun b => w.heap.size ≤ b) w' vb r.header.1.bs ∧ RdBB (fun b => w.heap.size ≤ b) w' vp r.header.1.ps ∧ RdrAt R w' r.header.2 ∧ w.grownBy w' (some R) := by
  have zR := h.lt
  have HE := Lib.hid (show r.header = (⟨(r.num 1).1, ((r.num 1).2.num 3).1, ((r.num 1).2.num 3).2.digests.1, ((r.num 1).2.num 3).2.digests.2.digests.1⟩, ((r.num 1).2.num 3).2.digests.2.digests.2) from rfl)
  have hb0 := r.num_bound 1
  have hb1 := (r.num 1).2.num_bound 3
  go_enter Try.func32, Try.ntmps32
  go_wp2_with fail
  refine (rnum_any R r 1 _ (h.below ((Below.refl _ _).alloc (Nat.le_refl _) _)) (by omega)).mono ?_
  rintro e w2 ⟨rfl, hr2, hg2⟩
  go_wp2_with fail
  refine (rnum_any R _ 3 _ hr2 (by omega)).mono ?_
  rintro e w3 ⟨rfl, hr3, hg3⟩
  go_upto_region 2 with fail
  obtain ⟨w4, hw4⟩ : ∃ w4, w4 = w3.alloc (.cells #[.int .i64 (r.num 1).1, .int .i64 ((r.num 1).2.num 3).1, .slice none 0 0, .slice none 0 0] 28) := ⟨_, rfl⟩
  have hb4 : Below w3.heap.size w3 w4 := by rw [hw4]; exact (Below.refl _ _).alloc (Nat.le_refl _) _
  have bX : BoxAt w4 w3.heap.size [.int .i64 (r.num 1).1, .int .i64 ((r.num 1).2.num 3).1, .slice none 0 0, .slice none 0 0] 28 := by rw [hw4]; exact BoxAt.new w3 [_, _, _, _] _
  rw [← hw4]
  have hg23 := grownBy_trans hg2 hg3 (.inl rfl)
  have hrow : ∀ k, some R = some k → w.heap.size ≠ k := fun k e => by simp only [Option.some.injEq] at e; omega
  have bH : BoxAt w4 w.heap.size [.int .i64 0, .int .i64 0, .slice none 0 0, .slice none 0 0] 28 := ((BoxAt.new w [_, _, _, _] _).grown hg23 (fun e => hrow _ e rfl)).belowS hb4
  have hg4 : w.grownBy w4 (some R) := grownBy_trans (grownBy_trans (World.grownBy_alloc w _ _) hg23 (.inl rfl)) (grownBy_of_below hb4 _) (.inl rfl)
  have hX : w.heap.size < w3.heap.size := by have := hg23.size; simp at this; omega
  generalize hXX : w3.heap.size = X at *
  generalize hA : (r.num 1).1 = a at *
  generalize hN : ((r.num 1).2.num 3).1 = nn at *
  have hr4 := hr3.below (w' := w4) (by rw [hXX]; exact hb4)
  generalize hR4 : ((r.num 1).2.num 3).2 = r4 at *
  have HBX := Lib.hid bX
  have HBH := Lib.hid bH
  have Hg4 := Lib.hid hg4
  clear hXX hA hN hR4 hw4 hb4 hg23 hrow bX bH hg4 hg2 hg3 hr2 hr3 h
  go_wp2_with fail
  refine (rdigests_any R r4 _ hr4).mono ?_
  rintro e w5 ⟨vb, rfl, hL5, hr5, hg5⟩
  have hL5' := hL5.rdNew
  generalize hD5 : r4.digests.1 = bs at *
  obtain ⟨adb, capb, rfl, -, -⟩ := hL5'.form
  have bX5 := HBX.out.grown hg5 (fun e => by simp only [Option.some.injEq] at e; omega)
  have p2 := bX5.cell 2 rfl
  have f2 := bX5.free 2
  have HBX5 := Lib.hid (bX5.set 2 (.slice adb bs.length capb))
  have HBH5 := Lib.hid ((HBH.out.grown hg5 (fun e => by simp only [Option.some.injEq] at e; omega)).setOther (p := ⟨X, 2, none⟩) (by simp; omega) (.slice adb bs.length capb))
  have Hg5 := Lib.hid (grownBy_set' (b := X) (j := 2) (grownBy_trans Hg4.out hg5 (.inl rfl)) (by omega) (.slice adb bs.length capb))
  have hr5' := hr5.set (b := X) (j := 2) (by omega) (.slice adb bs.length capb)
  have zX4 := HBX.out.lt
  have HL5 := Lib.hid (hL5'.keep (Keep.setCell (p := ⟨X, 2, none⟩) (by simp; omega) (.slice adb bs.length capb)) (fun _ h => h))
  have z45 := Hg4.out.size
  have z55 := hg5.size
  clear hL5 hL5' hr5 hg5 hr4 bX5
  go_wp2_with fail
  refine (rdigests_any R _ _ hr5').mono ?_
  rintro e w6 ⟨vp, rfl, hL6, hr6, hg6⟩
  have hL6' := hL6.rdNew
  generalize hD6 : r4.digests.2.digests.1 = ps at *
  obtain ⟨adp, capp, rfl, -, -⟩ := hL6'.form
  have bX6 := HBX5.out.grown hg6 (fun e => by simp only [Option.some.injEq] at e; omega)
  have bH6 := HBH5.out.grown hg6 (fun e => by simp only [Option.some.injEq] at e; omega)
  have q0 := bX6.cell 0 rfl
  have q1 := bX6.cell 1 rfl
  have q2 := bX6.cell 2 rfl
  have q3 := bX6.cell 3 rfl
  have qf := bX6.free 3
  have y0 := bH6.cell 0 rfl
  have y1 := bH6.cell 1 rfl
  have y2 := bH6.cell 2 rfl
  have y3 := bH6.cell 3 rfl
  have g0 := bH6.free 0
  have g1 := bH6.free 1
  have g2 := bH6.free 2
  have g3 := bH6.free 3
  have n1 : w.heap.size ≠ X := by omega
  have Hg6 := Lib.hid (grownBy_trans Hg5.out hg6 (.inl rfl))
  have HL5' := Lib.hid (HL5.out.grownR hg6 (by omega))
  have HL6 := Lib.hid hL6'
  have Hr6 := Lib.hid hr6
  have HY := Lib.hid (((((bH6.setOther (p := ⟨X, 3, none⟩) (by simp; omega) (.slice adp ps.length capp)).set 0 (.int .i64 a)).set 1 (.int .i64 nn)).set 2 (.slice adb bs.length capb)).set 3 (.slice adp ps.length capp))
  clear hL6 hL6' hr6 hg6 hr5' bX6 bH6 HL5 p2 f2 HBX HBH HBX5 HBH5
  have z6 := Hg6.out.size
  go_wp2
  have u0 := HY.out.cell 0 rfl
  have u1 := HY.out.cell 1 rfl
  have u2 := HY.out.cell 2 rfl
  have u3 := HY.out.cell 3 rfl
  refine bodyPost_ret (v := .agg #[.int .i64 a, .int .i64 nn, .slice adb bs.length capb, .slice adp ps.length capp]) (by simp [results, Try.results32, go_sem, u0, u1, u2, u3]) rfl ⟨.slice adb bs.length capb, .slice adp ps.length capp, by rw [HE.out], ?_, ?_, ?_, ?_⟩
  · rw [HE.out]
    exact HL5'.out.keep (Keep.setCell' (Keep.setCell' (Keep.setCell' (Keep.setCell' (Keep.setCell (p := ⟨X, 3, none⟩) (by simp; omega) _) (p := ⟨w.heap.size, 0, none⟩) (by simp; omega) _) (p := ⟨w.heap.size, 1, none⟩) (by simp; omega) _) (p := ⟨w.heap.size, 2, none⟩) (by simp; omega) _) (p := ⟨w.heap.size, 3, none⟩) (by simp; omega) _) (fun b hb => by omega)
  · rw [HE.out]
    simp only [hD6]
    exact HL6.out.keep (Keep.setCell' (Keep.setCell' (Keep.setCell' (Keep.setCell' (Keep.setCell (p := ⟨X, 3, none⟩) (by simp [World.setCell]; omega) _) (p := ⟨w.heap.size, 0, none⟩) (by simp [World.setCell]; omega) _) (p := ⟨w.heap.size, 1, none⟩) (by simp [World.setCell]; omega) _) (p := ⟨w.heap.size, 2, none⟩) (by simp [World.setCell]; omega) _) (p := ⟨w.heap.size, 3, none⟩) (by simp [World.setCell]; omega) _) (fun b hb => by simp [World.setCell] at hb; omega)
  · rw [HE.out]
    exact ((((Hr6.out.set (by omega) _).set zR _).set zR _).set zR _).set zR _
  · exact grownBy_set' (grownBy_set' (grownBy_set' (grownBy_set' (grownBy_set' Hg6.out (by omega) _) (Nat.le_refl _) _) (Nat.le_refl _) _) (Nat.le_refl _) _) (Nat.le_refl _) _
end Go.Proofs.Ytegdpjoncjmdeaa
