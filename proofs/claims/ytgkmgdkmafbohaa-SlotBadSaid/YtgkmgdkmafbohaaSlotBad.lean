/- SlotBad: the walk. -/
import Derived.Test.YtgkmgdkmafbohaaMsgC
import Derived.Test.YtgkmgdkmafbohaaSome
import Derived.Test.YtgkmgdkmafbohaaOpenS
import Derived.Deep.DeepCutAuto
import Derived.Deep.CutBlock
import Derived.Deep.RegionHeld3
set_option linter.unusedVariables false
set_option linter.unusedSimpArgs false
namespace Go.Proofs.Ytgkmgdkmafbohaa
open Go Go.RowKit

set_option maxRecDepth 100000 in
set_option maxHeartbeats 8000000 in
theorem slotBad_case (K A B C which q : Int) (vt : Value) (w : World) (hvt : vt.oneCell' = true) (a1 : -9223372036854775808 ≤ A) (a2 : A ≤ 9223372036854775807) (b1 : -9223372036854775808 ≤ B) (b2 : B ≤ 9223372036854775807) (c1 : -9223372036854775808 ≤ C) (c2 : C ≤ 9223372036854775807)
    (h1 : -9223372036854775808 ≤ which) (h2 : which ≤ 9223372036854775807) (hq : pickedZ which 4 = q) (hqc : q = 0 ∨ q = 1 ∨ q = 2 ∨ q = 3) :
    Calls Try.prog 3 #[.agg #[.int .i64 K, .int .i64 A, .int .i64 B, .int .i64 C, vt], .int .i64 which] w fun e w' => e = .returned (.bool true) ∧ Below w.heap.size w w' := by
  obtain ⟨pa0, pa1⟩ := pickedZ_range A 4 (by omega)
  obtain ⟨pb0, pb1⟩ := pickedZ_range B 9 (by omega)
  generalize hA : pickedZ A 4 = a at *
  generalize hB : pickedZ B 9 = b at *
  have HA := Lib.hid hA
  have HB := Lib.hid hB
  have HQ := Lib.hid hq
  have l1 : IntKind.i64.wrap (1 + b) = 1 + b := IntWalk.i64_in _ (by omega)
  clear hA hB hq
  obtain ⟨w1, hw1⟩ : ∃ w1, w1 = w.alloc (.cells #[.int .i64 K, .int .i64 A, .int .i64 B, .int .i64 C, vt] 24) := ⟨_, rfl⟩
  have hb1 : Below w.heap.size w w1 := by rw [hw1]; exact (Below.refl _ _).alloc (Nat.le_refl _) _
  have bx : BoxAt w1 w.heap.size [.int .i64 K, .int .i64 A, .int .i64 B, .int .i64 C, vt] 24 := by rw [hw1]; exact BoxAt.new w [_, _, _, _, _] _
  have x1 := bx.cell 1 rfl
  have x2 := bx.cell 2 rfl
  have x3 := bx.cell 3 rfl
  have hx := bx.lt
  have hn1 : w1.heap.size ≠ w.heap.size := by omega
  have HB1 := Lib.hid hb1
  have HBX := Lib.hid bx
  go_enter Try.func3, Try.ntmps3
  go_upto_region 1 with fail
  rw [← hw1]
  clear hw1 hb1 bx
  go_cut [5] (fun s wx => ∃ X g : Nat, s = .pointer (some ⟨X, 0, none⟩) ∧ w.heap.size ≤ X ∧ X ≠ g ∧ BoxAt wx X [.int .i64 a, .int .i64 (1 + b), .slice (some ⟨g, 0, none⟩) 32 32] 29 ∧ Below w.heap.size w wx)
  case first =>
    go_region_held3 (fun w' => w'.cell? ⟨w.heap.size, 1, none⟩ = some (.int .i64 A) ∧ w'.cell? ⟨w.heap.size, 2, none⟩ = some (.int .i64 B) ∧ w'.cell? ⟨w.heap.size, 3, none⟩ = some (.int .i64 C)) (go_keep)
      (first
        | (go_at_call 15; refine (picked_any _ _ _ (by omega) (by omega) (by omega) (by omega)).mono ?_; rintro e w' ⟨rfl, rfl⟩; (first | rw [HA.out] | rw [HB.out]))
        | (go_at_call 16; refine (some_any _ _ _ c1 c2).mono ?_; rintro e w2 ⟨rfl, hbox, hb2⟩; (try (have bz := (BoxAt.new w1 [.int .i64 0, .int .i64 0, .slice none 0 0] 29).drew.belowS hb2; have z0 := bz.cell 0 rfl; have z1 := bz.cell 1 rfl; have z2 := bz.cell 2 rfl; have f0 := bz.free 0; have f1 := bz.free 1; have f2 := bz.free 2)); have hb2' : Below w1.heap.size w1 w2 := (Below.trans (by repeat (first | with_reducible exact Below.refl _ _ | with_reducible refine Below.drew ?_ | with_reducible refine Below.alloc ?_ (by first | omega | (simp <;> omega)) _)) (hb2.mono (by first | omega | (simp <;> omega)))); have y1 := ((bcellAt hb2' _ hx).1 1).trans x1; have y2 := ((bcellAt hb2' _ hx).1 2).trans x2; have y3 := ((bcellAt hb2' _ hx).1 3).trans x3; have s2 := hb2'.size; have hn2 : w2.heap.size ≠ w.heap.size := (by omega); have hl2 : w1.heap.size < w2.heap.size := (by have := hbox.lt; first | omega | (simp at this; omega)); have HB2 := Lib.hid (HB1.out.trans (hb2'.mono (Nat.le_of_lt hx)))))
    all_goals
      go_wp2_with fail
      go_meet
      first
        | exact ⟨w2.heap.size, w1.heap.size, rfl, by omega, by omega, BoxAt.new w2 [_, _, _] _, HB2.out.alloc (by omega) _⟩
        | exact ⟨w1.heap.size, w1.heap.size + 1, rfl, by omega, by omega, bz.set3 _ _ _, ((HB2.out.setCell (by simp; omega) _).setCell (by simp; omega) _).setCell (by simp; omega) _⟩
  case rest =>
    obtain ⟨X, g, rfl, hX, hXg, bX, hB⟩ := hcut
    have hs0 : sltCode a (1 + b) 32 = 0 := by
      unfold sltCode
      rw [if_neg, if_neg (by simp)]
      have e1 : nodeOk a = true := by unfold nodeOk; simp; omega
      have e2 : countOk (1 + b) = true := by unfold countOk; simp; omega
      simp [e1, e2]
    have HS0 := Lib.hid hs0
    have HBX := Lib.hid bX
    have HBW := Lib.hid hB
    have p0 := bX.cell 0 rfl
    have p1 := bX.cell 1 rfl
    have p2 := bX.cell 2 rfl
    have zX := bX.lt
    have zB := hB.size
    clear bX hB hs0 x1 x2 x3
    go_wp2_with fail
    refine (cslot_any _ _ _ _ _ _).mono ?_
    rintro e w2 ⟨rfl, hb2⟩
    rw [HS0.out]
    have bX2 := HBX.out.belowS hb2
    have HB2 := Lib.hid (HBW.out.trans (hb2.mono zB))
    have z2 := bX2.lt
    have z3 := HB2.out.size
    clear p0 p1 p2 hb2
    have p0 := bX2.cell 0 rfl
    have p1 := bX2.cell 1 rfl
    have p2 := bX2.cell 2 rfl
    have f0 := bX2.free 0
    have f1 := bX2.free 1
    have f2 := bX2.free 2
    go_upto_block 0 with (go_at_call 15; refine (picked_any _ _ _ h1 h2 (by omega) (by omega)).mono ?_; rintro e w' ⟨rfl, rfl⟩; rw [HQ.out])
    go_cut [6] (fun u wx => ∃ (a' r' : Int) (n' : Nat) (wv : Int), u = .int .i64 wv ∧ BoxAt wx X [.int .i64 a', .int .i64 r', .slice (some ⟨g, 0, none⟩) n' 32] 29 ∧ sltCode a' r' n' = wv ∧ wv ≠ 0 ∧ Below w.heap.size w wx)
    case first =>
      rcases hqc with e | e | e | e
      · have e0 : (q == 0) = true := by rw [e]; rfl
        clear e
        go_wp2
        go_meet
        exact ⟨4, 1 + b, 32, 2, rfl, bX2.set 0 _, by unfold sltCode; rw [if_pos (.inl (by decide))], by decide, HB2.out.setCell (by simp; omega) _⟩
      · have e0 : (q == 0) = false := by rw [e]; rfl
        have e1 : (q == 1) = true := by rw [e]; rfl
        clear e
        go_wp2
        go_meet
        exact ⟨a, 0, 32, 2, rfl, bX2.set 1 _, by unfold sltCode; rw [if_pos (.inr (by decide))], by decide, HB2.out.setCell (by simp; omega) _⟩
      · have e0 : (q == 0) = false := by rw [e]; rfl
        have e1 : (q == 1) = false := by rw [e]; rfl
        have e2 : (q == 2) = true := by rw [e]; rfl
        clear e
        go_wp2
        go_meet
        exact ⟨a, 1048577, 32, 2, rfl, bX2.set 1 _, by unfold sltCode; rw [if_pos (.inr (by decide))], by decide, HB2.out.setCell (by simp; omega) _⟩
      · have e0 : (q == 0) = false := by rw [e]; rfl
        have e1 : (q == 1) = false := by rw [e]; rfl
        have e2 : (q == 2) = false := by rw [e]; rfl
        clear e
        go_wp2
        go_meet
        refine ⟨a, 1 + b, 31, 4, rfl, bX2.set 2 _, ?_, by decide, HB2.out.setCell (by simp; omega) _⟩
        unfold sltCode
        have e1 : nodeOk a = true := by unfold nodeOk; simp; omega
        have e2 : countOk (1 + b) = true := by unfold countOk; simp; omega
        simp [e1, e2]
    case rest =>
      obtain ⟨a', r', n', wv, rfl, bX, hcode, hw0, hB⟩ := hcut
      have HC := Lib.hid hcode
      have HBX := Lib.hid bX
      have HBW := Lib.hid hB
      have p0 := bX.cell 0 rfl
      have p1 := bX.cell 1 rfl
      have p2 := bX.cell 2 rfl
      have zX := bX.lt
      have zB := hB.size
      clear bX hB hcode
      go_wp2_with fail
      refine (cslot_any _ _ _ _ _ _).mono ?_
      rintro e w3 ⟨rfl, hb3⟩
      rw [HC.out]
      have bX3 := HBX.out.belowS hb3
      have HB3 := Lib.hid (HBW.out.trans (hb3.mono zB))
      have q0 := bX3.cell 0 rfl
      have q1 := bX3.cell 1 rfl
      have q2 := bX3.cell 2 rfl
      clear hb3 p0 p1 p2
      go_wp2_with fail
      refine (wcheck_3 (G := fun _ => True) 0 0 0 0 none 0 0 0 0 none 0 0 none 0 0 a' r' (some ⟨g, 0, none⟩) n' 32 0 0 none 0 0 none 0 0 none 0 0 0 _ rfl rfl (by decide) (by decide)).mono ?_
      rintro e w4 ⟨rfl, hb4⟩
      rw [HC.out, if_pos hw0]
      have hB4 := HB3.out.trans (hb4.mono HB3.out.size)
      go_wp2
      go_ret
      exact ⟨rfl, hB4⟩
theorem slotBad_walk (vt : Value) (r : RawD) (which : Int) (w : World) (hr : RawOk (fun _ => True) w vt r) (h1 : -9223372036854775808 ≤ which) (h2 : which ≤ 9223372036854775807) :
    Calls Try.prog 3 #[.agg #[.int .i64 r.k, .int .i64 r.a, .int .i64 r.b, .int .i64 r.c, vt], .int .i64 which] w fun e w' => e = .returned (.bool true) ∧ Below w.heap.size w w' := by
  obtain ⟨p1, p2⟩ := pickedZ_range which 4 (by omega)
  exact slotBad_case r.k r.a r.b r.c which _ vt w hr.one hr.2.1.1 hr.2.1.2 hr.2.2.1.1 hr.2.2.1.2 hr.2.2.2.1.1 hr.2.2.2.1.2 h1 h2 rfl (by omega)
end Go.Proofs.Ytgkmgdkmafbohaa
