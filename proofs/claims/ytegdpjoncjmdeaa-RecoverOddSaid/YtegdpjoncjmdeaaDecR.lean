/- wire's reader: take, number: what they compute. -/
import Derived.Test.YtegdpjoncjmdeaaBas
import Derived.IntWalk
set_option linter.unusedVariables false
set_option linter.unusedSimpArgs false
namespace Go.Proofs.Ytegdpjoncjmdeaa
open Go Go.RowKit

/-- A reader in memory. -/
def RdrAt (R : Nat) (w : World) (r : Rdr) : Prop :=
  ∃ v, BoxAt w R [v, .bool r.short] 71 ∧ RdB (fun b => b < R) w v r.rest
theorem grownBy_refl (w : World) (r : Option Nat) : w.grownBy w r := ⟨rfl, rfl, rfl, Nat.le_refl _, fun _ _ _ => rfl⟩
theorem grownBy_setCell (w : World) (R j : Nat) (u : Value) : w.grownBy (w.setCell ⟨R, j, none⟩ u) (some R) := by
  have h := (Below.refl R w).setCell (p := ⟨R, j, none⟩) (Nat.le_refl _) u
  refine ⟨h.os, h.tape, h.output, ?_, fun k hk hne => Below.heap_setCell w _ u k (fun e => hne (by rw [e]))⟩
  simp [World.setCell]
theorem RdrAt.grown {R : Nat} {w w' : World} {r : Rdr} {row : Option Nat} (h : RdrAt R w r) (hg : w.grownBy w' row) (hr : ∀ k, row = some k → R < k) : RdrAt R w' r := by
  obtain ⟨v, hb, hv⟩ := h
  exact ⟨v, hb.grown hg (fun e => by have := hr R e; omega), hv.keep (Keep.grown hg (fun k e hh => by have := hr k e; omega)) (fun b hh => hh)⟩
theorem RdrAt.below {R : Nat} {w w' : World} {r : Rdr} (h : RdrAt R w r) (hb : Below w.heap.size w w') : RdrAt R w' r :=
  h.grown (grownBy_of_below hb none) (fun k e => by simp at e)
theorem RdrAt.lt {R : Nat} {w : World} {r : Rdr} (h : RdrAt R w r) : R < w.heap.size := by obtain ⟨v, hb, -⟩ := h; exact hb.lt

theorem RdS.sliceL {α : Type} {R : Rel α} {G : Nat → Prop} {w : World} {l : List α} {ad : Option Addr} {m cap : Nat} (h : RdS R G w (.slice ad m cap) l) (n : Nat) (hn : n ≤ l.length) :
    RdS R G w (.slice (if cap = n then ad else ad.map (·.add (n * R.size))) (m - n) (cap - n)) (l.drop n) := by
  obtain ⟨h0, h1, h2, hn0⟩ := h.len
  refine ⟨_, _, by rw [List.length_drop, h0], by rw [List.length_drop]; omega, by omega, fun e => ?_, fun j x hx => ?_⟩
  · split at e
    · have := hn0 e; omega
    · simp at e; have := hn0 e; omega
  · rw [List.getElem?_drop] at hx
    have hj : n + j < l.length := by
      rcases Nat.lt_or_ge (n + j) l.length with h | h
      · exact h
      · simp [List.getElem?_eq_none h] at hx
    obtain ⟨b, o, cs, rfl, hb, hc, hr⟩ := h.at (n + j) hj
    have hx' : x = l[n + j]'hj := by rw [List.getElem?_eq_getElem hj] at hx; exact (Option.some.inj hx).symm
    subst hx'
    rw [if_neg (by omega)]
    refine ⟨b, o + n * R.size, cs, ?_, hb, fun t c ht => ?_, hr⟩
    · unfold Addr.add
      by_cases h0 : n * R.size = 0
      · simp [h0]
      · simp [h0]
    · have := hc t c ht
      rw [show o + n * R.size + (j * R.size + t) = o + ((n + j) * R.size + t) by rw [Nat.add_mul]; omega]; exact this
set_option maxRecDepth 100000 in
set_option maxHeartbeats 1000000 in
theorem rtake_ends (R : Nat) (r : Rdr) (n : Nat) (w : World) (h : RdrAt R w r) (he : r.ends n = true) :
    Calls Try.prog 33 #[.pointer (some ⟨R, 0, none⟩), .int .i64 (n : Int)] w fun e w' => e = .returned (.slice none 0 0) ∧ RdrAt R w' ⟨r.rest, true⟩ ∧ w.grownBy w' (some R) := by
  obtain ⟨rest, short⟩ := r
  obtain ⟨v, hb, hv⟩ := h
  obtain ⟨ad, cap, rfl, -, -⟩ := hv.form
  have c0 := hb.cell 0 rfl
  have c1 := hb.cell 1 rfl
  have f1 := hb.free 1
  have HB := Lib.hid hb
  have HV := Lib.hid hv
  have hs : short = true ∨ (short = false ∧ (rest.length : Int) < (n : Int)) := by
    unfold Rdr.ends at he
    cases short
    · right; simp at he; exact ⟨rfl, by omega⟩
    · exact .inl rfl
  simp only at c0 c1
  clear hb hv he
  go_enter Try.func33, Try.ntmps33
  rcases hs with rfl | ⟨rfl, hlt⟩
  all_goals
    go_wp2
    go_ret
    exact ⟨rfl, ⟨_, HB.out.set 1 (.bool true), HV.out.keep (Keep.setCell (by exact Nat.lt_irrefl R) _) (fun _ h => h)⟩, grownBy_setCell _ _ _ _⟩
set_option maxRecDepth 100000 in
set_option maxHeartbeats 1000000 in
theorem rtake_ok (R : Nat) (r : Rdr) (n : Nat) (w : World) (h : RdrAt R w r) (he : r.ends n = false) (hn : n ≤ 1000) :
    Calls Try.prog 33 #[.pointer (some ⟨R, 0, none⟩), .int .i64 (n : Int)] w fun e w' => ∃ v, e = .returned v ∧ RdB (fun b => w.heap.size ≤ b) w' v (r.rest.take n) ∧ RdrAt R w' ⟨r.rest.drop n, false⟩ ∧ w.grownBy w' (some R) := by
  obtain ⟨rest, short⟩ := r
  obtain ⟨v, hb, hv⟩ := h
  obtain ⟨ad, cap, rfl, hc1, hc2, hc0⟩ := hv.form0
  obtain ⟨hs, hl⟩ := Rdr.ends_iff.1 he
  simp only at hs hl
  subst hs
  have c0 := hb.cell 0 rfl
  have c1 := hb.cell 1 rfl
  have zR := hb.lt
  have HB := Lib.hid hb
  have HV := Lib.hid hv
  have HT := Lib.hid (hv.take n hl)
  have hlen : (rest.take n).length = n := by simp; omega
  have n0 : (0 : Int) ≤ (n : Int) := by omega
  have n1 : (n : Int) ≤ (rest.length : Int) := by omega
  have n2 : (n : Int) ≤ (cap : Int) := by simp only at hc1; omega
  have n3 : ¬ (rest.length : Int) < (n : Int) := by omega
  simp only at c0 c1 hc1
  have HC0 := Lib.hid hc0
  unfold maxLen at hc2
  clear hb hv he hc0
  by_cases hcap : cap = n
  · subst hcap
    obtain rfl : rest.length = cap := by omega
    go_enter Try.func33, Try.ntmps33
    go_wp2_with fail
    refine (cloneB_any _ _ HT.out (by omega)).mono ?_
    rintro e w2 ⟨v2, rfl, hown, hb2⟩
    have HO := Lib.hid hown
    have HB2 := Lib.hid hb2
    have d0 := ((bcellAt hb2 R zR).1 0).trans c0
    have g0 := ((bcellAt hb2 R zR).2 0).trans (HB.out.free 0)
    clear c0 c1 hown hb2
    go_wp2
    go_ret
    have HS := HV.out.sliceL rest.length hl
    rw [if_pos rfl, Nat.sub_self] at HS
    refine ⟨v2, rfl, RdS.of_owns (base := w.heap.size) (ownsRow_setCell HO.out (by exact zR) _) (fun b hb => hb), ⟨_, (HB.out.belowS HB2.out).set 0 _, (HS.below HB2.out (fun _ h => h)).keep (G' := fun b => b < R) (Keep.setCell (p := ⟨R, 0, none⟩) (by exact Nat.lt_irrefl R) _) (fun _ h => h)⟩, grownBy_trans (grownBy_of_below HB2.out (some R)) (grownBy_setCell _ _ _ _) (.inl rfl)⟩
  · go_enter Try.func33, Try.ntmps33
    go_wp2_with fail
    refine (cloneB_any _ _ HT.out (by omega)).mono ?_
    rintro e w2 ⟨v2, rfl, hown, hb2⟩
    have HO := Lib.hid hown
    have HB2 := Lib.hid hb2
    have d0 := ((bcellAt hb2 R zR).1 0).trans c0
    have g0 := ((bcellAt hb2 R zR).2 0).trans (HB.out.free 0)
    clear c0 c1 hown hb2
    go_wp2
    go_ret
    have HS := HV.out.sliceL n hl
    rw [if_neg hcap] at HS
    simp only [show RByte.size = 1 from rfl, Nat.mul_one] at HS
    refine ⟨v2, rfl, RdS.of_owns (base := w.heap.size) (ownsRow_setCell HO.out (by exact zR) _) (fun b hb => hb), ⟨_, (HB.out.belowS HB2.out).set 0 _, (HS.below HB2.out (fun _ h => h)).keep (G' := fun b => b < R) (Keep.setCell (p := ⟨R, 0, none⟩) (by exact Nat.lt_irrefl R) _) (fun _ h => h)⟩, grownBy_trans (grownBy_of_below HB2.out (some R)) (grownBy_setCell _ _ _ _) (.inl rfl)⟩
/-- take, whatever it finds. -/
theorem rtake_any (R : Nat) (r : Rdr) (n : Nat) (w : World) (h : RdrAt R w r) (hn : n ≤ 1000) :
    Calls Try.prog 33 #[.pointer (some ⟨R, 0, none⟩), .int .i64 (n : Int)] w fun e w' => ∃ v, e = .returned v ∧ RdB (fun b => w.heap.size ≤ b) w' v (r.take n).1 ∧ RdrAt R w' (r.take n).2 ∧ w.grownBy w' (some R) := by
  cases he : r.ends n
  · rw [Rdr.take_ok he]; exact rtake_ok R r n w h he hn
  · rw [Rdr.take_ends he]
    exact (rtake_ends R r n w h he).mono fun e w' ⟨h1, h2, h3⟩ => ⟨_, h1, RdS.nil _ _ _, h2, h3⟩
end Go.Proofs.Ytegdpjoncjmdeaa
