/- fleet.Run: what is refused. -/
import Derived.Test.YtmijiclocadimaaGreatDoorTWord
import Derived.Test.YtmijiclocadimaaGreatDoorBase
set_option linter.unusedVariables false
set_option linter.unusedSimpArgs false
attribute [local go_sem ↓] Go.wp_at_zero Go.wp_at_succ
namespace Go.Proofs.YtmijiclocadimaaGreatDoor
open Go Go.RowKit

theorem RdS.act {G : Nat → Prop} {w : World} {l : List LAct} {ad : Option Addr} {n cap : Nat} (h : RdS RAct G w (.slice ad n cap) l) (j : Nat) (hj : j < l.length) :
    ∃ b o, ad = some ⟨b, o, none⟩ ∧ w.cell? ⟨b, o + j * 4, none⟩ = some (.int .i64 l[j].k) ∧ w.cell? ⟨b, o + j * 4 + 1, none⟩ = some (.int .i64 l[j].n) ∧ w.cell? ⟨b, o + j * 4 + 2, none⟩ = some (.int .i64 l[j].p) ∧ w.cell? ⟨b, o + j * 4 + 3, none⟩ = some (strV l[j].t) := by
  obtain ⟨b, o, cs, ha, hb, hc, h1⟩ := h.at j hj
  have h1' : cs = actCells l[j] := h1
  subst h1'
  exact ⟨b, o, ha, hc 0 _ rfl, hc 1 _ rfl, hc 2 _ rfl, hc 3 _ rfl⟩
/-- The code of an act. -/
def actCode (a : LAct) : Int := actCheck a.k a.n a.p ⟨a.t.toArray⟩
/-- An outcome that tells nothing. -/
def outZ : List Value := [.slice none 0 0, .slice none 0 0, .int .i64 0, .slice none 0 0]
set_option maxRecDepth 100000 in
set_option maxHeartbeats 8000000 in
theorem run_range (r : Int) (v : Value) (w : World) (h : r < -1 ∨ 4 ≤ r) :
    Calls Tryz.prog 22 #[.int .i64 r, v] w fun e w' => e = .returned (.tuple #[.agg #[.slice none 0 0, .slice none 0 0, .int .i64 0, .slice none 0 0], .int .i64 2]) ∧ Below w.heap.size w w' := by
  rcases h with h | h
  · have h0 : r < -1 := h
    go_enter Tryz.func22, Tryz.ntmps22
    go_wp2
    have gx := BoxAt.new w [.slice none 0 0, .slice none 0 0, .int .i64 0, .slice none 0 0] 36
    have g0 := gx.cell 0 rfl
    have g1 := gx.cell 1 rfl
    have g2 := gx.cell 2 rfl
    have g3 := gx.cell 3 rfl
    refine bodyPost_ret (v := .tuple #[.agg #[.slice none 0 0, .slice none 0 0, .int .i64 0, .slice none 0 0], .int .i64 2]) (by simp [results, Tryz.results22, go_sem, g0, g1, g2, g3]) rfl ⟨rfl, (Below.refl _ _).alloc (Nat.le_refl _) _⟩
  · have h0 : ¬ r < -1 := by omega
    go_enter Tryz.func22, Tryz.ntmps22
    go_wp2
    have gx := BoxAt.new w [.slice none 0 0, .slice none 0 0, .int .i64 0, .slice none 0 0] 36
    have g0 := gx.cell 0 rfl
    have g1 := gx.cell 1 rfl
    have g2 := gx.cell 2 rfl
    have g3 := gx.cell 3 rfl
    refine bodyPost_ret (v := .tuple #[.agg #[.slice none 0 0, .slice none 0 0, .int .i64 0, .slice none 0 0], .int .i64 2]) (by simp [results, Tryz.results22, go_sem, g0, g1, g2, g3]) rfl ⟨rfl, (Below.refl _ _).alloc (Nat.le_refl _) _⟩
set_option maxRecDepth 100000 in
set_option maxHeartbeats 8000000 in
theorem run_size {L : List LAct} (r : Int) (v : Value) (w : World) (hv : RdS RAct (fun _ => True) w v L) (r0 : -1 ≤ r) (r1 : r < 4) (hl : 3000 < L.length) :
    Calls Tryz.prog 22 #[.int .i64 r, v] w fun e w' => e = .returned (.tuple #[.agg #[.slice none 0 0, .slice none 0 0, .int .i64 0, .slice none 0 0], .int .i64 1]) ∧ Below w.heap.size w w' := by
  obtain ⟨ad, cap, rfl, hc, hm⟩ := hv.form
  unfold maxLen at hm
  have h0 : ¬ r < -1 := by omega
  have h1 : ¬ 4 ≤ r := by omega
  have h2 : (3000 : Int) < (L.length : Int) := by omega
  clear hv
  go_enter Tryz.func22, Tryz.ntmps22
  go_wp2
  have gx := BoxAt.new w [.slice none 0 0, .slice none 0 0, .int .i64 0, .slice none 0 0] 36
  have g0 := gx.cell 0 rfl
  have g1 := gx.cell 1 rfl
  have g2 := gx.cell 2 rfl
  have g3 := gx.cell 3 rfl
  refine bodyPost_ret (v := .tuple #[.agg #[.slice none 0 0, .slice none 0 0, .int .i64 0, .slice none 0 0], .int .i64 1]) (by simp [results, Tryz.results22, go_sem, g0, g1, g2, g3]) rfl ⟨rfl, (Below.refl _ _).alloc (Nat.le_refl _) _⟩
set_option maxRecDepth 100000 in
set_option maxHeartbeats 8000000 in
theorem run_bad {L : List LAct} (r : Int) (v : Value) (w : World) (hv : RdS RAct (fun _ => True) w v L) (r0 : -1 ≤ r) (r1 : r < 4) (hl : L.length ≤ 3000) {k : Nat} (hk : k < L.length) (hb : ∀ j (h : j < k), actCode (L[j]'(by omega)) = 0) {c : Int} (hc : actCode L[k] = c) (hc0 : c ≠ 0) :
    Calls Tryz.prog 22 #[.int .i64 r, v] w fun e w' => e = .returned (.tuple #[.agg #[.slice none 0 0, .slice none 0 0, .int .i64 0, .slice none 0 0], .int .i64 c]) ∧ Below w.heap.size w w' := by
  obtain ⟨ad, cap, rfl, hcp, hm⟩ := hv.form
  unfold maxLen at hm
  have h0 : ¬ r < -1 := by omega
  have h1 : ¬ 4 ≤ r := by omega
  have h2 : ¬ (3000 : Int) < (L.length : Int) := by omega
  have HV := Lib.hid hv
  have HBK := Lib.hid hb
  have HCK := Lib.hid hc
  clear hv hb hc
  go_enter Tryz.func22, Tryz.ntmps22
  go_upto_region 5 with fail
  obtain ⟨w1, hw1⟩ : ∃ w1, w1 = w.alloc (.cells #[.slice none 0 0, .slice none 0 0, .int .i64 0, .slice none 0 0] 36) := ⟨_, rfl⟩
  have HX := Lib.hid (show BoxAt w1 w.heap.size [.slice none 0 0, .slice none 0 0, .int .i64 0, .slice none 0 0] 36 by rw [hw1]; exact BoxAt.new w [_, _, _, _] _)
  have HB := Lib.hid (show Below w.heap.size w w1 by rw [hw1]; exact (Below.refl _ _).alloc (Nat.le_refl _) _)
  have hz1 : w.heap.size < w1.heap.size := by rw [hw1]; simp
  replace HV := Lib.hid (HV.out.below HB.out (fun _ h => h))
  rw [← hw1]
  clear hw1
  go_wp2_with fail
  go_loopw [31] (fun u wr => ∃ i : Nat, i ≤ k ∧ u = .int .i64 i ∧ Below w1.heap.size w1 wr) (fun u _ => L.length - (intOf u).toNat)
  case atStart => exact ⟨0, Nat.zero_le _, rfl, Below.refl _ _⟩
  case round =>
    obtain ⟨i, hi, rfl, hBr⟩ := hrel
    have HBr := Lib.hid hBr
    have hzr := hBr.size
    have HXr := Lib.hid (HX.out.belowS hBr)
    have hlt : i < L.length := by omega
    obtain ⟨b, o, rfl, e0, e1, e2, e3⟩ := (HV.out.below hBr (fun _ h => h)).act i hlt
    clear hBr
    have i0 : (0 : Int) ≤ (i : Int) := by omega
    have i1 : (i : Int) < (L.length : Int) := by omega
    have wi : IntKind.i64.wrap ((i : Int) + 1) = (i : Int) + 1 := IntWalk.i64_in _ (by omega)
    have HAI := Lib.hid (show actCode L[i] = if i = k then c else 0 by
      split
      · rename_i q; subst q; exact HCK.out
      · exact HBK.out i (by omega))
    generalize L[i] = x at *
    go_upto_region 8 with fail
    obtain ⟨w2, hw2⟩ : ∃ w2, w2 = wr.alloc (.cells #[.int .i64 x.k, .int .i64 x.n, .int .i64 x.p, strV x.t] 30) := ⟨_, rfl⟩
    have HY := Lib.hid (show BoxAt w2 wr.heap.size [.int .i64 x.k, .int .i64 x.n, .int .i64 x.p, strV x.t] 30 by rw [hw2]; exact BoxAt.new wr [_, _, _, _] _)
    have hb2 : Below wr.heap.size wr w2 := by rw [hw2]; exact (Below.refl _ _).alloc (Nat.le_refl _) _
    have HB2 := Lib.hid (HBr.out.trans (hb2.mono HBr.out.size))
    have HX2 := Lib.hid (HXr.out.belowS hb2)
    rw [← hw2]
    clear hw2 hb2 e0 e1 e2 e3
    have y0 := HY.out.cell 0 rfl
    have y1 := HY.out.cell 1 rfl
    have y2 := HY.out.cell 2 rfl
    have y3 := HY.out.cell 3 rfl
    go_wp2_with fail
    refine (lcheck_any x.k x.n x.p ⟨x.t.toArray⟩ _).mono ?_
    rintro e w3 ⟨rfl, hb3⟩
    have HB3 := Lib.hid (HB2.out.trans (hb3.mono HB2.out.size))
    have HX3 := Lib.hid (HX2.out.belowS hb3)
    clear hb3 y0 y1 y2 y3
    by_cases hik : i = k
    · have hcx : actCheck x.k x.n x.p ⟨x.t.toArray⟩ = c := by have := HAI.out; rw [if_pos hik] at this; exact this
      rw [hcx]
      clear hcx
      have hcn : (c != 0) = true := by rw [bne_iff_ne]; exact hc0
      have f0 := HX3.out.free 0
      have f1 := HX3.out.free 1
      have f2 := HX3.out.free 2
      have f3 := HX3.out.free 3
      have x0 := HX3.out.cell 0 rfl
      have x1 := HX3.out.cell 1 rfl
      have x2 := HX3.out.cell 2 rfl
      have x3 := HX3.out.cell 3 rfl
      have xl := HX3.out.lt
      go_wp2
      clear x0 x1 x2 x3 f0 f1 f2 f3
      have HX4 := ((((HX3.out.set 0 (.slice none 0 0)).set 1 (.slice none 0 0)).set 2 (.int .i64 0)).set 3 (.slice none 0 0))
      have g0 := HX4.cell 0 rfl
      have g1 := HX4.cell 1 rfl
      have g2 := HX4.cell 2 rfl
      have g3 := HX4.cell 3 rfl
      have HB4 := (((((HB.out.trans (HB3.out.mono HB.out.size)).setCell (p := ⟨w.heap.size, 0, none⟩) (by simp) (.slice none 0 0)).setCell (p := ⟨w.heap.size, 1, none⟩) (by simp) (.slice none 0 0)).setCell (p := ⟨w.heap.size, 2, none⟩) (by simp) (.int .i64 0)).setCell (p := ⟨w.heap.size, 3, none⟩) (by simp) (.slice none 0 0))
      refine bodyPost_ret (v := .tuple #[.agg #[.slice none 0 0, .slice none 0 0, .int .i64 0, .slice none 0 0], .int .i64 c]) (by simp [results, Tryz.results22, go_sem, g0, g1, g2, g3]) rfl ⟨rfl, HB4⟩
    · have hcx : actCheck x.k x.n x.p ⟨x.t.toArray⟩ = 0 := by have := HAI.out; rw [if_neg hik] at this; exact this
      rw [hcx]
      clear hcx
      have hik2 : i + 1 ≤ k := by omega
      go_wp2
      go_roundw
      case rel => exact ⟨i + 1, hik2, by go_num, HB3.out⟩
      case measure => simp [intOf]; omega
end Go.Proofs.YtmijiclocadimaaGreatDoor
