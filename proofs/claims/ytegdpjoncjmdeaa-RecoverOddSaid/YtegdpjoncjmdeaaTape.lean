/- tape.open: what it computes. -/
import Derived.Test.YtegdpjoncjmdeaaBas
import Derived.Deep.RegionHeld3
import Derived.Deep.DeepCutAuto
set_option linter.unusedVariables false
set_option linter.unusedSimpArgs false
namespace Go.Proofs.Ytegdpjoncjmdeaa
open Go Go.RowKit

theorem ownsRow_setCell2 {w : World} {base base' e size n : Nat} {v : Value} {xs : List Value} (h : w.ownsRow base' e size v n xs) {p q : Addr} (hp : p.block < base' ∧ q.block < base' ∧ base ≤ base') (u u' : Value) : ((w.setCell p u).setCell q u').ownsRow base e size v n xs :=
  ownsRow_mono (ownsRow_setCell (ownsRow_setCell h hp.1 u) hp.2.1 u') hp.2.2
def tapeOk (n : Nat) (s : Int) : Bool := decide (0 ≤ s ∧ s ≤ (n : Int) ∧ n ≤ 400000)
set_option maxRecDepth 100000 in
set_option maxHeartbeats 2000000 in
theorem topen_no (ad : Option Addr) (n cap : Nat) (s : Int) (w : World) (h : tapeOk n s = false) :
    Calls Try.prog 42 #[.agg #[.slice ad n cap, .int .i64 s]] w fun e w' => e = .returned (.tuple #[.agg #[.slice none 0 0, .int .i64 0], .bool false]) ∧ Below w.heap.size w w' := by
  have hc : s < 0 ∨ (¬ s < 0 ∧ (n : Int) < s) ∨ (¬ s < 0 ∧ ¬ (n : Int) < s ∧ (400000 : Int) < (n : Int)) := by
    unfold tapeOk at h
    have : ¬ (0 ≤ s ∧ s ≤ (n : Int) ∧ n ≤ 400000) := by simpa using h
    omega
  have hR := ((Below.refl w.heap.size w).alloc (Nat.le_refl _) (.cells #[.slice ad n cap, .int .i64 s] 50)).alloc (by simp) (.cells #[.slice none 0 0, .int .i64 0] 50)
  clear h
  go_enter Try.func42, Try.ntmps42
  rcases hc with h1 | ⟨h1, h2⟩ | ⟨h1, h2, h3⟩
  all_goals
    go_wp2
    refine bodyPost_ret (v := .tuple #[.agg #[.slice none 0 0, .int .i64 0], .bool false]) (by simp [results, Try.results42, go_sem]) rfl ⟨rfl, hR⟩
set_option maxRecDepth 100000 in
set_option maxHeartbeats 2000000 in
theorem topen_ok {G : Nat → Prop} (v : Value) (l : List UInt8) (s : Int) (w : World) (hv : RdB G w v l) (h : tapeOk l.length s = true) :
    Calls Try.prog 42 #[.agg #[v, .int .i64 s]] w fun e w' => ∃ v', e = .returned (.tuple #[.agg #[v', .int .i64 s], .bool true]) ∧ w'.ownsRow w.heap.size 5 1 v' l.length (byteVs l) ∧ Below w.heap.size w w' := by
  obtain ⟨ad, cap, rfl, -, -⟩ := hv.form
  obtain ⟨h1, h2, h3⟩ : 0 ≤ s ∧ s ≤ (l.length : Int) ∧ l.length ≤ 400000 := by unfold tapeOk at h; simpa using h
  have g1 : ¬ s < 0 := by omega
  have g2 : ¬ (l.length : Int) < s := by omega
  have g3 : ¬ (400000 : Int) < (l.length : Int) := by omega
  obtain ⟨w1, hw1⟩ : ∃ w1, w1 = (w.alloc (.cells #[.slice ad l.length cap, .int .i64 s] 50)).alloc (.cells #[.slice none 0 0, .int .i64 0] 50) := ⟨_, rfl⟩
  have hb1 : Below w.heap.size w w1 := by rw [hw1]; exact ((Below.refl _ _).alloc (Nat.le_refl _) _).alloc (by simp) _
  have bX : BoxAt w1 w.heap.size [.slice ad l.length cap, .int .i64 s] 50 := by rw [hw1]; exact (BoxAt.new w [_, _] _).alloc _
  have bY : BoxAt w1 (w.heap.size + 1) [.slice none 0 0, .int .i64 0] 50 := by rw [hw1]; exact BoxAt.newAt (w.alloc _) [_, _] _ (by simp)
  have HV := Lib.hid (hv.below hb1 (fun _ h => h))
  have HB1 := Lib.hid hb1
  have HBX := Lib.hid bX
  have HBY := Lib.hid bY
  have x0 := bX.cell 0 rfl
  have x1 := bX.cell 1 rfl
  have zx := bX.lt
  have zy := bY.lt
  have ne0 : w.heap.size + 1 ≠ w.heap.size := by omega
  go_enter Try.func42, Try.ntmps42
  go_upto_region 1 with fail
  rw [← hw1]
  clear hw1 hb1 bX bY hv h
  go_wp2_with fail
  go_region_held3 (fun w' => w'.cell? ⟨w.heap.size, 0, none⟩ = some (.slice ad l.length cap) ∧ w'.cell? ⟨w.heap.size, 1, none⟩ = some (.int .i64 s)) (go_keep)
    (first
      | (go_at_call 48; refine (cloneB_any _ _ (HV.out.keep (Keep.drew _ _) (fun _ h => h)) (by omega)).mono ?_; rintro e w2 ⟨v2, rfl, hown, hb2⟩; obtain ⟨ad2, cap2, rfl⟩ := ownsRow_form hown; have hb2' : Below w1.heap.size w1 w2 := (Below.refl _ _).drew.trans hb2; have HO := Lib.hid hown; have bY2 := HBY.out.belowS hb2'; have y0 := bY2.cell 0 rfl; have y1 := bY2.cell 1 rfl; have f0 := bY2.free 0; have f1 := bY2.free 1; have q0 := ((bcellAt hb2' _ zx).1 0).trans x0; have q1 := ((bcellAt hb2' _ zx).1 1).trans x1; have HB2 := Lib.hid (HB1.out.trans (hb2'.mono (by omega))); have s2 := hb2'.size; clear hown hb2 hb2' bY2))
  all_goals
    go_wp2
    refine bodyPost_ret (v := .tuple #[.agg #[.slice ad2 l.length cap2, .int .i64 s], .bool true]) (by simp [results, Try.results42, go_sem, y0, y1]) rfl ⟨_, rfl, ?_, (HB2.out.setCell (by simp) _).setCell (by simp) _⟩
    exact ownsRow_setCell2 HO.out ⟨by simp; omega, by simp; omega, by simp; omega⟩ _ _
end Go.Proofs.Ytegdpjoncjmdeaa
