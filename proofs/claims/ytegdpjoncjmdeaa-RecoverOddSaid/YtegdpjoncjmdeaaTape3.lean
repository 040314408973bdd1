/- tape.Crash: what it computes. -/
import Derived.Test.YtegdpjoncjmdeaaTape2
set_option linter.unusedVariables false
set_option linter.unusedSimpArgs false
namespace Go.Proofs.Ytegdpjoncjmdeaa
open Go Go.RowKit

theorem RdS.take3 {α : Type} {R : Rel α} {G : Nat → Prop} {w : World} {l : List α} {ad : Option Addr} {n cap : Nat} (h : RdS R G w (.slice ad n cap) l) (k : Nat) (hk : k ≤ l.length) : RdS R G w (.slice ad k k) (l.take k) := by
  obtain ⟨h0, h1, h2, hn0⟩ := h.len
  obtain ⟨ad', cap', he, -, -, -, h3⟩ := h.take k hk
  simp only [Value.slice.injEq] at he
  obtain ⟨rfl, hl, rfl⟩ := he
  exact ⟨ad, k, by rw [← hl], by rw [← hl]; exact Nat.le_refl _, by omega, fun e => by have := hn0 e; omega, h3⟩
set_option maxRecDepth 100000 in
set_option maxHeartbeats 2000000 in
theorem tcrash_no (ad : Option Addr) (n cap : Nat) (s keep : Int) (w : World) (h : tapeOk n s = false) :
    Calls Try.prog 26 #[.agg #[.slice ad n cap, .int .i64 s], .int .i64 keep] w fun e w' => e = .returned (.tuple #[.agg #[.slice none 0 0, .int .i64 0], .int .i64 12]) ∧ Below w.heap.size w w' := by
  have H := Lib.hid h
  clear h
  go_enter Try.func26, Try.ntmps26
  go_wp2_with fail
  refine (topen_no _ _ _ _ _ H.out).mono ?_
  rintro e w2 ⟨rfl, hb2⟩
  have bY := (BoxAt.newAt (n := w.heap.size + 1) (w.alloc (.cells #[.slice ad n cap, .int .i64 s] 50)) [.slice none 0 0, .int .i64 0] 50 (by simp)).belowS hb2
  have HB2 := Lib.hid ((((Below.refl w.heap.size w).alloc (Nat.le_refl _) _).alloc (by simp) _).trans (hb2.mono (by simp; omega)))
  have y0 := bY.cell 0 rfl
  have y1 := bY.cell 1 rfl
  have f0 := bY.free 0
  have f1 := bY.free 1
  have zy := bY.lt
  have HY := Lib.hid ((((bY.set 0 (.slice none 0 0)).set 1 (.int .i64 0))).alloc (.cells #[.slice none 0 0, .int .i64 0] 50))
  clear hb2 bY
  go_wp2
  have g0 := HY.out.cell 0 rfl
  have g1 := HY.out.cell 1 rfl
  refine bodyPost_ret (v := .tuple #[.agg #[.slice none 0 0, .int .i64 0], .int .i64 12]) (by simp [results, Try.results26, go_sem, g0, g1]) rfl ⟨rfl, ?_⟩
  repeat (first | with_reducible exact HB2.out | with_reducible refine Below.setCell ?_ (by first | omega | (simp <;> omega)) _ | with_reducible refine Below.alloc ?_ (by first | omega | (simp <;> omega)) _)
set_option maxRecDepth 100000 in
set_option maxHeartbeats 2000000 in
theorem tcrash_neg {G : Nat → Prop} (v : Value) (l : List UInt8) (s keep : Int) (w : World) (hv : RdB G w v l) (h : tapeOk l.length s = true) (hk : keep < 0) :
    Calls Try.prog 26 #[.agg #[v, .int .i64 s], .int .i64 keep] w fun e w' => e = .returned (.tuple #[.agg #[.slice none 0 0, .int .i64 0], .int .i64 2]) ∧ Below w.heap.size w w' := by
  obtain ⟨ad, cap, rfl, -, -⟩ := hv.form
  have H := Lib.hid h
  have HV := Lib.hid hv
  clear h hv
  go_enter Try.func26, Try.ntmps26
  go_wp2_with fail
  refine (topen_ok _ _ _ _ (HV.out.keep ((Keep.alloc _ _ _).trans (Keep.alloc _ _ _)) (fun _ h => h)) H.out).mono ?_
  rintro e w2 ⟨v2, rfl, hown, hb2⟩
  obtain ⟨ad2, cap2, rfl⟩ := ownsRow_form hown
  have bY := (BoxAt.newAt (n := w.heap.size + 1) (w.alloc (.cells #[.slice ad l.length cap, .int .i64 s] 50)) [.slice none 0 0, .int .i64 0] 50 (by simp)).belowS hb2
  have HB2 := Lib.hid ((((Below.refl w.heap.size w).alloc (Nat.le_refl _) _).alloc (by simp) _).trans (hb2.mono (by simp; omega)))
  have y0 := bY.cell 0 rfl
  have y1 := bY.cell 1 rfl
  have f0 := bY.free 0
  have f1 := bY.free 1
  have zy := bY.lt
  have HY := Lib.hid ((((bY.set 0 (.slice none 0 0)).set 1 (.int .i64 0))).alloc (.cells #[.slice ad2 l.length cap2, .int .i64 s] 50))
  clear hb2 bY hown
  go_wp2
  have g0 := HY.out.cell 0 rfl
  have g1 := HY.out.cell 1 rfl
  refine bodyPost_ret (v := .tuple #[.agg #[.slice none 0 0, .int .i64 0], .int .i64 2]) (by simp [results, Try.results26, go_sem, g0, g1]) rfl ⟨rfl, ?_⟩
  repeat (first | with_reducible exact HB2.out | with_reducible refine Below.setCell ?_ (by first | omega | (simp <;> omega)) _ | with_reducible refine Below.alloc ?_ (by first | omega | (simp <;> omega)) _)
set_option maxRecDepth 100000 in
set_option maxHeartbeats 2000000 in
theorem tcrash_ok {G : Nat → Prop} (v : Value) (l : List UInt8) (s keep : Int) (N : Nat) (w : World) (hv : RdB G w v l) (h : tapeOk l.length s = true) (hk : 0 ≤ keep) (hk2 : keep ≤ 9223372036854775807) (hN : (N : Int) = s + min keep ((l.length : Int) - s)) :
    Calls Try.prog 26 #[.agg #[v, .int .i64 s], .int .i64 keep] w fun e w' => ∃ ad, e = .returned (.tuple #[.agg #[.slice ad N N, .int .i64 (N : Int)], .int .i64 0]) ∧ RdB (fun b => w.heap.size ≤ b) w' (.slice ad N N) (l.take N) ∧ Below w.heap.size w w' := by
  obtain ⟨ad, cap, rfl, -, -⟩ := hv.form
  obtain ⟨h1, h2, h3⟩ : 0 ≤ s ∧ s ≤ (l.length : Int) ∧ l.length ≤ 400000 := by unfold tapeOk at h; simpa using h
  have hNl : N ≤ l.length := by omega
  have H := Lib.hid h
  have HV := Lib.hid hv
  have HN := Lib.hid hN
  have k0 : ¬ keep < 0 := by omega
  have n400 : N ≤ 400000 := by omega
  clear h hv hN
  go_enter Try.func26, Try.ntmps26
  go_wp2_with fail
  refine (topen_ok _ _ _ _ (HV.out.keep ((Keep.alloc _ _ _).trans (Keep.alloc _ _ _)) (fun _ h => h)) H.out).mono ?_
  rintro e w2 ⟨v2, rfl, hown, hb2⟩
  obtain ⟨ad2, cap2, rfl⟩ := ownsRow_form hown
  have bY := (BoxAt.newAt (n := w.heap.size + 1) (w.alloc (.cells #[.slice ad l.length cap, .int .i64 s] 50)) [.slice none 0 0, .int .i64 0] 50 (by simp)).belowS hb2
  have HB2 := Lib.hid ((((Below.refl w.heap.size w).alloc (Nat.le_refl _) _).alloc (by simp) _).trans (hb2.mono (by simp; omega)))
  have hr2 : RdB (fun b => w.heap.size + 2 ≤ b) w2 (.slice ad2 l.length cap2) l := RdS.of_owns hown (fun b hb => by simpa using hb)
  have hlc := hr2.len.2.1
  have HR2 := Lib.hid hr2
  have y0 := bY.cell 0 rfl
  have y1 := bY.cell 1 rfl
  have f0 := bY.free 0
  have f1 := bY.free 1
  have zy := bY.lt
  have HY := Lib.hid ((((bY.set 0 (.slice ad2 N N)).set 1 (.int .i64 (N : Int)))).alloc (.cells #[.slice ad2 l.length cap2, .int .i64 s] 50))
  clear hb2 bY hown hr2
  go_upto_region 6 with fail
  obtain ⟨w3, hw3⟩ : ∃ w3, w3 = w2.alloc (.cells #[.slice ad2 l.length cap2, .int .i64 s] 50) := ⟨_, rfl⟩
  go_cut [8] (fun u wx => u = .int .i64 (N : Int) ∧ w2.alloc (.cells #[.slice ad2 l.length cap2, .int .i64 s] 50) = wx)
  case first =>
    have hN := HN.out
    have l1 : IntKind.i64.wrap ((l.length : Int) - s) = (l.length : Int) - s := IntWalk.i64_in _ (by omega)
    go_wp2
    all_goals (go_meet; exact ⟨by congr 1; omega, rfl⟩)
  case rest =>
    obtain ⟨rfl, rfl⟩ := hcut
    clear hw3
    have i0 : (0 : Int) ≤ (N : Int) := by omega
    have i1 : (N : Int) ≤ (cap2 : Int) := by omega
    have i2 : (N : Int) ≤ (l.length : Int) := by omega
    go_wp2
    have g0 := HY.out.cell 0 rfl
    have g1 := HY.out.cell 1 rfl
    refine bodyPost_ret (v := .tuple #[.agg #[.slice ad2 N N, .int .i64 (N : Int)], .int .i64 0]) (by simp [results, Try.results26, go_sem, g0, g1]) rfl ⟨ad2, rfl, ?_, ?_⟩
    · refine (HR2.out.take3 N hNl).keep (((Keep.setCell (p := ⟨w.heap.size + 1, 0, none⟩) (by simp) _).trans (Keep.setCell (p := ⟨w.heap.size + 1, 1, none⟩) (by simp) _)).trans (Keep.alloc _ _ _)) (fun b hb => by omega)
    · repeat (first | with_reducible exact HB2.out | with_reducible refine Below.setCell ?_ (by first | omega | (simp <;> omega)) _ | with_reducible refine Below.alloc ?_ (by first | omega | (simp <;> omega)) _)
end Go.Proofs.Ytegdpjoncjmdeaa
