/- tape.Sync, Crash: what they compute. -/
import Derived.Test.YtegdpjoncjmdeaaTape
set_option linter.unusedVariables false
set_option linter.unusedSimpArgs false
namespace Go.Proofs.Ytegdpjoncjmdeaa
open Go Go.RowKit

set_option maxRecDepth 100000 in
set_option maxHeartbeats 2000000 in
theorem tsync_no (ad : Option Addr) (n cap : Nat) (s : Int) (w : World) (h : tapeOk n s = false) :
    Calls Try.prog 23 #[.agg #[.slice ad n cap, .int .i64 s]] w fun e w' => e = .returned (.tuple #[.agg #[.slice none 0 0, .int .i64 0], .int .i64 12]) ∧ Below w.heap.size w w' := by
  have H := Lib.hid h
  clear h
  go_enter Try.func23, Try.ntmps23
  go_wp2_with fail
  refine (topen_no _ _ _ _ _ H.out).mono ?_
  rintro e w2 ⟨rfl, hb2⟩
  have bY := (BoxAt.newAt (n := w.heap.size + 1) (w.alloc (.cells #[.slice ad n cap, .int .i64 s] 50)) [.slice none 0 0, .int .i64 0] 50 (by simp)).belowS hb2
  have HB2 := Lib.hid ((((Below.refl w.heap.size w).alloc (Nat.le_refl _) _).alloc (by simp) _).trans (hb2.mono (by simp; omega)))
  have y0 := bY.cell 0 rfl
  have y1 := bY.cell 1 rfl
  have f0 := bY.free 0
  have f1 := bY.free 1
  have zy := bY.lt
  have HY := Lib.hid ((((bY.set 0 (.slice none 0 0)).set 1 (.int .i64 0))).alloc (.cells #[.slice none 0 0, .int .i64 0] 50))
  clear hb2 bY
  go_wp2
  have g0 := HY.out.cell 0 rfl
  have g1 := HY.out.cell 1 rfl
  refine bodyPost_ret (v := .tuple #[.agg #[.slice none 0 0, .int .i64 0], .int .i64 12]) (by simp [results, Try.results23, go_sem, g0, g1]) rfl ⟨rfl, ?_⟩
  repeat (first | with_reducible exact HB2.out | with_reducible refine Below.setCell ?_ (by first | omega | (simp <;> omega)) _ | with_reducible refine Below.alloc ?_ (by first | omega | (simp <;> omega)) _)
set_option maxRecDepth 100000 in
set_option maxHeartbeats 2000000 in
theorem tsync_ok {G : Nat → Prop} (v : Value) (l : List UInt8) (s : Int) (w : World) (hv : RdB G w v l) (h : tapeOk l.length s = true) :
    Calls Try.prog 23 #[.agg #[v, .int .i64 s]] w fun e w' => ∃ v', e = .returned (.tuple #[.agg #[v', .int .i64 (l.length : Int)], .int .i64 0]) ∧ w'.ownsRow w.heap.size 5 1 v' l.length (byteVs l) ∧ Below w.heap.size w w' := by
  obtain ⟨ad, cap, rfl, -, -⟩ := hv.form
  have H := Lib.hid h
  have HV := Lib.hid hv
  clear h hv
  go_enter Try.func23, Try.ntmps23
  go_wp2_with fail
  refine (topen_ok _ _ _ _ (HV.out.keep ((Keep.alloc _ _ _).trans (Keep.alloc _ _ _)) (fun _ h => h)) H.out).mono ?_
  rintro e w2 ⟨v2, rfl, hown, hb2⟩
  obtain ⟨ad2, cap2, rfl⟩ := ownsRow_form hown
  have bY := (BoxAt.newAt (n := w.heap.size + 1) (w.alloc (.cells #[.slice ad l.length cap, .int .i64 s] 50)) [.slice none 0 0, .int .i64 0] 50 (by simp)).belowS hb2
  have HB2 := Lib.hid ((((Below.refl w.heap.size w).alloc (Nat.le_refl _) _).alloc (by simp) _).trans (hb2.mono (by simp; omega)))
  have HO := Lib.hid hown
  have y0 := bY.cell 0 rfl
  have y1 := bY.cell 1 rfl
  have f0 := bY.free 0
  have f1 := bY.free 1
  have zy := bY.lt
  have HY := Lib.hid ((((bY.set 0 (.slice ad2 l.length cap2)).set 1 (.int .i64 (l.length : Int)))).alloc (.cells #[.slice ad2 l.length cap2, .int .i64 (l.length : Int)] 50))
  clear hb2 bY hown
  go_wp2
  have g0 := HY.out.cell 0 rfl
  have g1 := HY.out.cell 1 rfl
  refine bodyPost_ret (v := .tuple #[.agg #[.slice ad2 l.length cap2, .int .i64 (l.length : Int)], .int .i64 0]) (by simp [results, Try.results23, go_sem, g0, g1]) rfl ⟨_, rfl, ?_, ?_⟩
  · exact ownsRow_below (ownsRow_setCell2 HO.out ⟨by simp, by simp, by simp; omega⟩ _ _) ((Below.refl _ _).alloc (Nat.le_refl _) _)
  · repeat (first | with_reducible exact HB2.out | with_reducible refine Below.setCell ?_ (by first | omega | (simp <;> omega)) _ | with_reducible refine Below.alloc ?_ (by first | omega | (simp <;> omega)) _)
end Go.Proofs.Ytegdpjoncjmdeaa
