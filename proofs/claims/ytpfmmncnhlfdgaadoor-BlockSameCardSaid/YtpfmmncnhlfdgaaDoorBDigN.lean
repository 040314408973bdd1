/- wire.BatchDigest, wire.HeaderDigest: of what may not be they answer why. -/
import Derived.Test.YtpfmmncnhlfdgaaDoorChk2
set_option linter.unusedVariables false
set_option linter.unusedSimpArgs false
namespace Go.Proofs.YtpfmmncnhlfdgaaDoor
open Go Go.RowKit

set_option maxRecDepth 100000 in
set_option maxHeartbeats 2000000 in
theorem batchDigest_no {G : Nat → Prop} {l : List Bytes} (a n c : Int) (v : Value) (w : World) (h : RdT G w v l) (hl : ∀ t ∈ l, t.length ≤ 9223372036854775807) (hc : batCode ⟨a, n, l⟩ = c) (h0 : c ≠ 0) :
    Calls Tryd.prog 34 #[.agg #[.int .i64 a, .int .i64 n, v]] w fun e w' => e = .returned (.tuple #[.slice none 0 0, .int .i64 c]) ∧ Below w.heap.size w w' := by
  obtain ⟨ad, cap, rfl, -, -⟩ := h.form
  have hne : (c != 0) = true := by simpa using h0
  have HL := Lib.hid hl
  have HC := Lib.hid hc
  have hb1 := (Below.refl w.heap.size w).alloc (Nat.le_refl _) (.cells #[.int .i64 a, .int .i64 n, .slice ad l.length cap] 58)
  have H1 := Lib.hid (h.below hb1 (fun _ h => h))
  have HB1 := Lib.hid hb1
  clear h hl hc hb1 h0
  go_enter Tryd.func34, Tryd.ntmps34
  go_wp2_with fail
  refine (cbatch_any a n _ _ H1.out HL.out).mono ?_
  rintro e w2 ⟨rfl, hb2⟩
  rw [HC.out]
  have HB2 := Lib.hid (HB1.out.trans (hb2.mono (by simp)))
  clear hb2
  go_wp2
  refine bodyPost_ret (v := .tuple #[.slice none 0 0, .int .i64 c]) (by simp [results, Tryd.results34, go_sem]) rfl ⟨rfl, HB2.out⟩
set_option maxRecDepth 100000 in
set_option maxHeartbeats 2000000 in
theorem headerDigest_no {G : Nat → Prop} {bs ps : List Bytes} (a r c : Int) (vb vp : Value) (w : World) (hb : RdBB G w vb bs) (hp : RdBB G w vp ps) (hc : hdrCode ⟨a, r, bs, ps⟩ = c) (h0 : c ≠ 0) :
    Calls Tryd.prog 32 #[.agg #[.int .i64 a, .int .i64 r, vb, vp]] w fun e w' => e = .returned (.tuple #[.slice none 0 0, .int .i64 c]) ∧ Below w.heap.size w w' := by
  obtain ⟨ad, cap, rfl, -, -⟩ := hb.form
  obtain ⟨ad', cap', rfl, -, -⟩ := hp.form
  have hne : (c != 0) = true := by simpa using h0
  have HC := Lib.hid hc
  have hb1 := (Below.refl w.heap.size w).alloc (Nat.le_refl _) (.cells #[.int .i64 a, .int .i64 r, .slice ad bs.length cap, .slice ad' ps.length cap'] 42)
  have H1 := Lib.hid (hb.below hb1 (fun _ h => h))
  have H2 := Lib.hid (hp.below hb1 (fun _ h => h))
  have HB1 := Lib.hid hb1
  clear hb hp hc hb1 h0
  go_enter Tryd.func32, Tryd.ntmps32
  go_wp2_with fail
  refine (cheader_any a r _ _ _ H1.out H2.out).mono ?_
  rintro e w2 ⟨rfl, hb2⟩
  rw [HC.out]
  have HB2 := Lib.hid (HB1.out.trans (hb2.mono (by simp)))
  clear hb2
  go_wp2
  refine bodyPost_ret (v := .tuple #[.slice none 0 0, .int .i64 c]) (by simp [results, Tryd.results32, go_sem]) rfl ⟨rfl, HB2.out⟩
end Go.Proofs.YtpfmmncnhlfdgaaDoor
