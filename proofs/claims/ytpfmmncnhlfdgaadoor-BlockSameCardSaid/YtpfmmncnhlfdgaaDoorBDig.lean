/- wire.BatchDigest, wire.HeaderDigest: the digests. -/
import Derived.Test.YtpfmmncnhlfdgaaDoorTagLaw
import Derived.Test.YtpfmmncnhlfdgaaDoorBDigN
import Derived.Test.YtpfmmncnhlfdgaaDoorEnc3
set_option linter.unusedVariables false
set_option linter.unusedSimpArgs false
namespace Go.Proofs.YtpfmmncnhlfdgaaDoor
open Go Go.RowKit

theorem bat_partsD {b : Bat} (h : batCode b = 0) : nodeOk b.a = true ∧ countOk b.n = true ∧ 1 ≤ b.txs.length ∧ b.txs.length ≤ 4 ∧ ∀ t ∈ b.txs, txLen t = true := by
  unfold batCode at h
  split at h
  · simp at h
  · rename_i h1
    split at h
    · simp at h
    · rename_i h2
      split at h
      · rename_i h3
        refine ⟨?_, ?_, by omega, by omega, List.all_eq_true.1 h3⟩
        · cases q : nodeOk b.a; exact absurd (.inl q) h1; rfl
        · cases q : countOk b.n; exact absurd (.inr q) h1; rfl
      · simp at h
theorem hdr_partsD {b : Hdr} (h : hdrCode b = 0) : nodeOk b.a = true ∧ countOk b.r = true ∧ b.bs.length ≤ 3 ∧ b.ps.length ≤ 4 ∧ digCode b.bs = 0 ∧ digCode b.ps = 0 := by
  unfold hdrCode at h
  split at h
  · simp at h
  · rename_i h1
    split at h
    · simp at h
    · rename_i h2
      split at h
      · rename_i h3; exact absurd h h3
      · rename_i h3
        split at h
        · rename_i h4; exact absurd h h4
        · rename_i h4
          refine ⟨?_, ?_, by omega, by omega, by simpa using h3, by simpa using h4⟩
          · cases q : nodeOk b.a; exact absurd (.inl q) h1; rfl
          · cases q : countOk b.r; exact absurd (.inr q) h1; rfl
def batSum (b : Bat) : Bytes := sumL (1 :: partL (putBatchL b))
def hdrSum (h : Hdr) : Bytes := sumL (2 :: partL (putHeaderL h))
theorem batSum_length (b : Bat) : (batSum b).length = 32 := sumL_length _
theorem hdrSum_length (b : Hdr) : (hdrSum b).length = 32 := sumL_length _
theorem putTxs_le (l : List Bytes) (h : ∀ t ∈ l, t.length ≤ 20) : (putTxs l).length ≤ 21 * l.length := by
  unfold putTxs
  induction l with
  | nil => simp
  | cons t l ih =>
    have := ih (fun x hx => h x (by simp [hx]))
    have h0 := h t (by simp)
    simp only [List.map_cons, List.flatten_cons, List.length_append, List.length_cons]
    omega
theorem putBatchL_le {b : Bat} (h : batCode b = 0) : (putBatchL b).length ≤ 100 := by
  obtain ⟨-, -, a3, a4, a5⟩ := bat_partsD h
  have := putTxs_le b.txs (fun t ht => by have := a5 t ht; simp [txLen] at this; omega)
  simp only [putBatchL, wideL, List.length_cons, List.length_append, List.length_nil]
  omega
theorem putHeaderL_le {b : Hdr} (h : hdrCode b = 0) : (putHeaderL b).length ≤ 230 := by
  obtain ⟨h1, h2, h3, h4, h5, h6⟩ := hdr_partsD h
  have e1 : (putDigestsL b.bs).length = 1 + 32 * b.bs.length := by unfold putDigestsL; rw [List.length_cons, flatten_len ((digCode_zero _).1 h5).1]; omega
  have e2 : (putDigestsL b.ps).length = 1 + 32 * b.ps.length := by unfold putDigestsL; rw [List.length_cons, flatten_len ((digCode_zero _).1 h6).1]; omega
  unfold putHeaderL
  simp only [List.length_cons, List.length_append, e1, e2, wideL, List.length_nil]
  omega
set_option maxRecDepth 100000 in
set_option maxHeartbeats 4000000 in
theorem batchDigest_ok {G : Nat → Prop} (b : Bat) (v : Value) (w : World) (h : RdT G w v b.txs) (hc : batCode b = 0) (ht : Tabs w) :
    Calls Tryd.prog 34 #[.agg #[.int .i64 b.a, .int .i64 b.n, v]] w fun e w' => ∃ v', e = .returned (.tuple #[v', .int .i64 0]) ∧ RdB (fun b => w.heap.size ≤ b) w' v' (batSum b) ∧ Below w.heap.size w w' := by
  obtain ⟨a, n, l⟩ := b
  simp only at *
  obtain ⟨ad, cap, rfl, -, -⟩ := h.form
  obtain ⟨hk1, hk2, k1, k2, hk5⟩ := bat_partsD hc
  simp only at hk1 hk2 k1 k2 hk5
  obtain ⟨a0, a1⟩ : 0 ≤ a ∧ a < 4 := by simpa [nodeOk] using hk1
  obtain ⟨n0', n1⟩ : 1 ≤ n ∧ n ≤ 1048576 := by simpa [countOk] using hk2
  have n0 : 0 ≤ n := by omega
  have HTX := Lib.hid hk5
  have HL := Lib.hid (show ∀ t ∈ l, t.length ≤ 9223372036854775807 from fun t ht => by have := hk5 t ht; simp [txLen] at this; omega)
  have HC := Lib.hid hc
  have HT := Lib.hid ht
  have HG := Lib.hid (tagGo_one (tag := 1) (d := putBatchL ⟨a, n, l⟩) (by have := putBatchL_le hc; omega))
  have HTC := Lib.hid (tagC_some HG.out)
  have HTD := Lib.hid (show tagD 1 [putBatchL ⟨a, n, l⟩] = batSum ⟨a, n, l⟩ from tagD_some HG.out)
  have hb1 := (Below.refl w.heap.size w).alloc (Nat.le_refl _) (.cells #[.int .i64 a, .int .i64 n, .slice ad l.length cap] 58)
  have H1 := Lib.hid (h.below hb1 (fun _ h => h))
  have HB1 := Lib.hid hb1
  clear h hc ht hb1 hk1 hk2 hk5
  go_enter Tryd.func34, Tryd.ntmps34
  go_wp2_with fail
  refine (cbatch_any a n _ _ H1.out HL.out).mono ?_
  rintro e w2 ⟨rfl, hb2⟩
  rw [HC.out]
  have HB2 := Lib.hid (HB1.out.trans (hb2.mono (by simp)))
  have bX := (BoxAt.new w [.int .i64 a, .int .i64 n, .slice ad l.length cap] 58).belowS hb2
  have H2 := Lib.hid (H1.out.below hb2 (fun _ h => h))
  have z2 := HB2.out.size
  have p0 := bX.cell 0 rfl
  have p1 := bX.cell 1 rfl
  have p2 := bX.cell 2 rfl
  clear hb2 bX
  go_wp2_with fail
  refine (putBatch_any (G := G) w2.heap.size (.slice none 0 0) [] a n _ l w2 (World.ownsRow_nil _ _ _ _) (Nat.le_refl _) (by simp) H2.out HTX.out k2 (fun b _ => by simp [Value.ownBlock]) a0 a1 n0 n1).mono ?_
  rintro e w3 ⟨v3, rfl, hA⟩
  have HB3 := Lib.hid (hA.bel HB2.out z2 (fun k hk => absurd hk (by simp [Value.ownBlock])))
  have HO3 := Lib.hid hA.own
  obtain ⟨vad, vcap, rfl⟩ := hA.form
  simp only [List.nil_append] at HO3
  have z3 := HB3.out.size
  have hR3 : RdB (fun _ => True) w3 (.slice vad ([] ++ (putBatchL ⟨a, n, l⟩)).length vcap) ((putBatchL ⟨a, n, l⟩)) := RdS.of_owns HO3.out (fun _ _ => trivial)
  have hb4 := (Below.refl w3.heap.size w3).alloc (Nat.le_refl _) (.cells #[.slice vad ([] ++ (putBatchL ⟨a, n, l⟩)).length vcap] 39)
  have hcall := Tagged_any 1 [(putBatchL ⟨a, n, l⟩)] (.slice (some ⟨w3.heap.size, 0, none⟩) 1 1) (w3.alloc (.cells #[.slice vad ([] ++ (putBatchL ⟨a, n, l⟩)).length vcap] 39)) (rdBB_one (G := fun _ => True) (BoxAt.new w3 [.slice vad ([] ++ (putBatchL ⟨a, n, l⟩)).length vcap] _) trivial (hR3.below hb4 (fun _ h => h))) (HT.out.belowS (HB3.out.trans (hb4.mono z3)))
  rw [show (((1 : UInt8).toNat : Nat) : Int) = 1 from rfl, HTC.out, HTD.out] at hcall
  clear hR3 hA
  go_wp2_with fail
  refine hcall.mono ?_
  clear hcall
  rintro e w5 ⟨x5, rfl, hR5, hb5⟩
  have HB5 := Lib.hid (HB3.out.trans ((hb4.trans (hb5.mono (by simp))).mono z3))
  have HR5 := Lib.hid (hR5.mono (G' := fun b => w.heap.size ≤ b) (fun b hb => by simp at hb; omega))
  clear hb4 hb5 hR5
  go_wp2
  refine bodyPost_ret (v := .tuple #[x5, .int .i64 0]) (by simp [results, Tryd.results34, go_sem]) rfl ⟨x5, rfl, HR5.out, HB5.out⟩
set_option maxRecDepth 100000 in
set_option maxHeartbeats 4000000 in
theorem headerDigest_ok {G : Nat → Prop} (b : Hdr) (vb vp : Value) (w : World) (hb : RdBB G w vb b.bs) (hp : RdBB G w vp b.ps) (hc : hdrCode b = 0) (ht : Tabs w) :
    Calls Tryd.prog 32 #[.agg #[.int .i64 b.a, .int .i64 b.r, vb, vp]] w fun e w' => ∃ v', e = .returned (.tuple #[v', .int .i64 0]) ∧ RdB (fun b => w.heap.size ≤ b) w' v' (hdrSum b) ∧ Below w.heap.size w w' := by
  obtain ⟨a, n, bs, ps⟩ := b
  simp only at *
  obtain ⟨ad, cap, rfl, -, -⟩ := hb.form
  obtain ⟨ad', cap', rfl, -, -⟩ := hp.form
  obtain ⟨hk1, hk2, k1, k2, hk5, hk6⟩ := hdr_partsD hc
  simp only at hk1 hk2 k1 k2 hk5 hk6
  obtain ⟨a0, a1⟩ : 0 ≤ a ∧ a < 4 := by simpa [nodeOk] using hk1
  obtain ⟨n0', n1⟩ : 1 ≤ n ∧ n ≤ 1048576 := by simpa [countOk] using hk2
  have n0 : 0 ≤ n := by omega
  have HD1 := Lib.hid ((digCode_zero _).1 hk5).1
  have HD2 := Lib.hid ((digCode_zero _).1 hk6).1
  have HC := Lib.hid hc
  have HT := Lib.hid ht
  have HG := Lib.hid (tagGo_one (tag := 2) (d := putHeaderL ⟨a, n, bs, ps⟩) (by have := putHeaderL_le hc; omega))
  have HTC := Lib.hid (tagC_some HG.out)
  have HTD := Lib.hid (show tagD 2 [putHeaderL ⟨a, n, bs, ps⟩] = hdrSum ⟨a, n, bs, ps⟩ from tagD_some HG.out)
  have hb1 := (Below.refl w.heap.size w).alloc (Nat.le_refl _) (.cells #[.int .i64 a, .int .i64 n, .slice ad bs.length cap, .slice ad' ps.length cap'] 42)
  have H1 := Lib.hid (hb.below hb1 (fun _ h => h))
  have H1' := Lib.hid (hp.below hb1 (fun _ h => h))
  have HB1 := Lib.hid hb1
  clear hb hp hc ht hb1 hk1 hk2 hk5 hk6
  go_enter Tryd.func32, Tryd.ntmps32
  go_wp2_with fail
  refine (cheader_any a n _ _ _ H1.out H1'.out).mono ?_
  rintro e w2 ⟨rfl, hb2⟩
  rw [HC.out]
  have HB2 := Lib.hid (HB1.out.trans (hb2.mono (by simp)))
  have bX := (BoxAt.new w [.int .i64 a, .int .i64 n, .slice ad bs.length cap, .slice ad' ps.length cap'] 42).belowS hb2
  have H2 := Lib.hid (H1.out.below hb2 (fun _ h => h))
  have H2' := Lib.hid (H1'.out.below hb2 (fun _ h => h))
  have z2 := HB2.out.size
  have p0 := bX.cell 0 rfl
  have p1 := bX.cell 1 rfl
  have p2 := bX.cell 2 rfl
  have p3 := bX.cell 3 rfl
  clear hb2 bX
  go_wp2_with fail
  refine (putHeader_any (G := G) w2.heap.size (.slice none 0 0) [] a n _ _ bs ps w2 (World.ownsRow_nil _ _ _ _) (Nat.le_refl _) (by simp) H2.out H2'.out HD1.out HD2.out (by omega) (by omega) (fun b _ => by simp [Value.ownBlock]) a0 a1 n0 n1).mono ?_
  rintro e w3 ⟨v3, rfl, hA⟩
  have HB3 := Lib.hid (hA.bel HB2.out z2 (fun k hk => absurd hk (by simp [Value.ownBlock])))
  have HO3 := Lib.hid hA.own
  obtain ⟨vad, vcap, rfl⟩ := hA.form
  simp only [List.nil_append] at HO3
  have z3 := HB3.out.size
  have hR3 : RdB (fun _ => True) w3 (.slice vad ([] ++ (putHeaderL ⟨a, n, bs, ps⟩)).length vcap) ((putHeaderL ⟨a, n, bs, ps⟩)) := RdS.of_owns HO3.out (fun _ _ => trivial)
  have hb4 := (Below.refl w3.heap.size w3).alloc (Nat.le_refl _) (.cells #[.slice vad ([] ++ (putHeaderL ⟨a, n, bs, ps⟩)).length vcap] 39)
  have hcall := Tagged_any 2 [(putHeaderL ⟨a, n, bs, ps⟩)] (.slice (some ⟨w3.heap.size, 0, none⟩) 1 1) (w3.alloc (.cells #[.slice vad ([] ++ (putHeaderL ⟨a, n, bs, ps⟩)).length vcap] 39)) (rdBB_one (G := fun _ => True) (BoxAt.new w3 [.slice vad ([] ++ (putHeaderL ⟨a, n, bs, ps⟩)).length vcap] _) trivial (hR3.below hb4 (fun _ h => h))) (HT.out.belowS (HB3.out.trans (hb4.mono z3)))
  rw [show (((2 : UInt8).toNat : Nat) : Int) = 2 from rfl, HTC.out, HTD.out] at hcall
  clear hR3 hA
  go_wp2_with fail
  refine hcall.mono ?_
  clear hcall
  rintro e w5 ⟨x5, rfl, hR5, hb5⟩
  have HB5 := Lib.hid (HB3.out.trans ((hb4.trans (hb5.mono (by simp))).mono z3))
  have HR5 := Lib.hid (hR5.mono (G' := fun b => w.heap.size ≤ b) (fun b hb => by simp at hb; omega))
  clear hb4 hb5 hR5
  go_wp2
  refine bodyPost_ret (v := .tuple #[x5, .int .i64 0]) (by simp [results, Tryd.results32, go_sem]) rfl ⟨x5, rfl, HR5.out, HB5.out⟩
end Go.Proofs.YtpfmmncnhlfdgaaDoor
