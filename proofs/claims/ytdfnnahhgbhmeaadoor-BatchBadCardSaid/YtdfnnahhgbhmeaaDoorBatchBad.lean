/- BatchBad: the walk. -/
import Derived.Test.YtdfnnahhgbhmeaaDoorBatLaw
import Derived.Test.YtdfnnahhgbhmeaaDoorBDigN
import Derived.Test.YtdfnnahhgbhmeaaDoorCertL
import Derived.Test.YtdfnnahhgbhmeaaDoorHdrLaw
import Derived.Test.YtdfnnahhgbhmeaaDoorOpenS
import Derived.Test.YtdfnnahhgbhmeaaDoorBlk
import Derived.Deep.DeepCutAuto
import Derived.Deep.CutBlock
set_option linter.unusedVariables false
set_option linter.unusedSimpArgs false
namespace Go.Proofs.YtdfnnahhgbhmeaaDoor
open Go Go.RowKit

theorem bat_parts {b : Bat} (h : batCode b = 0) : nodeOk b.a = true ∧ countOk b.n = true ∧ 1 ≤ b.txs.length ∧ b.txs.length ≤ 4 ∧ ∀ t ∈ b.txs, txLen t = true := by
  unfold batCode at h
  split at h
  · simp at h
  · rename_i h1
    split at h
    · simp at h
    · rename_i h2
      split at h
      · rename_i h3
        refine ⟨?_, ?_, by omega, by omega, List.all_eq_true.1 h3⟩
        · cases q : nodeOk b.a; exact absurd (.inl q) h1; rfl
        · cases q : countOk b.n; exact absurd (.inr q) h1; rfl
      · simp at h
def abcde : List Bytes := [[97], [98], [99], [100], [101]]
set_option maxRecDepth 100000 in
set_option maxHeartbeats 8000000 in
theorem batchBad_case {Gx : Nat → Prop} (K A B C : Int) (vt : Value) (l : List Bytes) (which q : Int) (w : World) (a1 : -9223372036854775808 ≤ A) (a2 : A ≤ 9223372036854775807) (b1 : -9223372036854775808 ≤ B) (b2 : B ≤ 9223372036854775807)
    (hr : RdT Gx w vt l) (hs : ∀ t ∈ l, t.length ≤ 9223372036854775807) (n1 : -9223372036854775808 ≤ which) (n2 : which ≤ 9223372036854775807) (hq : pickedZ which 4 = q) (hqc : q = 0 ∨ q = 1 ∨ q = 2 ∨ q = 3) :
    Calls Tryd.prog 9 #[.agg #[.int .i64 K, .int .i64 A, .int .i64 B, .int .i64 C, vt], .int .i64 which] w fun e w' => e = .returned (.bool true) ∧ Below w.heap.size w w' := by
  obtain ⟨vad, vcap, rfl, -, -⟩ := hr.form
  have hb1 := (Below.refl w.heap.size w).alloc (Nat.le_refl _) (.cells #[.int .i64 K, .int .i64 A, .int .i64 B, .int .i64 C, .slice vad l.length vcap] 40)
  have HBAT := Lib.hid (batch_own K A B C (.slice vad l.length vcap) l _ a1 a2 b1 b2 (hr.below hb1 (fun _ h => h)) hs)
  have HB1 := Lib.hid hb1
  have HQ := Lib.hid hq
  have hcode := batOf_ok A B l
  have hlen := batOf_txs A B l
  generalize batOf A B l = X at *
  obtain ⟨xa, xn, xt⟩ := X
  obtain ⟨hx1, hx2, hx3⟩ := hlen
  simp only at hx1 hx2 hx3 HBAT
  have hsz : ∀ t ∈ xt, t.length ≤ 9223372036854775807 := fun t ht => by have := hx1 t ht; simp [txLen] at this; omega
  have HSZ := Lib.hid hsz
  have HX1 := Lib.hid hx1
  obtain ⟨hk1, hk2, -, -, -⟩ := bat_parts hcode
  have HC := Lib.hid hcode
  have HK1 := Lib.hid hk1
  have HK2 := Lib.hid hk2
  clear hq hcode hx1 hsz hr hs hb1 hk1 hk2
  go_enter Tryd.func9, Tryd.ntmps9
  go_wp2_with fail
  refine HBAT.out.mono ?_
  rintro e w2 ⟨ad, cap, rfl, ho, hb2⟩
  obtain ⟨g, cap', hg, hg1, hg2, hgf⟩ := RdS.free_of_own ho (by omega)
  obtain ⟨rfl, rfl⟩ : ad = some ⟨g, 0, none⟩ ∧ cap = cap' := by simpa using hg
  have HB2 := Lib.hid (HB1.out.trans (hb2.mono (by simp)))
  have hb3 := (Below.refl w2.heap.size w2).alloc (Nat.le_refl _) (.cells #[.int .i64 xa, .int .i64 xn, .slice (some ⟨g, 0, none⟩) xt.length cap] 42)
  have HR3 := Lib.hid ((RdS.of_owns (G := fun _ => True) ho (fun _ _ => trivial) : RdT (fun _ => True) w2 (.slice (some ⟨g, 0, none⟩) xt.length cap) xt).low (by decide))
  clear hb2 ho hg HB1
  go_wp2_with fail
  refine (cbatch_any xa xn _ _ (HR3.out.below hb3 (fun _ h => h)) HSZ.out).mono ?_
  rintro e w4 ⟨rfl, hb4⟩
  rw [HC.out]
  have hb24 : Below w2.heap.size w2 w4 := hb3.trans (hb4.mono (by simp))
  have bX := (BoxAt.new w2 [.int .i64 xa, .int .i64 xn, .slice (some ⟨g, 0, none⟩) xt.length cap] 42).belowS hb4
  have hR4 : RdT (fun b => b < w2.heap.size) w4 (.slice (some ⟨g, 0, none⟩) xt.length cap) xt := HR3.out.keep (Keep.below hb24) (fun _ h => h.2)
  have HB4 := Lib.hid (HB2.out.trans (hb24.mono HB2.out.size))
  obtain ⟨_, _, hge, -, hg0⟩ := hR4.cell 0 (by omega)
  obtain ⟨rfl, rfl⟩ : g = _ ∧ 0 = _ := by simpa using hge
  have gf : w4.frozen? ⟨g, 0, none⟩ = false := by
    have : w4.heap[g]? = w2.heap[g]? := hb24.block g hg2
    have h0 := hgf 0
    simp only [World.frozen?, this] at h0 ⊢; exact h0
  simp only [Nat.zero_add] at hg0
  have HR4 := Lib.hid hR4
  have HBX := Lib.hid bX
  have p0 := bX.cell 0 rfl
  have p1 := bX.cell 1 rfl
  have p2 := bX.cell 2 rfl
  have f0 := bX.free 0
  have f1 := bX.free 1
  have f2 := bX.free 2
  have zX := bX.lt
  have z2 := HB2.out.size
  have ngX : g ≠ w2.heap.size := by omega
  have hgw : w.heap.size ≤ g := by have := hg1; simp at this; omega
  have x0 : (0 : Int) < (xt.length : Int) := by omega
  clear hb3 hb4 hb24 HR3 bX hR4 hgf HB2 hge
  go_upto_block 0 with (go_at_call 17; refine (picked_any _ _ _ n1 n2 (by omega) (by omega)).mono ?_; rintro e w' ⟨rfl, rfl⟩; rw [HQ.out])
  go_cut [6] (fun u wx => ∃ (a' m' : Int) (ls : List Bytes) (v : Value) (wv : Int), u = .int .i64 wv ∧ BoxAt wx w2.heap.size [.int .i64 a', .int .i64 m', v] 42 ∧ RdT (fun _ => True) wx v ls ∧ (∀ t ∈ ls, t.length ≤ 9223372036854775807) ∧ batCode ⟨a', m', ls⟩ = wv ∧ wv ≠ 0 ∧ Below w.heap.size w wx)
  case first =>
    rcases hqc with e | e | e | e
    · have e0 : (q == 0) = true := by rw [e]; rfl
      clear e
      go_wp2
      go_meet
      exact ⟨xa, xn, [], .slice none 0 0, 1, rfl, HBX.out.set 2 _, RdS.nil _ _ _, fun t ht => by simp at ht, by unfold batCode; rw [if_neg (by simp [HK1.out, HK2.out]), if_pos (by simp)], by decide, HB4.out.setCell (by simp; omega) _⟩
    · have e0 : (q == 0) = false := by rw [e]; rfl
      have e1 : (q == 1) = true := by rw [e]; rfl
      clear e
      go_wp2
      go_meet
      exact ⟨xa, xn, xt.set 0 [], .slice (some ⟨g, 0, none⟩) xt.length cap, 1, rfl, HBX.out.setOther (p := ⟨g, 0, none⟩) (fun h => ngX h.symm) _, (HR4.out.setElt 0 []).mono (fun _ _ => trivial), fun t ht => (by rcases List.mem_or_eq_of_mem_set ht with h | h; exact HSZ.out t h; rw [h]; simp), bat_tx_at (k := 0) HK1.out HK2.out (by simp; omega) (by simp [txLen]), by decide, HB4.out.setCell (by simp; omega) _⟩
    · have e0 : (q == 0) = false := by rw [e]; rfl
      have e1 : (q == 1) = false := by rw [e]; rfl
      have e2 : (q == 2) = true := by rw [e]; rfl
      clear e
      go_wp2
      go_meet
      refine ⟨xa, xn, abcde, .slice (some ⟨w4.heap.size, 0, none⟩) 5 5, 1, rfl, (HBX.out.set 2 _).alloc _, ?_, fun t ht => (by simp [abcde] at ht; rcases ht with rfl | rfl | rfl | rfl | rfl <;> simp), ?_, by decide, (HB4.out.setCell (by simp; omega) _).alloc (by simp; omega) _⟩
      · have := lit_ownsN (w4.setCell ⟨w2.heap.size, 2, none⟩ (.slice (some ⟨w4.heap.size, 0, none⟩) 5 5)) (abcde.map fun s => strV s) 9 (by decide) (by decide)
        rw [show (w4.setCell ⟨w2.heap.size, 2, none⟩ (.slice (some ⟨w4.heap.size, 0, none⟩) 5 5)).heap.size = w4.heap.size by simp] at this
        exact RdS.of_owns (base := w4.heap.size) (e := 9) (n := 5) this (fun _ _ => trivial)
      · unfold batCode
        rw [if_neg (by simp [HK1.out, HK2.out]), if_pos (.inr (show 4 < 5 by decide))]
    · have e0 : (q == 0) = false := by rw [e]; rfl
      have e1 : (q == 1) = false := by rw [e]; rfl
      have e2 : (q == 2) = false := by rw [e]; rfl
      clear e
      go_wp2
      go_meet
      exact ⟨xa, 0, xt, .slice (some ⟨g, 0, none⟩) xt.length cap, 2, rfl, HBX.out.set 1 _, HR4.out.keep (Keep.setCell (by simp) _) (fun _ _ => trivial), HSZ.out, by unfold batCode; rw [if_pos (.inr (show countOk 0 = false by decide))], by decide, HB4.out.setCell (by simp; omega) _⟩
  case rest =>
    obtain ⟨a', m', ls, v, wv, rfl, bX, hR, hls, hcd, hne, hB⟩ := hcut
    obtain ⟨sad, scap, rfl, -, -⟩ := hR.form
    have HBW := Lib.hid hB
    have HBX := Lib.hid bX
    have HR := Lib.hid (hR.low (by decide))
    have HLS := Lib.hid hls
    have HCD := Lib.hid hcd
    have p0 := bX.cell 0 rfl
    have p1 := bX.cell 1 rfl
    have p2 := bX.cell 2 rfl
    clear bX hR hls hcd hB f0 f1 f2 gf hg0
    go_wp2_with fail
    refine (batchDigest_no a' m' wv _ _ HR.out HLS.out HCD.out hne).mono ?_
    rintro e w5 ⟨rfl, hb5⟩
    have bX := HBX.out.belowS hb5
    have HB5 := Lib.hid (HBW.out.trans (hb5.mono HBW.out.size))
    have HR5 := Lib.hid (HR.out.below hb5 (fun _ h => h))
    have q0 := bX.cell 0 rfl
    have q1 := bX.cell 1 rfl
    have q2 := bX.cell 2 rfl
    clear bX hb5 p0 p1 p2
    go_wp2_with fail
    refine (cbatch_any a' m' _ _ HR5.out HLS.out).mono ?_
    rintro e w6 ⟨rfl, hb6⟩
    rw [HCD.out]
    have HB6 := Lib.hid (HB5.out.trans (hb6.mono HB5.out.size))
    have e5 : (wv == wv) = true := by simp
    clear hb6 q0 q1 q2
    go_wp2
    go_ret
    exact ⟨rfl, HB6.out⟩
theorem batchBad_walk (vt : Value) (r : RawD) (n : Int) (w : World) (hr : RawOk (fun _ => True) w vt r) (n1 : -9223372036854775808 ≤ n) (n2 : n ≤ 9223372036854775807) (ht : Tabs w) :
    Calls Tryd.prog 9 #[.agg #[.int .i64 r.k, .int .i64 r.a, .int .i64 r.b, .int .i64 r.c, vt], .int .i64 n] w fun e w' => e = .returned (.bool true) ∧ Below w.heap.size w w' := by
  obtain ⟨p1, p2⟩ := pickedZ_range n 4 (by omega)
  exact batchBad_case r.k r.a r.b r.c vt r.txs n (pickedZ n 4) w hr.2.1.1 hr.2.1.2 hr.2.2.1.1 hr.2.2.1.2 hr.2.2.2.2.1 hr.2.2.2.2.2 n1 n2 rfl (by omega)
end Go.Proofs.YtdfnnahhgbhmeaaDoor
