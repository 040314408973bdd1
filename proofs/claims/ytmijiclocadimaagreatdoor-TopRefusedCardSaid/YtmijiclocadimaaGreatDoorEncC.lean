/- wire.Encode: what it computes, of every message. -/
import Derived.Test.YtmijiclocadimaaGreatDoorEncK
set_option linter.unusedVariables false
set_option linter.unusedSimpArgs false
namespace Go.Proofs.YtmijiclocadimaaGreatDoor
open Go Go.RowKit

def bodyL (m : Msg) : Bytes :=
  if m.k = 1 then putBatchL m.b else if m.k = 2 then putHeaderL m.h else if m.k = 3 then byteZ m.s.a :: (wideL m.s.r ++ m.s.d) else if m.k = 4 then putHeaderL m.c.h ++ (byteZ m.c.vs.length :: m.c.vs.map byteZ) else wideL m.r
def encL (m : Msg) : Bytes := byteZ m.k :: byteZ m.f :: byteZ m.t :: bodyL m

theorem nodeOk_iff {n : Int} (h : nodeOk n = true) : 0 ≤ n ∧ n < 4 := by unfold nodeOk at h; simpa using h
theorem countOk_iff {n : Int} (h : countOk n = true) : 1 ≤ n ∧ n ≤ 1048576 := by unfold countOk at h; simpa using h
theorem batCode_iff {b : Bat} (h : batCode b = 0) : nodeOk b.a = true ∧ countOk b.n = true ∧ 1 ≤ b.txs.length ∧ b.txs.length ≤ 4 ∧ ∀ t ∈ b.txs, txLen t = true := by
  unfold batCode at h
  split at h
  · simp at h
  · rename_i h1
    split at h
    · simp at h
    · rename_i h2
      split at h
      · rename_i h3
        refine ⟨?_, ?_, by omega, by omega, List.all_eq_true.1 h3⟩
        · cases q : nodeOk b.a; exact absurd (.inl q) h1; rfl
        · cases q : countOk b.n; exact absurd (.inr q) h1; rfl
      · simp at h
theorem hdrCode_iff {b : Hdr} (h : hdrCode b = 0) : nodeOk b.a = true ∧ countOk b.r = true ∧ b.bs.length ≤ 3 ∧ b.ps.length ≤ 4 ∧ digCode b.bs = 0 ∧ digCode b.ps = 0 := by
  unfold hdrCode at h
  split at h
  · simp at h
  · rename_i h1
    split at h
    · simp at h
    · rename_i h2
      split at h
      · rename_i h3; exact absurd h h3
      · rename_i h3
        split at h
        · rename_i h4; exact absurd h h4
        · rename_i h4
          refine ⟨?_, ?_, by omega, by omega, by simpa using h3, by simpa using h4⟩
          · cases q : nodeOk b.a; exact absurd (.inl q) h1; rfl
          · cases q : countOk b.r; exact absurd (.inr q) h1; rfl
theorem sltCode_iff {a r : Int} {n : Nat} (h : sltCode a r n = 0) : nodeOk a = true ∧ countOk r = true ∧ n = 32 := by
  unfold sltCode at h
  split at h
  · simp at h
  · rename_i h1
    split at h
    · simp at h
    · rename_i h2
      refine ⟨?_, ?_, by omega⟩
      · cases q : nodeOk a; exact absurd (.inl q) h1; rfl
      · cases q : countOk r; exact absurd (.inr q) h1; rfl
theorem crtCode_iff {c : Crt} (h : crtCode c = 0) : hdrCode c.h = 0 ∧ c.vs.length ≤ 4 ∧ votGo none c.vs = 0 ∧ 3 ≤ c.vs.length := by
  unfold crtCode at h
  split at h
  · rename_i h1; exact absurd h h1
  · rename_i h1
    split at h
    · simp at h
    · rename_i h2
      split at h
      · rename_i h3; exact absurd h h3
      · rename_i h3
        split at h
        · simp at h
        · rename_i h4; exact ⟨by simpa using h1, by omega, by simpa using h3, by omega⟩
theorem msgCode_iff {m : Msg} (h : msgCode m = 0) : nodeOk m.f = true ∧ nodeOk m.t = true ∧ 1 ≤ m.k ∧ m.k ≤ 5 ∧ msgPart m = 0 ∧ noneM m.less = true := by
  unfold msgCode at h
  split at h
  · simp at h
  · rename_i h1
    split at h
    · simp at h
    · rename_i h2
      split at h
      · rename_i h3; exact absurd h h3
      · rename_i h3
        split at h
        · rename_i h4
          refine ⟨?_, ?_, by omega, by omega, by simpa using h3, h4⟩
          · cases q : nodeOk m.f; exact absurd (.inl q) h1; rfl
          · cases q : nodeOk m.t; exact absurd (.inr q) h1; rfl
        · simp at h

theorem wencode_ok {G : Nat → Prop} (m : Msg) (v : MV) (w : World) (h : RdM G w v m) (ok : MsgOk m) (h0 : msgCode m = 0) :
    Calls Tryz.prog 46 #[.agg (msgCells m v).toArray] w fun e w' => ∃ v', e = .returned (.tuple #[v', .int .i64 0]) ∧ w'.ownsRow w.heap.size 5 1 v' (encL m).length (byteVs (encL m)) ∧ Below w.heap.size w w' := by
  have hC : ∀ w', Below w.heap.size w w' → Calls Tryz.prog 73 #[.agg (msgCells m v).toArray] w' fun e w'' => e = .returned (.int .i64 0) ∧ Below w'.heap.size w' w'' := fun w' hb => by
    have := wcheck_any m v w' (h.below hb (fun _ h => h)) ok
    rwa [h0] at this
  obtain ⟨e1, e2, e3, e4, e5, -⟩ := msgCode_iff h0
  obtain ⟨f, t, k, ⟨ba, bn, txs⟩, ⟨ha, hr, bs, ps⟩, ⟨sa, sr, sd⟩, ⟨⟨ca, cr, cb, cp⟩, vs⟩, r⟩ := m
  obtain ⟨x1, x2, x3, x4, x5, x6, x7⟩ := v
  obtain ⟨h1, h2, h3, h4, h5, h6, h7⟩ := h
  obtain ⟨a1, c1, rfl, -, -⟩ := h1.form
  obtain ⟨a2, c2, rfl, -, -⟩ := h2.form
  obtain ⟨a3, c3, rfl, -, -⟩ := h3.form
  obtain ⟨a4, c4, rfl, -, -⟩ := h4.form
  obtain ⟨a5, c5, rfl, -, -⟩ := h5.form
  obtain ⟨a6, c6, rfl, -, -⟩ := h6.form
  obtain ⟨a7, c7, rfl, -, -⟩ := h7.form
  simp only at h1 h2 h3 h4 h5 h6 h7 e1 e2 e3 e4
  obtain ⟨f0, f1⟩ := nodeOk_iff e1
  obtain ⟨t0, t1⟩ := nodeOk_iff e2
  obtain rfl | rfl | rfl | rfl | rfl : k = 1 ∨ k = 2 ∨ k = 3 ∨ k = 4 ∨ k = 5 := by omega
  · have e5' : batCode ⟨ba, bn, txs⟩ = 0 := e5
    obtain ⟨n1, n2, n3, n4, n5⟩ := batCode_iff e5'
    obtain ⟨p0, p1⟩ := nodeOk_iff n1
    obtain ⟨q0, q1⟩ := countOk_iff n2
    exact wencode_1 f t ba bn a1 c1 ha hr a2 _ c2 a3 _ c3 sa sr a4 _ c4 ca cr a5 _ c5 a6 _ c6 a7 _ c7 r w hC f0 f1 t0 t1 h1 n5 n4 p0 p1 (by simp only at q0; omega) q1
  · have e5' : hdrCode ⟨ha, hr, bs, ps⟩ = 0 := e5
    obtain ⟨n1, n2, n3, n4, n5, n6⟩ := hdrCode_iff e5'
    obtain ⟨p0, p1⟩ := nodeOk_iff n1
    obtain ⟨q0, q1⟩ := countOk_iff n2
    exact wencode_2 f t ba bn a1 _ c1 ha hr a2 c2 a3 c3 sa sr a4 _ c4 ca cr a5 _ c5 a6 _ c6 a7 _ c7 r w hC f0 f1 t0 t1 h2 h3 ((digCode_zero _).1 n5).1 ((digCode_zero _).1 n6).1 (Nat.le_trans n3 (by decide)) (Nat.le_trans n4 (by decide)) p0 p1 (by simp only at q0; omega) q1
  · have e5' : sltCode sa sr sd.length = 0 := e5
    obtain ⟨n1, n2, n3⟩ := sltCode_iff e5'
    obtain ⟨p0, p1⟩ := nodeOk_iff n1
    obtain ⟨q0, q1⟩ := countOk_iff n2
    exact wencode_3 f t ba bn a1 _ c1 ha hr a2 _ c2 a3 _ c3 sa sr a4 c4 ca cr a5 _ c5 a6 _ c6 a7 _ c7 r w hC f0 f1 t0 t1 h4 n3 p0 p1 (by omega) q1
  · have e5' : crtCode ⟨⟨ca, cr, cb, cp⟩, vs⟩ = 0 := e5
    obtain ⟨m1, m2, m3, m4⟩ := crtCode_iff e5'
    obtain ⟨n1, n2, n3, n4, n5, n6⟩ := hdrCode_iff m1
    obtain ⟨p0, p1⟩ := nodeOk_iff n1
    obtain ⟨q0, q1⟩ := countOk_iff n2
    exact wencode_4 f t ba bn a1 _ c1 ha hr a2 _ c2 a3 _ c3 sa sr a4 _ c4 ca cr a5 c5 a6 c6 a7 c7 r w hC f0 f1 t0 t1 h5 h6 h7 ((digCode_zero _).1 n5).1 ((digCode_zero _).1 n6).1 (Nat.le_trans n3 (by decide)) (Nat.le_trans n4 (by decide)) m2 p0 p1 (by simp only at q0; omega) q1
  · have e5' : (if countOk r = true then (0 : Int) else 2) = 0 := e5
    have n2 : countOk r = true := by cases q : countOk r; simp [q] at e5'; rfl
    obtain ⟨q0, q1⟩ := countOk_iff n2
    exact wencode_5 (G := G) f t ba bn a1 _ c1 ha hr a2 _ c2 a3 _ c3 sa sr a4 _ c4 ca cr a5 _ c5 a6 _ c6 a7 _ c7 r w hC f0 f1 t0 t1 (by omega) q1

set_option maxRecDepth 100000 in
set_option maxHeartbeats 4000000 in
theorem wencode_bad (f t k ba bn : Int) (a1 : Option Addr) (ntx c1 : Nat) (ha hr : Int) (a2 : Option Addr) (nbs c2 : Nat) (a3 : Option Addr) (nps c3 : Nat) (sa sr : Int) (a4 : Option Addr) (nd c4 : Nat) (ca cr : Int) (a5 : Option Addr) (ncb c5 : Nat) (a6 : Option Addr) (ncp c6 : Nat) (a7 : Option Addr) (nvs c7 : Nat) (r : Int) (w : World) (c : Int) (h0 : c ≠ 0)
    (hC : ∀ w', Below w.heap.size w w' → Calls Tryz.prog 73 #[msgAgg f t k ba bn (.slice a1 ntx c1) ha hr (.slice a2 nbs c2) (.slice a3 nps c3) sa sr (.slice a4 nd c4) ca cr (.slice a5 ncb c5) (.slice a6 ncp c6) (.slice a7 nvs c7) r] w' fun e w'' => e = .returned (.int .i64 c) ∧ Below w'.heap.size w' w'') :
    Calls Tryz.prog 46 #[msgAgg f t k ba bn (.slice a1 ntx c1) ha hr (.slice a2 nbs c2) (.slice a3 nps c3) sa sr (.slice a4 nd c4) ca cr (.slice a5 ncb c5) (.slice a6 ncp c6) (.slice a7 nvs c7) r] w fun e w' => e = .returned (.tuple #[.slice none 0 0, .int .i64 c]) ∧ Below w.heap.size w w' := by
  have HC := Lib.hid hC
  have hc : (c != 0) = true := by rw [bne_iff_ne]; exact h0
  clear hC h0
  go_enter Tryz.func46, Tryz.ntmps46
  unfold msgAgg
  go_upto_region 1 with fail
  obtain ⟨w1, hw1⟩ : ∃ w1, w1 = w.alloc (.cells #[.int .i64 f, .int .i64 t, .int .i64 k, .int .i64 ba, .int .i64 bn, .slice a1 ntx c1, .int .i64 ha, .int .i64 hr, .slice a2 nbs c2, .slice a3 nps c3, .int .i64 sa, .int .i64 sr, .slice a4 nd c4, .int .i64 ca, .int .i64 cr, .slice a5 ncb c5, .slice a6 ncp c6, .slice a7 nvs c7, .int .i64 r] 106) := ⟨_, rfl⟩
  have bx : BoxAt w1 w.heap.size [.int .i64 f, .int .i64 t, .int .i64 k, .int .i64 ba, .int .i64 bn, .slice a1 ntx c1, .int .i64 ha, .int .i64 hr, .slice a2 nbs c2, .slice a3 nps c3, .int .i64 sa, .int .i64 sr, .slice a4 nd c4, .int .i64 ca, .int .i64 cr, .slice a5 ncb c5, .slice a6 ncp c6, .slice a7 nvs c7, .int .i64 r] 106 := by rw [hw1]; exact BoxAt.new w [_, _, _, _, _, _, _, _, _, _, _, _, _, _, _, _, _, _, _] _
  have hb1 : Below w.heap.size w w1 := by rw [hw1]; exact (Below.refl _ _).alloc (Nat.le_refl _) _
  rw [← hw1]
  have HBX1 := Lib.hid bx
  have HB1 := Lib.hid hb1
  clear hw1 bx hb1
  go_wp2_with (refine wpList_load_box rfl 106 _ rfl w.heap.size rfl [.int .i64 f, .int .i64 t, .int .i64 k, .int .i64 ba, .int .i64 bn, .slice a1 ntx c1, .int .i64 ha, .int .i64 hr, .slice a2 nbs c2, .slice a3 nps c3, .int .i64 sa, .int .i64 sr, .slice a4 nd c4, .int .i64 ca, .int .i64 cr, .slice a5 ncb c5, .slice a6 ncp c6, .slice a7 nvs c7, .int .i64 r] 106 HBX1.out Tryz.underlying106 rfl (by kernel_rfl) ?_)
  refine (HC.out w1 HB1.out).mono ?_
  rintro e w2 ⟨rfl, hb2⟩
  have HB2 := Lib.hid (HB1.out.trans (hb2.mono HB1.out.size))
  clear hb2
  go_wp2
  refine bodyPost_ret (v := .tuple #[.slice none 0 0, .int .i64 c]) (by simp [results, Tryz.results46, go_sem]) rfl ⟨rfl, HB2.out⟩
theorem wencode_no {G : Nat → Prop} (m : Msg) (v : MV) (w : World) (h : RdM G w v m) (ok : MsgOk m) {c : Int} (hc : msgCode m = c) (h0 : c ≠ 0) :
    Calls Tryz.prog 46 #[.agg (msgCells m v).toArray] w fun e w' => e = .returned (.tuple #[.slice none 0 0, .int .i64 c]) ∧ Below w.heap.size w w' := by
  have hC : ∀ w', Below w.heap.size w w' → Calls Tryz.prog 73 #[.agg (msgCells m v).toArray] w' fun e w'' => e = .returned (.int .i64 c) ∧ Below w'.heap.size w' w'' := fun w' hb => by
    have := wcheck_any m v w' (h.below hb (fun _ h => h)) ok
    rwa [hc] at this
  obtain ⟨f, t, k, ⟨ba, bn, txs⟩, ⟨ha, hr, bs, ps⟩, ⟨sa, sr, sd⟩, ⟨⟨ca, cr, cb, cp⟩, vs⟩, r⟩ := m
  obtain ⟨x1, x2, x3, x4, x5, x6, x7⟩ := v
  obtain ⟨h1, h2, h3, h4, h5, h6, h7⟩ := h
  obtain ⟨a1, c1, rfl, -, -⟩ := h1.form
  obtain ⟨a2, c2, rfl, -, -⟩ := h2.form
  obtain ⟨a3, c3, rfl, -, -⟩ := h3.form
  obtain ⟨a4, c4, rfl, -, -⟩ := h4.form
  obtain ⟨a5, c5, rfl, -, -⟩ := h5.form
  obtain ⟨a6, c6, rfl, -, -⟩ := h6.form
  obtain ⟨a7, c7, rfl, -, -⟩ := h7.form
  exact wencode_bad f t k ba bn a1 _ c1 ha hr a2 _ c2 a3 _ c3 sa sr a4 _ c4 ca cr a5 _ c5 a6 _ c6 a7 _ c7 r w c h0 hC
/-- No slices. -/
def mv0 : MV := ⟨.slice none 0 0, .slice none 0 0, .slice none 0 0, .slice none 0 0, .slice none 0 0, .slice none 0 0, .slice none 0 0⟩
theorem rdM_want (G : Nat → Prop) (w : World) (f t r : Int) : RdM G w mv0 ⟨f, t, 5, bat0, hdr0, slt0, crt0, r⟩ := ⟨RdS.nil _ _ _, RdS.nil _ _ _, RdS.nil _ _ _, RdS.nil _ _ _, RdS.nil _ _ _, RdS.nil _ _ _, RdS.nil _ _ _⟩
theorem rdM_bundle {G : Nat → Prop} {w : World} {v : Value} {b : Bat} (f t k : Int) (h : RdT G w v b.txs) : RdM G w { mv0 with tx := v } ⟨f, t, k, b, hdr0, slt0, crt0, 0⟩ := ⟨h, RdS.nil _ _ _, RdS.nil _ _ _, RdS.nil _ _ _, RdS.nil _ _ _, RdS.nil _ _ _, RdS.nil _ _ _⟩
theorem rdM_offer {G : Nat → Prop} {w : World} {v v' : Value} {b : Hdr} (f t k : Int) (h : RdBB G w v b.bs) (h' : RdBB G w v' b.ps) : RdM G w { mv0 with bs := v, ps := v' } ⟨f, t, k, bat0, b, slt0, crt0, 0⟩ := ⟨RdS.nil _ _ _, h, h', RdS.nil _ _ _, RdS.nil _ _ _, RdS.nil _ _ _, RdS.nil _ _ _⟩
theorem rdM_vote {G : Nat → Prop} {w : World} {v : Value} {b : Slt} (f t k : Int) (h : RdB G w v b.d) : RdM G w { mv0 with d := v } ⟨f, t, k, bat0, hdr0, b, crt0, 0⟩ := ⟨RdS.nil _ _ _, RdS.nil _ _ _, RdS.nil _ _ _, h, RdS.nil _ _ _, RdS.nil _ _ _, RdS.nil _ _ _⟩
theorem rdM_proof {G : Nat → Prop} {w : World} {v v' vv : Value} {b : Crt} (f t k : Int) (h : RdBB G w v b.h.bs) (h' : RdBB G w v' b.h.ps) (hv : RdI G w vv b.vs) : RdM G w { mv0 with cbs := v, cps := v', vs := vv } ⟨f, t, k, bat0, hdr0, slt0, b, 0⟩ := ⟨RdS.nil _ _ _, RdS.nil _ _ _, RdS.nil _ _ _, RdS.nil _ _ _, h, h', hv⟩
theorem rdB_lit (w : World) (cs : List Value) (l : Bytes) (T : TypeId) {n : Nat} (h : cs = byteVs l) (hn : l.length = n) (hm : n ≤ 1000) : RdB (fun b => b = w.heap.size) (w.alloc (.cells cs.toArray T)) (.slice (some ⟨w.heap.size, 0, none⟩) n n) l := by
  subst hn
  have hb : BoxAt (w.alloc (.cells cs.toArray T)) w.heap.size (l.map fun c => Value.int .u8 c.toNat) T := by rw [← show cs = l.map (fun c => Value.int .u8 c.toNat) from h]; exact BoxAt.new w cs T
  exact RdS.of_box (f := fun c : UInt8 => Value.int .u8 c.toNat) (G := fun b => b = w.heap.size) (l := l) (cap := l.length) hb rfl (Nat.le_refl _) (by unfold maxLen; omega)
theorem nodeOk_0 : nodeOk 0 = true := rfl
theorem msgOk_want (f t r : Int) : MsgOk ⟨f, t, 5, bat0, hdr0, slt0, crt0, r⟩ := ⟨fun t ht => by simp [bat0] at ht, by simp [hdr0], by simp [crt0, hdr0]⟩
theorem msgCode_want {f t r : Int} (h1 : nodeOk f = true) (h2 : nodeOk t = true) : msgCode ⟨f, t, 5, bat0, hdr0, slt0, crt0, r⟩ = if countOk r = true then 0 else 2 := by
  unfold msgCode
  rw [if_neg (by simp [h1, h2]), if_neg (by show ¬ ((5 : Int) < 1 ∨ (5 : Int) < 5); omega)]
  show (if (if countOk r = true then (0 : Int) else 2) ≠ 0 then (if countOk r = true then 0 else 2) else _) = _
  cases countOk r
  · rfl
  · rfl
theorem msgCode_part {m : Msg} (h1 : nodeOk m.f = true) (h2 : nodeOk m.t = true) (h3 : 1 ≤ m.k) (h4 : m.k ≤ 5) (h5 : noneM m.less = true) : msgCode m = msgPart m := by
  unfold msgCode
  rw [if_neg (by simp [h1, h2]), if_neg (by omega)]
  by_cases h : msgPart m ≠ 0
  · rw [if_pos h]
  · rw [if_neg h, if_pos h5]; exact (Classical.not_not.1 h).symm
theorem msgCode_bundle {f t : Int} {b : Bat} (h1 : nodeOk f = true) (h2 : nodeOk t = true) : msgCode ⟨f, t, 1, b, hdr0, slt0, crt0, 0⟩ = batCode b := msgCode_part h1 h2 (by show (1 : Int) ≤ 1; omega) (by show (1 : Int) ≤ 5; omega) rfl
theorem msgCode_offer {f t : Int} {b : Hdr} (h1 : nodeOk f = true) (h2 : nodeOk t = true) : msgCode ⟨f, t, 2, bat0, b, slt0, crt0, 0⟩ = hdrCode b := msgCode_part h1 h2 (by show (1 : Int) ≤ 2; omega) (by show (2 : Int) ≤ 5; omega) rfl
theorem msgCode_vote {f t : Int} {b : Slt} (h1 : nodeOk f = true) (h2 : nodeOk t = true) : msgCode ⟨f, t, 3, bat0, hdr0, b, crt0, 0⟩ = sltCode b.a b.r b.d.length := msgCode_part h1 h2 (by show (1 : Int) ≤ 3; omega) (by show (3 : Int) ≤ 5; omega) rfl
theorem msgCode_proof {f t : Int} {b : Crt} (h1 : nodeOk f = true) (h2 : nodeOk t = true) : msgCode ⟨f, t, 4, bat0, hdr0, slt0, b, 0⟩ = crtCode b := msgCode_part h1 h2 (by show (1 : Int) ≤ 4; omega) (by show (4 : Int) ≤ 5; omega) rfl
theorem msgOk_bundle {f t k : Int} {b : Bat} (h : ∀ x ∈ b.txs, x.length ≤ 9223372036854775807) : MsgOk ⟨f, t, k, b, hdr0, slt0, crt0, 0⟩ := ⟨h, by simp [hdr0], by simp [crt0, hdr0]⟩
theorem msgOk_offer {f t k : Int} {b : Hdr} (h : b.bs.length + b.ps.length ≤ 9223372036854775807) : MsgOk ⟨f, t, k, bat0, b, slt0, crt0, 0⟩ := ⟨fun t ht => by simp [bat0] at ht, h, by simp [crt0, hdr0]⟩
theorem msgOk_vote {f t k : Int} {b : Slt} : MsgOk ⟨f, t, k, bat0, hdr0, b, crt0, 0⟩ := ⟨fun t ht => by simp [bat0] at ht, by simp [hdr0], by simp [crt0, hdr0]⟩
theorem msgOk_proof {f t k : Int} {b : Crt} (h : b.h.bs.length + b.h.ps.length ≤ 9223372036854775807) : MsgOk ⟨f, t, k, bat0, hdr0, slt0, b, 0⟩ := ⟨fun t ht => by simp [bat0] at ht, by simp [hdr0], h⟩
end Go.Proofs.YtmijiclocadimaaGreatDoor
