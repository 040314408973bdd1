/- tape.Check, Append: what they compute. -/
import Derived.Test.YtegdpjoncjmdeaaTape3
import Derived.Test.YtegdpjoncjmdeaaTapeL
set_option linter.unusedVariables false
set_option linter.unusedSimpArgs false
attribute [local go_sem ↓] Go.wp_at_zero Go.wp_at_succ
namespace Go.Proofs.Ytegdpjoncjmdeaa
open Go Go.RowKit

def rcOf (c f t k : Int) : Int := if c ≠ 0 then c else if f ≠ 0 ∨ t ≠ 0 ∨ k = 5 then 4 else 0
set_option maxRecDepth 100000 in
set_option maxHeartbeats 4000000 in
theorem tcheck_x (f t k ba bn : Int) (a1 : Option Addr) (ntx c1 : Nat) (ha hr : Int) (a2 : Option Addr) (nbs c2 : Nat) (a3 : Option Addr) (nps c3 : Nat) (sa sr : Int) (a4 : Option Addr) (nd c4 : Nat) (ca cr : Int) (a5 : Option Addr) (ncb c5 : Nat) (a6 : Option Addr) (ncp c6 : Nat) (a7 : Option Addr) (nvs c7 : Nat) (r : Int) (w : World) (c : Int)
    (hC : ∀ w', Below w.heap.size w w' → Calls Try.prog 34 #[msgAgg f t k ba bn (.slice a1 ntx c1) ha hr (.slice a2 nbs c2) (.slice a3 nps c3) sa sr (.slice a4 nd c4) ca cr (.slice a5 ncb c5) (.slice a6 ncp c6) (.slice a7 nvs c7) r] w' fun e w'' => e = .returned (.int .i64 c) ∧ Below w'.heap.size w' w'') :
    Calls Try.prog 21 #[msgAgg f t k ba bn (.slice a1 ntx c1) ha hr (.slice a2 nbs c2) (.slice a3 nps c3) sa sr (.slice a4 nd c4) ca cr (.slice a5 ncb c5) (.slice a6 ncp c6) (.slice a7 nvs c7) r] w fun e w' => e = .returned (.int .i64 (rcOf c f t k)) ∧ Below w.heap.size w w' := by
  have HC := Lib.hid hC
  clear hC
  go_enter Try.func21, Try.ntmps21
  unfold msgAgg
  go_upto_region 1 with fail
  obtain ⟨w1, hw1⟩ : ∃ w1, w1 = w.alloc (.cells #[.int .i64 f, .int .i64 t, .int .i64 k, .int .i64 ba, .int .i64 bn, .slice a1 ntx c1, .int .i64 ha, .int .i64 hr, .slice a2 nbs c2, .slice a3 nps c3, .int .i64 sa, .int .i64 sr, .slice a4 nd c4, .int .i64 ca, .int .i64 cr, .slice a5 ncb c5, .slice a6 ncp c6, .slice a7 nvs c7, .int .i64 r] 35) := ⟨_, rfl⟩
  have bx : BoxAt w1 w.heap.size [.int .i64 f, .int .i64 t, .int .i64 k, .int .i64 ba, .int .i64 bn, .slice a1 ntx c1, .int .i64 ha, .int .i64 hr, .slice a2 nbs c2, .slice a3 nps c3, .int .i64 sa, .int .i64 sr, .slice a4 nd c4, .int .i64 ca, .int .i64 cr, .slice a5 ncb c5, .slice a6 ncp c6, .slice a7 nvs c7, .int .i64 r] 35 := by rw [hw1]; exact BoxAt.new w [_, _, _, _, _, _, _, _, _, _, _, _, _, _, _, _, _, _, _] _
  have hb1 : Below w.heap.size w w1 := by rw [hw1]; exact (Below.refl _ _).alloc (Nat.le_refl _) _
  rw [← hw1]
  have HBX1 := Lib.hid bx
  have HB1 := Lib.hid hb1
  clear hw1 bx hb1
  go_wp2_with (refine wpList_load_box rfl 35 _ rfl w.heap.size rfl [.int .i64 f, .int .i64 t, .int .i64 k, .int .i64 ba, .int .i64 bn, .slice a1 ntx c1, .int .i64 ha, .int .i64 hr, .slice a2 nbs c2, .slice a3 nps c3, .int .i64 sa, .int .i64 sr, .slice a4 nd c4, .int .i64 ca, .int .i64 cr, .slice a5 ncb c5, .slice a6 ncp c6, .slice a7 nvs c7, .int .i64 r] 35 HBX1.out Try.underlying35 rfl (by kernel_rfl) ?_)
  refine (HC.out w1 HB1.out).mono ?_
  rintro e w2 ⟨rfl, hb2⟩
  have HB2 := Lib.hid (HB1.out.trans (hb2.mono HB1.out.size))
  have bx2 := HBX1.out.belowS hb2
  have p0 := bx2.cell 0 rfl
  have p1 := bx2.cell 1 rfl
  have p2 := bx2.cell 2 rfl
  clear hb2 bx2 HC
  by_cases hc : c = 0
  · subst hc
    by_cases hf : f = 0
    · by_cases ht : t = 0
      · by_cases hk : k = 5
        · have HR := Lib.hid (show rcOf 0 f t k = 4 by unfold rcOf; simp [hf, ht, hk])
          have e1 : (f != 0) = false := by simp [hf]
          have e2 : (t != 0) = false := by simp [ht]
          have e3 : (k == 5) = true := by simp [hk]
          clear hf ht hk
          go_wp2
          go_ret
          exact ⟨ret_intH HR.out, HB2.out⟩
        · have HR := Lib.hid (show rcOf 0 f t k = 0 by unfold rcOf; simp [hf, ht, hk])
          have e1 : (f != 0) = false := by simp [hf]
          have e2 : (t != 0) = false := by simp [ht]
          have e3 : (k == 5) = false := by simp [hk]
          clear hf ht hk
          go_wp2
          go_ret
          exact ⟨ret_intH HR.out, HB2.out⟩
      · have HR := Lib.hid (show rcOf 0 f t k = 4 by unfold rcOf; simp [ht])
        have e1 : (f != 0) = false := by simp [hf]
        have e2 : (t != 0) = true := by simpa using ht
        clear hf ht
        go_wp2
        go_ret
        exact ⟨ret_intH HR.out, HB2.out⟩
    · have HR := Lib.hid (show rcOf 0 f t k = 4 by unfold rcOf; simp [hf])
      have e1 : (f != 0) = true := by simpa using hf
      clear hf
      go_wp2
      go_ret
      exact ⟨ret_intH HR.out, HB2.out⟩
  · have HR := Lib.hid (show rcOf c f t k = c by unfold rcOf; rw [if_pos hc])
    have e1 : (c != 0) = true := by simpa using hc
    clear hc
    go_wp2
    go_ret
    exact ⟨ret_intH HR.out, HB2.out⟩
theorem tcheck_any {G : Nat → Prop} (m : Msg) (v : MV) (w : World) (h : RdM G w v m) (ok : MsgOk m) :
    Calls Try.prog 21 #[.agg (msgCells m v).toArray] w fun e w' => e = .returned (.int .i64 (recCode m)) ∧ Below w.heap.size w w' := by
  have hC : ∀ w', Below w.heap.size w w' → Calls Try.prog 34 #[.agg (msgCells m v).toArray] w' fun e w'' => e = .returned (.int .i64 (msgCode m)) ∧ Below w'.heap.size w' w'' := fun w' hb => wcheck_any m v w' (h.below hb (fun _ h => h)) ok
  have hR : recCode m = rcOf (msgCode m) m.f m.t m.k := rfl
  rw [hR]
  generalize msgCode m = c at *
  obtain ⟨f, t, k, ⟨ba, bn, txs⟩, ⟨ha, hr, bs, ps⟩, ⟨sa, sr, sd⟩, ⟨⟨ca, cr, cb, cp⟩, vs⟩, r⟩ := m
  obtain ⟨x1, x2, x3, x4, x5, x6, x7⟩ := v
  obtain ⟨h1, h2, h3, h4, h5, h6, h7⟩ := h
  obtain ⟨a1, c1, rfl, -, -⟩ := h1.form
  obtain ⟨a2, c2, rfl, -, -⟩ := h2.form
  obtain ⟨a3, c3, rfl, -, -⟩ := h3.form
  obtain ⟨a4, c4, rfl, -, -⟩ := h4.form
  obtain ⟨a5, c5, rfl, -, -⟩ := h5.form
  obtain ⟨a6, c6, rfl, -, -⟩ := h6.form
  obtain ⟨a7, c7, rfl, -, -⟩ := h7.form
  exact tcheck_x f t k ba bn a1 _ c1 ha hr a2 _ c2 a3 _ c3 sa sr a4 _ c4 ca cr a5 _ c5 a6 _ c6 a7 _ c7 r w c hC
/-! ### Append -/
set_option maxRecDepth 100000 in
set_option maxHeartbeats 8000000 in
theorem tapp_bad {G : Nat → Prop} (f t k ba bn : Int) (a1 : Option Addr) (ntx c1 : Nat) (ha hr : Int) (a2 : Option Addr) (nbs c2 : Nat) (a3 : Option Addr) (nps c3 : Nat) (sa sr : Int) (a4 : Option Addr) (nd c4 : Nat) (ca cr : Int) (a5 : Option Addr) (ncb c5 : Nat) (a6 : Option Addr) (ncp c6 : Nat) (a7 : Option Addr) (nvs c7 : Nat) (r : Int) (ad : Option Addr) (cap : Nat) (s : Int) (l : Bytes) (c : Int) (w : World) (hv : RdB G w (.slice ad l.length cap) l) (h : tapeOk l.length s = true) (hc : c ≠ 0)
    (hC : ∀ w', Below w.heap.size w w' → Calls Try.prog 21 #[msgAgg f t k ba bn (.slice a1 ntx c1) ha hr (.slice a2 nbs c2) (.slice a3 nps c3) sa sr (.slice a4 nd c4) ca cr (.slice a5 ncb c5) (.slice a6 ncp c6) (.slice a7 nvs c7) r] w' fun e w'' => e = .returned (.int .i64 c) ∧ Below w'.heap.size w' w'') :
    Calls Try.prog 22 #[.agg #[.slice ad l.length cap, .int .i64 s], msgAgg f t k ba bn (.slice a1 ntx c1) ha hr (.slice a2 nbs c2) (.slice a3 nps c3) sa sr (.slice a4 nd c4) ca cr (.slice a5 ncb c5) (.slice a6 ncp c6) (.slice a7 nvs c7) r] w fun e w' => e = .returned (.tuple #[.agg #[.slice none 0 0, .int .i64 0], .int .i64 c]) ∧ Below w.heap.size w w' := by
  have hl4 : l.length ≤ 400000 := by unfold tapeOk at h; simp at h; omega
  have HC := Lib.hid hC
  have H := Lib.hid h
  have hcb : (c != 0) = true := by simpa using hc
  clear hc
  clear hC h
  go_enter Try.func22, Try.ntmps22
  unfold msgAgg
  go_upto_region 1 with fail
  obtain ⟨w1, hw1⟩ : ∃ w1, w1 = ((w.alloc (.cells #[.slice ad l.length cap, .int .i64 s] 50)).alloc (.cells #[.int .i64 f, .int .i64 t, .int .i64 k, .int .i64 ba, .int .i64 bn, .slice a1 ntx c1, .int .i64 ha, .int .i64 hr, .slice a2 nbs c2, .slice a3 nps c3, .int .i64 sa, .int .i64 sr, .slice a4 nd c4, .int .i64 ca, .int .i64 cr, .slice a5 ncb c5, .slice a6 ncp c6, .slice a7 nvs c7, .int .i64 r] 35)).alloc (.cells #[.slice none 0 0, .int .i64 0] 50) := ⟨_, rfl⟩
  have hb1 : Below w.heap.size w w1 := by rw [hw1]; exact (((Below.refl _ _).alloc (Nat.le_refl _) _).alloc (by simp) _).alloc (by simp; omega) _
  have bT : BoxAt w1 w.heap.size [.slice ad l.length cap, .int .i64 s] 50 := by rw [hw1]; exact ((BoxAt.new w [_, _] _).alloc _).alloc _
  have bM : BoxAt w1 (w.heap.size + 1) [.int .i64 f, .int .i64 t, .int .i64 k, .int .i64 ba, .int .i64 bn, .slice a1 ntx c1, .int .i64 ha, .int .i64 hr, .slice a2 nbs c2, .slice a3 nps c3, .int .i64 sa, .int .i64 sr, .slice a4 nd c4, .int .i64 ca, .int .i64 cr, .slice a5 ncb c5, .slice a6 ncp c6, .slice a7 nvs c7, .int .i64 r] 35 := by rw [hw1]; exact (BoxAt.newAt (w.alloc _) [_, _, _, _, _, _, _, _, _, _, _, _, _, _, _, _, _, _, _] _ (by simp)).alloc _
  have bR : BoxAt w1 (w.heap.size + 2) [.slice none 0 0, .int .i64 0] 50 := by rw [hw1]; exact BoxAt.newAt _ [_, _] _ (by simp)
  have z1 : w1.heap.size = w.heap.size + 3 := by rw [hw1]; simp
  rw [← hw1]
  have HV1 := Lib.hid (hv.below hb1 (fun _ h => h))
  have HM := Lib.hid bM
  have HR := Lib.hid bR
  have HB := Lib.hid hb1
  have x0 := bT.cell 0 rfl
  have x1 := bT.cell 1 rfl
  clear hw1 hb1 bM bR hv bT
  go_wp2_with fail
  refine (topen_ok _ l s w1 HV1.out H.out).mono ?_
  rintro e w2 ⟨v2, rfl, hown, hb2⟩
  obtain ⟨ad2, cap2, rfl⟩ := ownsRow_form hown
  have HO := Lib.hid hown
  have z2 : w1.heap.size ≤ w2.heap.size := hb2.size
  have hg2 : ∀ k', (Value.slice ad2 l.length cap2).ownBlock = some k' → w1.heap.size ≤ k' ∧ k' < w2.heap.size := fun k' hk => hown.lt k' hk
  have HG2 := Lib.hid hg2
  replace HM := Lib.hid (HM.out.belowS hb2)
  replace HR := Lib.hid (HR.out.belowS hb2)
  replace HB := Lib.hid (HB.out.trans (hb2.mono (by omega)))
  clear hown hb2 x0 x1 HV1 hg2
  go_wp2_with (refine wpList_load_box rfl 35 _ rfl (w.heap.size + 1) rfl [.int .i64 f, .int .i64 t, .int .i64 k, .int .i64 ba, .int .i64 bn, .slice a1 ntx c1, .int .i64 ha, .int .i64 hr, .slice a2 nbs c2, .slice a3 nps c3, .int .i64 sa, .int .i64 sr, .slice a4 nd c4, .int .i64 ca, .int .i64 cr, .slice a5 ncb c5, .slice a6 ncp c6, .slice a7 nvs c7, .int .i64 r] 35 (HM.out.alloc _) Try.underlying35 rfl (by kernel_rfl) ?_)
  refine (HC.out _ (HB.out.alloc (by omega) _)).mono ?_
  rintro e w3 ⟨rfl, hb3⟩
  have z3 : w2.heap.size + 1 ≤ w3.heap.size := by have := hb3.size; simpa using this
  have hb23 : Below w2.heap.size w2 w3 := ((Below.refl _ _).alloc (Nat.le_refl _) _).trans (hb3.mono (by simp))
  have HX := Lib.hid ((BoxAt.new w2 [.slice ad2 l.length cap2, .int .i64 s] 50).belowS hb3)
  replace HM := Lib.hid (HM.out.belowS hb23)
  replace HR := Lib.hid (HR.out.belowS hb23)
  replace HB := Lib.hid (HB.out.trans (hb23.mono (by omega)))
  replace HO := Lib.hid (ownsRow_below HO.out hb23)
  clear hb3 hb23 HC
  have f0 := HR.out.free 0
  have f1 := HR.out.free 1
  have zR := HR.out.lt
  have q0 := HR.out.cell 0 rfl
  have q1 := HR.out.cell 1 rfl
  have HY := Lib.hid ((HR.out.set 0 (.slice none 0 0)).set 1 (.int .i64 0))
  go_wp2
  have g0 := HY.out.cell 0 rfl
  have g1 := HY.out.cell 1 rfl
  refine bodyPost_ret (v := .tuple #[.agg #[.slice none 0 0, .int .i64 0], .int .i64 c]) (by simp [results, Try.results22, go_sem, g0, g1]) rfl ⟨rfl, ?_⟩
  repeat (first | with_reducible exact HB.out | with_reducible refine Below.setCell ?_ (by first | omega | (simp <;> omega)) _ | with_reducible refine Below.alloc ?_ (by first | omega | (simp <;> omega)) _)
set_option maxRecDepth 100000 in
set_option maxHeartbeats 8000000 in
theorem tapp_full {G : Nat → Prop} (f t k ba bn : Int) (a1 : Option Addr) (ntx c1 : Nat) (ha hr : Int) (a2 : Option Addr) (nbs c2 : Nat) (a3 : Option Addr) (nps c3 : Nat) (sa sr : Int) (a4 : Option Addr) (nd c4 : Nat) (ca cr : Int) (a5 : Option Addr) (ncb c5 : Nat) (a6 : Option Addr) (ncp c6 : Nat) (a7 : Option Addr) (nvs c7 : Nat) (r : Int) (ad : Option Addr) (cap : Nat) (s : Int) (l E : Bytes) (w : World) (hv : RdB G w (.slice ad l.length cap) l) (h : tapeOk l.length s = true) (hE0 : 0 < E.length) (hE3 : E.length ≤ 300) (hlen : 400000 < l.length + 2 + E.length)
    (hC : ∀ w', Below w.heap.size w w' → Calls Try.prog 21 #[msgAgg f t k ba bn (.slice a1 ntx c1) ha hr (.slice a2 nbs c2) (.slice a3 nps c3) sa sr (.slice a4 nd c4) ca cr (.slice a5 ncb c5) (.slice a6 ncp c6) (.slice a7 nvs c7) r] w' fun e w'' => e = .returned (.int .i64 0) ∧ Below w'.heap.size w' w'')
    (hE : ∀ w', Below w.heap.size w w' → Calls Try.prog 16 #[msgAgg f t k ba bn (.slice a1 ntx c1) ha hr (.slice a2 nbs c2) (.slice a3 nps c3) sa sr (.slice a4 nd c4) ca cr (.slice a5 ncb c5) (.slice a6 ncp c6) (.slice a7 nvs c7) r] w' fun e w'' => ∃ v', e = .returned (.tuple #[v', .int .i64 0]) ∧ w''.ownsRow w'.heap.size 5 1 v' E.length (byteVs E) ∧ Below w'.heap.size w' w'') :
    Calls Try.prog 22 #[.agg #[.slice ad l.length cap, .int .i64 s], msgAgg f t k ba bn (.slice a1 ntx c1) ha hr (.slice a2 nbs c2) (.slice a3 nps c3) sa sr (.slice a4 nd c4) ca cr (.slice a5 ncb c5) (.slice a6 ncp c6) (.slice a7 nvs c7) r] w fun e w' => e = .returned (.tuple #[.agg #[.slice none 0 0, .int .i64 0], .int .i64 6]) ∧ Below w.heap.size w w' := by
  have hl4 : l.length ≤ 400000 := by unfold tapeOk at h; simp at h; omega
  have HC := Lib.hid hC
  have H := Lib.hid h
  have HE := Lib.hid hE
  clear hE
  clear hC h
  go_enter Try.func22, Try.ntmps22
  unfold msgAgg
  go_upto_region 1 with fail
  obtain ⟨w1, hw1⟩ : ∃ w1, w1 = ((w.alloc (.cells #[.slice ad l.length cap, .int .i64 s] 50)).alloc (.cells #[.int .i64 f, .int .i64 t, .int .i64 k, .int .i64 ba, .int .i64 bn, .slice a1 ntx c1, .int .i64 ha, .int .i64 hr, .slice a2 nbs c2, .slice a3 nps c3, .int .i64 sa, .int .i64 sr, .slice a4 nd c4, .int .i64 ca, .int .i64 cr, .slice a5 ncb c5, .slice a6 ncp c6, .slice a7 nvs c7, .int .i64 r] 35)).alloc (.cells #[.slice none 0 0, .int .i64 0] 50) := ⟨_, rfl⟩
  have hb1 : Below w.heap.size w w1 := by rw [hw1]; exact (((Below.refl _ _).alloc (Nat.le_refl _) _).alloc (by simp) _).alloc (by simp; omega) _
  have bT : BoxAt w1 w.heap.size [.slice ad l.length cap, .int .i64 s] 50 := by rw [hw1]; exact ((BoxAt.new w [_, _] _).alloc _).alloc _
  have bM : BoxAt w1 (w.heap.size + 1) [.int .i64 f, .int .i64 t, .int .i64 k, .int .i64 ba, .int .i64 bn, .slice a1 ntx c1, .int .i64 ha, .int .i64 hr, .slice a2 nbs c2, .slice a3 nps c3, .int .i64 sa, .int .i64 sr, .slice a4 nd c4, .int .i64 ca, .int .i64 cr, .slice a5 ncb c5, .slice a6 ncp c6, .slice a7 nvs c7, .int .i64 r] 35 := by rw [hw1]; exact (BoxAt.newAt (w.alloc _) [_, _, _, _, _, _, _, _, _, _, _, _, _, _, _, _, _, _, _] _ (by simp)).alloc _
  have bR : BoxAt w1 (w.heap.size + 2) [.slice none 0 0, .int .i64 0] 50 := by rw [hw1]; exact BoxAt.newAt _ [_, _] _ (by simp)
  have z1 : w1.heap.size = w.heap.size + 3 := by rw [hw1]; simp
  rw [← hw1]
  have HV1 := Lib.hid (hv.below hb1 (fun _ h => h))
  have HM := Lib.hid bM
  have HR := Lib.hid bR
  have HB := Lib.hid hb1
  have x0 := bT.cell 0 rfl
  have x1 := bT.cell 1 rfl
  clear hw1 hb1 bM bR hv bT
  go_wp2_with fail
  refine (topen_ok _ l s w1 HV1.out H.out).mono ?_
  rintro e w2 ⟨v2, rfl, hown, hb2⟩
  obtain ⟨ad2, cap2, rfl⟩ := ownsRow_form hown
  have HO := Lib.hid hown
  have z2 : w1.heap.size ≤ w2.heap.size := hb2.size
  have hg2 : ∀ k', (Value.slice ad2 l.length cap2).ownBlock = some k' → w1.heap.size ≤ k' ∧ k' < w2.heap.size := fun k' hk => hown.lt k' hk
  have HG2 := Lib.hid hg2
  replace HM := Lib.hid (HM.out.belowS hb2)
  replace HR := Lib.hid (HR.out.belowS hb2)
  replace HB := Lib.hid (HB.out.trans (hb2.mono (by omega)))
  clear hown hb2 x0 x1 HV1 hg2
  go_wp2_with (refine wpList_load_box rfl 35 _ rfl (w.heap.size + 1) rfl [.int .i64 f, .int .i64 t, .int .i64 k, .int .i64 ba, .int .i64 bn, .slice a1 ntx c1, .int .i64 ha, .int .i64 hr, .slice a2 nbs c2, .slice a3 nps c3, .int .i64 sa, .int .i64 sr, .slice a4 nd c4, .int .i64 ca, .int .i64 cr, .slice a5 ncb c5, .slice a6 ncp c6, .slice a7 nvs c7, .int .i64 r] 35 (HM.out.alloc _) Try.underlying35 rfl (by kernel_rfl) ?_)
  refine (HC.out _ (HB.out.alloc (by omega) _)).mono ?_
  rintro e w3 ⟨rfl, hb3⟩
  have z3 : w2.heap.size + 1 ≤ w3.heap.size := by have := hb3.size; simpa using this
  have hb23 : Below w2.heap.size w2 w3 := ((Below.refl _ _).alloc (Nat.le_refl _) _).trans (hb3.mono (by simp))
  have HX := Lib.hid ((BoxAt.new w2 [.slice ad2 l.length cap2, .int .i64 s] 50).belowS hb3)
  replace HM := Lib.hid (HM.out.belowS hb23)
  replace HR := Lib.hid (HR.out.belowS hb23)
  replace HB := Lib.hid (HB.out.trans (hb23.mono (by omega)))
  replace HO := Lib.hid (ownsRow_below HO.out hb23)
  clear hb3 hb23 HC
  go_wp2_with (refine wpList_load_box rfl 35 _ rfl (w.heap.size + 1) rfl [.int .i64 f, .int .i64 t, .int .i64 k, .int .i64 ba, .int .i64 bn, .slice a1 ntx c1, .int .i64 ha, .int .i64 hr, .slice a2 nbs c2, .slice a3 nps c3, .int .i64 sa, .int .i64 sr, .slice a4 nd c4, .int .i64 ca, .int .i64 cr, .slice a5 ncb c5, .slice a6 ncp c6, .slice a7 nvs c7, .int .i64 r] 35 HM.out Try.underlying35 rfl (by kernel_rfl) ?_)
  refine (HE.out w3 HB.out).mono ?_
  rintro e w4 ⟨vb, rfl, hown4, hb4⟩
  obtain ⟨ad4, cap4, rfl⟩ := ownsRow_form hown4
  have z4 : w3.heap.size ≤ w4.heap.size := hb4.size
  have HE4 := Lib.hid (RdS.of_owns (f := fun c : UInt8 => Value.int .u8 c.toNat) (G := fun b => w3.heap.size ≤ b) hown4 (fun _ h => h))
  replace HX := Lib.hid (HX.out.belowS hb4)
  replace HR := Lib.hid (HR.out.belowS hb4)
  replace HB := Lib.hid (HB.out.trans (hb4.mono (by omega)))
  replace HO := Lib.hid (ownsRow_below HO.out hb4)
  have y0 := HX.out.cell 0 rfl
  have y1 := HX.out.cell 1 rfl
  have zX := HX.out.lt
  have zR := HR.out.lt
  clear hown4 hb4 HE HM
  have lt1 : (400000 : Int) < (l.length : Int) + 2 + (E.length : Int) := by omega
  have f0 := HR.out.free 0
  have f1 := HR.out.free 1
  have q0 := HR.out.cell 0 rfl
  have q1 := HR.out.cell 1 rfl
  have HY := Lib.hid ((HR.out.set 0 (.slice none 0 0)).set 1 (.int .i64 0))
  go_wp2
  have g0 := HY.out.cell 0 rfl
  have g1 := HY.out.cell 1 rfl
  refine bodyPost_ret (v := .tuple #[.agg #[.slice none 0 0, .int .i64 0], .int .i64 6]) (by simp [results, Try.results22, go_sem, g0, g1]) rfl ⟨rfl, ?_⟩
  repeat (first | with_reducible exact HB.out | with_reducible refine Below.setCell ?_ (by first | omega | (simp <;> omega)) _ | with_reducible refine Below.alloc ?_ (by first | omega | (simp <;> omega)) _)
set_option maxRecDepth 100000 in
set_option maxHeartbeats 8000000 in
theorem tapp_ok {G : Nat → Prop} (f t k ba bn : Int) (a1 : Option Addr) (ntx c1 : Nat) (ha hr : Int) (a2 : Option Addr) (nbs c2 : Nat) (a3 : Option Addr) (nps c3 : Nat) (sa sr : Int) (a4 : Option Addr) (nd c4 : Nat) (ca cr : Int) (a5 : Option Addr) (ncb c5 : Nat) (a6 : Option Addr) (ncp c6 : Nat) (a7 : Option Addr) (nvs c7 : Nat) (r : Int) (ad : Option Addr) (cap : Nat) (s : Int) (l E : Bytes) (w : World) (hv : RdB G w (.slice ad l.length cap) l) (h : tapeOk l.length s = true) (hE0 : 0 < E.length) (hE3 : E.length ≤ 300) (hlen : l.length + 2 + E.length ≤ 400000)
    (hC : ∀ w', Below w.heap.size w w' → Calls Try.prog 21 #[msgAgg f t k ba bn (.slice a1 ntx c1) ha hr (.slice a2 nbs c2) (.slice a3 nps c3) sa sr (.slice a4 nd c4) ca cr (.slice a5 ncb c5) (.slice a6 ncp c6) (.slice a7 nvs c7) r] w' fun e w'' => e = .returned (.int .i64 0) ∧ Below w'.heap.size w' w'')
    (hE : ∀ w', Below w.heap.size w w' → Calls Try.prog 16 #[msgAgg f t k ba bn (.slice a1 ntx c1) ha hr (.slice a2 nbs c2) (.slice a3 nps c3) sa sr (.slice a4 nd c4) ca cr (.slice a5 ncb c5) (.slice a6 ncp c6) (.slice a7 nvs c7) r] w' fun e w'' => ∃ v', e = .returned (.tuple #[v', .int .i64 0]) ∧ w''.ownsRow w'.heap.size 5 1 v' E.length (byteVs E) ∧ Below w'.heap.size w' w'') :
    Calls Try.prog 22 #[.agg #[.slice ad l.length cap, .int .i64 s], msgAgg f t k ba bn (.slice a1 ntx c1) ha hr (.slice a2 nbs c2) (.slice a3 nps c3) sa sr (.slice a4 nd c4) ca cr (.slice a5 ncb c5) (.slice a6 ncp c6) (.slice a7 nvs c7) r] w fun e w' => ∃ v', e = .returned (.tuple #[.agg #[v', .int .i64 s], .int .i64 0]) ∧ RdB (fun b => w.heap.size ≤ b) w' v' (l ++ (byteZ ((E.length : Int) / 256) :: byteZ (E.length : Int) :: E)) ∧ Below w.heap.size w w' := by
  have hl4 : l.length ≤ 400000 := by unfold tapeOk at h; simp at h; omega
  have HC := Lib.hid hC
  have H := Lib.hid h
  have HE := Lib.hid hE
  clear hE
  clear hC h
  go_enter Try.func22, Try.ntmps22
  unfold msgAgg
  go_upto_region 1 with fail
  obtain ⟨w1, hw1⟩ : ∃ w1, w1 = ((w.alloc (.cells #[.slice ad l.length cap, .int .i64 s] 50)).alloc (.cells #[.int .i64 f, .int .i64 t, .int .i64 k, .int .i64 ba, .int .i64 bn, .slice a1 ntx c1, .int .i64 ha, .int .i64 hr, .slice a2 nbs c2, .slice a3 nps c3, .int .i64 sa, .int .i64 sr, .slice a4 nd c4, .int .i64 ca, .int .i64 cr, .slice a5 ncb c5, .slice a6 ncp c6, .slice a7 nvs c7, .int .i64 r] 35)).alloc (.cells #[.slice none 0 0, .int .i64 0] 50) := ⟨_, rfl⟩
  have hb1 : Below w.heap.size w w1 := by rw [hw1]; exact (((Below.refl _ _).alloc (Nat.le_refl _) _).alloc (by simp) _).alloc (by simp; omega) _
  have bT : BoxAt w1 w.heap.size [.slice ad l.length cap, .int .i64 s] 50 := by rw [hw1]; exact ((BoxAt.new w [_, _] _).alloc _).alloc _
  have bM : BoxAt w1 (w.heap.size + 1) [.int .i64 f, .int .i64 t, .int .i64 k, .int .i64 ba, .int .i64 bn, .slice a1 ntx c1, .int .i64 ha, .int .i64 hr, .slice a2 nbs c2, .slice a3 nps c3, .int .i64 sa, .int .i64 sr, .slice a4 nd c4, .int .i64 ca, .int .i64 cr, .slice a5 ncb c5, .slice a6 ncp c6, .slice a7 nvs c7, .int .i64 r] 35 := by rw [hw1]; exact (BoxAt.newAt (w.alloc _) [_, _, _, _, _, _, _, _, _, _, _, _, _, _, _, _, _, _, _] _ (by simp)).alloc _
  have bR : BoxAt w1 (w.heap.size + 2) [.slice none 0 0, .int .i64 0] 50 := by rw [hw1]; exact BoxAt.newAt _ [_, _] _ (by simp)
  have z1 : w1.heap.size = w.heap.size + 3 := by rw [hw1]; simp
  rw [← hw1]
  have HV1 := Lib.hid (hv.below hb1 (fun _ h => h))
  have HM := Lib.hid bM
  have HR := Lib.hid bR
  have HB := Lib.hid hb1
  have x0 := bT.cell 0 rfl
  have x1 := bT.cell 1 rfl
  clear hw1 hb1 bM bR hv bT
  go_wp2_with fail
  refine (topen_ok _ l s w1 HV1.out H.out).mono ?_
  rintro e w2 ⟨v2, rfl, hown, hb2⟩
  obtain ⟨ad2, cap2, rfl⟩ := ownsRow_form hown
  have HO := Lib.hid hown
  have z2 : w1.heap.size ≤ w2.heap.size := hb2.size
  have hg2 : ∀ k', (Value.slice ad2 l.length cap2).ownBlock = some k' → w1.heap.size ≤ k' ∧ k' < w2.heap.size := fun k' hk => hown.lt k' hk
  have HG2 := Lib.hid hg2
  replace HM := Lib.hid (HM.out.belowS hb2)
  replace HR := Lib.hid (HR.out.belowS hb2)
  replace HB := Lib.hid (HB.out.trans (hb2.mono (by omega)))
  clear hown hb2 x0 x1 HV1 hg2
  go_wp2_with (refine wpList_load_box rfl 35 _ rfl (w.heap.size + 1) rfl [.int .i64 f, .int .i64 t, .int .i64 k, .int .i64 ba, .int .i64 bn, .slice a1 ntx c1, .int .i64 ha, .int .i64 hr, .slice a2 nbs c2, .slice a3 nps c3, .int .i64 sa, .int .i64 sr, .slice a4 nd c4, .int .i64 ca, .int .i64 cr, .slice a5 ncb c5, .slice a6 ncp c6, .slice a7 nvs c7, .int .i64 r] 35 (HM.out.alloc _) Try.underlying35 rfl (by kernel_rfl) ?_)
  refine (HC.out _ (HB.out.alloc (by omega) _)).mono ?_
  rintro e w3 ⟨rfl, hb3⟩
  have z3 : w2.heap.size + 1 ≤ w3.heap.size := by have := hb3.size; simpa using this
  have hb23 : Below w2.heap.size w2 w3 := ((Below.refl _ _).alloc (Nat.le_refl _) _).trans (hb3.mono (by simp))
  have HX := Lib.hid ((BoxAt.new w2 [.slice ad2 l.length cap2, .int .i64 s] 50).belowS hb3)
  replace HM := Lib.hid (HM.out.belowS hb23)
  replace HR := Lib.hid (HR.out.belowS hb23)
  replace HB := Lib.hid (HB.out.trans (hb23.mono (by omega)))
  replace HO := Lib.hid (ownsRow_below HO.out hb23)
  clear hb3 hb23 HC
  go_wp2_with (refine wpList_load_box rfl 35 _ rfl (w.heap.size + 1) rfl [.int .i64 f, .int .i64 t, .int .i64 k, .int .i64 ba, .int .i64 bn, .slice a1 ntx c1, .int .i64 ha, .int .i64 hr, .slice a2 nbs c2, .slice a3 nps c3, .int .i64 sa, .int .i64 sr, .slice a4 nd c4, .int .i64 ca, .int .i64 cr, .slice a5 ncb c5, .slice a6 ncp c6, .slice a7 nvs c7, .int .i64 r] 35 HM.out Try.underlying35 rfl (by kernel_rfl) ?_)
  refine (HE.out w3 HB.out).mono ?_
  rintro e w4 ⟨vb, rfl, hown4, hb4⟩
  obtain ⟨ad4, cap4, rfl⟩ := ownsRow_form hown4
  have z4 : w3.heap.size ≤ w4.heap.size := hb4.size
  have HE4 := Lib.hid (RdS.of_owns (f := fun c : UInt8 => Value.int .u8 c.toNat) (G := fun b => w3.heap.size ≤ b) hown4 (fun _ h => h))
  replace HX := Lib.hid (HX.out.belowS hb4)
  replace HR := Lib.hid (HR.out.belowS hb4)
  replace HB := Lib.hid (HB.out.trans (hb4.mono (by omega)))
  replace HO := Lib.hid (ownsRow_below HO.out hb4)
  have y0 := HX.out.cell 0 rfl
  have y1 := HX.out.cell 1 rfl
  have zX := HX.out.lt
  have zR := HR.out.lt
  clear hown4 hb4 HE HM
  have lt1 : ¬ (400000 : Int) < (l.length : Int) + 2 + (E.length : Int) := by omega
  go_wp2_with (first
    | (at_builtin; refine wpList_append_at1 rfl _ _ 22 rfl elemB w1.heap.size _ rfl l.length (byteVs l) (by exact HO.out.alloc _) _ rfl 2 [.int .u8 ((E.length : Int) / 256), .int .u8 ((E.length : Int) % 256)] (by exact (BoxAt.new w4 [_, _] _).slCellsN rfl) (by simp [Value.oneCell']) (by decide) (by unfold maxLen; omega) (by omega) (by simp; omega) _ rfl ?_; intro g5 cap5 w5 hown5 hgr5 hat5 hlt5;
        have zs5 : w4.heap.size + 1 ≤ w5.heap.size := (by have := hgr5.size; simpa using this);
        have ng5 : g5 ≠ w2.heap.size ∧ g5 ≠ w.heap.size + 2 ∧ w1.heap.size ≤ g5 := (by rcases hat5 with h5 | h5; (have := HG2.out _ h5; omega); (simp at h5; omega));
        have hk5 : Keep (fun b => w3.heap.size ≤ b ∧ b < w4.heap.size) w4 w5 := (Keep.alloc _ _ _).trans (Keep.grown hgr5 (fun k' hk hb => by have := HG2.out _ hk; omega));
        have HE5 := Lib.hid ((HE4.out.low (by decide)).keep hk5 (fun _ h => h));
        have HX5 := Lib.hid ((HX.out.alloc _).grown hgr5 (fun hk => by have := HG2.out _ hk; omega));
        have HR5 := Lib.hid ((HR.out.alloc _).grown hgr5 (fun hk => by have := HG2.out _ hk; omega));
        have HB5 := Lib.hid ((HB.out.alloc (by omega) _).grown hgr5 (by simp; omega) (fun k' hk => by have := HG2.out _ hk; omega));
        have HO5 := Lib.hid hown5; clear hown5 hgr5 hat5 hk5)
    | (at_builtin; refine wpList_append_at1 rfl _ _ 22 rfl elemB w1.heap.size _ rfl (l.length + 2) (byteVs l ++ [.int .u8 ((E.length : Int) / 256), .int .u8 ((E.length : Int) % 256)]) (by exact HO5.out) _ rfl E.length (byteVs E) (by exact HE5.out.slCells) (oneCell_map _ _ (fun _ => rfl)) (by omega) (by unfold maxLen; omega) (by omega) (by omega) _ rfl ?_; intro g6 cap6 w6 hown6 hgr6 hat6 hlt6;
        have zs6 : w5.heap.size ≤ w6.heap.size := hgr6.size;
        have hne6 : ∀ k', (Value.slice (some ⟨g5, 0, none⟩) (l.length + 2) cap5).ownBlock = some k' → k' = g5 := (fun k' hk => by simp [Value.ownBlock] at hk; exact hk.symm);
        have HX6 := Lib.hid (HX5.out.grown hgr6 (fun hk => by have := hne6 _ hk; omega));
        have hR6 := HR5.out.grown hgr6 (fun hk => by have := hne6 _ hk; omega);
        have HB6 := Lib.hid (HB5.out.grown hgr6 (by omega) (fun k' hk => by have := hne6 _ hk; omega));
        have hx6 := HX6.out; have u0 := hx6.cell 0 rfl; have u1 := hx6.cell 1 rfl; have fu := hx6.free 0; have zx6 := hx6.lt;
        have f0 := hR6.free 0; have f1 := hR6.free 1; have q0 := hR6.cell 0 rfl; have q1 := hR6.cell 1 rfl; have zr6 := hR6.lt; have nRX : w.heap.size + 2 ≠ w2.heap.size := (by omega);
        have ng6 : g6 ≠ w2.heap.size ∧ g6 ≠ w.heap.size + 2 ∧ w1.heap.size ≤ g6 := (by rcases hat6 with h6 | h6; (have := hne6 _ h6; omega); omega);
        have HR6 := Lib.hid hR6; have HO6 := Lib.hid hown6; clear hown6 hgr6 hat6 hx6 hR6))
  have HY := Lib.hid (((HR6.out.setOther (p := ⟨w2.heap.size, 0, none⟩) (by simpa using nRX) (.slice (some ⟨g6, 0, none⟩) (l.length + 2 + E.length) cap6)).set 0 (.slice (some ⟨g6, 0, none⟩) (l.length + 2 + E.length) cap6)).set 1 (.int .i64 s))
  have g0 := HY.out.cell 0 rfl
  have g1 := HY.out.cell 1 rfl
  refine bodyPost_ret (v := .tuple #[.agg #[.slice (some ⟨g6, 0, none⟩) (l.length + 2 + E.length) cap6, .int .i64 s], .int .i64 0]) (by simp [results, Try.results22, go_sem, g0, g1]) rfl ⟨_, rfl, ?_, ?_⟩
  · have e256 : (E.length : Int) / 256 % 256 = (E.length : Int) / 256 := by omega
    have hrd := (RdS.of_owns (f := fun c : UInt8 => Value.int .u8 c.toNat) (G := fun _ => True) (l := l ++ (byteZ ((E.length : Int) / 256) :: byteZ (E.length : Int) :: E)) (n := l.length + 2 + E.length) (by have := HO6.out; simpa [byteVs, byteZ_toNat, e256] using this) (fun _ _ => trivial)).atBlock
    exact hrd.keep (((Keep.setCell (p := ⟨w2.heap.size, 0, none⟩) (by simp; omega) _).trans (Keep.setCell (p := ⟨w.heap.size + 2, 0, none⟩) (by simp; omega) _)).trans (Keep.setCell (p := ⟨w.heap.size + 2, 1, none⟩) (by simp; omega) _)) (fun b hb => by omega)
  · repeat (first | with_reducible exact HB6.out | with_reducible refine Below.setCell ?_ (by first | omega | (simp <;> omega)) _ | with_reducible refine Below.alloc ?_ (by first | omega | (simp <;> omega)) _)
end Go.Proofs.Ytegdpjoncjmdeaa
