/- tape.Append, taped: the tape's bytes are the call's own. -/
import Derived.Test.YtegdpjoncjmdeaaTaped
set_option linter.unusedVariables false
set_option linter.unusedSimpArgs false
attribute [local go_sem ↓] Go.wp_at_zero Go.wp_at_succ
namespace Go.Proofs.Ytegdpjoncjmdeaa
open Go Go.RowKit

theorem ownsRow_set {w : World} {base e size n : Nat} {v : Value} {xs : List Value} (h : w.ownsRow base e size v n xs) {p : Addr} (hp : ∀ k, v.ownBlock = some k → k ≠ p.block) (u : Value) : (w.setCell p u).ownsRow base e size v n xs := by
  obtain ⟨h1, h2⟩ := h
  refine ⟨h1, ?_⟩
  rcases h2 with h2 | ⟨g, cap, cur, hv, hg, hh, r⟩
  · exact Or.inl h2
  · refine Or.inr ⟨g, cap, cur, hv, hg, ?_, r⟩
    subst hv
    rw [Below.heap_setCell w p u g (hp g (by simp [Value.ownBlock]))]; exact hh
set_option maxRecDepth 100000 in
set_option maxHeartbeats 8000000 in
theorem tapp_own {G : Nat → Prop} (f t k ba bn : Int) (a1 : Option Addr) (ntx c1 : Nat) (ha hr : Int) (a2 : Option Addr) (nbs c2 : Nat) (a3 : Option Addr) (nps c3 : Nat) (sa sr : Int) (a4 : Option Addr) (nd c4 : Nat) (ca cr : Int) (a5 : Option Addr) (ncb c5 : Nat) (a6 : Option Addr) (ncp c6 : Nat) (a7 : Option Addr) (nvs c7 : Nat) (r : Int) (ad : Option Addr) (cap : Nat) (s : Int) (l E : Bytes) (w : World) (hv : RdB G w (.slice ad l.length cap) l) (h : tapeOk l.length s = true) (hE0 : 0 < E.length) (hE3 : E.length ≤ 300) (hlen : l.length + 2 + E.length ≤ 400000)
    (hC : ∀ w', Below w.heap.size w w' → Calls Try.prog 21 #[msgAgg f t k ba bn (.slice a1 ntx c1) ha hr (.slice a2 nbs c2) (.slice a3 nps c3) sa sr (.slice a4 nd c4) ca cr (.slice a5 ncb c5) (.slice a6 ncp c6) (.slice a7 nvs c7) r] w' fun e w'' => e = .returned (.int .i64 0) ∧ Below w'.heap.size w' w'')
    (hE : ∀ w', Below w.heap.size w w' → Calls Try.prog 16 #[msgAgg f t k ba bn (.slice a1 ntx c1) ha hr (.slice a2 nbs c2) (.slice a3 nps c3) sa sr (.slice a4 nd c4) ca cr (.slice a5 ncb c5) (.slice a6 ncp c6) (.slice a7 nvs c7) r] w' fun e w'' => ∃ v', e = .returned (.tuple #[v', .int .i64 0]) ∧ w''.ownsRow w'.heap.size 5 1 v' E.length (byteVs E) ∧ Below w'.heap.size w' w'') :
    Calls Try.prog 22 #[.agg #[.slice ad l.length cap, .int .i64 s], msgAgg f t k ba bn (.slice a1 ntx c1) ha hr (.slice a2 nbs c2) (.slice a3 nps c3) sa sr (.slice a4 nd c4) ca cr (.slice a5 ncb c5) (.slice a6 ncp c6) (.slice a7 nvs c7) r] w fun e w' => ∃ v', e = .returned (.tuple #[.agg #[v', .int .i64 s], .int .i64 0]) ∧ w'.ownsRow w.heap.size 5 1 v' (l.length + 2 + E.length) (byteVs (l ++ (byteZ ((E.length : Int) / 256) :: byteZ (E.length : Int) :: E))) ∧ Below w.heap.size w w' := by
  have hl4 : l.length ≤ 400000 := by unfold tapeOk at h; simp at h; omega
  have HC := Lib.hid hC
  have H := Lib.hid h
  have HE := Lib.hid hE
  clear hE
  clear hC h
  go_enter Try.func22, Try.ntmps22
  unfold msgAgg
  go_upto_region 1 with fail
  obtain ⟨w1, hw1⟩ : ∃ w1, w1 = ((w.alloc (.cells #[.slice ad l.length cap, .int .i64 s] 50)).alloc (.cells #[.int .i64 f, .int .i64 t, .int .i64 k, .int .i64 ba, .int .i64 bn, .slice a1 ntx c1, .int .i64 ha, .int .i64 hr, .slice a2 nbs c2, .slice a3 nps c3, .int .i64 sa, .int .i64 sr, .slice a4 nd c4, .int .i64 ca, .int .i64 cr, .slice a5 ncb c5, .slice a6 ncp c6, .slice a7 nvs c7, .int .i64 r] 35)).alloc (.cells #[.slice none 0 0, .int .i64 0] 50) := ⟨_, rfl⟩
  have hb1 : Below w.heap.size w w1 := by rw [hw1]; exact (((Below.refl _ _).alloc (Nat.le_refl _) _).alloc (by simp) _).alloc (by simp; omega) _
  have bT : BoxAt w1 w.heap.size [.slice ad l.length cap, .int .i64 s] 50 := by rw [hw1]; exact ((BoxAt.new w [_, _] _).alloc _).alloc _
  have bM : BoxAt w1 (w.heap.size + 1) [.int .i64 f, .int .i64 t, .int .i64 k, .int .i64 ba, .int .i64 bn, .slice a1 ntx c1, .int .i64 ha, .int .i64 hr, .slice a2 nbs c2, .slice a3 nps c3, .int .i64 sa, .int .i64 sr, .slice a4 nd c4, .int .i64 ca, .int .i64 cr, .slice a5 ncb c5, .slice a6 ncp c6, .slice a7 nvs c7, .int .i64 r] 35 := by rw [hw1]; exact (BoxAt.newAt (w.alloc _) [_, _, _, _, _, _, _, _, _, _, _, _, _, _, _, _, _, _, _] _ (by simp)).alloc _
  have bR : BoxAt w1 (w.heap.size + 2) [.slice none 0 0, .int .i64 0] 50 := by rw [hw1]; exact BoxAt.newAt _ [_, _] _ (by simp)
  have z1 : w1.heap.size = w.heap.size + 3 := by rw [hw1]; simp
  rw [← hw1]
  have HV1 := Lib.hid (hv.below hb1 (fun _ h => h))
  have HM := Lib.hid bM
  have HR := Lib.hid bR
  have HB := Lib.hid hb1
  have x0 := bT.cell 0 rfl
  have x1 := bT.cell 1 rfl
  clear hw1 hb1 bM bR hv bT
  go_wp2_with fail
  refine (topen_ok _ l s w1 HV1.out H.out).mono ?_
  rintro e w2 ⟨v2, rfl, hown, hb2⟩
  obtain ⟨ad2, cap2, rfl⟩ := ownsRow_form hown
  have HO := Lib.hid hown
  have z2 : w1.heap.size ≤ w2.heap.size := hb2.size
  have hg2 : ∀ k', (Value.slice ad2 l.length cap2).ownBlock = some k' → w1.heap.size ≤ k' ∧ k' < w2.heap.size := fun k' hk => hown.lt k' hk
  have HG2 := Lib.hid hg2
  replace HM := Lib.hid (HM.out.belowS hb2)
  replace HR := Lib.hid (HR.out.belowS hb2)
  replace HB := Lib.hid (HB.out.trans (hb2.mono (by omega)))
  clear hown hb2 x0 x1 HV1 hg2
  go_wp2_with (refine wpList_load_box rfl 35 _ rfl (w.heap.size + 1) rfl [.int .i64 f, .int .i64 t, .int .i64 k, .int .i64 ba, .int .i64 bn, .slice a1 ntx c1, .int .i64 ha, .int .i64 hr, .slice a2 nbs c2, .slice a3 nps c3, .int .i64 sa, .int .i64 sr, .slice a4 nd c4, .int .i64 ca, .int .i64 cr, .slice a5 ncb c5, .slice a6 ncp c6, .slice a7 nvs c7, .int .i64 r] 35 (HM.out.alloc _) Try.underlying35 rfl (by kernel_rfl) ?_)
  refine (HC.out _ (HB.out.alloc (by omega) _)).mono ?_
  rintro e w3 ⟨rfl, hb3⟩
  have z3 : w2.heap.size + 1 ≤ w3.heap.size := by have := hb3.size; simpa using this
  have hb23 : Below w2.heap.size w2 w3 := ((Below.refl _ _).alloc (Nat.le_refl _) _).trans (hb3.mono (by simp))
  have HX := Lib.hid ((BoxAt.new w2 [.slice ad2 l.length cap2, .int .i64 s] 50).belowS hb3)
  replace HM := Lib.hid (HM.out.belowS hb23)
  replace HR := Lib.hid (HR.out.belowS hb23)
  replace HB := Lib.hid (HB.out.trans (hb23.mono (by omega)))
  replace HO := Lib.hid (ownsRow_below HO.out hb23)
  clear hb3 hb23 HC
  go_wp2_with (refine wpList_load_box rfl 35 _ rfl (w.heap.size + 1) rfl [.int .i64 f, .int .i64 t, .int .i64 k, .int .i64 ba, .int .i64 bn, .slice a1 ntx c1, .int .i64 ha, .int .i64 hr, .slice a2 nbs c2, .slice a3 nps c3, .int .i64 sa, .int .i64 sr, .slice a4 nd c4, .int .i64 ca, .int .i64 cr, .slice a5 ncb c5, .slice a6 ncp c6, .slice a7 nvs c7, .int .i64 r] 35 HM.out Try.underlying35 rfl (by kernel_rfl) ?_)
  refine (HE.out w3 HB.out).mono ?_
  rintro e w4 ⟨vb, rfl, hown4, hb4⟩
  obtain ⟨ad4, cap4, rfl⟩ := ownsRow_form hown4
  have z4 : w3.heap.size ≤ w4.heap.size := hb4.size
  have HE4 := Lib.hid (RdS.of_owns (f := fun c : UInt8 => Value.int .u8 c.toNat) (G := fun b => w3.heap.size ≤ b) hown4 (fun _ h => h))
  replace HX := Lib.hid (HX.out.belowS hb4)
  replace HR := Lib.hid (HR.out.belowS hb4)
  replace HB := Lib.hid (HB.out.trans (hb4.mono (by omega)))
  replace HO := Lib.hid (ownsRow_below HO.out hb4)
  have y0 := HX.out.cell 0 rfl
  have y1 := HX.out.cell 1 rfl
  have zX := HX.out.lt
  have zR := HR.out.lt
  clear hown4 hb4 HE HM
  have lt1 : ¬ (400000 : Int) < (l.length : Int) + 2 + (E.length : Int) := by omega
  go_wp2_with (first
    | (at_builtin; refine wpList_append_at1 rfl _ _ 22 rfl elemB w1.heap.size _ rfl l.length (byteVs l) (by exact HO.out.alloc _) _ rfl 2 [.int .u8 ((E.length : Int) / 256), .int .u8 ((E.length : Int) % 256)] (by exact (BoxAt.new w4 [_, _] _).slCellsN rfl) (by simp [Value.oneCell']) (by decide) (by unfold maxLen; omega) (by omega) (by simp; omega) _ rfl ?_; intro g5 cap5 w5 hown5 hgr5 hat5 hlt5;
        have zs5 : w4.heap.size + 1 ≤ w5.heap.size := (by have := hgr5.size; simpa using this);
        have ng5 : g5 ≠ w2.heap.size ∧ g5 ≠ w.heap.size + 2 ∧ w1.heap.size ≤ g5 := (by rcases hat5 with h5 | h5; (have := HG2.out _ h5; omega); (simp at h5; omega));
        have hk5 : Keep (fun b => w3.heap.size ≤ b ∧ b < w4.heap.size) w4 w5 := (Keep.alloc _ _ _).trans (Keep.grown hgr5 (fun k' hk hb => by have := HG2.out _ hk; omega));
        have HE5 := Lib.hid ((HE4.out.low (by decide)).keep hk5 (fun _ h => h));
        have HX5 := Lib.hid ((HX.out.alloc _).grown hgr5 (fun hk => by have := HG2.out _ hk; omega));
        have HR5 := Lib.hid ((HR.out.alloc _).grown hgr5 (fun hk => by have := HG2.out _ hk; omega));
        have HB5 := Lib.hid ((HB.out.alloc (by omega) _).grown hgr5 (by simp; omega) (fun k' hk => by have := HG2.out _ hk; omega));
        have HO5 := Lib.hid hown5; clear hown5 hgr5 hat5 hk5)
    | (at_builtin; refine wpList_append_at1 rfl _ _ 22 rfl elemB w1.heap.size _ rfl (l.length + 2) (byteVs l ++ [.int .u8 ((E.length : Int) / 256), .int .u8 ((E.length : Int) % 256)]) (by exact HO5.out) _ rfl E.length (byteVs E) (by exact HE5.out.slCells) (oneCell_map _ _ (fun _ => rfl)) (by omega) (by unfold maxLen; omega) (by omega) (by omega) _ rfl ?_; intro g6 cap6 w6 hown6 hgr6 hat6 hlt6;
        have zs6 : w5.heap.size ≤ w6.heap.size := hgr6.size;
        have hne6 : ∀ k', (Value.slice (some ⟨g5, 0, none⟩) (l.length + 2) cap5).ownBlock = some k' → k' = g5 := (fun k' hk => by simp [Value.ownBlock] at hk; exact hk.symm);
        have HX6 := Lib.hid (HX5.out.grown hgr6 (fun hk => by have := hne6 _ hk; omega));
        have hR6 := HR5.out.grown hgr6 (fun hk => by have := hne6 _ hk; omega);
        have HB6 := Lib.hid (HB5.out.grown hgr6 (by omega) (fun k' hk => by have := hne6 _ hk; omega));
        have hx6 := HX6.out; have u0 := hx6.cell 0 rfl; have u1 := hx6.cell 1 rfl; have fu := hx6.free 0; have zx6 := hx6.lt;
        have f0 := hR6.free 0; have f1 := hR6.free 1; have q0 := hR6.cell 0 rfl; have q1 := hR6.cell 1 rfl; have zr6 := hR6.lt; have nRX : w.heap.size + 2 ≠ w2.heap.size := (by omega);
        have ng6 : g6 ≠ w2.heap.size ∧ g6 ≠ w.heap.size + 2 ∧ w1.heap.size ≤ g6 := (by rcases hat6 with h6 | h6; (have := hne6 _ h6; omega); omega);
        have HR6 := Lib.hid hR6; have HO6 := Lib.hid hown6; clear hown6 hgr6 hat6 hx6 hR6))
  have HY := Lib.hid (((HR6.out.setOther (p := ⟨w2.heap.size, 0, none⟩) (by simpa using nRX) (.slice (some ⟨g6, 0, none⟩) (l.length + 2 + E.length) cap6)).set 0 (.slice (some ⟨g6, 0, none⟩) (l.length + 2 + E.length) cap6)).set 1 (.int .i64 s))
  have g0 := HY.out.cell 0 rfl
  have g1 := HY.out.cell 1 rfl
  refine bodyPost_ret (v := .tuple #[.agg #[.slice (some ⟨g6, 0, none⟩) (l.length + 2 + E.length) cap6, .int .i64 s], .int .i64 0]) (by simp [results, Try.results22, go_sem, g0, g1]) rfl ⟨_, rfl, ?_, ?_⟩
  · have e256 : (E.length : Int) / 256 % 256 = (E.length : Int) / 256 := by omega
    have ho : w6.ownsRow w.heap.size 5 1 (.slice (some ⟨g6, 0, none⟩) (l.length + 2 + E.length) cap6) (l.length + 2 + E.length) (byteVs (l ++ (byteZ ((E.length : Int) / 256) :: byteZ (E.length : Int) :: E))) := ownsRow_mono (base := w1.heap.size) (by have := HO6.out; simpa [byteVs, byteZ_toNat, e256] using this) (by omega)
    exact ownsRow_set (ownsRow_set (ownsRow_set ho (p := ⟨w2.heap.size, 0, none⟩) (fun k' hk => by simp [Value.ownBlock] at hk; subst hk; exact ng6.1) _) (p := ⟨w.heap.size + 2, 0, none⟩) (fun k' hk => by simp [Value.ownBlock] at hk; subst hk; exact ng6.2.1) _) (p := ⟨w.heap.size + 2, 1, none⟩) (fun k' hk => by simp [Value.ownBlock] at hk; subst hk; exact ng6.2.1) _
  · repeat (first | with_reducible exact HB6.out | with_reducible refine Below.setCell ?_ (by first | omega | (simp <;> omega)) _ | with_reducible refine Below.alloc ?_ (by first | omega | (simp <;> omega)) _)
theorem tappend_own {G G' : Nat → Prop} (m : Msg) (v : MV) (vt : Value) (l : Bytes) (s : Int) (w : World) (h : RdM G w v m) (hv : RdB G' w vt l) (ht : tapeOk l.length s = true) (hr : recCode m = 0) (hlen : l.length + (frmL m).length ≤ 400000) :
    Calls Try.prog 22 #[.agg #[vt, .int .i64 s], .agg (msgCells m v).toArray] w fun e w' => ∃ v', e = .returned (.tuple #[.agg #[v', .int .i64 s], .int .i64 0]) ∧ w'.ownsRow w.heap.size 5 1 v' (l.length + (frmL m).length) (byteVs (l ++ frmL m)) ∧ Below w.heap.size w w' := by
  have h0 := (recCode_iff hr).1
  have ok := msgOk_code h0
  have hC : ∀ w', Below w.heap.size w w' → Calls Try.prog 21 #[.agg (msgCells m v).toArray] w' fun e w'' => e = .returned (.int .i64 0) ∧ Below w'.heap.size w' w'' := fun w' hb => by
    have := tcheck_any m v w' (h.below hb (fun _ h => h)) ok
    rwa [hr] at this
  have hE : ∀ w', Below w.heap.size w w' → Calls Try.prog 16 #[.agg (msgCells m v).toArray] w' fun e w'' => ∃ v', e = .returned (.tuple #[v', .int .i64 0]) ∧ w''.ownsRow w'.heap.size 5 1 v' (encL m).length (byteVs (encL m)) ∧ Below w'.heap.size w' w'' := fun w' hb =>
    wencode_ok m v w' (h.below hb (fun _ h => h)) ok h0
  have hE3 := encL_len h0
  have hF : frmL m = byteZ (((encL m).length : Int) / 256) :: byteZ ((encL m).length : Int) :: encL m := rfl
  have hFl := frm_len m
  rw [hF]
  rw [hFl] at hlen
  generalize encL m = E at *
  obtain ⟨ad, cap, rfl, -, -⟩ := hv.form
  obtain ⟨f, t, k, ⟨ba, bn, txs⟩, ⟨ha, hr', bs, ps⟩, ⟨sa, sr, sd⟩, ⟨⟨ca, cr, cb, cp⟩, vs⟩, r⟩ := m
  obtain ⟨x1, x2, x3, x4, x5, x6, x7⟩ := v
  obtain ⟨h1, h2, h3, h4, h5, h6, h7⟩ := h
  obtain ⟨a1, c1, rfl, -, -⟩ := h1.form
  obtain ⟨a2, c2, rfl, -, -⟩ := h2.form
  obtain ⟨a3, c3, rfl, -, -⟩ := h3.form
  obtain ⟨a4, c4, rfl, -, -⟩ := h4.form
  obtain ⟨a5, c5, rfl, -, -⟩ := h5.form
  obtain ⟨a6, c6, rfl, -, -⟩ := h6.form
  obtain ⟨a7, c7, rfl, -, -⟩ := h7.form
  simp only [List.length_cons]
  rw [show l.length + (E.length + 1 + 1) = l.length + 2 + E.length by omega]
  exact tapp_own f t k ba bn a1 _ c1 ha hr' a2 _ c2 a3 _ c3 sa sr a4 _ c4 ca cr a5 _ c5 a6 _ c6 a7 _ c7 r ad cap s l E w hv ht (by omega) hE3.2 (by omega) hC hE
set_option maxRecDepth 100000 in
set_option maxHeartbeats 8000000 in
theorem taped_own {G : Nat → Prop} {ms : List Msg} (v : Value) (w : World) (h : RdS RMsg G w v ms) (hok : ∀ m ∈ ms, recCode m = 0) (hlen : ms.length ≤ 1000) :
    Calls Try.prog 24 #[v] w fun e w' => ∃ v', e = .returned (.tuple #[.agg #[v', .int .i64 0], .bool true]) ∧ w'.ownsRow w.heap.size 5 1 v' (tapeB ms).length (byteVs (tapeB ms)) ∧ Below w.heap.size w w' := by
  obtain ⟨adv, capv, rfl, hcv, hcm⟩ := h.form
  unfold maxLen at hcm
  have HV := Lib.hid h
  have HOK := Lib.hid hok
  clear h hok
  go_enter Try.func24, Try.ntmps24
  go_wp2_with fail
  go_loopw [5] (fun i wr => ∃ (k : Nat) (vT : Value), k ≤ ms.length ∧ i = .int .i64 k ∧ BoxAt wr w.heap.size [.slice none 0 0, .int .i64 0] 50 ∧ BoxAt wr (w.heap.size + 1) [vT, .int .i64 0] 50 ∧ wr.ownsRow (w.heap.size + 2) 5 1 vT (tapeB (ms.take k)).length (byteVs (tapeB (ms.take k))) ∧ Below w.heap.size w wr) (fun i _ => ms.length - (intOf i).toNat)
  case atStart => exact ⟨0, .slice none 0 0, Nat.zero_le _, rfl, (BoxAt.new w [_, _] _).alloc _, BoxAt.newAt _ [_, _] _ (by simp), World.ownsRow_nil _ _ _ _, ((Below.refl _ _).alloc (Nat.le_refl _) _).alloc (by simp) _⟩
  case round =>
    obtain ⟨k, vT, hk, rfl, hR, hT, howT, hB⟩ := hrel
    have hrd : RdB (fun b => w.heap.size + 2 ≤ b) wr vT (tapeB (ms.take k)) := RdS.of_owns (f := fun c : UInt8 => Value.int .u8 c.toNat) howT (fun _ h => h)
    have HOW := Lib.hid howT
    clear howT
    have hz := hT.lt
    have HBr := Lib.hid hB
    have HR := Lib.hid hR
    have HT := Lib.hid hT
    have HD := Lib.hid hrd
    obtain ⟨adT, capT, rfl, -, -⟩ := hrd.form
    by_cases hlt : k < ms.length
    · have i0 : (0 : Int) ≤ (k : Int) := by omega
      have i1 : (k : Int) < (ms.length : Int) := by omega
      obtain ⟨bm, om, mv, rfl, -, hcm', hrm⟩ := (HV.out.below hB (fun _ h => h)).msg k hlt
      have hrc := HOK.out ms[k] (List.getElem_mem hlt)
      have hTk : tapeB (ms.take (k + 1)) = tapeB (ms.take k) ++ frmL ms[k] := by rw [List.take_succ_eq_append_getElem hlt, tapeB_app, tapeB_one]
      have hl1 := (tapeB_len (ms.take k) (fun m hm => HOK.out m (List.mem_of_mem_take hm))).1
      have hl2 := encL_len (recCode_iff hrc).1
      have hfl := frm_len ms[k]
      have hlk : (ms.take k).length = k := by rw [List.length_take]; omega
      rw [hlk] at hl1
      generalize ms[k] = M at *
      generalize tapeB (ms.take k) = L at *
      obtain ⟨N, hN0⟩ : ∃ N, N = L ++ frmL M := ⟨_, rfl⟩
      rw [← hN0] at hTk
      have lN : N.length = L.length + (frmL M).length := by rw [hN0]; simp
      have lt2 : ¬ (N.length : Int) ≤ (L.length : Int) := by omega
      have HLE := Lib.hid (show L.length + (frmL M).length ≤ 400000 by omega)
      have HNL := Lib.hid hN0
      have HLN := Lib.hid lN
      clear hN0 lN hfl hl2
      have HTK := Lib.hid hTk
      have HRM := Lib.hid hrm
      have HRC := Lib.hid hrc
      have x0 := hT.cell 0 rfl
      have x1 := hT.cell 1 rfl
      have rm : wr.rangeAt bm (om + k * 19) (msgCells M mv) := fun j v hv => by rw [Nat.add_assoc]; exact hcm' j v hv
      clear hcm' hrm hB hR hT hrd hTk hrc
      have zm : bm < wr.heap.size := World.block_lt_of_cell? wr _ (rm 0 _ rfl)
      have HTO := Lib.hid (show tapeOk L.length 0 = true by unfold tapeOk; simp; omega)
      go_upto_region 5 with fail
      refine wp_region_held_drew (S := fun w' => Below wr.heap.size wr w') (by kernel_rfl) (by exact (Below.refl _ _).drew) (fun hHeld => ?_)
      refine wpAnyH_take (i := 0) (v := .agg #[.slice adT L.length capT, .int .i64 0]) rfl (by kernel_rfl) (by kernel_rfl) (by kernel_rfl) (fun _ _ _ h => h) (Or.inl ⟨by rfl, fun w hSw => ?_⟩) hHeld ?_
      · have q := (bcellAt hSw _ hz).1; have q0 := (q 0).trans x0; have q1 := (q 1).trans x1; clear hSw q; go_simp
      try simp only [Act.put, List.getElem_toArray, List.getElem_cons_succ, List.getElem_cons_zero, List.setIfInBounds_toArray, List.set_cons_zero, List.set_cons_succ]
      refine wpAnyH_take (i := 1) (v := .slice (some ⟨bm, om, none⟩) ms.length capv) rfl (by kernel_rfl) (by kernel_rfl) (by kernel_rfl) (fun _ _ _ h => h) (Or.inl ⟨by rfl, fun w hSw => ?_⟩) hHeld ?_
      · (try dsimp only at hSw); go_split_ands; go_simp; all_goals (try first | rfl | omega)
      try simp only [Act.put, List.getElem_toArray, List.getElem_cons_succ, List.getElem_cons_zero, List.setIfInBounds_toArray, List.set_cons_zero, List.set_cons_succ]
      refine wpAnyH_take (i := 2) (v := .int .i64 (k : Int)) rfl (by kernel_rfl) (by kernel_rfl) (by kernel_rfl) (fun _ _ _ h => h) (Or.inl ⟨by rfl, fun w hSw => ?_⟩) hHeld ?_
      · (try dsimp only at hSw); go_split_ands; go_simp; all_goals (try first | rfl | omega)
      try simp only [Act.put, List.getElem_toArray, List.getElem_cons_succ, List.getElem_cons_zero, List.setIfInBounds_toArray, List.set_cons_zero, List.set_cons_succ]
      refine wpAnyH_take (i := 3) (v := .pointer (some ⟨bm, om + k * 19, none⟩)) rfl (by kernel_rfl) (by kernel_rfl) (by kernel_rfl) (fun _ _ _ h => h) (Or.inl ⟨by rfl, fun w hSw => ?_⟩) hHeld ?_
      · (try dsimp only at hSw); go_split_ands; go_simp; all_goals (try first | rfl | omega)
      try simp only [Act.put, List.getElem_toArray, List.getElem_cons_succ, List.getElem_cons_zero, List.setIfInBounds_toArray, List.set_cons_zero, List.set_cons_succ]
      refine wpAnyH_take (i := 4) (v := .agg (msgCells M mv).toArray) rfl (by kernel_rfl) (by kernel_rfl) (by kernel_rfl) (fun _ _ _ h => h) (yieldsIf_load_mid (by rfl) 35 _ rfl bm (om + k * 19) rfl (msgCells M mv) _ (fun w hSw => fun j v hv => by rw [(bcellAt hSw _ zm).1]; exact rm j v hv) Try.underlying35 rfl (by kernel_rfl)) hHeld ?_
      try simp only [Act.put, List.getElem_toArray, List.getElem_cons_succ, List.getElem_cons_zero, List.setIfInBounds_toArray, List.set_cons_zero, List.set_cons_succ]
      refine wpAnyH_ready (rs := [5, 9]) (by kernel_rfl) (by simp) ?_
      refine AllReadyH.cons rfl (fun K hK => ?_) ?_
      · rw [if_pos (by rfl)]
        go_simp
        go_at_call 22
        refine (tappend_own M mv _ L 0 _ (HRM.out.below (by repeat (first | with_reducible exact Below.refl _ _ | with_reducible refine Below.drew ?_ | with_reducible refine Below.setCell ?_ (by first | omega | (simp <;> omega)) _ | with_reducible refine Below.alloc ?_ (by first | omega | (simp <;> omega)) _)) (fun _ h => h)) (HD.out.below (by repeat (first | with_reducible exact Below.refl _ _ | with_reducible refine Below.drew ?_ | with_reducible refine Below.setCell ?_ (by first | omega | (simp <;> omega)) _ | with_reducible refine Below.alloc ?_ (by first | omega | (simp <;> omega)) _)) (fun _ h => h)) HTO.out HRC.out HLE.out).mono ?_
        rintro e w2 ⟨vN, rfl, hN, hb2⟩
        rw [← HNL.out, ← HLN.out] at hN
        obtain ⟨adN, capN, rfl⟩ := ownsRow_form hN
        have hB2 : Below wr.heap.size wr w2 := Below.trans (by repeat (first | with_reducible exact Below.refl _ _ | with_reducible refine Below.drew ?_ | with_reducible refine Below.setCell ?_ (by first | omega | (simp <;> omega)) _ | with_reducible refine Below.alloc ?_ (by first | omega | (simp <;> omega)) _)) (hb2.mono (by simp))
        have z2 := hB2.size
        (try have HX2 := Lib.hid ((BoxAt.newAt (n := wr.heap.size) wr.drew [.slice none 0 0, .int .i64 0] 50 rfl).belowS hb2))
        (try have x20 := HX2.out.cell 0 rfl)
        (try have x21 := HX2.out.cell 1 rfl)
        (try have fx0 := HX2.out.free 0)
        (try have fx1 := HX2.out.free 1)
        (try have zx2 := HX2.out.lt)
        have HNE := Lib.hid (show ∀ k', (Value.slice adN N.length capN).ownBlock = some k' → k' ≠ w.heap.size + 1 from fun k' hk => by have h1 := (hN.lt k' hk).1; have h0 : wr.drew.heap.size = wr.heap.size := rfl; first | omega | (simp at h1; omega)); (try have HNF := Lib.hid (show ∀ k', (Value.slice adN N.length capN).ownBlock = some k' → k' ≠ wr.heap.size from fun k' hk => by have h1 := (hN.lt k' hk).1; simp at h1; omega)); have HN2 := Lib.hid (ownsRow_mono (base' := wr.heap.size) hN (by first | exact Nat.le_refl _ | (simp; done) | (simp; omega)))
        have HT2 := Lib.hid (HT.out.belowS hB2)
        have HR2 := Lib.hid (HR.out.belowS hB2)
        have t0 := HT2.out.cell 0 rfl
        have t1 := HT2.out.cell 1 rfl
        have f0 := HT2.out.free 0
        have f1 := HT2.out.free 1
        have nX : wr.heap.size ≠ w.heap.size + 1 := by omega
        have zT2 := HT2.out.lt
        have nX2 : w2.heap.size ≠ w.heap.size + 1 := by omega
        have HB2 := Lib.hid hB2
        clear hN hb2 hB2
        show K _ _
        refine hK.out _ _ (by exact HB2.out) (fun hHeld => ?_)
        clear hK K
        try simp only [Act.put, List.getElem_toArray, List.getElem_cons_succ, List.getElem_cons_zero, List.setIfInBounds_toArray, List.set_cons_zero, List.set_cons_succ]
        refine wpAnyH_take (i := 6) (v := .tuple #[.agg #[.slice adN N.length capN, .int .i64 0], .int .i64 0]) rfl (by kernel_rfl) (by kernel_rfl) (by kernel_rfl) (fun _ _ _ h => h) (Or.inl ⟨by rfl, fun w hSw => ?_⟩) hHeld ?_
        · (try dsimp only at hSw); go_split_ands; go_simp; all_goals (try first | rfl | omega)
        try simp only [Act.put, List.getElem_toArray, List.getElem_cons_succ, List.getElem_cons_zero, List.setIfInBounds_toArray, List.set_cons_zero, List.set_cons_succ]
        refine wpAnyH_take (i := 7) (v := .agg #[.slice adN N.length capN, .int .i64 0]) rfl (by kernel_rfl) (by kernel_rfl) (by kernel_rfl) (fun _ _ _ h => h) (Or.inl ⟨by rfl, fun w hSw => ?_⟩) hHeld ?_
        · (try dsimp only at hSw); go_split_ands; go_simp; all_goals (try first | rfl | omega)
        try simp only [Act.put, List.getElem_toArray, List.getElem_cons_succ, List.getElem_cons_zero, List.setIfInBounds_toArray, List.set_cons_zero, List.set_cons_succ]
        refine wpAnyH_take (i := 8) (v := .int .i64 0) rfl (by kernel_rfl) (by kernel_rfl) (by kernel_rfl) (fun _ _ _ h => h) (Or.inl ⟨by rfl, fun w hSw => ?_⟩) hHeld ?_
        · (try dsimp only at hSw); go_split_ands; go_simp; all_goals (try first | rfl | omega)
        try simp only [Act.put, List.getElem_toArray, List.getElem_cons_succ, List.getElem_cons_zero, List.setIfInBounds_toArray, List.set_cons_zero, List.set_cons_succ]
        refine wpAnyH_ready (rs := [9]) (by kernel_rfl) (by simp) ?_
        refine AllReadyH.cons rfl (fun K hK => ?_) ?_
        · rw [if_pos (by rfl)]
          go_simp
          show K _ _
          refine hK.out _ _ (by first | exact (HB2.out.alloc HB2.out.size _) | exact ((Below.refl _ _).drew.alloc (Nat.le_refl _) _)) (fun hHeld => ?_)
          clear hK K
          try simp only [Act.put, List.getElem_toArray, List.getElem_cons_succ, List.getElem_cons_zero, List.setIfInBounds_toArray, List.set_cons_zero, List.set_cons_succ]
          refine wpAnyH_ready (rs := [10]) (by kernel_rfl) (by simp) ?_
          refine AllReadyH.cons rfl (fun K hK => ?_) ?_
          · rw [if_pos (by rfl)]
            go_simp
            show K _ _
            refine hK.out _ _ (by exact (by repeat (first | with_reducible exact HB2.out | with_reducible exact Below.refl _ _ | with_reducible refine Below.drew ?_ | with_reducible refine Below.setCell ?_ (by first | omega | (simp <;> omega)) _ | with_reducible refine Below.alloc ?_ (by first | omega | (simp <;> omega)) _))) (fun hHeld => ?_)
            clear hK K
            try simp only [Act.put, List.getElem_toArray, List.getElem_cons_succ, List.getElem_cons_zero, List.setIfInBounds_toArray, List.set_cons_zero, List.set_cons_succ]
            refine wpAnyH_take (i := 11) (v := .int .i64 0) rfl (by kernel_rfl) (by kernel_rfl) (by kernel_rfl) (fun _ _ _ h => h) (Or.inl ⟨by rfl, fun w hSw => ?_⟩) hHeld ?_
            · (try dsimp only at hSw); go_split_ands; go_simp; all_goals (try first | rfl | omega)
            try simp only [Act.put, List.getElem_toArray, List.getElem_cons_succ, List.getElem_cons_zero, List.setIfInBounds_toArray, List.set_cons_zero, List.set_cons_succ]
            refine wpAnyH_done (by kernel_rfl) ?_ _
            go_wp2
            go_roundw
            case rel =>
              refine ⟨k + 1, .slice adN N.length capN, by omega, by go_num, (by repeat (first | with_reducible exact HR2.out | with_reducible refine BoxAt.drew ?_ | with_reducible refine BoxAt.alloc ?_ _ | with_reducible refine BoxAt.setOther ?_ (by first | omega | (simp <;> omega)) _)), ?_, ?_, ?_⟩
              · first | exact (HT2.out.set2 _ _).alloc _ | exact BoxAt.set2 (by repeat (first | with_reducible exact HT2.out | with_reducible refine BoxAt.drew ?_ | with_reducible refine BoxAt.alloc ?_ _ | with_reducible refine BoxAt.setOther ?_ (by first | omega | (simp <;> omega)) _)) _ _
              · rw [HTK.out]; exact ownsRow_mono (base := wr.heap.size) (by repeat (first | with_reducible exact HN2.out | with_reducible refine World.ownsRow.alloc ?_ _ | with_reducible refine ownsRow_set ?_ (fun k' hk => by first | exact HNE.out k' hk | exact HNF.out k' hk) _)) (by first | omega | (simp; omega))
              · exact (by repeat (first | with_reducible exact (HBr.out.trans (HB2.out.mono HBr.out.size)) | with_reducible exact Below.refl _ _ | with_reducible refine Below.drew ?_ | with_reducible refine Below.setCell ?_ (by first | omega | (simp <;> omega)) _ | with_reducible refine Below.alloc ?_ (by first | omega | (simp <;> omega)) _))
            case measure => simp [intOf]; omega
          exact AllReadyH.nil
        exact AllReadyH.nil
      refine AllReadyH.cons rfl (fun K hK => ?_) ?_
      · rw [if_pos (by rfl)]
        go_simp
        show K _ _
        refine hK.out _ _ (by first | exact (HB2.out.alloc HB2.out.size _) | exact ((Below.refl _ _).drew.alloc (Nat.le_refl _) _)) (fun hHeld => ?_)
        clear hK K
        try simp only [Act.put, List.getElem_toArray, List.getElem_cons_succ, List.getElem_cons_zero, List.setIfInBounds_toArray, List.set_cons_zero, List.set_cons_succ]
        refine wpAnyH_ready (rs := [5]) (by kernel_rfl) (by simp) ?_
        refine AllReadyH.cons rfl (fun K hK => ?_) ?_
        · rw [if_pos (by rfl)]
          go_simp
          go_at_call 22
          refine (tappend_own M mv _ L 0 _ (HRM.out.below (by repeat (first | with_reducible exact Below.refl _ _ | with_reducible refine Below.drew ?_ | with_reducible refine Below.setCell ?_ (by first | omega | (simp <;> omega)) _ | with_reducible refine Below.alloc ?_ (by first | omega | (simp <;> omega)) _)) (fun _ h => h)) (HD.out.below (by repeat (first | with_reducible exact Below.refl _ _ | with_reducible refine Below.drew ?_ | with_reducible refine Below.setCell ?_ (by first | omega | (simp <;> omega)) _ | with_reducible refine Below.alloc ?_ (by first | omega | (simp <;> omega)) _)) (fun _ h => h)) HTO.out HRC.out HLE.out).mono ?_
          rintro e w2 ⟨vN, rfl, hN, hb2⟩
          rw [← HNL.out, ← HLN.out] at hN
          obtain ⟨adN, capN, rfl⟩ := ownsRow_form hN
          have hB2 : Below wr.heap.size wr w2 := Below.trans (by repeat (first | with_reducible exact Below.refl _ _ | with_reducible refine Below.drew ?_ | with_reducible refine Below.setCell ?_ (by first | omega | (simp <;> omega)) _ | with_reducible refine Below.alloc ?_ (by first | omega | (simp <;> omega)) _)) (hb2.mono (by simp))
          have z2 := hB2.size
          (try have HX2 := Lib.hid ((BoxAt.newAt (n := wr.heap.size) wr.drew [.slice none 0 0, .int .i64 0] 50 rfl).belowS hb2))
          (try have x20 := HX2.out.cell 0 rfl)
          (try have x21 := HX2.out.cell 1 rfl)
          (try have fx0 := HX2.out.free 0)
          (try have fx1 := HX2.out.free 1)
          (try have zx2 := HX2.out.lt)
          have HNE := Lib.hid (show ∀ k', (Value.slice adN N.length capN).ownBlock = some k' → k' ≠ w.heap.size + 1 from fun k' hk => by have h1 := (hN.lt k' hk).1; have h0 : wr.drew.heap.size = wr.heap.size := rfl; first | omega | (simp at h1; omega)); (try have HNF := Lib.hid (show ∀ k', (Value.slice adN N.length capN).ownBlock = some k' → k' ≠ wr.heap.size from fun k' hk => by have h1 := (hN.lt k' hk).1; simp at h1; omega)); have HN2 := Lib.hid (ownsRow_mono (base' := wr.heap.size) hN (by first | exact Nat.le_refl _ | (simp; done) | (simp; omega)))
          have HT2 := Lib.hid (HT.out.belowS hB2)
          have HR2 := Lib.hid (HR.out.belowS hB2)
          have t0 := HT2.out.cell 0 rfl
          have t1 := HT2.out.cell 1 rfl
          have f0 := HT2.out.free 0
          have f1 := HT2.out.free 1
          have nX : wr.heap.size ≠ w.heap.size + 1 := by omega
          have zT2 := HT2.out.lt
          have nX2 : w2.heap.size ≠ w.heap.size + 1 := by omega
          have HB2 := Lib.hid hB2
          clear hN hb2 hB2
          show K _ _
          refine hK.out _ _ (by exact HB2.out) (fun hHeld => ?_)
          clear hK K
          try simp only [Act.put, List.getElem_toArray, List.getElem_cons_succ, List.getElem_cons_zero, List.setIfInBounds_toArray, List.set_cons_zero, List.set_cons_succ]
          refine wpAnyH_take (i := 6) (v := .tuple #[.agg #[.slice adN N.length capN, .int .i64 0], .int .i64 0]) rfl (by kernel_rfl) (by kernel_rfl) (by kernel_rfl) (fun _ _ _ h => h) (Or.inl ⟨by rfl, fun w hSw => ?_⟩) hHeld ?_
          · (try dsimp only at hSw); go_split_ands; go_simp; all_goals (try first | rfl | omega)
          try simp only [Act.put, List.getElem_toArray, List.getElem_cons_succ, List.getElem_cons_zero, List.setIfInBounds_toArray, List.set_cons_zero, List.set_cons_succ]
          refine wpAnyH_take (i := 7) (v := .agg #[.slice adN N.length capN, .int .i64 0]) rfl (by kernel_rfl) (by kernel_rfl) (by kernel_rfl) (fun _ _ _ h => h) (Or.inl ⟨by rfl, fun w hSw => ?_⟩) hHeld ?_
          · (try dsimp only at hSw); go_split_ands; go_simp; all_goals (try first | rfl | omega)
          try simp only [Act.put, List.getElem_toArray, List.getElem_cons_succ, List.getElem_cons_zero, List.setIfInBounds_toArray, List.set_cons_zero, List.set_cons_succ]
          refine wpAnyH_take (i := 8) (v := .int .i64 0) rfl (by kernel_rfl) (by kernel_rfl) (by kernel_rfl) (fun _ _ _ h => h) (Or.inl ⟨by rfl, fun w hSw => ?_⟩) hHeld ?_
          · (try dsimp only at hSw); go_split_ands; go_simp; all_goals (try first | rfl | omega)
          try simp only [Act.put, List.getElem_toArray, List.getElem_cons_succ, List.getElem_cons_zero, List.setIfInBounds_toArray, List.set_cons_zero, List.set_cons_succ]
          refine wpAnyH_ready (rs := [10]) (by kernel_rfl) (by simp) ?_
          refine AllReadyH.cons rfl (fun K hK => ?_) ?_
          · rw [if_pos (by rfl)]
            go_simp
            show K _ _
            refine hK.out _ _ (by exact (by repeat (first | with_reducible exact HB2.out | with_reducible exact Below.refl _ _ | with_reducible refine Below.drew ?_ | with_reducible refine Below.setCell ?_ (by first | omega | (simp <;> omega)) _ | with_reducible refine Below.alloc ?_ (by first | omega | (simp <;> omega)) _))) (fun hHeld => ?_)
            clear hK K
            try simp only [Act.put, List.getElem_toArray, List.getElem_cons_succ, List.getElem_cons_zero, List.setIfInBounds_toArray, List.set_cons_zero, List.set_cons_succ]
            refine wpAnyH_take (i := 11) (v := .int .i64 0) rfl (by kernel_rfl) (by kernel_rfl) (by kernel_rfl) (fun _ _ _ h => h) (Or.inl ⟨by rfl, fun w hSw => ?_⟩) hHeld ?_
            · (try dsimp only at hSw); go_split_ands; go_simp; all_goals (try first | rfl | omega)
            try simp only [Act.put, List.getElem_toArray, List.getElem_cons_succ, List.getElem_cons_zero, List.setIfInBounds_toArray, List.set_cons_zero, List.set_cons_succ]
            refine wpAnyH_done (by kernel_rfl) ?_ _
            go_wp2
            go_roundw
            case rel =>
              refine ⟨k + 1, .slice adN N.length capN, by omega, by go_num, (by repeat (first | with_reducible exact HR2.out | with_reducible refine BoxAt.drew ?_ | with_reducible refine BoxAt.alloc ?_ _ | with_reducible refine BoxAt.setOther ?_ (by first | omega | (simp <;> omega)) _)), ?_, ?_, ?_⟩
              · first | exact (HT2.out.set2 _ _).alloc _ | exact BoxAt.set2 (by repeat (first | with_reducible exact HT2.out | with_reducible refine BoxAt.drew ?_ | with_reducible refine BoxAt.alloc ?_ _ | with_reducible refine BoxAt.setOther ?_ (by first | omega | (simp <;> omega)) _)) _ _
              · rw [HTK.out]; exact ownsRow_mono (base := wr.heap.size) (by repeat (first | with_reducible exact HN2.out | with_reducible refine World.ownsRow.alloc ?_ _ | with_reducible refine ownsRow_set ?_ (fun k' hk => by first | exact HNE.out k' hk | exact HNF.out k' hk) _)) (by first | omega | (simp; omega))
              · exact (by repeat (first | with_reducible exact (HBr.out.trans (HB2.out.mono HBr.out.size)) | with_reducible exact Below.refl _ _ | with_reducible refine Below.drew ?_ | with_reducible refine Below.setCell ?_ (by first | omega | (simp <;> omega)) _ | with_reducible refine Below.alloc ?_ (by first | omega | (simp <;> omega)) _))
            case measure => simp [intOf]; omega
          exact AllReadyH.nil
        exact AllReadyH.nil
      exact AllReadyH.nil
    · have t1 : ¬ (k : Int) < (ms.length : Int) := by omega
      obtain rfl : k = ms.length := by omega
      rw [List.take_length] at HD HOW
      have x0 := hT.cell 0 rfl
      have x1 := hT.cell 1 rfl
      have q0 := hR.cell 0 rfl
      have q1 := hR.cell 1 rfl
      have f0 := hR.free 0
      have f1 := hR.free 1
      rw [List.take_length] at x0 hrd
      have HY := Lib.hid ((hR.set 0 (.slice adT (tapeB ms).length capT)).set 1 (.int .i64 0))
      clear hB hR hT hrd
      go_wp2
      have g0 := HY.out.cell 0 rfl
      have g1 := HY.out.cell 1 rfl
      refine bodyPost_ret (v := .tuple #[.agg #[.slice adT (tapeB ms).length capT, .int .i64 0], .bool true]) (by simp [results, Try.results24, go_sem, g0, g1]) rfl ⟨_, rfl, ownsRow_mono (base := w.heap.size + 2) (by repeat (first | with_reducible exact HOW.out | with_reducible refine World.ownsRow.alloc ?_ _ | with_reducible refine ownsRow_set ?_ (fun k' hk => by have h1 := (HOW.out.lt k' hk).1; first | omega | (simp; omega)) _)) (by omega), (by repeat (first | with_reducible exact HBr.out | with_reducible exact Below.refl _ _ | with_reducible refine Below.drew ?_ | with_reducible refine Below.setCell ?_ (by first | omega | (simp <;> omega)) _ | with_reducible refine Below.alloc ?_ (by first | omega | (simp <;> omega)) _))⟩
end Go.Proofs.Ytegdpjoncjmdeaa
