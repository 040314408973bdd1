/- dag: Round, Digests, Missing: what they compute. -/
import Derived.Test.YtlailhhffejbbaaDoorDag9
import Derived.Test.YtlailhhffejbbaaDoorStp
set_option linter.unusedVariables false
set_option linter.unusedSimpArgs false
attribute [local go_sem ↓] Go.wp_at_zero Go.wp_at_succ
namespace Go.Proofs.YtlailhhffejbbaaDoor
open Go Go.RowKit

theorem of_mono {G : Nat → Prop} {w w' : World} {v : Value} {l : List Crt} (h : RdS RCert G w v l) (hG : ∀ b, G b → b < w.heap.size → b < w.heap.size) : RdS RCert (fun b => G b ∧ b < w.heap.size) w v l := h.low (by decide)
set_option maxRecDepth 100000 in
set_option maxHeartbeats 8000000 in
theorem dagRound_any {G : Nat → Prop} {l : List Crt} (v : Value) (w : World) (h : RdS RCert G w v l) (ht : Tabs w) (hok : dagOk l = true) :
    Calls Tryd.prog 23 #[.agg #[v]] w fun e w' => e = .returned (.tuple #[.int .i64 (roundL l), .int .i64 0]) ∧ Below w.heap.size w w' := by
  have hC := dagCode_zero.2 hok
  have HS := Lib.hid (dagOk_solo hok)
  have hl4 := (dagOk_iff.1 hok).1
  have HC := Lib.hid hC
  clear hC hok
  obtain ⟨ad, cap, rfl, hcap, hm⟩ := h.form
  unfold maxLen at hm
  have hb0 := (Below.refl w.heap.size w).alloc (Nat.le_refl _) (.cells #[.slice ad l.length cap] 27)
  have HV := Lib.hid (h.below hb0 (fun _ h => h))
  have HT := Lib.hid (ht.belowS hb0)
  have HB := Lib.hid hb0
  have HX := Lib.hid (BoxAt.new w [.slice ad l.length cap] 27)
  clear h ht hb0
  go_enter Tryd.func23, Tryd.ntmps23
  go_upto_region 1 with fail
  obtain ⟨w0, hw0⟩ : ∃ w0, w0 = w.alloc (.cells #[.slice ad l.length cap] 27) := ⟨_, rfl⟩
  rw [← hw0] at HV HT HX HB ⊢
  have hz0 := HX.out.lt
  clear hw0
  have x0 := HX.out.cell 0 rfl
  go_wp2_with fail
  refine (dagCheck_any _ _ HV.out HT.out).mono ?_
  rintro e w1 ⟨rfl, hb1⟩
  replace HV := Lib.hid (HV.out.below hb1 (fun _ h => h))
  replace HT := Lib.hid (HT.out.belowS hb1)
  replace HX := Lib.hid (HX.out.belowS hb1)
  replace HB := Lib.hid (HB.out.trans (hb1.mono HB.out.size))
  have hz1 := HX.out.lt
  clear x0 hb1
  rw [HC.out]
  have HBo := HB
  go_wp2_with fail
  go_loopw [5] (fun i wr => ∃ r : Int, i = .int .i64 r ∧ Hid (over l r) ∧ 1 ≤ r ∧ 3 * (r - 1) ≤ l.length ∧ Below w1.heap.size w1 wr) (fun i _ => (200 - intOf i).toNat)
  case atStart => exact ⟨1, rfl, Lib.hid (over_one l), by omega, by omega, Below.refl _ _⟩
  case round =>
    obtain ⟨r, rfl, HO, hr1, hr3, hB⟩ := hrel
    have HBr := Lib.hid (HB.out.trans (hB.mono HB.out.size))
    have HB1 := Lib.hid hB
    have HXr := Lib.hid (HX.out.belowS hB)
    have HVr := Lib.hid (HV.out.below hB (fun _ h => h))
    have x0 := HXr.out.cell 0 rfl
    have hzr := hB.size
    have wr1 : IntKind.i64.wrap (r + 1) = r + 1 := IntWalk.i64_in _ (by omega)
    clear hB
    go_wp2_with fail
    refine (dagOf_any r _ _ HVr.out HS.out hl4).mono ?_
    rintro e w3 ⟨v3, rfl, h3, hb3⟩
    obtain ⟨ad3, cap3, rfl, hc3, hm3⟩ := h3.form
    unfold maxLen at hm3
    have HB3 := Lib.hid (HBr.out.trans (hb3.mono HBr.out.size))
    have HB13 := Lib.hid (HB1.out.trans (hb3.mono HB1.out.size))
    have HOL := Lib.hid (ofL_len HS.out r)
    clear h3 hb3 x0
    by_cases hq : 3 ≤ (ofL l r).length
    · have t0 : (3 : Int) ≤ ((ofL l r).length : Int) := by omega
      have HO' := Lib.hid (over_succ HO.out (by rw [← HOL.out]; exact hq))
      have hle := over_le HO'.out
      clear hq
      go_wp2
      go_roundw
      case rel => exact ⟨r + 1, rfl, HO', by omega, by omega, HB13.out⟩
      case measure => simp [intOf]; omega
    · have t0 : ¬ (3 : Int) ≤ ((ofL l r).length : Int) := by omega
      have HR := Lib.hid (roundL_eq HO.out (by rw [← HOL.out]; omega))
      clear hq
      go_wp2
      refine bodyPost_ret (v := .tuple #[.int .i64 r, .int .i64 0]) (by simp [results, Tryd.results23, go_sem]) rfl ⟨by rw [HR.out], HB3.out⟩
theorem digsL_succ {L : List Crt} {k : Nat} (h : k < L.length) : (L.take (k + 1)).map crtSum = (L.take k).map crtSum ++ [crtSum L[k]] := by
  rw [List.take_succ_eq_append_getElem h, List.map_append]; rfl
set_option maxRecDepth 100000 in
set_option maxHeartbeats 8000000 in
theorem dagDigests_any {G : Nat → Prop} {l : List Crt} (r : Int) (v : Value) (w : World) (h : RdS RCert G w v l) (ht : Tabs w) (hok : dagOk l = true) :
    Calls Tryd.prog 33 #[.agg #[v], .int .i64 r] w fun e w' => ∃ v', e = .returned (.tuple #[v', .int .i64 0]) ∧ RdBB (fun b => w.heap.size ≤ b) w' v' (digsL l r) ∧ Below w.heap.size w w' := by
  have hC := dagCode_zero.2 hok
  have hS := dagOk_solo hok
  have hl4 := (dagOk_iff.1 hok).1
  have HC := Lib.hid hC
  have HM := Lib.hid (fun c (hc : c ∈ ofL l r) => (crt_partsP ((dagOk_iff.1 hok).2.1 c ((mem_ofL hS).1 hc).1)).1)
  have HS := Lib.hid hS
  have hL4 := @ofL_len4 l r
  clear hC hok hS
  obtain ⟨ad, cap, rfl, hcap, hm⟩ := h.form
  unfold maxLen at hm
  have hb0 := (Below.refl w.heap.size w).alloc (Nat.le_refl _) (.cells #[.slice ad l.length cap] 27)
  have HV := Lib.hid (h.below hb0 (fun _ h => h))
  have HT := Lib.hid (ht.belowS hb0)
  have HB := Lib.hid hb0
  have HX := Lib.hid (BoxAt.new w [.slice ad l.length cap] 27)
  clear h ht hb0
  go_enter Tryd.func33, Tryd.ntmps33
  go_upto_region 1 with fail
  obtain ⟨w0, hw0⟩ : ∃ w0, w0 = w.alloc (.cells #[.slice ad l.length cap] 27) := ⟨_, rfl⟩
  rw [← hw0] at HV HT HX HB ⊢
  have hz0 := HX.out.lt
  clear hw0
  have x0 := HX.out.cell 0 rfl
  go_wp2_with fail
  refine (dagCheck_any _ _ HV.out HT.out).mono ?_
  rintro e w1 ⟨rfl, hb1⟩
  replace HV := Lib.hid (HV.out.below hb1 (fun _ h => h))
  replace HT := Lib.hid (HT.out.belowS hb1)
  replace HX := Lib.hid (HX.out.belowS hb1)
  replace HB := Lib.hid (HB.out.trans (hb1.mono HB.out.size))
  have hz1 := HX.out.lt
  clear x0 hb1
  rw [HC.out]
  have x0 := HX.out.cell 0 rfl
  go_wp2_with fail
  refine (dagOf_any r _ _ HV.out HS.out hl4).mono ?_
  rintro e w2 ⟨v2, rfl, h2, hb2⟩
  obtain ⟨ad2, cap2, rfl, hc2, hm2⟩ := h2.form
  unfold maxLen at hm2
  have HO := Lib.hid h2
  have HB2 := Lib.hid (HB.out.trans (hb2.mono HB.out.size))
  replace HT := Lib.hid (HT.out.belowS hb2)
  have HD := Lib.hid (show digsL l r = (ofL l r).map crtSum from rfl)
  clear h2 hb2 x0 HV HX HB
  generalize ofL l r = L at *
  go_wp2_with fail
  go_loopw [7, 20] (fun o i wr => ∃ (k : Nat) (ad : Option Addr) (cap : Nat), k ≤ L.length ∧ i = .int .i64 k ∧ o = .slice ad k cap ∧ LstO RBytes (fun b => w2.heap.size ≤ b) w2.heap.size 46 wr (.slice ad k cap) ((L.take k).map crtSum) ∧ Below w2.heap.size w2 wr) (fun _ i _ => L.length - (intOf i).toNat)
  case atStart => exact ⟨0, none, 0, Nat.zero_le _, rfl, rfl, LstO.nil _ _ _ _ _, Below.refl _ _⟩
  case round =>
    obtain ⟨k, ado, capo, hk, rfl, rfl, hL, hB⟩ := hrel
    have hz := hB.size
    have HBr := Lib.hid hB
    by_cases hlt : k < L.length
    · have i0 : (0 : Int) ≤ (k : Int) := by omega
      have i1 : (k : Int) < (L.length : Int) := by omega
      obtain ⟨vals, hv⟩ := hL.valsOf
      have hvlt := hv.lt
      have HLr := Lib.hid hv
      have HKL := Lib.hid (show ((L.take k).map crtSum).length = k by rw [List.length_map, List.length_take]; omega)
      have HMS := Lib.hid (digsL_succ hlt)
      obtain ⟨b, o, ub, up, uv, rfl, -, e0, e1, e2, e3, e4, hb', hp', hv'⟩ := (HO.out.below hB (fun _ h => h)).crt k hlt
      have hc := HM.out L[k] (List.getElem_mem hlt)
      generalize L[k] = c at *
      obtain ⟨adb, capb, rfl, -, -⟩ := hb'.form
      obtain ⟨adp, capp, rfl, -, -⟩ := hp'.form
      obtain ⟨adw, capw, rfl, -, -⟩ := hv'.form
      have H1 := Lib.hid hb'
      have H2 := Lib.hid hp'
      have H3 := Lib.hid hv'
      have HCC := Lib.hid hc
      clear hb' hp' hv' hc hv hL hB
      go_wp2_with fail
      refine (ddigest_ok c _ _ _ _ (H1.out.below (by repeat (first | with_reducible exact Below.refl _ _ | with_reducible refine Below.drew ?_ | with_reducible refine Below.setCell ?_ (by first | omega | (simp <;> omega)) _ | with_reducible refine Below.alloc ?_ (by first | omega | (simp <;> omega)) _)) (fun _ h => h)) (H2.out.below (by repeat (first | with_reducible exact Below.refl _ _ | with_reducible refine Below.drew ?_ | with_reducible refine Below.setCell ?_ (by first | omega | (simp <;> omega)) _ | with_reducible refine Below.alloc ?_ (by first | omega | (simp <;> omega)) _)) (fun _ h => h)) (H3.out.below (by repeat (first | with_reducible exact Below.refl _ _ | with_reducible refine Below.drew ?_ | with_reducible refine Below.setCell ?_ (by first | omega | (simp <;> omega)) _ | with_reducible refine Below.alloc ?_ (by first | omega | (simp <;> omega)) _)) (fun _ h => h)) HCC.out (HT.out.belowS (by repeat (first | with_reducible exact HBr.out | with_reducible exact Below.refl _ _ | with_reducible refine Below.drew ?_ | with_reducible refine Below.setCell ?_ (by first | omega | (simp <;> omega)) _ | with_reducible refine Below.alloc ?_ (by first | omega | (simp <;> omega)) _)))).mono ?_
      rintro e w5 ⟨vd, rfl, hd, hb5⟩
      have hB5 : Below wr.heap.size wr w5 := Below.trans (by repeat (first | with_reducible exact Below.refl _ _ | with_reducible refine Below.drew ?_ | with_reducible refine Below.setCell ?_ (by first | omega | (simp <;> omega)) _ | with_reducible refine Below.alloc ?_ (by first | omega | (simp <;> omega)) _)) (hb5.mono (by simp))
      have HL5 := Lib.hid (HLr.out.below hB5)
      have HD5 := Lib.hid (hd.low (by decide))
      have HB5 := Lib.hid (HBr.out.trans (hB5.mono hz))
      have s5 := hB5.size
      obtain ⟨add, capd, rfl, -, -⟩ := hd.form
      clear hd hb5 hB5 e0 e1 e2 e3 e4
      go_wp2_with (at_builtin; refine wpList_append_one rfl _ _ 34 rfl elemBY w2.heap.size _ k vals rfl (by have h := (HL5.out.alloc (.cells #[.slice add (crtSum c).length capd] 46)).own; rw [HKL.out] at h; exact h) w5.heap.size 46 [.slice add (crtSum c).length capd] rfl (BoxAt.new w5 [_] _) rfl (by simp [Value.oneCell']) (by unfold maxLen; omega) (by omega) (by simp; omega) ?_; intro g cap6 w6 hown6 hgr6 hat6 hlt6)
      have hx : RBytes.rd (fun b => w2.heap.size ≤ b ∧ b < (w5.alloc (.cells #[.slice add (crtSum c).length capd] 46)).heap.size ∧ (Value.slice ado k capo).ownBlock ≠ some b) (w5.alloc (.cells #[.slice add (crtSum c).length capd] 46)) [.slice add (crtSum c).length capd] (crtSum c) :=
        ⟨_, rfl, HD5.out.keep (Keep.alloc _ _ _) (fun b hb => ⟨by have := hb.1; simp at this; omega, by have := hb.2; simp; omega, fun e => by have h1 := hb.1; simp at h1; have := (hvlt _ e).2; omega⟩)⟩
      have hP := (HL5.out.alloc (.cells #[.slice add (crtSum c).length capd] 46)).push hx (by rw [HKL.out]; exact hown6) hgr6 hat6
      rw [HKL.out, ← HMS.out] at hP
      have HP := Lib.hid hP
      have HB6 := Lib.hid ((HB5.out.alloc HB5.out.size (.cells #[.slice add (crtSum c).length capd] 46)).grown hgr6 (by have := HB5.out.size; simp; omega) (fun k hk => (hvlt _ hk).1))
      clear hP hx hown6
      go_wp2
      go_roundw
      case rel => exact ⟨k + 1, some ⟨g, 0, none⟩, cap6, by omega, by go_num, rfl, HP.out, HB6.out⟩
      case measure => simp [intOf]; omega
    · obtain rfl : k = L.length := by omega
      rw [List.take_length] at hL
      have hw2 := HB2.out.size
      have HM2 := Lib.hid (hL.rd (G' := fun b => w.heap.size ≤ b) (by decide) (fun b h1 h2 => by omega) (fun b h1 h2 => by omega))
      have HBE := Lib.hid (HB2.out.trans (HBr.out.mono HB2.out.size))
      clear hL hB
      have t1 : ¬ (L.length : Int) < (L.length : Int) := by omega
      go_wp2
      refine bodyPost_ret (v := .tuple #[.slice ado L.length capo, .int .i64 0]) (by simp [results, Tryd.results33, go_sem]) rfl ⟨_, rfl, by rw [HD.out]; exact HM2.out, HBE.out⟩
/-- What Missing tells. -/
def misCode (l : List Crt) (x : Hdr) : Int := if hdrCode x ≠ 0 then hdrCode x else if wrongB l (crtSums l) x.r x.ps = true then 9 else 0
def misL (l : List Crt) (x : Hdr) : List Bytes := if misCode l x = 0 then noneL (crtSums l) x.ps else []
theorem mis_1 {l : List Crt} {x : Hdr} (h : hdrCode x ≠ 0) : misCode l x = hdrCode x ∧ misL l x = [] := by
  have h1 : misCode l x = hdrCode x := by unfold misCode; rw [if_pos h]
  exact ⟨h1, by unfold misL; rw [h1, if_neg h]⟩
theorem mis_2 {l : List Crt} {x : Hdr} (h : hdrCode x = 0) (h2 : wrongB l (crtSums l) x.r x.ps = true) : misCode l x = 9 ∧ misL l x = [] := by
  have h1 : misCode l x = 9 := by unfold misCode; rw [if_neg (by simp [h]), if_pos h2]
  exact ⟨h1, by unfold misL; rw [h1, if_neg (by decide)]⟩
theorem mis_3 {l : List Crt} {x : Hdr} (h : hdrCode x = 0) (h2 : wrongB l (crtSums l) x.r x.ps = false) : misCode l x = 0 ∧ misL l x = noneL (crtSums l) x.ps := by
  have h1 : misCode l x = 0 := by unfold misCode; rw [if_neg (by simp [h]), if_neg (by simp [h2])]
  exact ⟨h1, by unfold misL; rw [if_pos h1]⟩
theorem hdr_ps {x : Hdr} (h : hdrCode x = 0) : (∀ d ∈ x.ps, d.length = 32) ∧ x.ps.length ≤ 4 ∧ 1 ≤ x.r ∧ x.r ≤ 9223372036854775807 := by
  obtain ⟨-, h2, -, h4, -, h6⟩ := hdr_partsD h
  unfold countOk at h2
  simp only [decide_eq_true_eq] at h2
  exact ⟨((digCode_zero _).1 h6).1, h4, h2.1, by omega⟩
set_option maxRecDepth 100000 in
set_option maxHeartbeats 8000000 in
theorem dagMissing_any {G G2 : Nat → Prop} {l : List Crt} (x : Hdr) (v vb vp : Value) (w : World) (h : RdS RCert G w v l) (hb : RdBB G2 w vb x.bs) (hp : RdBB G2 w vp x.ps) (ht : Tabs w) (hok : dagOk l = true) :
    Calls Tryd.prog 51 #[.agg #[v], .agg #[.int .i64 x.a, .int .i64 x.r, vb, vp]] w fun e w' => ∃ v', e = .returned (.tuple #[v', .int .i64 (misCode l x)]) ∧ RdBB (fun b => w.heap.size ≤ b) w' v' (misL l x) ∧ Below w.heap.size w w' := by
  have hC := dagCode_zero.2 hok
  have hl4 := (dagOk_iff.1 hok).1
  have HC := Lib.hid hC
  have HOKH := Lib.hid (fun x (hx : x ∈ l) => (crt_partsP ((dagOk_iff.1 hok).2.1 x hx)).1)
  clear hC hok
  obtain ⟨ad, cap, rfl, hcap, hm⟩ := h.form
  obtain ⟨adb, capb, rfl, -, -⟩ := hb.form
  obtain ⟨adp, capp, rfl, -, -⟩ := hp.form
  unfold maxLen at hm
  have hBw : Below w.heap.size w ((w.alloc (.cells #[.slice ad l.length cap] 27)).alloc (.cells #[.int .i64 x.a, .int .i64 x.r, .slice adb x.bs.length capb, .slice adp x.ps.length capp] 36)) := ((Below.refl _ _).alloc (Nat.le_refl _) _).alloc (by simp) _
  have HV := Lib.hid (h.below hBw (fun _ h => h))
  have H1 := Lib.hid (hb.below hBw (fun _ h => h))
  have H2 := Lib.hid (hp.below hBw (fun _ h => h))
  have HT := Lib.hid (ht.belowS hBw)
  have HB := Lib.hid hBw
  have B2 := Lib.hid ((BoxAt.new w [.slice ad l.length cap] 27).alloc (.cells #[.int .i64 x.a, .int .i64 x.r, .slice adb x.bs.length capb, .slice adp x.ps.length capp] 36))
  have B3 := Lib.hid (BoxAt.newAt (w.alloc (.cells #[.slice ad l.length cap] 27)) [.int .i64 x.a, .int .i64 x.r, .slice adb x.bs.length capb, .slice adp x.ps.length capp] 36 (n := w.heap.size + 1) (by simp))
  clear h hb hp ht hBw
  go_enter Tryd.func51, Tryd.ntmps51
  go_upto_region 1 with fail
  obtain ⟨w0, hw0⟩ : ∃ w0, w0 = (w.alloc (.cells #[.slice ad l.length cap] 27)).alloc (.cells #[.int .i64 x.a, .int .i64 x.r, .slice adb x.bs.length capb, .slice adp x.ps.length capp] 36) := ⟨_, rfl⟩
  rw [← hw0] at HV H1 H2 HT HB B2 B3 ⊢
  clear hw0
  have x0 := B2.out.cell 0 rfl
  have zB2 := B2.out.lt
  go_wp2_with fail
  refine (dagCheck_any _ _ (HV.out.below (by repeat (first | with_reducible exact Below.refl _ _ | with_reducible refine Below.drew ?_ | with_reducible refine Below.setCell ?_ (by first | omega | (simp <;> omega)) _ | with_reducible refine Below.alloc ?_ (by first | omega | (simp <;> omega)) _)) (fun _ h => h)) (HT.out.belowS (by repeat (first | with_reducible exact Below.refl _ _ | with_reducible refine Below.drew ?_ | with_reducible refine Below.setCell ?_ (by first | omega | (simp <;> omega)) _ | with_reducible refine Below.alloc ?_ (by first | omega | (simp <;> omega)) _)))).mono ?_
  rw [HC.out]
  rintro e w1 ⟨rfl, hb1⟩
  have hB1 : Below w0.heap.size w0 w1 := Below.trans (by repeat (first | with_reducible exact Below.refl _ _ | with_reducible refine Below.drew ?_ | with_reducible refine Below.setCell ?_ (by first | omega | (simp <;> omega)) _ | with_reducible refine Below.alloc ?_ (by first | omega | (simp <;> omega)) _)) (hb1.mono (by first | exact Nat.le_refl _ | (simp; done) | (simp; omega)))
  have z1 := hB1.size
  replace HV := Lib.hid (HV.out.below hB1 (fun _ h => h))
  replace H1 := Lib.hid (H1.out.below hB1 (fun _ h => h))
  replace H2 := Lib.hid (H2.out.below hB1 (fun _ h => h))
  replace HT := Lib.hid (HT.out.belowS hB1)
  replace HB := Lib.hid (HB.out.trans (hB1.mono HB.out.size))
  replace B2 := Lib.hid (B2.out.belowS hB1)
  replace B3 := Lib.hid (B3.out.belowS hB1)
  clear x0 zB2
  clear hb1 hB1
  have x0 := B3.out.cell 0 rfl
  have x1 := B3.out.cell 1 rfl
  have x2 := B3.out.cell 2 rfl
  have x3 := B3.out.cell 3 rfl
  have zB3 := B3.out.lt
  go_wp2_with fail
  refine (cheader_any _ _ _ _ _ (H1.out.below (by repeat (first | with_reducible exact Below.refl _ _ | with_reducible refine Below.drew ?_ | with_reducible refine Below.setCell ?_ (by first | omega | (simp <;> omega)) _ | with_reducible refine Below.alloc ?_ (by first | omega | (simp <;> omega)) _)) (fun _ h => h)) (H2.out.below (by repeat (first | with_reducible exact Below.refl _ _ | with_reducible refine Below.drew ?_ | with_reducible refine Below.setCell ?_ (by first | omega | (simp <;> omega)) _ | with_reducible refine Below.alloc ?_ (by first | omega | (simp <;> omega)) _)) (fun _ h => h))).mono ?_
  rintro e w2 ⟨rfl, hb2⟩
  have hB2 : Below w1.heap.size w1 w2 := Below.trans (by repeat (first | with_reducible exact Below.refl _ _ | with_reducible refine Below.drew ?_ | with_reducible refine Below.setCell ?_ (by first | omega | (simp <;> omega)) _ | with_reducible refine Below.alloc ?_ (by first | omega | (simp <;> omega)) _)) (hb2.mono (by first | exact Nat.le_refl _ | (simp; done) | (simp; omega)))
  have z2 := hB2.size
  replace HV := Lib.hid (HV.out.below hB2 (fun _ h => h))
  replace H1 := Lib.hid (H1.out.below hB2 (fun _ h => h))
  replace H2 := Lib.hid (H2.out.below hB2 (fun _ h => h))
  replace HT := Lib.hid (HT.out.belowS hB2)
  replace HB := Lib.hid (HB.out.trans (hB2.mono HB.out.size))
  replace B2 := Lib.hid (B2.out.belowS hB2)
  replace B3 := Lib.hid (B3.out.belowS hB2)
  clear x0 x1 x2 x3 zB3
  clear hb2 hB2
  obtain ⟨q1, hq1⟩ : ∃ q1, q1 = hdrCode x := ⟨_, rfl⟩
  rw [show hdrCode ⟨x.a, x.r, x.bs, x.ps⟩ = q1 from hq1.symm]
  have HQ := Lib.hid hq1.symm
  clear hq1
  by_cases hc1 : q1 = 0
  case neg =>
    have n1 : (q1 != 0) = true := cB_true hc1
    have HR := Lib.hid (mis_1 (l := l) (x := x) (by rw [HQ.out]; exact hc1))
    clear hc1
    go_wp2
    refine bodyPost_ret (v := .tuple #[.slice none 0 0, .int .i64 q1]) (by simp [results, Tryd.results51, go_sem]) rfl ⟨_, by rw [HR.out.1, HQ.out], by rw [HR.out.2]; exact RdS.nil _ _ _, HB.out⟩
  have HC1 := Lib.hid (show hdrCode x = 0 by rw [HQ.out]; exact hc1)
  subst hc1
  clear HQ
  obtain ⟨c32, c4, cr1, cr2⟩ := hdr_ps HC1.out
  have HC32 := Lib.hid c32
  clear c32
  go_upto_region 7 with fail
  refine wp_region_held_drew (S := fun w' => Below w2.heap.size w2 w') (by kernel_rfl) (by exact (Below.refl _ _).drew) (fun hHeld => ?_)
  refine wpAnyH_take (i := 0) (v := .pointer (some ⟨w.heap.size, 0, none⟩)) rfl (by kernel_rfl) (by kernel_rfl) (by kernel_rfl) (fun _ _ _ h => h) (Or.inl ⟨by rfl, fun w hSw => ?_⟩) hHeld ?_
  · clear hSw; go_simp; all_goals (try first | rfl | omega)
  try simp only [Act.put, List.getElem_toArray, List.getElem_cons_succ, List.getElem_cons_zero, List.setIfInBounds_toArray, List.set_cons_zero, List.set_cons_succ]
  refine wpAnyH_take (i := 1) (v := .slice ad l.length cap) rfl (by kernel_rfl) (by kernel_rfl) (by kernel_rfl) (fun _ _ _ h => h) (Or.inl ⟨by rfl, fun w hSw => ?_⟩) hHeld ?_
  · have qb := B2.out.belowS hSw; have q0 := qb.cell 0 rfl; clear hSw qb; go_simp
  try simp only [Act.put, List.getElem_toArray, List.getElem_cons_succ, List.getElem_cons_zero, List.setIfInBounds_toArray, List.set_cons_zero, List.set_cons_succ]
  refine wpAnyH_take (i := 2) (v := .pointer (some ⟨w.heap.size, 0, none⟩)) rfl (by kernel_rfl) (by kernel_rfl) (by kernel_rfl) (fun _ _ _ h => h) (Or.inl ⟨by rfl, fun w hSw => ?_⟩) hHeld ?_
  · clear hSw; go_simp; all_goals (try first | rfl | omega)
  try simp only [Act.put, List.getElem_toArray, List.getElem_cons_succ, List.getElem_cons_zero, List.setIfInBounds_toArray, List.set_cons_zero, List.set_cons_succ]
  refine wpAnyH_take (i := 3) (v := .slice ad l.length cap) rfl (by kernel_rfl) (by kernel_rfl) (by kernel_rfl) (fun _ _ _ h => h) (Or.inl ⟨by rfl, fun w hSw => ?_⟩) hHeld ?_
  · have qb := B2.out.belowS hSw; have q0 := qb.cell 0 rfl; clear hSw qb; go_simp
  try simp only [Act.put, List.getElem_toArray, List.getElem_cons_succ, List.getElem_cons_zero, List.setIfInBounds_toArray, List.set_cons_zero, List.set_cons_succ]
  refine wpAnyH_take (i := 5) (v := .agg #[.int .i64 x.a, .int .i64 x.r, .slice adb x.bs.length capb, .slice adp x.ps.length capp]) rfl (by kernel_rfl) (by kernel_rfl) (by kernel_rfl) (fun _ _ _ h => h) (Or.inl ⟨by rfl, fun w hSw => ?_⟩) hHeld ?_
  · have qb := B3.out.belowS hSw; have q0 := qb.cell 0 rfl; have q1 := qb.cell 1 rfl; have q2 := qb.cell 2 rfl; have q3 := qb.cell 3 rfl; clear hSw qb; go_simp
  try simp only [Act.put, List.getElem_toArray, List.getElem_cons_succ, List.getElem_cons_zero, List.setIfInBounds_toArray, List.set_cons_zero, List.set_cons_succ]
  refine wpAnyH_ready (rs := [4]) (by kernel_rfl) (by simp) ?_
  refine AllReadyH.cons rfl (fun K hK => ?_) ?_
  · rw [if_pos (by rfl)]
    go_simp
    go_at_call 45
    refine (dall_ok _ _ (HV.out.below hHeld (fun _ h => h)) HOKH.out (by omega) (HT.out.belowS hHeld)).mono ?_
    rintro e wd ⟨vds, rfl, hds, hb_wd⟩
    obtain ⟨add, capd, rfl, -, -⟩ := hds.form
    rw [crtSums_len]
    have HDS := Lib.hid hds
    clear hds
    have hB_wd : Below w2.heap.size w2 wd := Below.trans hHeld (hb_wd.mono (Below.size hHeld))
    have Hb_wd := Lib.hid hB_wd
    clear hb_wd hB_wd
    show K _ _
    refine hK.out _ _ (by exact Hb_wd.out) (fun hHeld => ?_)
    clear hK K
    try simp only [Act.put, List.getElem_toArray, List.getElem_cons_succ, List.getElem_cons_zero, List.setIfInBounds_toArray, List.set_cons_zero, List.set_cons_succ]
    refine wpAnyH_ready (rs := [6]) (by kernel_rfl) (by simp) ?_
    refine AllReadyH.cons rfl (fun K hK => ?_) ?_
    · rw [if_pos (by rfl)]
      go_simp
      go_at_call 44
      refine (missing_any x _ _ _ _ _ (HV.out.below hHeld (fun _ h => h)) (by have q := HDS.out; rw [crtSums_len l] at q; exact q) (H1.out.below hHeld (fun _ h => h)) (H2.out.below hHeld (fun _ h => h)) (by rw [crtSums_len]; exact Nat.le_refl _) HC32.out c4 cr1 cr2).mono ?_
      rintro e wm ⟨vn, rfl, hn, hb_wm⟩
      obtain ⟨adn, capn, rfl, -, -⟩ := hn.form
      obtain ⟨N, hN0⟩ : ∃ N, N = noneL (crtSums l) x.ps := ⟨_, rfl⟩
      obtain ⟨W, hW0⟩ : ∃ W, W = wrongB l (crtSums l) x.r x.ps := ⟨_, rfl⟩
      rw [← hN0] at hn
      rw [← hN0, ← hW0]
      have HN := Lib.hid hN0.symm
      have HW := Lib.hid hW0.symm
      have zd := Below.size Hb_wd.out
      have HNR := Lib.hid (hn.mono (G' := fun b => w2.heap.size ≤ b) (fun b hb => by have h0 : wd.heap.size ≤ b := hb; omega))
      clear hN0 hW0 hn
      have hB_wm : Below w2.heap.size w2 wm := Below.trans hHeld (hb_wm.mono (Below.size hHeld))
      have Hb_wm := Lib.hid hB_wm
      clear hb_wm hB_wm
      show K _ _
      refine hK.out _ _ (by exact Hb_wm.out) (fun hHeld => ?_)
      clear hK K
      try simp only [Act.put, List.getElem_toArray, List.getElem_cons_succ, List.getElem_cons_zero, List.setIfInBounds_toArray, List.set_cons_zero, List.set_cons_succ]
      refine wpAnyH_take (i := 7) (v := .tuple #[.slice adn N.length capn, .bool W]) rfl (by kernel_rfl) (by kernel_rfl) (by kernel_rfl) (fun _ _ _ h => h) (Or.inl ⟨by rfl, fun w hSw => ?_⟩) hHeld ?_
      · clear hSw; go_simp; all_goals (try first | rfl | omega)
      try simp only [Act.put, List.getElem_toArray, List.getElem_cons_succ, List.getElem_cons_zero, List.setIfInBounds_toArray, List.set_cons_zero, List.set_cons_succ]
      refine wpAnyH_take (i := 8) (v := .slice adn N.length capn) rfl (by kernel_rfl) (by kernel_rfl) (by kernel_rfl) (fun _ _ _ h => h) (Or.inl ⟨by rfl, fun w hSw => ?_⟩) hHeld ?_
      · clear hSw; go_simp; all_goals (try first | rfl | omega)
      try simp only [Act.put, List.getElem_toArray, List.getElem_cons_succ, List.getElem_cons_zero, List.setIfInBounds_toArray, List.set_cons_zero, List.set_cons_succ]
      refine wpAnyH_take (i := 9) (v := .bool W) rfl (by kernel_rfl) (by kernel_rfl) (by kernel_rfl) (fun _ _ _ h => h) (Or.inl ⟨by rfl, fun w hSw => ?_⟩) hHeld ?_
      · clear hSw; go_simp; all_goals (try first | rfl | omega)
      try simp only [Act.put, List.getElem_toArray, List.getElem_cons_succ, List.getElem_cons_zero, List.setIfInBounds_toArray, List.set_cons_zero, List.set_cons_succ]
      refine wpAnyH_take (i := 10) (v := .slice adn N.length capn) rfl (by kernel_rfl) (by kernel_rfl) (by kernel_rfl) (fun _ _ _ h => h) (Or.inl ⟨by rfl, fun w hSw => ?_⟩) hHeld ?_
      · clear hSw; go_simp; all_goals (try first | rfl | omega)
      try simp only [Act.put, List.getElem_toArray, List.getElem_cons_succ, List.getElem_cons_zero, List.setIfInBounds_toArray, List.set_cons_zero, List.set_cons_succ]
      refine wpAnyH_take (i := 11) (v := .bool W) rfl (by kernel_rfl) (by kernel_rfl) (by kernel_rfl) (fun _ _ _ h => h) (Or.inl ⟨by rfl, fun w hSw => ?_⟩) hHeld ?_
      · clear hSw; go_simp; all_goals (try first | rfl | omega)
      try simp only [Act.put, List.getElem_toArray, List.getElem_cons_succ, List.getElem_cons_zero, List.setIfInBounds_toArray, List.set_cons_zero, List.set_cons_succ]
      refine wpAnyH_done (by kernel_rfl) ?_ _
      have HBe := Lib.hid (HB.out.trans (Hb_wm.out.mono HB.out.size))
      have hzw := HB.out.size
      rcases hW : W with _ | _
      · have HR := Lib.hid (mis_3 HC1.out (by rw [HW.out]; exact hW))
        have HNN := Lib.hid (show RdBB (fun b => w.heap.size ≤ b) wm (.slice adn N.length capn) (misL l x) by rw [HR.out.2, HN.out]; exact HNR.out.mono (fun b hb => by omega))
        clear hW
        go_wp2
        refine bodyPost_ret (v := .tuple #[.slice adn N.length capn, .int .i64 0]) (by simp [results, Tryd.results51, go_sem]) rfl ⟨_, by rw [HR.out.1], HNN.out, HBe.out⟩
      · have HR := Lib.hid (mis_2 HC1.out (by rw [HW.out]; exact hW))
        clear hW
        go_wp2
        refine bodyPost_ret (v := .tuple #[.slice none 0 0, .int .i64 9]) (by simp [results, Tryd.results51, go_sem]) rfl ⟨_, by rw [HR.out.1], by rw [HR.out.2]; exact RdS.nil _ _ _, HBe.out⟩
    exact AllReadyH.nil
  exact AllReadyH.nil
end Go.Proofs.YtlailhhffejbbaaDoor
