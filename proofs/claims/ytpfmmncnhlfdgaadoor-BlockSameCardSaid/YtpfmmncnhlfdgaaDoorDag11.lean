/- dag.Find: what it computes. -/
import Derived.Test.YtpfmmncnhlfdgaaDoorDag10
set_option linter.unusedVariables false
set_option linter.unusedSimpArgs false
attribute [local go_sem ↓] Go.wp_at_zero Go.wp_at_succ
namespace Go.Proofs.YtpfmmncnhlfdgaaDoor
open Go Go.RowKit

/-- What Find tells, and hands back. -/
def findCode (l : List Crt) (k : Bytes) : Int := if idxP (isB k) (crtSums l) < 0 then 8 else 0
def findCrt (l : List Crt) (k : Bytes) : Crt := if idxP (isB k) (crtSums l) < 0 then crtZ else l.getD (idxP (isB k) (crtSums l)).toNat crtZ
theorem find_no {l : List Crt} {k : Bytes} (h : idxP (isB k) (crtSums l) < 0) : findCode l k = 8 ∧ findCrt l k = crtZ := by unfold findCode findCrt; rw [if_pos h, if_pos h]; exact ⟨rfl, rfl⟩
theorem find_yes {l : List Crt} {k : Bytes} {j : Nat} (hj : j < l.length) (h : idxP (isB k) (crtSums l) = j) : findCode l k = 0 ∧ findCrt l k = l[j] := by
  have h0 : ¬ (j : Int) < 0 := by omega
  unfold findCode findCrt; rw [h, if_neg h0, if_neg h0]; exact ⟨rfl, by simp [hj]⟩
set_option maxRecDepth 100000 in
set_option maxHeartbeats 8000000 in
theorem dagFind_any {G G2 : Nat → Prop} {l : List Crt} {k : Bytes} (v vk : Value) (w : World) (h : RdS RCert G w v l) (hk : RdB G2 w vk k) (ht : Tabs w) (hok : dagOk l = true) :
    Calls Tryd.prog 24 #[.agg #[v], vk] w fun e w' => ∃ vb vp vv, e = .returned (.tuple #[.agg #[.int .i64 (findCrt l k).h.a, .int .i64 (findCrt l k).h.r, vb, vp, vv], .int .i64 (findCode l k)]) ∧ RdBB (fun b => w.heap.size ≤ b) w' vb (findCrt l k).h.bs ∧ RdBB (fun b => w.heap.size ≤ b) w' vp (findCrt l k).h.ps ∧ RdI (fun b => w.heap.size ≤ b) w' vv (findCrt l k).vs ∧ Below w.heap.size w w' := by
  have hC := dagCode_zero.2 hok
  have hl4 := (dagOk_iff.1 hok).1
  have HC := Lib.hid hC
  have HCC := Lib.hid (dagOk_iff.1 hok).2.1
  have HOKH := Lib.hid (fun x (hx : x ∈ l) => (crt_partsP ((dagOk_iff.1 hok).2.1 x hx)).1)
  clear hC hok
  obtain ⟨ad, cap, rfl, hcap, hm⟩ := h.form
  obtain ⟨adk, capk, rfl, -, -⟩ := hk.form
  unfold maxLen at hm
  have hBw : Below w.heap.size w ((w.alloc (.cells #[.slice ad l.length cap] 30)).alloc (.cells #[.int .i64 0, .int .i64 0, .slice none 0 0, .slice none 0 0, .slice none 0 0] 45)) := ((Below.refl _ _).alloc (Nat.le_refl _) _).alloc (by simp) _
  have HV := Lib.hid (h.below hBw (fun _ h => h))
  have HK := Lib.hid (hk.below hBw (fun _ h => h))
  have HT := Lib.hid (ht.belowS hBw)
  have HB := Lib.hid hBw
  have B2 := Lib.hid ((BoxAt.new w [.slice ad l.length cap] 30).alloc (.cells #[.int .i64 0, .int .i64 0, .slice none 0 0, .slice none 0 0, .slice none 0 0] 45))
  have B4 := Lib.hid (BoxAt.newAt (w.alloc (.cells #[.slice ad l.length cap] 30)) [.int .i64 0, .int .i64 0, .slice none 0 0, .slice none 0 0, .slice none 0 0] 45 (n := w.heap.size + 1) (by simp))
  clear h hk ht hBw
  go_enter Tryd.func24, Tryd.ntmps24
  go_upto_region 1 with fail
  obtain ⟨w0, hw0⟩ : ∃ w0, w0 = (w.alloc (.cells #[.slice ad l.length cap] 30)).alloc (.cells #[.int .i64 0, .int .i64 0, .slice none 0 0, .slice none 0 0, .slice none 0 0] 45) := ⟨_, rfl⟩
  rw [← hw0] at HV HK HT HB B2 B4 ⊢
  clear hw0
  have zw := HB.out.size
  have x0 := B2.out.cell 0 rfl
  have zB2 := B2.out.lt
  go_wp2_with fail
  refine (dagCheck_any _ _ (HV.out.below (by repeat (first | with_reducible exact Below.refl _ _ | with_reducible refine Below.drew ?_ | with_reducible refine Below.setCell ?_ (by first | omega | (simp <;> omega)) _ | with_reducible refine Below.alloc ?_ (by first | omega | (simp <;> omega)) _)) (fun _ h => h)) (HT.out.belowS (by repeat (first | with_reducible exact Below.refl _ _ | with_reducible refine Below.drew ?_ | with_reducible refine Below.setCell ?_ (by first | omega | (simp <;> omega)) _ | with_reducible refine Below.alloc ?_ (by first | omega | (simp <;> omega)) _)))).mono ?_
  rw [HC.out]
  rintro e w1 ⟨rfl, hb1⟩
  have hB1 : Below w0.heap.size w0 w1 := Below.trans (by repeat (first | with_reducible exact Below.refl _ _ | with_reducible refine Below.drew ?_ | with_reducible refine Below.setCell ?_ (by first | omega | (simp <;> omega)) _ | with_reducible refine Below.alloc ?_ (by first | omega | (simp <;> omega)) _)) (hb1.mono (by first | exact Nat.le_refl _ | (simp; done) | (simp; omega)))
  have z1 := hB1.size
  replace HV := Lib.hid (HV.out.below hB1 (fun _ h => h))
  replace HK := Lib.hid (HK.out.below hB1 (fun _ h => h))
  replace HT := Lib.hid (HT.out.belowS hB1)
  replace HB := Lib.hid (HB.out.trans (hB1.mono HB.out.size))
  replace B2 := Lib.hid (B2.out.belowS hB1)
  replace B4 := Lib.hid (B4.out.belowS hB1)
  clear x0 zB2
  clear hb1 hB1
  have x0 := B2.out.cell 0 rfl
  have zB2 := B2.out.lt
  go_wp2_with fail
  refine (dall_ok _ _ (HV.out.below (by repeat (first | with_reducible exact Below.refl _ _ | with_reducible refine Below.drew ?_ | with_reducible refine Below.setCell ?_ (by first | omega | (simp <;> omega)) _ | with_reducible refine Below.alloc ?_ (by first | omega | (simp <;> omega)) _)) (fun _ h => h)) HOKH.out (by omega) (HT.out.belowS (by repeat (first | with_reducible exact Below.refl _ _ | with_reducible refine Below.drew ?_ | with_reducible refine Below.setCell ?_ (by first | omega | (simp <;> omega)) _ | with_reducible refine Below.alloc ?_ (by first | omega | (simp <;> omega)) _)))).mono ?_
  rintro e w2 ⟨vds, rfl, hds, hb2⟩
  have hB2 : Below w1.heap.size w1 w2 := Below.trans (by repeat (first | with_reducible exact Below.refl _ _ | with_reducible refine Below.drew ?_ | with_reducible refine Below.setCell ?_ (by first | omega | (simp <;> omega)) _ | with_reducible refine Below.alloc ?_ (by first | omega | (simp <;> omega)) _)) (hb2.mono (by first | exact Nat.le_refl _ | (simp; done) | (simp; omega)))
  have z2 := hB2.size
  replace HV := Lib.hid (HV.out.below hB2 (fun _ h => h))
  replace HK := Lib.hid (HK.out.below hB2 (fun _ h => h))
  replace HT := Lib.hid (HT.out.belowS hB2)
  replace HB := Lib.hid (HB.out.trans (hB2.mono HB.out.size))
  replace B2 := Lib.hid (B2.out.belowS hB2)
  replace B4 := Lib.hid (B4.out.belowS hB2)
  obtain ⟨ad_hds, cap_hds, rfl, -, -⟩ := hds.form
  have HDS := Lib.hid (hds.mono (G' := fun _ => True) (fun _ _ => trivial))
  clear x0 zB2
  clear hb2 hB2 hds
  go_wp2_with fail
  refine (dat_any _ _ _ (HDS.out.below (by repeat (first | with_reducible exact Below.refl _ _ | with_reducible refine Below.drew ?_ | with_reducible refine Below.setCell ?_ (by first | omega | (simp <;> omega)) _ | with_reducible refine Below.alloc ?_ (by first | omega | (simp <;> omega)) _)) (fun _ h => h)) (HK.out.below (by repeat (first | with_reducible exact Below.refl _ _ | with_reducible refine Below.drew ?_ | with_reducible refine Below.setCell ?_ (by first | omega | (simp <;> omega)) _ | with_reducible refine Below.alloc ?_ (by first | omega | (simp <;> omega)) _)) (fun _ h => h))).mono ?_
  rintro e w3 ⟨rfl, hb3⟩
  have hB3 : Below w2.heap.size w2 w3 := Below.trans (by repeat (first | with_reducible exact Below.refl _ _ | with_reducible refine Below.drew ?_ | with_reducible refine Below.setCell ?_ (by first | omega | (simp <;> omega)) _ | with_reducible refine Below.alloc ?_ (by first | omega | (simp <;> omega)) _)) (hb3.mono (by first | exact Nat.le_refl _ | (simp; done) | (simp; omega)))
  have z3 := hB3.size
  replace HV := Lib.hid (HV.out.below hB3 (fun _ h => h))
  replace HK := Lib.hid (HK.out.below hB3 (fun _ h => h))
  replace HT := Lib.hid (HT.out.belowS hB3)
  replace HB := Lib.hid (HB.out.trans (hB3.mono HB.out.size))
  replace B2 := Lib.hid (B2.out.belowS hB3)
  replace B4 := Lib.hid (B4.out.belowS hB3)
  replace HDS := Lib.hid (HDS.out.below hB3 (fun _ h => h))
  clear hb3 hB3
  by_cases hneg : idxP (isB k) (crtSums l) < 0
  · have HF := Lib.hid (find_no hneg)
    have HZ := Lib.hid (((((B4.out.set 0 (.int .i64 0)).set 1 (.int .i64 0)).set 2 (.slice none 0 0)).set 3 (.slice none 0 0)).set 4 (.slice none 0 0))
    have HBE := Lib.hid (((((HB.out.setCell (p := ⟨w.heap.size + 1, 0, none⟩) (by simp) (.int .i64 0)).setCell (p := ⟨w.heap.size + 1, 1, none⟩) (by simp) (.int .i64 0)).setCell (p := ⟨w.heap.size + 1, 2, none⟩) (by simp) (.slice none 0 0)).setCell (p := ⟨w.heap.size + 1, 3, none⟩) (by simp) (.slice none 0 0)).setCell (p := ⟨w.heap.size + 1, 4, none⟩) (by simp) (.slice none 0 0))
    have yz := B4.out.lt
    have y0 := B4.out.cell 0 rfl
    have yf0 := B4.out.free 0
    have g0 := HZ.out.cell 0 rfl
    have y1 := B4.out.cell 1 rfl
    have yf1 := B4.out.free 1
    have g1 := HZ.out.cell 1 rfl
    have y2 := B4.out.cell 2 rfl
    have yf2 := B4.out.free 2
    have g2 := HZ.out.cell 2 rfl
    have y3 := B4.out.cell 3 rfl
    have yf3 := B4.out.free 3
    have g3 := HZ.out.cell 3 rfl
    have y4 := B4.out.cell 4 rfl
    have yf4 := B4.out.free 4
    have g4 := HZ.out.cell 4 rfl
    go_wp2
    refine bodyPost_ret (v := .tuple #[.agg #[.int .i64 0, .int .i64 0, .slice none 0 0, .slice none 0 0, .slice none 0 0], .int .i64 8]) (by simp [results, Tryd.results24, go_sem, g0, g1, g2, g3, g4]) rfl ⟨_, _, _, by rw [HF.out.1, HF.out.2]; rfl, by rw [HF.out.2]; exact RdS.nil _ _ _, by rw [HF.out.2]; exact RdS.nil _ _ _, by rw [HF.out.2]; exact RdS.nil _ _ _, HBE.out⟩
  · have hge : 0 ≤ idxP (isB k) (crtSums l) := by omega
    obtain ⟨j, hj, hij, -, -⟩ := idxP_at hge
    have hjl : j < l.length := by rw [crtSums_len] at hj; exact hj
    have HF := Lib.hid (find_yes hjl hij)
    have jn : ¬ (j : Int) < 0 := by omega
    have j0 : (0 : Int) ≤ (j : Int) := by omega
    have j1 : (j : Int) < (l.length : Int) := by omega
    rw [hij]
    obtain ⟨bc, oc, xb, xp, xv, rfl, -, e0, e1, e2, e3, e4, hxb, hxp, hxv⟩ := HV.out.crt j hjl
    have HXC := Lib.hid (HCC.out l[j] (List.getElem_mem hjl))
    generalize l[j] = c at *
    obtain ⟨eb, ebc, rfl, -, -⟩ := hxb.form
    obtain ⟨ep, epc, rfl, -, -⟩ := hxp.form
    obtain ⟨ev, evc, rfl, -, -⟩ := hxv.form
    have H1 := Lib.hid hxb
    have H2 := Lib.hid hxp
    have H3 := Lib.hid hxv
    have x0 := B2.out.cell 0 rfl
    clear hxb hxp hxv hge hneg hij hj
    go_wp2_with fail
    refine (dagOwn_any c _ _ _ _ H1.out H2.out H3.out HXC.out).mono ?_
    rintro e wo ⟨u1, u2, u3, rfl, hu1, hu2, hu3, hbo⟩
    obtain ⟨ub, ubc, rfl, -, -⟩ := hu1.form
    obtain ⟨up, upc, rfl, -, -⟩ := hu2.form
    obtain ⟨uv, uvc, rfl, -, -⟩ := hu3.form
    have zo := hbo.size
    have B4o := Lib.hid (B4.out.belowS hbo)
    have HBo := Lib.hid (HB.out.trans (hbo.mono HB.out.size))
    have zb4 := B4.out.lt
    have HU1 := Lib.hid (show RdBB (fun b => w3.heap.size ≤ b) wo _ _ from hu1)
    have HU2 := Lib.hid (show RdBB (fun b => w3.heap.size ≤ b) wo _ _ from hu2)
    have HU3 := Lib.hid (show RdI (fun b => w3.heap.size ≤ b) wo _ _ from hu3)
    clear x0 e0 e1 e2 e3 e4 hu1 hu2 hu3 hbo
    have HZ := Lib.hid (((((B4o.out.set 0 (.int .i64 c.h.a)).set 1 (.int .i64 c.h.r)).set 2 (.slice ub c.h.bs.length ubc)).set 3 (.slice up c.h.ps.length upc)).set 4 (.slice uv c.vs.length uvc))
    have HBE := Lib.hid (((((HBo.out.setCell (p := ⟨w.heap.size + 1, 0, none⟩) (by simp) (.int .i64 c.h.a)).setCell (p := ⟨w.heap.size + 1, 1, none⟩) (by simp) (.int .i64 c.h.r)).setCell (p := ⟨w.heap.size + 1, 2, none⟩) (by simp) (.slice ub c.h.bs.length ubc)).setCell (p := ⟨w.heap.size + 1, 3, none⟩) (by simp) (.slice up c.h.ps.length upc)).setCell (p := ⟨w.heap.size + 1, 4, none⟩) (by simp) (.slice uv c.vs.length uvc))
    have yz := B4o.out.lt
    have y0 := B4o.out.cell 0 rfl
    have yf0 := B4o.out.free 0
    have g0 := HZ.out.cell 0 rfl
    have y1 := B4o.out.cell 1 rfl
    have yf1 := B4o.out.free 1
    have g1 := HZ.out.cell 1 rfl
    have y2 := B4o.out.cell 2 rfl
    have yf2 := B4o.out.free 2
    have g2 := HZ.out.cell 2 rfl
    have y3 := B4o.out.cell 3 rfl
    have yf3 := B4o.out.free 3
    have g3 := HZ.out.cell 3 rfl
    have y4 := B4o.out.cell 4 rfl
    have yf4 := B4o.out.free 4
    have g4 := HZ.out.cell 4 rfl
    have HR1 := Lib.hid (show RdBB (fun b => w.heap.size ≤ b) _ _ c.h.bs from ((((((HU1.out.keep (G' := fun b => w3.heap.size ≤ b) (Keep.setCell (p := ⟨w.heap.size + 1, 0, none⟩) (by simp; omega) (.int .i64 c.h.a)) (fun _ h => h)).keep (G' := fun b => w3.heap.size ≤ b) (Keep.setCell (p := ⟨w.heap.size + 1, 1, none⟩) (by simp; omega) (.int .i64 c.h.r)) (fun _ h => h)).keep (G' := fun b => w3.heap.size ≤ b) (Keep.setCell (p := ⟨w.heap.size + 1, 2, none⟩) (by simp; omega) (.slice ub c.h.bs.length ubc)) (fun _ h => h)).keep (G' := fun b => w3.heap.size ≤ b) (Keep.setCell (p := ⟨w.heap.size + 1, 3, none⟩) (by simp; omega) (.slice up c.h.ps.length upc)) (fun _ h => h)).keep (G' := fun b => w3.heap.size ≤ b) (Keep.setCell (p := ⟨w.heap.size + 1, 4, none⟩) (by simp; omega) (.slice uv c.vs.length uvc)) (fun _ h => h)).mono (fun b hb => by have h0 : w3.heap.size ≤ b := hb; omega)))
    have HR2 := Lib.hid (show RdBB (fun b => w.heap.size ≤ b) _ _ c.h.ps from ((((((HU2.out.keep (G' := fun b => w3.heap.size ≤ b) (Keep.setCell (p := ⟨w.heap.size + 1, 0, none⟩) (by simp; omega) (.int .i64 c.h.a)) (fun _ h => h)).keep (G' := fun b => w3.heap.size ≤ b) (Keep.setCell (p := ⟨w.heap.size + 1, 1, none⟩) (by simp; omega) (.int .i64 c.h.r)) (fun _ h => h)).keep (G' := fun b => w3.heap.size ≤ b) (Keep.setCell (p := ⟨w.heap.size + 1, 2, none⟩) (by simp; omega) (.slice ub c.h.bs.length ubc)) (fun _ h => h)).keep (G' := fun b => w3.heap.size ≤ b) (Keep.setCell (p := ⟨w.heap.size + 1, 3, none⟩) (by simp; omega) (.slice up c.h.ps.length upc)) (fun _ h => h)).keep (G' := fun b => w3.heap.size ≤ b) (Keep.setCell (p := ⟨w.heap.size + 1, 4, none⟩) (by simp; omega) (.slice uv c.vs.length uvc)) (fun _ h => h)).mono (fun b hb => by have h0 : w3.heap.size ≤ b := hb; omega)))
    have HR3 := Lib.hid (show RdI (fun b => w.heap.size ≤ b) _ _ c.vs from ((((((HU3.out.keep (G' := fun b => w3.heap.size ≤ b) (Keep.setCell (p := ⟨w.heap.size + 1, 0, none⟩) (by simp; omega) (.int .i64 c.h.a)) (fun _ h => h)).keep (G' := fun b => w3.heap.size ≤ b) (Keep.setCell (p := ⟨w.heap.size + 1, 1, none⟩) (by simp; omega) (.int .i64 c.h.r)) (fun _ h => h)).keep (G' := fun b => w3.heap.size ≤ b) (Keep.setCell (p := ⟨w.heap.size + 1, 2, none⟩) (by simp; omega) (.slice ub c.h.bs.length ubc)) (fun _ h => h)).keep (G' := fun b => w3.heap.size ≤ b) (Keep.setCell (p := ⟨w.heap.size + 1, 3, none⟩) (by simp; omega) (.slice up c.h.ps.length upc)) (fun _ h => h)).keep (G' := fun b => w3.heap.size ≤ b) (Keep.setCell (p := ⟨w.heap.size + 1, 4, none⟩) (by simp; omega) (.slice uv c.vs.length uvc)) (fun _ h => h)).mono (fun b hb => by have h0 : w3.heap.size ≤ b := hb; omega)))
    go_wp2
    refine bodyPost_ret (v := .tuple #[.agg #[.int .i64 c.h.a, .int .i64 c.h.r, .slice ub c.h.bs.length ubc, .slice up c.h.ps.length upc, .slice uv c.vs.length uvc], .int .i64 0]) (by simp [results, Tryd.results24, go_sem, g0, g1, g2, g3, g4]) rfl ⟨_, _, _, by rw [HF.out.1, HF.out.2], by rw [HF.out.2]; exact HR1.out, by rw [HF.out.2]; exact HR2.out, by rw [HF.out.2]; exact HR3.out, HBE.out⟩
end Go.Proofs.YtpfmmncnhlfdgaaDoor
