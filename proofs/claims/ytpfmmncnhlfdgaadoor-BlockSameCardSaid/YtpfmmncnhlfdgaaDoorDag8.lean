/- dag: Insert: what it computes. -/
import Derived.Test.YtpfmmncnhlfdgaaDoorDag7
import Derived.Test.YtpfmmncnhlfdgaaDoorBas
set_option linter.unusedVariables false
set_option linter.unusedSimpArgs false
attribute [local go_sem ↓] Go.wp_at_zero Go.wp_at_succ
namespace Go.Proofs.YtpfmmncnhlfdgaaDoor
open Go Go.RowKit

theorem elemCrt : ElemOk Tryd.prog 28 45 5 88 := elemOk_of (z := .agg #[.int .i64 0, .int .i64 0, .slice none 0 0, .slice none 0 0, .slice none 0 0]) (by kernel_rfl) (by kernel_rfl) rfl (by decide)
/-- What Insert hands back. -/
def insL (l : List Crt) (c : Crt) : List Crt := if insCode l c = 0 then l ++ [c] else []
theorem insL_no {l : List Crt} {c : Crt} (h : insCode l c ≠ 0) : insL l c = [] := by unfold insL; rw [if_neg h]
theorem insL_yes {l : List Crt} {c : Crt} (h : insCode l c = 0) : insL l c = l ++ [c] := by unfold insL; rw [if_pos h]
theorem ins_1 {l : List Crt} {c : Crt} (h : dagCode l ≠ 0) : insCode l c = 12 := by unfold insCode; rw [if_pos h]
theorem ins_2 {l : List Crt} {c : Crt} (h : dagCode l = 0) (h2 : crtCode c ≠ 0) : insCode l c = crtCode c := by unfold insCode; rw [if_neg (by simp [h]), if_pos h2]
theorem ins_3 {l : List Crt} {c : Crt} (h : dagCode l = 0) (h2 : crtCode c = 0) (h3 : takenB l c.h = true) : insCode l c = 7 := by unfold insCode; rw [if_neg (by simp [h]), if_neg (by simp [h2]), if_pos h3]
theorem ins_4 {l : List Crt} {c : Crt} (h : dagCode l = 0) (h2 : crtCode c = 0) (h3 : takenB l c.h = false) (h4 : wrongB l (crtSums l) c.h.r c.h.ps = true) : insCode l c = 9 := by
  unfold insCode; rw [if_neg (by simp [h]), if_neg (by simp [h2]), if_neg (by simp [h3]), if_pos h4]
theorem ins_5 {l : List Crt} {c : Crt} (h : dagCode l = 0) (h2 : crtCode c = 0) (h3 : takenB l c.h = false) (h4 : wrongB l (crtSums l) c.h.r c.h.ps = false) (h5 : 0 < (noneL (crtSums l) c.h.ps).length) : insCode l c = 8 := by
  unfold insCode; rw [if_neg (by simp [h]), if_neg (by simp [h2]), if_neg (by simp [h3]), if_neg (by simp [h4]), if_pos h5]
theorem ins_6 {l : List Crt} {c : Crt} (h : dagCode l = 0) (h2 : crtCode c = 0) (h3 : takenB l c.h = false) (h4 : wrongB l (crtSums l) c.h.r c.h.ps = false) (h5 : (noneL (crtSums l) c.h.ps).length = 0) (h6 : l.length = 400) : insCode l c = 6 := by
  unfold insCode; rw [if_neg (by simp [h]), if_neg (by simp [h2]), if_neg (by simp [h3]), if_neg (by simp [h4]), if_neg (by omega), if_pos h6]
theorem ins_7 {l : List Crt} {c : Crt} (h : dagCode l = 0) (h2 : crtCode c = 0) (h3 : takenB l c.h = false) (h4 : wrongB l (crtSums l) c.h.r c.h.ps = false) (h5 : (noneL (crtSums l) c.h.ps).length = 0) (h6 : l.length ≠ 400) : insCode l c = 0 := by
  unfold insCode; rw [if_neg (by simp [h]), if_neg (by simp [h2]), if_neg (by simp [h3]), if_neg (by simp [h4]), if_neg (by omega), if_neg h6]
set_option maxRecDepth 100000 in
set_option maxHeartbeats 8000000 in
theorem dagInsert_any {G G2 : Nat → Prop} {l : List Crt} (c : Crt) (v vb vp vv : Value) (w : World) (h : RdS RCert G w v l) (hb : RdBB G2 w vb c.h.bs) (hp : RdBB G2 w vp c.h.ps) (hv : RdI G2 w vv c.vs) (ht : Tabs w) :
    Calls Tryd.prog 52 #[.agg #[v], .agg #[.int .i64 c.h.a, .int .i64 c.h.r, vb, vp, vv]] w fun e w' => ∃ v', e = .returned (.tuple #[.agg #[v'], .int .i64 (insCode l c)]) ∧ RdS RCert (fun b => w.heap.size ≤ b) w' v' (insL l c) ∧ Below w.heap.size w w' := by
  obtain ⟨ad, cap, rfl, hcap, hm⟩ := h.form
  obtain ⟨adb, capb, rfl, -, -⟩ := hb.form
  obtain ⟨adp, capp, rfl, -, -⟩ := hp.form
  obtain ⟨adv, capv, rfl, -, -⟩ := hv.form
  unfold maxLen at hm
  have hBw : Below w.heap.size w (((w.alloc (.cells #[.slice ad l.length cap] 30)).alloc (.cells #[.int .i64 c.h.a, .int .i64 c.h.r, .slice adb c.h.bs.length capb, .slice adp c.h.ps.length capp, .slice adv c.vs.length capv] 45)).alloc (.cells #[.slice none 0 0] 30)) := (((Below.refl _ _).alloc (Nat.le_refl _) _).alloc (by simp) _).alloc (by simp; omega) _
  have HV := Lib.hid (h.below hBw (fun _ h => h))
  have H1 := Lib.hid (hb.below hBw (fun _ h => h))
  have H2 := Lib.hid (hp.below hBw (fun _ h => h))
  have H3 := Lib.hid (hv.below hBw (fun _ h => h))
  have HT := Lib.hid (ht.belowS hBw)
  have HB := Lib.hid hBw
  have B2 := Lib.hid (((BoxAt.new w [.slice ad l.length cap] 30).alloc (.cells #[.int .i64 c.h.a, .int .i64 c.h.r, .slice adb c.h.bs.length capb, .slice adp c.h.ps.length capp, .slice adv c.vs.length capv] 45)).alloc (.cells #[.slice none 0 0] 30))
  have B3 := Lib.hid ((BoxAt.newAt (w.alloc (.cells #[.slice ad l.length cap] 30)) [.int .i64 c.h.a, .int .i64 c.h.r, .slice adb c.h.bs.length capb, .slice adp c.h.ps.length capp, .slice adv c.vs.length capv] 45 (n := w.heap.size + 1) (by simp)).alloc (.cells #[.slice none 0 0] 30))
  have B4 := Lib.hid (BoxAt.newAt ((w.alloc (.cells #[.slice ad l.length cap] 30)).alloc (.cells #[.int .i64 c.h.a, .int .i64 c.h.r, .slice adb c.h.bs.length capb, .slice adp c.h.ps.length capp, .slice adv c.vs.length capv] 45)) [.slice none 0 0] 30 (n := w.heap.size + 2) (by simp))
  clear h hb hp hv ht hBw
  go_enter Tryd.func52, Tryd.ntmps52
  go_upto_region 1 with fail
  obtain ⟨w0, hw0⟩ : ∃ w0, w0 = ((w.alloc (.cells #[.slice ad l.length cap] 30)).alloc (.cells #[.int .i64 c.h.a, .int .i64 c.h.r, .slice adb c.h.bs.length capb, .slice adp c.h.ps.length capp, .slice adv c.vs.length capv] 45)).alloc (.cells #[.slice none 0 0] 30) := ⟨_, rfl⟩
  rw [← hw0] at HV H1 H2 H3 HT HB B2 B3 B4 ⊢
  clear hw0
  have zw := HB.out.size
  have x0 := B2.out.cell 0 rfl
  have zB2 := B2.out.lt
  go_wp2_with fail
  refine (dagCheck_any _ _ (HV.out.below (by repeat (first | with_reducible exact Below.refl _ _ | with_reducible refine Below.drew ?_ | with_reducible refine Below.setCell ?_ (by first | omega | (simp <;> omega)) _ | with_reducible refine Below.alloc ?_ (by first | omega | (simp <;> omega)) _)) (fun _ h => h)) (HT.out.belowS (by repeat (first | with_reducible exact Below.refl _ _ | with_reducible refine Below.drew ?_ | with_reducible refine Below.setCell ?_ (by first | omega | (simp <;> omega)) _ | with_reducible refine Below.alloc ?_ (by first | omega | (simp <;> omega)) _)))).mono ?_
  rintro e w1 ⟨rfl, hb1⟩
  have hB1 : Below w0.heap.size w0 w1 := Below.trans (by repeat (first | with_reducible exact Below.refl _ _ | with_reducible refine Below.drew ?_ | with_reducible refine Below.setCell ?_ (by first | omega | (simp <;> omega)) _ | with_reducible refine Below.alloc ?_ (by first | omega | (simp <;> omega)) _)) (hb1.mono (by first | exact Nat.le_refl _ | (simp; done) | (simp; omega)))
  have z1 := hB1.size
  replace HV := Lib.hid (HV.out.below hB1 (fun _ h => h))
  replace H1 := Lib.hid (H1.out.below hB1 (fun _ h => h))
  replace H2 := Lib.hid (H2.out.below hB1 (fun _ h => h))
  replace H3 := Lib.hid (H3.out.below hB1 (fun _ h => h))
  replace HT := Lib.hid (HT.out.belowS hB1)
  replace HB := Lib.hid (HB.out.trans (hB1.mono HB.out.size))
  replace B2 := Lib.hid (B2.out.belowS hB1)
  replace B3 := Lib.hid (B3.out.belowS hB1)
  replace B4 := Lib.hid (B4.out.belowS hB1)
  clear x0 zB2
  clear hb1 hB1
  obtain ⟨q0, hq0⟩ : ∃ q0, q0 = dagCode l := ⟨_, rfl⟩
  rw [← hq0]
  have HQ0 := Lib.hid hq0.symm
  clear hq0
  by_cases hc0 : q0 = 0
  case neg =>
    have n0 : (q0 != 0) = true := cB_true hc0
    have hq12 : q0 = 12 := (dagCode_or l).elim (fun e => absurd (by rw [← HQ0.out]; exact e) hc0) (fun e => by rw [← HQ0.out]; exact e)
    have HQ12 := Lib.hid hq12
    have HNE := Lib.hid hc0
    clear hc0 hq12
    have HR := Lib.hid (ins_1 (c := c) (by rw [HQ0.out]; exact HNE.out))
    rw [HQ12.out] at n0 ⊢
    have y0 := B4.out.cell 0 rfl
    have yf := B4.out.free 0
    have yz := B4.out.lt
    have HZ := Lib.hid (B4.out.set 0 (.slice none 0 0))
    have g0 := HZ.out.cell 0 rfl
    have HBE := Lib.hid (HB.out.setCell (p := ⟨w.heap.size + 2, 0, none⟩) (by simp) (.slice none 0 0))
    go_wp2
    refine bodyPost_ret (v := .tuple #[.agg #[.slice none 0 0], .int .i64 12]) (by simp [results, Tryd.results52, go_sem, g0]) rfl ⟨_, by rw [HR.out], ?_, HBE.out⟩
    rw [insL_no (by rw [HR.out]; first | decide | assumption)]; exact RdS.nil _ _ _
  have HD0 := Lib.hid (show dagCode l = 0 by rw [HQ0.out]; exact hc0)
  have HOK := Lib.hid (dagOk_iff.1 (dagCode_zero.1 HD0.out))
  have hl4 := HOK.out.1
  subst hc0
  clear HQ0
  have x0 := B3.out.cell 0 rfl
  have x1 := B3.out.cell 1 rfl
  have x2 := B3.out.cell 2 rfl
  have x3 := B3.out.cell 3 rfl
  have x4 := B3.out.cell 4 rfl
  have zB3 := B3.out.lt
  go_wp2_with fail
  refine (ccert_any _ _ _ _ _ _ (H1.out.below (by repeat (first | with_reducible exact Below.refl _ _ | with_reducible refine Below.drew ?_ | with_reducible refine Below.setCell ?_ (by first | omega | (simp <;> omega)) _ | with_reducible refine Below.alloc ?_ (by first | omega | (simp <;> omega)) _)) (fun _ h => h)) (H2.out.below (by repeat (first | with_reducible exact Below.refl _ _ | with_reducible refine Below.drew ?_ | with_reducible refine Below.setCell ?_ (by first | omega | (simp <;> omega)) _ | with_reducible refine Below.alloc ?_ (by first | omega | (simp <;> omega)) _)) (fun _ h => h)) (H3.out.below (by repeat (first | with_reducible exact Below.refl _ _ | with_reducible refine Below.drew ?_ | with_reducible refine Below.setCell ?_ (by first | omega | (simp <;> omega)) _ | with_reducible refine Below.alloc ?_ (by first | omega | (simp <;> omega)) _)) (fun _ h => h))).mono ?_
  rintro e w2 ⟨rfl, hb2⟩
  have hB2 : Below w1.heap.size w1 w2 := Below.trans (by repeat (first | with_reducible exact Below.refl _ _ | with_reducible refine Below.drew ?_ | with_reducible refine Below.setCell ?_ (by first | omega | (simp <;> omega)) _ | with_reducible refine Below.alloc ?_ (by first | omega | (simp <;> omega)) _)) (hb2.mono (by first | exact Nat.le_refl _ | (simp; done) | (simp; omega)))
  have z2 := hB2.size
  replace HV := Lib.hid (HV.out.below hB2 (fun _ h => h))
  replace H1 := Lib.hid (H1.out.below hB2 (fun _ h => h))
  replace H2 := Lib.hid (H2.out.below hB2 (fun _ h => h))
  replace H3 := Lib.hid (H3.out.below hB2 (fun _ h => h))
  replace HT := Lib.hid (HT.out.belowS hB2)
  replace HB := Lib.hid (HB.out.trans (hB2.mono HB.out.size))
  replace B2 := Lib.hid (B2.out.belowS hB2)
  replace B3 := Lib.hid (B3.out.belowS hB2)
  replace B4 := Lib.hid (B4.out.belowS hB2)
  clear x0 x1 x2 x3 x4 zB3
  clear hb2 hB2
  obtain ⟨q1, hq1⟩ : ∃ q1, q1 = crtCode c := ⟨_, rfl⟩
  rw [show crtCode ⟨⟨c.h.a, c.h.r, c.h.bs, c.h.ps⟩, c.vs⟩ = q1 from hq1.symm]
  have HC := Lib.hid hq1.symm
  clear hq1
  by_cases hc1 : q1 = 0
  case neg =>
    have n1 : (q1 != 0) = true := cB_true hc1
    have HNE := Lib.hid hc1
    have HNE2 : ¬ q1 = 0 := hc1
    have HR := Lib.hid (show insCode l c = q1 by rw [ins_2 HD0.out (by rw [HC.out]; exact HNE.out), HC.out])
    clear hc1 HNE2
    have y0 := B4.out.cell 0 rfl
    have yf := B4.out.free 0
    have yz := B4.out.lt
    have HZ := Lib.hid (B4.out.set 0 (.slice none 0 0))
    have g0 := HZ.out.cell 0 rfl
    have HBE := Lib.hid (HB.out.setCell (p := ⟨w.heap.size + 2, 0, none⟩) (by simp) (.slice none 0 0))
    go_wp2
    refine bodyPost_ret (v := .tuple #[.agg #[.slice none 0 0], .int .i64 q1]) (by simp [results, Tryd.results52, go_sem, g0]) rfl ⟨_, by rw [HR.out], ?_, HBE.out⟩
    rw [insL_no (by rw [HR.out]; exact HNE.out)]; exact RdS.nil _ _ _
  have HCC := Lib.hid (show crtCode c = 0 by rw [HC.out]; exact hc1)
  subst hc1
  clear HC
  obtain ⟨c32, c4, cr1, cr2⟩ := crt_ps HCC.out
  have HC32 := Lib.hid c32
  clear c32
  have x0 := B2.out.cell 0 rfl
  have zB2 := B2.out.lt
  have y0 := B3.out.cell 0 rfl
  have y1 := B3.out.cell 1 rfl
  have y2 := B3.out.cell 2 rfl
  have y3 := B3.out.cell 3 rfl
  have zB3 := B3.out.lt
  go_wp2_with fail
  refine (taken_any c.h _ _ _ _ (HV.out.below (by repeat (first | with_reducible exact Below.refl _ _ | with_reducible refine Below.drew ?_ | with_reducible refine Below.setCell ?_ (by first | omega | (simp <;> omega)) _ | with_reducible refine Below.alloc ?_ (by first | omega | (simp <;> omega)) _)) (fun _ h => h)) ⟨rfl, rfl⟩).mono ?_
  rintro e w3 ⟨rfl, hb3⟩
  have hB3 : Below w2.heap.size w2 w3 := Below.trans (by repeat (first | with_reducible exact Below.refl _ _ | with_reducible refine Below.drew ?_ | with_reducible refine Below.setCell ?_ (by first | omega | (simp <;> omega)) _ | with_reducible refine Below.alloc ?_ (by first | omega | (simp <;> omega)) _)) (hb3.mono (by first | exact Nat.le_refl _ | (simp; done) | (simp; omega)))
  have z3 := hB3.size
  replace HV := Lib.hid (HV.out.below hB3 (fun _ h => h))
  replace H1 := Lib.hid (H1.out.below hB3 (fun _ h => h))
  replace H2 := Lib.hid (H2.out.below hB3 (fun _ h => h))
  replace H3 := Lib.hid (H3.out.below hB3 (fun _ h => h))
  replace HT := Lib.hid (HT.out.belowS hB3)
  replace HB := Lib.hid (HB.out.trans (hB3.mono HB.out.size))
  replace B2 := Lib.hid (B2.out.belowS hB3)
  replace B3 := Lib.hid (B3.out.belowS hB3)
  replace B4 := Lib.hid (B4.out.belowS hB3)
  clear x0 zB2 y0 y1 y2 y3 zB3
  clear hb3 hB3
  obtain ⟨T, hT0⟩ : ∃ T, T = takenB l c.h := ⟨_, rfl⟩
  rw [← hT0]
  have HTB := Lib.hid hT0.symm
  clear hT0
  rcases hT : T with _ | _
  case true =>
    have HTT := Lib.hid hT
    clear hT
    have HR := Lib.hid (ins_3 HD0.out HCC.out (by rw [HTB.out]; exact HTT.out))
    have y0 := B4.out.cell 0 rfl
    have yf := B4.out.free 0
    have yz := B4.out.lt
    have HZ := Lib.hid (B4.out.set 0 (.slice none 0 0))
    have g0 := HZ.out.cell 0 rfl
    have HBE := Lib.hid (HB.out.setCell (p := ⟨w.heap.size + 2, 0, none⟩) (by simp) (.slice none 0 0))
    go_wp2
    refine bodyPost_ret (v := .tuple #[.agg #[.slice none 0 0], .int .i64 7]) (by simp [results, Tryd.results52, go_sem, g0]) rfl ⟨_, by rw [HR.out], ?_, HBE.out⟩
    rw [insL_no (by rw [HR.out]; first | decide | assumption)]; exact RdS.nil _ _ _
  replace HTB := Lib.hid (show takenB l c.h = false by rw [HTB.out]; exact hT)
  clear hT
  have HOKH := Lib.hid (fun x (hx : x ∈ l) => (crt_partsP (HOK.out.2.1 x hx)).1)
  go_upto_region 9 with fail
  refine wp_region_held_drew (S := fun w' => Below w3.heap.size w3 w') (by kernel_rfl) (by exact (Below.refl _ _).drew) (fun hHeld => ?_)
  refine wpAnyH_take (i := 0) (v := .pointer (some ⟨w.heap.size, 0, none⟩)) rfl (by kernel_rfl) (by kernel_rfl) (by kernel_rfl) (fun _ _ _ h => h) (Or.inl ⟨by rfl, fun w hSw => ?_⟩) hHeld ?_
  · clear hSw; go_simp; all_goals (try first | rfl | omega)
  try simp only [Act.put, List.getElem_toArray, List.getElem_cons_succ, List.getElem_cons_zero, List.setIfInBounds_toArray, List.set_cons_zero, List.set_cons_succ]
  refine wpAnyH_take (i := 1) (v := .slice ad l.length cap) rfl (by kernel_rfl) (by kernel_rfl) (by kernel_rfl) (fun _ _ _ h => h) (Or.inl ⟨by rfl, fun w hSw => ?_⟩) hHeld ?_
  · have qb := B2.out.belowS hSw; have q0 := qb.cell 0 rfl; clear hSw qb; go_simp
  try simp only [Act.put, List.getElem_toArray, List.getElem_cons_succ, List.getElem_cons_zero, List.setIfInBounds_toArray, List.set_cons_zero, List.set_cons_succ]
  refine wpAnyH_take (i := 2) (v := .pointer (some ⟨w.heap.size, 0, none⟩)) rfl (by kernel_rfl) (by kernel_rfl) (by kernel_rfl) (fun _ _ _ h => h) (Or.inl ⟨by rfl, fun w hSw => ?_⟩) hHeld ?_
  · clear hSw; go_simp; all_goals (try first | rfl | omega)
  try simp only [Act.put, List.getElem_toArray, List.getElem_cons_succ, List.getElem_cons_zero, List.setIfInBounds_toArray, List.set_cons_zero, List.set_cons_succ]
  refine wpAnyH_take (i := 3) (v := .slice ad l.length cap) rfl (by kernel_rfl) (by kernel_rfl) (by kernel_rfl) (fun _ _ _ h => h) (Or.inl ⟨by rfl, fun w hSw => ?_⟩) hHeld ?_
  · have qb := B2.out.belowS hSw; have q0 := qb.cell 0 rfl; clear hSw qb; go_simp
  try simp only [Act.put, List.getElem_toArray, List.getElem_cons_succ, List.getElem_cons_zero, List.setIfInBounds_toArray, List.set_cons_zero, List.set_cons_succ]
  refine wpAnyH_take (i := 5) (v := .pointer (some ⟨w.heap.size + 1, 0, none⟩)) rfl (by kernel_rfl) (by kernel_rfl) (by kernel_rfl) (fun _ _ _ h => h) (Or.inl ⟨by rfl, fun w hSw => ?_⟩) hHeld ?_
  · clear hSw; go_simp; all_goals (try first | rfl | omega)
  try simp only [Act.put, List.getElem_toArray, List.getElem_cons_succ, List.getElem_cons_zero, List.setIfInBounds_toArray, List.set_cons_zero, List.set_cons_succ]
  refine wpAnyH_take (i := 6) (v := .agg #[.int .i64 c.h.a, .int .i64 c.h.r, .slice adb c.h.bs.length capb, .slice adp c.h.ps.length capp]) rfl (by kernel_rfl) (by kernel_rfl) (by kernel_rfl) (fun _ _ _ h => h) (Or.inl ⟨by rfl, fun w hSw => ?_⟩) hHeld ?_
  · have qb := B3.out.belowS hSw; have q0 := qb.cell 0 rfl; have q1 := qb.cell 1 rfl; have q2 := qb.cell 2 rfl; have q3 := qb.cell 3 rfl; clear hSw qb; go_simp
  try simp only [Act.put, List.getElem_toArray, List.getElem_cons_succ, List.getElem_cons_zero, List.setIfInBounds_toArray, List.set_cons_zero, List.set_cons_succ]
  refine wpAnyH_ready (rs := [4]) (by kernel_rfl) (by simp) ?_
  refine AllReadyH.cons rfl (fun K hK => ?_) ?_
  · rw [if_pos (by rfl)]
    go_simp
    go_at_call 42
    refine (dall_ok _ _ (HV.out.below hHeld (fun _ h => h)) HOKH.out (by omega) (HT.out.belowS hHeld)).mono ?_
    rintro e wd ⟨vds, rfl, hds, hb_wd⟩
    obtain ⟨add, capd, rfl, -, -⟩ := hds.form
    rw [crtSums_len]
    have HDS := Lib.hid hds
    clear hds
    have hB_wd : Below w3.heap.size w3 wd := Below.trans hHeld (hb_wd.mono (Below.size hHeld))
    have Hb_wd := Lib.hid hB_wd
    clear hb_wd hB_wd
    show K _ _
    refine hK.out _ _ (by exact Hb_wd.out) (fun hHeld => ?_)
    clear hK K
    try simp only [Act.put, List.getElem_toArray, List.getElem_cons_succ, List.getElem_cons_zero, List.setIfInBounds_toArray, List.set_cons_zero, List.set_cons_succ]
    refine wpAnyH_ready (rs := [7]) (by kernel_rfl) (by simp) ?_
    refine AllReadyH.cons rfl (fun K hK => ?_) ?_
    · rw [if_pos (by rfl)]
      go_simp
      go_at_call 54
      refine (missing_any c.h _ _ _ _ _ (HV.out.below hHeld (fun _ h => h)) (by have q := HDS.out; rw [← crtSums_len l] at *; exact q) (H1.out.below hHeld (fun _ h => h)) (H2.out.below hHeld (fun _ h => h)) (by rw [crtSums_len]; exact Nat.le_refl _) HC32.out c4 cr1 cr2).mono ?_
      rintro e wm ⟨vn, rfl, hn, hb_wm⟩
      obtain ⟨adn, capn, rfl, -, -⟩ := hn.form
      obtain ⟨N, hN0⟩ : ∃ N, N = noneL (crtSums l) c.h.ps := ⟨_, rfl⟩
      obtain ⟨W, hW0⟩ : ∃ W, W = wrongB l (crtSums l) c.h.r c.h.ps := ⟨_, rfl⟩
      rw [← hN0, ← hW0]
      have HN := Lib.hid hN0.symm
      have HW := Lib.hid hW0.symm
      clear hN0 hW0 hn
      have hB_wm : Below w3.heap.size w3 wm := Below.trans hHeld (hb_wm.mono (Below.size hHeld))
      have Hb_wm := Lib.hid hB_wm
      clear hb_wm hB_wm
      show K _ _
      refine hK.out _ _ (by exact Hb_wm.out) (fun hHeld => ?_)
      clear hK K
      try simp only [Act.put, List.getElem_toArray, List.getElem_cons_succ, List.getElem_cons_zero, List.setIfInBounds_toArray, List.set_cons_zero, List.set_cons_succ]
      refine wpAnyH_take (i := 8) (v := .tuple #[.slice adn N.length capn, .bool W]) rfl (by kernel_rfl) (by kernel_rfl) (by kernel_rfl) (fun _ _ _ h => h) (Or.inl ⟨by rfl, fun w hSw => ?_⟩) hHeld ?_
      · clear hSw; go_simp; all_goals (try first | rfl | omega)
      try simp only [Act.put, List.getElem_toArray, List.getElem_cons_succ, List.getElem_cons_zero, List.setIfInBounds_toArray, List.set_cons_zero, List.set_cons_succ]
      refine wpAnyH_take (i := 9) (v := .slice adn N.length capn) rfl (by kernel_rfl) (by kernel_rfl) (by kernel_rfl) (fun _ _ _ h => h) (Or.inl ⟨by rfl, fun w hSw => ?_⟩) hHeld ?_
      · clear hSw; go_simp; all_goals (try first | rfl | omega)
      try simp only [Act.put, List.getElem_toArray, List.getElem_cons_succ, List.getElem_cons_zero, List.setIfInBounds_toArray, List.set_cons_zero, List.set_cons_succ]
      refine wpAnyH_take (i := 10) (v := .bool W) rfl (by kernel_rfl) (by kernel_rfl) (by kernel_rfl) (fun _ _ _ h => h) (Or.inl ⟨by rfl, fun w hSw => ?_⟩) hHeld ?_
      · clear hSw; go_simp; all_goals (try first | rfl | omega)
      try simp only [Act.put, List.getElem_toArray, List.getElem_cons_succ, List.getElem_cons_zero, List.setIfInBounds_toArray, List.set_cons_zero, List.set_cons_succ]
      refine wpAnyH_take (i := 11) (v := .slice adn N.length capn) rfl (by kernel_rfl) (by kernel_rfl) (by kernel_rfl) (fun _ _ _ h => h) (Or.inl ⟨by rfl, fun w hSw => ?_⟩) hHeld ?_
      · clear hSw; go_simp; all_goals (try first | rfl | omega)
      try simp only [Act.put, List.getElem_toArray, List.getElem_cons_succ, List.getElem_cons_zero, List.setIfInBounds_toArray, List.set_cons_zero, List.set_cons_succ]
      refine wpAnyH_take (i := 12) (v := .bool W) rfl (by kernel_rfl) (by kernel_rfl) (by kernel_rfl) (fun _ _ _ h => h) (Or.inl ⟨by rfl, fun w hSw => ?_⟩) hHeld ?_
      · clear hSw; go_simp; all_goals (try first | rfl | omega)
      try simp only [Act.put, List.getElem_toArray, List.getElem_cons_succ, List.getElem_cons_zero, List.setIfInBounds_toArray, List.set_cons_zero, List.set_cons_succ]
      refine wpAnyH_done (by kernel_rfl) ?_ _
      have HV9 := Lib.hid (HV.out.below Hb_wm.out (fun _ h => h))
      have H19 := Lib.hid (H1.out.below Hb_wm.out (fun _ h => h))
      have H29 := Lib.hid (H2.out.below Hb_wm.out (fun _ h => h))
      have H39 := Lib.hid (H3.out.below Hb_wm.out (fun _ h => h))
      have B29 := Lib.hid (B2.out.belowS Hb_wm.out)
      have B39 := Lib.hid (B3.out.belowS Hb_wm.out)
      have B49 := Lib.hid (B4.out.belowS Hb_wm.out)
      have HB9 := Lib.hid (HB.out.trans (Hb_wm.out.mono HB.out.size))
      clear HV H1 H2 H3 B2 B3 B4 HB
      have HV := HV9
      clear HV9
      have H1 := H19
      clear H19
      have H2 := H29
      clear H29
      have H3 := H39
      clear H39
      have B2 := B29
      clear B29
      have B3 := B39
      clear B39
      have B4 := B49
      clear B49
      have HB := HB9
      clear HB9
      rcases hW : W with _ | _
      case true =>
        have HWT := Lib.hid (show wrongB l (crtSums l) c.h.r c.h.ps = true by rw [HW.out]; exact hW)
        clear hW
        have HR := Lib.hid (ins_4 HD0.out HCC.out HTB.out HWT.out)
        have y0 := B4.out.cell 0 rfl
        have yf := B4.out.free 0
        have yz := B4.out.lt
        have HZ := Lib.hid (B4.out.set 0 (.slice none 0 0))
        have g0 := HZ.out.cell 0 rfl
        have HBE := Lib.hid (HB.out.setCell (p := ⟨w.heap.size + 2, 0, none⟩) (by simp) (.slice none 0 0))
        go_wp2
        refine bodyPost_ret (v := .tuple #[.agg #[.slice none 0 0], .int .i64 9]) (by simp [results, Tryd.results52, go_sem, g0]) rfl ⟨_, by rw [HR.out], ?_, HBE.out⟩
        rw [insL_no (by rw [HR.out]; first | decide | assumption)]; exact RdS.nil _ _ _
      have HWF := Lib.hid (show wrongB l (crtSums l) c.h.r c.h.ps = false by rw [HW.out]; exact hW)
      clear hW HW
      rcases Nat.lt_or_ge 0 N.length with hN | hN
      case inl =>
        have n1 : (0 : Int) < (N.length : Int) := by omega
        have HNN := Lib.hid (show 0 < (noneL (crtSums l) c.h.ps).length by rw [HN.out]; exact hN)
        clear hN
        have HR := Lib.hid (ins_5 HD0.out HCC.out HTB.out HWF.out HNN.out)
        have y0 := B4.out.cell 0 rfl
        have yf := B4.out.free 0
        have yz := B4.out.lt
        have HZ := Lib.hid (B4.out.set 0 (.slice none 0 0))
        have g0 := HZ.out.cell 0 rfl
        have HBE := Lib.hid (HB.out.setCell (p := ⟨w.heap.size + 2, 0, none⟩) (by simp) (.slice none 0 0))
        go_wp2
        refine bodyPost_ret (v := .tuple #[.agg #[.slice none 0 0], .int .i64 8]) (by simp [results, Tryd.results52, go_sem, g0]) rfl ⟨_, by rw [HR.out], ?_, HBE.out⟩
        rw [insL_no (by rw [HR.out]; first | decide | assumption)]; exact RdS.nil _ _ _
      have n1 : ¬ (0 : Int) < (N.length : Int) := by omega
      have HNN := Lib.hid (show (noneL (crtSums l) c.h.ps).length = 0 by rw [HN.out]; omega)
      clear hN
      by_cases h400 : l.length = 400
      case pos =>
        have n2 : ((l.length : Int) == 400) = true := by simp; omega
        have n3 : (l.length == 400) = true := by simp [h400]
        have HL4 := Lib.hid h400
        clear h400
        have x0 := B2.out.cell 0 rfl
        have HR := Lib.hid (ins_6 HD0.out HCC.out HTB.out HWF.out HNN.out HL4.out)
        have y0 := B4.out.cell 0 rfl
        have yf := B4.out.free 0
        have yz := B4.out.lt
        have HZ := Lib.hid (B4.out.set 0 (.slice none 0 0))
        have g0 := HZ.out.cell 0 rfl
        have HBE := Lib.hid (HB.out.setCell (p := ⟨w.heap.size + 2, 0, none⟩) (by simp) (.slice none 0 0))
        go_wp2
        refine bodyPost_ret (v := .tuple #[.agg #[.slice none 0 0], .int .i64 6]) (by simp [results, Tryd.results52, go_sem, g0]) rfl ⟨_, by rw [HR.out], ?_, HBE.out⟩
        rw [insL_no (by rw [HR.out]; first | decide | assumption)]; exact RdS.nil _ _ _
      have n2 : ((l.length : Int) == 400) = false := by simp; omega
      have n3 : (l.length == 400) = false := by simp [h400]
      have HR := Lib.hid (ins_7 HD0.out HCC.out HTB.out HWF.out HNN.out h400)
      clear h400 HNN HWF HTB HN
      have x0 := B2.out.cell 0 rfl
      have zl := B4.out.lt
      have zl0 : w.heap.size < wm.heap.size := by omega
      go_wp2_with fail
      clear x0
      go_loopw [59] (fun i wr => ∃ (k : Nat) (ado : Option Addr) (capo : Nat), k ≤ l.length ∧ i = .int .i64 k ∧ wm.heap.size < wr.heap.size ∧ BoxAt wr wm.heap.size [.slice ado k capo] 30 ∧ LstO RCert (fun b => wm.heap.size < b) (wm.heap.size + 1) 45 wr (.slice ado k capo) (l.take k) ∧ Below wm.heap.size wm wr) (fun i _ => l.length - (intOf i).toNat)
      case atStart => exact ⟨0, none, 0, Nat.zero_le _, rfl, by simp, BoxAt.new wm [.slice none 0 0] _, LstO.nil _ _ _ _ _, (Below.refl _ _).alloc (Nat.le_refl _) _⟩
      case round =>
        obtain ⟨k, ado, capo, hk, rfl, hzr, hBX, hL, hB⟩ := hrel
        have HBX := Lib.hid hBX
        have HBr := Lib.hid hB
        have HKL := Lib.hid (show (l.take k).length = k by rw [List.length_take]; omega)
        obtain ⟨vals, hLV⟩ := hL.valsOf
        have hvlt := hLV.lt
        have HL := Lib.hid hLV
        clear hBX hB hL hLV
        by_cases hlt : k < l.length
        · have i0 : (0 : Int) ≤ (k : Int) := by omega
          have i1 : (k : Int) < (l.length : Int) := by omega
          obtain ⟨b, ob, vb, vp, vv, rfl, -, e0, e1, e2, e3, e4, hx1, hx2, hx3⟩ := (HV.out.below HBr.out (fun _ h => h)).crt k hlt
          have HXC := Lib.hid (HOK.out.2.1 l[k] (List.getElem_mem hlt))
          have HS := Lib.hid (List.take_succ_eq_append_getElem hlt)
          generalize l[k] = x at *
          obtain ⟨eb, ebc, rfl, -, -⟩ := hx1.form
          obtain ⟨ep, epc, rfl, -, -⟩ := hx2.form
          obtain ⟨ev, evc, rfl, -, -⟩ := hx3.form
          have HE1 := Lib.hid hx1
          have HE2 := Lib.hid hx2
          have HE3 := Lib.hid hx3
          clear hx1 hx2 hx3
          go_upto_region 20 with fail
          obtain ⟨wz, hwz⟩ : ∃ wz, wz = wr.alloc (.cells #[.int .i64 x.h.a, .int .i64 x.h.r, .slice eb x.h.bs.length ebc, .slice ep x.h.ps.length epc, .slice ev x.vs.length evc] 45) := ⟨_, rfl⟩
          have hBz : Below wr.heap.size wr wz := by rw [hwz]; exact (Below.refl _ _).alloc (Nat.le_refl _) _
          have HQ := Lib.hid (show BoxAt wz wr.heap.size [.int .i64 x.h.a, .int .i64 x.h.r, .slice eb x.h.bs.length ebc, .slice ep x.h.ps.length epc, .slice ev x.vs.length evc] 45 by rw [hwz]; exact BoxAt.new wr [.int .i64 x.h.a, .int .i64 x.h.r, .slice eb x.h.bs.length ebc, .slice ep x.h.ps.length epc, .slice ev x.vs.length evc] _)
          have hzz : wz.heap.size = wr.heap.size + 1 := by rw [hwz]; simp
          have hzz1 : wr.heap.size < wz.heap.size := by omega
          have hzz2 : wz.heap.size ≤ wr.heap.size + 1 := by omega
          clear hzz
          rw [← hwz]
          clear hwz e0 e1 e2 e3 e4
          replace HBX := Lib.hid (HBX.out.belowS hBz)
          replace HL := Lib.hid (HL.out.below hBz)
          replace HBr := Lib.hid (HBr.out.trans (hBz.mono (by omega)))
          replace HE1 := Lib.hid (HE1.out.below hBz (fun _ h => h))
          replace HE2 := Lib.hid (HE2.out.below hBz (fun _ h => h))
          replace HE3 := Lib.hid (HE3.out.below hBz (fun _ h => h))
          have hvlt := fun k h => (⟨(hvlt k h).1, Nat.lt_of_lt_of_le (hvlt k h).2 (Nat.le_of_lt hzz1), (hvlt k h).2⟩ : wm.heap.size + 1 ≤ k ∧ k < wz.heap.size ∧ k < wr.heap.size)
          have hzb : wm.heap.size < wz.heap.size := by omega
          clear hBz
          refine wp_region_held_drew (S := fun w' => BoxAt w' (wr.heap.size) [.int .i64 x.h.a, .int .i64 x.h.r, .slice eb x.h.bs.length ebc, .slice ep x.h.ps.length epc, .slice ev x.vs.length evc] 45) (by kernel_rfl) (by exact HQ.out.drew) (fun hHeld => ?_)
          refine wpAnyH_take (i := 0) (v := .pointer (some ⟨wm.heap.size, 0, none⟩)) rfl (by kernel_rfl) (by kernel_rfl) (by kernel_rfl) (fun _ _ _ h => h) (Or.inl ⟨by rfl, fun w hSw => ?_⟩) hHeld ?_
          · clear hSw; go_simp; all_goals (try first | rfl | omega)
          try simp only [Act.put, List.getElem_toArray, List.getElem_cons_succ, List.getElem_cons_zero, List.setIfInBounds_toArray, List.set_cons_zero, List.set_cons_succ]
          refine wpAnyH_take (i := 2) (v := .agg #[.int .i64 x.h.a, .int .i64 x.h.r, .slice eb x.h.bs.length ebc, .slice ep x.h.ps.length epc, .slice ev x.vs.length evc]) rfl (by kernel_rfl) (by kernel_rfl) (by kernel_rfl) (fun _ _ _ h => h) (Or.inl ⟨by rfl, fun w hSw => ?_⟩) hHeld ?_
          · have q0 := hSw.cell 0 rfl; have q1 := hSw.cell 1 rfl; have q2 := hSw.cell 2 rfl; have q3 := hSw.cell 3 rfl; have q4 := hSw.cell 4 rfl; clear hSw; go_simp
          try simp only [Act.put, List.getElem_toArray, List.getElem_cons_succ, List.getElem_cons_zero, List.setIfInBounds_toArray, List.set_cons_zero, List.set_cons_succ]
          refine wpAnyH_ready (rs := [1, 3]) (by kernel_rfl) (by simp) ?_
          refine AllReadyH.cons rfl (fun K hK => ?_) ?_
          · rw [if_pos (by rfl)]
            have q0 := HBX.out.cell 0 rfl
            go_simp
            show K _ _
            refine hK.out _ _ (by exact HQ.out) (fun hHeld => ?_)
            clear hK K
            try simp only [Act.put, List.getElem_toArray, List.getElem_cons_succ, List.getElem_cons_zero, List.setIfInBounds_toArray, List.set_cons_zero, List.set_cons_succ]
            refine wpAnyH_ready (rs := [3]) (by kernel_rfl) (by simp) ?_
            refine AllReadyH.cons rfl (fun K hK => ?_) ?_
            · rw [if_pos (by rfl)]
              go_simp
              go_at_call 43
              refine (dagOwn_any x _ _ _ _ (HE1.out.below ((Below.refl _ _).drew) (fun _ h => h)) (HE2.out.below ((Below.refl _ _).drew) (fun _ h => h)) (HE3.out.below ((Below.refl _ _).drew) (fun _ h => h)) HXC.out).mono ?_
              rintro e wo ⟨u1, u2, u3, rfl, hu1, hu2, hu3, hbo⟩
              obtain ⟨ub, ubc, rfl, -, -⟩ := hu1.form
              obtain ⟨up, upc, rfl, -, -⟩ := hu2.form
              obtain ⟨uv, uvc, rfl, -, -⟩ := hu3.form
              have hBo : Below wz.heap.size wz wo := Below.trans ((Below.refl _ _).drew) (hbo.mono (Nat.le_refl _))
              have zo := hBo.size
              have HBXo := Lib.hid (HBX.out.belowS hBo)
              have HQo := Lib.hid (HQ.out.belowS hBo)
              have HLo := Lib.hid (HL.out.below hBo)
              have HBo := Lib.hid (HBr.out.trans (hBo.mono (by omega)))
              have HU1 := Lib.hid (show RdBB (fun b => wz.heap.size ≤ b ∧ b < wo.heap.size) wo (.slice ub x.h.bs.length ubc) x.h.bs from hu1.low (by decide))
              have HU2 := Lib.hid (show RdBB (fun b => wz.heap.size ≤ b ∧ b < wo.heap.size) wo (.slice up x.h.ps.length upc) x.h.ps from hu2.low (by decide))
              have HU3 := Lib.hid (show RdI (fun b => wz.heap.size ≤ b ∧ b < wo.heap.size) wo (.slice uv x.vs.length uvc) x.vs from hu3.low (by decide))
              clear hbo hBo hu1 hu2 hu3
              show K _ _
              refine hK.out _ _ (by exact HQo.out) (fun hHeld => ?_)
              clear hK K
              try simp only [Act.put, List.getElem_toArray, List.getElem_cons_succ, List.getElem_cons_zero, List.setIfInBounds_toArray, List.set_cons_zero, List.set_cons_succ]
              refine wpAnyH_ready (rs := [4]) (by kernel_rfl) (by simp) ?_
              refine AllReadyH.cons rfl (fun K hK => ?_) ?_
              · rw [if_pos (by rfl)]
                go_simp
                show K _ _
                refine hK.out _ _ (by exact HQo.out.alloc _) (fun hHeld => ?_)
                clear hK K
                try simp only [Act.put, List.getElem_toArray, List.getElem_cons_succ, List.getElem_cons_zero, List.setIfInBounds_toArray, List.set_cons_zero, List.set_cons_succ]
                refine wpAnyH_ready (rs := [5]) (by kernel_rfl) (by simp) ?_
                refine AllReadyH.cons rfl (fun K hK => ?_) ?_
                · rw [if_pos (by rfl)]
                  have hownB : (wo.alloc (.cells #[.int .i64 x.h.a, .int .i64 x.h.r, .slice ub x.h.bs.length ubc, .slice up x.h.ps.length upc, .slice uv x.vs.length uvc] 45)).ownsRow (wm.heap.size + 1) 45 5 (.slice ado k capo) k vals := by have q := (HLo.out.alloc (.cells #[.int .i64 x.h.a, .int .i64 x.h.r, .slice ub x.h.bs.length ubc, .slice up x.h.ps.length upc, .slice uv x.vs.length uvc] 45)).own; rw [HKL.out] at q; exact q
                  refine wp_append_oneK _ _ _ (by rfl) elemCrt (wm.heap.size + 1) (.slice ado k capo) k _ (by rfl) hownB wo.heap.size 45 [.int .i64 x.h.a, .int .i64 x.h.r, .slice ub x.h.bs.length ubc, .slice up x.h.ps.length upc, .slice uv x.vs.length uvc] (by rfl) (by exact BoxAt.new wo [.int .i64 x.h.a, .int .i64 x.h.r, .slice ub x.h.bs.length ubc, .slice up x.h.ps.length upc, .slice uv x.vs.length uvc] _) rfl (by simp [Value.oneCell']) (by unfold maxLen; omega) (by omega) (by simp; omega) ?_
                  intro g cap6 w6 hown6 hgr6 hat6 hlt6
                  have hx : RCert.rd (fun b => wm.heap.size < b ∧ b < (wo.alloc (.cells #[.int .i64 x.h.a, .int .i64 x.h.r, .slice ub x.h.bs.length ubc, .slice up x.h.ps.length upc, .slice uv x.vs.length uvc] 45)).heap.size ∧ (Value.slice ado k capo).ownBlock ≠ some b) (wo.alloc (.cells #[.int .i64 x.h.a, .int .i64 x.h.r, .slice ub x.h.bs.length ubc, .slice up x.h.ps.length upc, .slice uv x.vs.length uvc] 45)) [.int .i64 x.h.a, .int .i64 x.h.r, .slice ub x.h.bs.length ubc, .slice up x.h.ps.length upc, .slice uv x.vs.length uvc] x := ⟨_, _, _, rfl, HU1.out.keep (Keep.alloc _ _ _) (fun b hb => ⟨by have h1 : wz.heap.size ≤ b := hb.1; omega, by have h2 : b < wo.heap.size := hb.2; simp; omega, fun e => by have h1 : wz.heap.size ≤ b := hb.1; have := (hvlt _ e).2.1; omega⟩), HU2.out.keep (Keep.alloc _ _ _) (fun b hb => ⟨by have h1 : wz.heap.size ≤ b := hb.1; omega, by have h2 : b < wo.heap.size := hb.2; simp; omega, fun e => by have h1 : wz.heap.size ≤ b := hb.1; have := (hvlt _ e).2.1; omega⟩), HU3.out.keep (Keep.alloc _ _ _) (fun b hb => ⟨by have h1 : wz.heap.size ≤ b := hb.1; omega, by have h2 : b < wo.heap.size := hb.2; simp; omega, fun e => by have h1 : wz.heap.size ≤ b := hb.1; have := (hvlt _ e).2.1; omega⟩)⟩
                  have hP := (HLo.out.alloc (.cells #[.int .i64 x.h.a, .int .i64 x.h.r, .slice ub x.h.bs.length ubc, .slice up x.h.ps.length upc, .slice uv x.vs.length uvc] 45)).push hx (by rw [HKL.out]; exact hown6) hgr6 hat6
                  rw [HKL.out] at hP
                  have HP := Lib.hid hP
                  have hbx6 := (HBXo.out.alloc (.cells #[.int .i64 x.h.a, .int .i64 x.h.r, .slice ub x.h.bs.length ubc, .slice up x.h.ps.length upc, .slice uv x.vs.length uvc] 45)).grown hgr6 (fun e => by have := (hvlt _ e).1; omega)
                  have HBX6 := Lib.hid hbx6
                  have HQg := Lib.hid ((HQo.out.alloc (.cells #[.int .i64 x.h.a, .int .i64 x.h.r, .slice ub x.h.bs.length ubc, .slice up x.h.ps.length upc, .slice uv x.vs.length uvc] 45)).grown hgr6 (fun e => by have := (hvlt _ e).2.2; omega))
                  have HB6 := Lib.hid ((HBo.out.alloc (by omega) (.cells #[.int .i64 x.h.a, .int .i64 x.h.r, .slice ub x.h.bs.length ubc, .slice up x.h.ps.length upc, .slice uv x.vs.length uvc] 45)).grown hgr6 (by simp; omega) (fun k hk => by have := (hvlt _ hk).1; omega))
                  have hz6 := hgr6.size
                  have p0 := hbx6.cell 0 rfl
                  have pf := hbx6.free 0
                  have pz := hbx6.lt
                  clear hP hx hown6 hownB hbx6
                  show K _ _
                  refine hK.out _ _ (by exact HQg.out) (fun hHeld => ?_)
                  clear hK K
                  try simp only [Act.put, List.getElem_toArray, List.getElem_cons_succ, List.getElem_cons_zero, List.setIfInBounds_toArray, List.set_cons_zero, List.set_cons_succ]
                  refine wpAnyH_take (i := 6) (v := .pointer (some ⟨wm.heap.size, 0, none⟩)) rfl (by kernel_rfl) (by kernel_rfl) (by kernel_rfl) (fun _ _ _ h => h) (Or.inl ⟨by rfl, fun w hSw => ?_⟩) hHeld ?_
                  · clear hSw; go_simp; all_goals (try first | rfl | omega)
                  try simp only [Act.put, List.getElem_toArray, List.getElem_cons_succ, List.getElem_cons_zero, List.setIfInBounds_toArray, List.set_cons_zero, List.set_cons_succ]
                  refine wpAnyH_ready (rs := [7]) (by kernel_rfl) (by simp) ?_
                  refine AllReadyH.cons rfl (fun K hK => ?_) ?_
                  · rw [if_pos (by rfl)]
                    go_simp
                    show K _ _
                    refine hK.out _ _ (by exact HQg.out.setOther (p := ⟨wm.heap.size, 0, none⟩) (by simp; omega) _) (fun hHeld => ?_)
                    clear hK K
                    try simp only [Act.put, List.getElem_toArray, List.getElem_cons_succ, List.getElem_cons_zero, List.setIfInBounds_toArray, List.set_cons_zero, List.set_cons_succ]
                    refine wpAnyH_done (by kernel_rfl) ?_ _
                    have HBX7 := Lib.hid (HBX6.out.set 0 (.slice (some ⟨g, 0, none⟩) (k + 1) cap6))
                    have HP7 := Lib.hid (HP.out.setCell (p := ⟨wm.heap.size, 0, none⟩) (by simp) (by simp) (.slice (some ⟨g, 0, none⟩) (k + 1) cap6))
                    have HB7 := Lib.hid (HB6.out.setCell (p := ⟨wm.heap.size, 0, none⟩) (by simp) (.slice (some ⟨g, 0, none⟩) (k + 1) cap6))
                    have hz7 : wm.heap.size < (w6.setCell ⟨wm.heap.size, 0, none⟩ (.slice (some ⟨g, 0, none⟩) (k + 1) cap6)).heap.size := by simp [World.setCell]; omega
                    clear p0 pf pz hgr6 hat6
                    go_wp2_with fail
                    go_roundw
                    case rel => exact ⟨k + 1, some ⟨g, 0, none⟩, cap6, by omega, by go_num, hz7, HBX7.out, by rw [HS.out]; exact HP7.out, HB7.out⟩
                    case measure => simp [intOf]; omega
                  exact AllReadyH.nil
                exact AllReadyH.nil
              exact AllReadyH.nil
            exact AllReadyH.nil
          refine AllReadyH.cons rfl (fun K hK => ?_) ?_
          · rw [if_pos (by rfl)]
            go_simp
            go_at_call 43
            refine (dagOwn_any x _ _ _ _ (HE1.out.below ((Below.refl _ _).drew) (fun _ h => h)) (HE2.out.below ((Below.refl _ _).drew) (fun _ h => h)) (HE3.out.below ((Below.refl _ _).drew) (fun _ h => h)) HXC.out).mono ?_
            rintro e wo ⟨u1, u2, u3, rfl, hu1, hu2, hu3, hbo⟩
            obtain ⟨ub, ubc, rfl, -, -⟩ := hu1.form
            obtain ⟨up, upc, rfl, -, -⟩ := hu2.form
            obtain ⟨uv, uvc, rfl, -, -⟩ := hu3.form
            have hBo : Below wz.heap.size wz wo := Below.trans ((Below.refl _ _).drew) (hbo.mono (Nat.le_refl _))
            have zo := hBo.size
            have HBXo := Lib.hid (HBX.out.belowS hBo)
            have HQo := Lib.hid (HQ.out.belowS hBo)
            have HLo := Lib.hid (HL.out.below hBo)
            have HBo := Lib.hid (HBr.out.trans (hBo.mono (by omega)))
            have HU1 := Lib.hid (show RdBB (fun b => wz.heap.size ≤ b ∧ b < wo.heap.size) wo (.slice ub x.h.bs.length ubc) x.h.bs from hu1.low (by decide))
            have HU2 := Lib.hid (show RdBB (fun b => wz.heap.size ≤ b ∧ b < wo.heap.size) wo (.slice up x.h.ps.length upc) x.h.ps from hu2.low (by decide))
            have HU3 := Lib.hid (show RdI (fun b => wz.heap.size ≤ b ∧ b < wo.heap.size) wo (.slice uv x.vs.length uvc) x.vs from hu3.low (by decide))
            clear hbo hBo hu1 hu2 hu3
            show K _ _
            refine hK.out _ _ (by exact HQo.out) (fun hHeld => ?_)
            clear hK K
            try simp only [Act.put, List.getElem_toArray, List.getElem_cons_succ, List.getElem_cons_zero, List.setIfInBounds_toArray, List.set_cons_zero, List.set_cons_succ]
            refine wpAnyH_ready (rs := [1, 4]) (by kernel_rfl) (by simp) ?_
            refine AllReadyH.cons rfl (fun K hK => ?_) ?_
            · rw [if_pos (by rfl)]
              have q0 := HBXo.out.cell 0 rfl
              go_simp
              show K _ _
              refine hK.out _ _ (by exact HQo.out) (fun hHeld => ?_)
              clear hK K
              try simp only [Act.put, List.getElem_toArray, List.getElem_cons_succ, List.getElem_cons_zero, List.setIfInBounds_toArray, List.set_cons_zero, List.set_cons_succ]
              refine wpAnyH_ready (rs := [4]) (by kernel_rfl) (by simp) ?_
              refine AllReadyH.cons rfl (fun K hK => ?_) ?_
              · rw [if_pos (by rfl)]
                go_simp
                show K _ _
                refine hK.out _ _ (by exact HQo.out.alloc _) (fun hHeld => ?_)
                clear hK K
                try simp only [Act.put, List.getElem_toArray, List.getElem_cons_succ, List.getElem_cons_zero, List.setIfInBounds_toArray, List.set_cons_zero, List.set_cons_succ]
                refine wpAnyH_ready (rs := [5]) (by kernel_rfl) (by simp) ?_
                refine AllReadyH.cons rfl (fun K hK => ?_) ?_
                · rw [if_pos (by rfl)]
                  have hownB : (wo.alloc (.cells #[.int .i64 x.h.a, .int .i64 x.h.r, .slice ub x.h.bs.length ubc, .slice up x.h.ps.length upc, .slice uv x.vs.length uvc] 45)).ownsRow (wm.heap.size + 1) 45 5 (.slice ado k capo) k vals := by have q := (HLo.out.alloc (.cells #[.int .i64 x.h.a, .int .i64 x.h.r, .slice ub x.h.bs.length ubc, .slice up x.h.ps.length upc, .slice uv x.vs.length uvc] 45)).own; rw [HKL.out] at q; exact q
                  refine wp_append_oneK _ _ _ (by rfl) elemCrt (wm.heap.size + 1) (.slice ado k capo) k _ (by rfl) hownB wo.heap.size 45 [.int .i64 x.h.a, .int .i64 x.h.r, .slice ub x.h.bs.length ubc, .slice up x.h.ps.length upc, .slice uv x.vs.length uvc] (by rfl) (by exact BoxAt.new wo [.int .i64 x.h.a, .int .i64 x.h.r, .slice ub x.h.bs.length ubc, .slice up x.h.ps.length upc, .slice uv x.vs.length uvc] _) rfl (by simp [Value.oneCell']) (by unfold maxLen; omega) (by omega) (by simp; omega) ?_
                  intro g cap6 w6 hown6 hgr6 hat6 hlt6
                  have hx : RCert.rd (fun b => wm.heap.size < b ∧ b < (wo.alloc (.cells #[.int .i64 x.h.a, .int .i64 x.h.r, .slice ub x.h.bs.length ubc, .slice up x.h.ps.length upc, .slice uv x.vs.length uvc] 45)).heap.size ∧ (Value.slice ado k capo).ownBlock ≠ some b) (wo.alloc (.cells #[.int .i64 x.h.a, .int .i64 x.h.r, .slice ub x.h.bs.length ubc, .slice up x.h.ps.length upc, .slice uv x.vs.length uvc] 45)) [.int .i64 x.h.a, .int .i64 x.h.r, .slice ub x.h.bs.length ubc, .slice up x.h.ps.length upc, .slice uv x.vs.length uvc] x := ⟨_, _, _, rfl, HU1.out.keep (Keep.alloc _ _ _) (fun b hb => ⟨by have h1 : wz.heap.size ≤ b := hb.1; omega, by have h2 : b < wo.heap.size := hb.2; simp; omega, fun e => by have h1 : wz.heap.size ≤ b := hb.1; have := (hvlt _ e).2.1; omega⟩), HU2.out.keep (Keep.alloc _ _ _) (fun b hb => ⟨by have h1 : wz.heap.size ≤ b := hb.1; omega, by have h2 : b < wo.heap.size := hb.2; simp; omega, fun e => by have h1 : wz.heap.size ≤ b := hb.1; have := (hvlt _ e).2.1; omega⟩), HU3.out.keep (Keep.alloc _ _ _) (fun b hb => ⟨by have h1 : wz.heap.size ≤ b := hb.1; omega, by have h2 : b < wo.heap.size := hb.2; simp; omega, fun e => by have h1 : wz.heap.size ≤ b := hb.1; have := (hvlt _ e).2.1; omega⟩)⟩
                  have hP := (HLo.out.alloc (.cells #[.int .i64 x.h.a, .int .i64 x.h.r, .slice ub x.h.bs.length ubc, .slice up x.h.ps.length upc, .slice uv x.vs.length uvc] 45)).push hx (by rw [HKL.out]; exact hown6) hgr6 hat6
                  rw [HKL.out] at hP
                  have HP := Lib.hid hP
                  have hbx6 := (HBXo.out.alloc (.cells #[.int .i64 x.h.a, .int .i64 x.h.r, .slice ub x.h.bs.length ubc, .slice up x.h.ps.length upc, .slice uv x.vs.length uvc] 45)).grown hgr6 (fun e => by have := (hvlt _ e).1; omega)
                  have HBX6 := Lib.hid hbx6
                  have HQg := Lib.hid ((HQo.out.alloc (.cells #[.int .i64 x.h.a, .int .i64 x.h.r, .slice ub x.h.bs.length ubc, .slice up x.h.ps.length upc, .slice uv x.vs.length uvc] 45)).grown hgr6 (fun e => by have := (hvlt _ e).2.2; omega))
                  have HB6 := Lib.hid ((HBo.out.alloc (by omega) (.cells #[.int .i64 x.h.a, .int .i64 x.h.r, .slice ub x.h.bs.length ubc, .slice up x.h.ps.length upc, .slice uv x.vs.length uvc] 45)).grown hgr6 (by simp; omega) (fun k hk => by have := (hvlt _ hk).1; omega))
                  have hz6 := hgr6.size
                  have p0 := hbx6.cell 0 rfl
                  have pf := hbx6.free 0
                  have pz := hbx6.lt
                  clear hP hx hown6 hownB hbx6
                  show K _ _
                  refine hK.out _ _ (by exact HQg.out) (fun hHeld => ?_)
                  clear hK K
                  try simp only [Act.put, List.getElem_toArray, List.getElem_cons_succ, List.getElem_cons_zero, List.setIfInBounds_toArray, List.set_cons_zero, List.set_cons_succ]
                  refine wpAnyH_take (i := 6) (v := .pointer (some ⟨wm.heap.size, 0, none⟩)) rfl (by kernel_rfl) (by kernel_rfl) (by kernel_rfl) (fun _ _ _ h => h) (Or.inl ⟨by rfl, fun w hSw => ?_⟩) hHeld ?_
                  · clear hSw; go_simp; all_goals (try first | rfl | omega)
                  try simp only [Act.put, List.getElem_toArray, List.getElem_cons_succ, List.getElem_cons_zero, List.setIfInBounds_toArray, List.set_cons_zero, List.set_cons_succ]
                  refine wpAnyH_ready (rs := [7]) (by kernel_rfl) (by simp) ?_
                  refine AllReadyH.cons rfl (fun K hK => ?_) ?_
                  · rw [if_pos (by rfl)]
                    go_simp
                    show K _ _
                    refine hK.out _ _ (by exact HQg.out.setOther (p := ⟨wm.heap.size, 0, none⟩) (by simp; omega) _) (fun hHeld => ?_)
                    clear hK K
                    try simp only [Act.put, List.getElem_toArray, List.getElem_cons_succ, List.getElem_cons_zero, List.setIfInBounds_toArray, List.set_cons_zero, List.set_cons_succ]
                    refine wpAnyH_done (by kernel_rfl) ?_ _
                    have HBX7 := Lib.hid (HBX6.out.set 0 (.slice (some ⟨g, 0, none⟩) (k + 1) cap6))
                    have HP7 := Lib.hid (HP.out.setCell (p := ⟨wm.heap.size, 0, none⟩) (by simp) (by simp) (.slice (some ⟨g, 0, none⟩) (k + 1) cap6))
                    have HB7 := Lib.hid (HB6.out.setCell (p := ⟨wm.heap.size, 0, none⟩) (by simp) (.slice (some ⟨g, 0, none⟩) (k + 1) cap6))
                    have hz7 : wm.heap.size < (w6.setCell ⟨wm.heap.size, 0, none⟩ (.slice (some ⟨g, 0, none⟩) (k + 1) cap6)).heap.size := by simp [World.setCell]; omega
                    clear p0 pf pz hgr6 hat6
                    go_wp2_with fail
                    go_roundw
                    case rel => exact ⟨k + 1, some ⟨g, 0, none⟩, cap6, by omega, by go_num, hz7, HBX7.out, by rw [HS.out]; exact HP7.out, HB7.out⟩
                    case measure => simp [intOf]; omega
                  exact AllReadyH.nil
                exact AllReadyH.nil
              exact AllReadyH.nil
            refine AllReadyH.cons rfl (fun K hK => ?_) ?_
            · rw [if_pos (by rfl)]
              go_simp
              show K _ _
              refine hK.out _ _ (by exact HQo.out.alloc _) (fun hHeld => ?_)
              clear hK K
              try simp only [Act.put, List.getElem_toArray, List.getElem_cons_succ, List.getElem_cons_zero, List.setIfInBounds_toArray, List.set_cons_zero, List.set_cons_succ]
              refine wpAnyH_ready (rs := [1]) (by kernel_rfl) (by simp) ?_
              refine AllReadyH.cons rfl (fun K hK => ?_) ?_
              · rw [if_pos (by rfl)]
                have q0 := (HBXo.out.alloc (.cells #[.int .i64 x.h.a, .int .i64 x.h.r, .slice ub x.h.bs.length ubc, .slice up x.h.ps.length upc, .slice uv x.vs.length uvc] 45)).cell 0 rfl
                go_simp
                show K _ _
                refine hK.out _ _ (by exact HQo.out.alloc _) (fun hHeld => ?_)
                clear hK K
                try simp only [Act.put, List.getElem_toArray, List.getElem_cons_succ, List.getElem_cons_zero, List.setIfInBounds_toArray, List.set_cons_zero, List.set_cons_succ]
                refine wpAnyH_ready (rs := [5]) (by kernel_rfl) (by simp) ?_
                refine AllReadyH.cons rfl (fun K hK => ?_) ?_
                · rw [if_pos (by rfl)]
                  have hownB : (wo.alloc (.cells #[.int .i64 x.h.a, .int .i64 x.h.r, .slice ub x.h.bs.length ubc, .slice up x.h.ps.length upc, .slice uv x.vs.length uvc] 45)).ownsRow (wm.heap.size + 1) 45 5 (.slice ado k capo) k vals := by have q := (HLo.out.alloc (.cells #[.int .i64 x.h.a, .int .i64 x.h.r, .slice ub x.h.bs.length ubc, .slice up x.h.ps.length upc, .slice uv x.vs.length uvc] 45)).own; rw [HKL.out] at q; exact q
                  refine wp_append_oneK _ _ _ (by rfl) elemCrt (wm.heap.size + 1) (.slice ado k capo) k _ (by rfl) hownB wo.heap.size 45 [.int .i64 x.h.a, .int .i64 x.h.r, .slice ub x.h.bs.length ubc, .slice up x.h.ps.length upc, .slice uv x.vs.length uvc] (by rfl) (by exact BoxAt.new wo [.int .i64 x.h.a, .int .i64 x.h.r, .slice ub x.h.bs.length ubc, .slice up x.h.ps.length upc, .slice uv x.vs.length uvc] _) rfl (by simp [Value.oneCell']) (by unfold maxLen; omega) (by omega) (by simp; omega) ?_
                  intro g cap6 w6 hown6 hgr6 hat6 hlt6
                  have hx : RCert.rd (fun b => wm.heap.size < b ∧ b < (wo.alloc (.cells #[.int .i64 x.h.a, .int .i64 x.h.r, .slice ub x.h.bs.length ubc, .slice up x.h.ps.length upc, .slice uv x.vs.length uvc] 45)).heap.size ∧ (Value.slice ado k capo).ownBlock ≠ some b) (wo.alloc (.cells #[.int .i64 x.h.a, .int .i64 x.h.r, .slice ub x.h.bs.length ubc, .slice up x.h.ps.length upc, .slice uv x.vs.length uvc] 45)) [.int .i64 x.h.a, .int .i64 x.h.r, .slice ub x.h.bs.length ubc, .slice up x.h.ps.length upc, .slice uv x.vs.length uvc] x := ⟨_, _, _, rfl, HU1.out.keep (Keep.alloc _ _ _) (fun b hb => ⟨by have h1 : wz.heap.size ≤ b := hb.1; omega, by have h2 : b < wo.heap.size := hb.2; simp; omega, fun e => by have h1 : wz.heap.size ≤ b := hb.1; have := (hvlt _ e).2.1; omega⟩), HU2.out.keep (Keep.alloc _ _ _) (fun b hb => ⟨by have h1 : wz.heap.size ≤ b := hb.1; omega, by have h2 : b < wo.heap.size := hb.2; simp; omega, fun e => by have h1 : wz.heap.size ≤ b := hb.1; have := (hvlt _ e).2.1; omega⟩), HU3.out.keep (Keep.alloc _ _ _) (fun b hb => ⟨by have h1 : wz.heap.size ≤ b := hb.1; omega, by have h2 : b < wo.heap.size := hb.2; simp; omega, fun e => by have h1 : wz.heap.size ≤ b := hb.1; have := (hvlt _ e).2.1; omega⟩)⟩
                  have hP := (HLo.out.alloc (.cells #[.int .i64 x.h.a, .int .i64 x.h.r, .slice ub x.h.bs.length ubc, .slice up x.h.ps.length upc, .slice uv x.vs.length uvc] 45)).push hx (by rw [HKL.out]; exact hown6) hgr6 hat6
                  rw [HKL.out] at hP
                  have HP := Lib.hid hP
                  have hbx6 := (HBXo.out.alloc (.cells #[.int .i64 x.h.a, .int .i64 x.h.r, .slice ub x.h.bs.length ubc, .slice up x.h.ps.length upc, .slice uv x.vs.length uvc] 45)).grown hgr6 (fun e => by have := (hvlt _ e).1; omega)
                  have HBX6 := Lib.hid hbx6
                  have HQg := Lib.hid ((HQo.out.alloc (.cells #[.int .i64 x.h.a, .int .i64 x.h.r, .slice ub x.h.bs.length ubc, .slice up x.h.ps.length upc, .slice uv x.vs.length uvc] 45)).grown hgr6 (fun e => by have := (hvlt _ e).2.2; omega))
                  have HB6 := Lib.hid ((HBo.out.alloc (by omega) (.cells #[.int .i64 x.h.a, .int .i64 x.h.r, .slice ub x.h.bs.length ubc, .slice up x.h.ps.length upc, .slice uv x.vs.length uvc] 45)).grown hgr6 (by simp; omega) (fun k hk => by have := (hvlt _ hk).1; omega))
                  have hz6 := hgr6.size
                  have p0 := hbx6.cell 0 rfl
                  have pf := hbx6.free 0
                  have pz := hbx6.lt
                  clear hP hx hown6 hownB hbx6
                  show K _ _
                  refine hK.out _ _ (by exact HQg.out) (fun hHeld => ?_)
                  clear hK K
                  try simp only [Act.put, List.getElem_toArray, List.getElem_cons_succ, List.getElem_cons_zero, List.setIfInBounds_toArray, List.set_cons_zero, List.set_cons_succ]
                  refine wpAnyH_take (i := 6) (v := .pointer (some ⟨wm.heap.size, 0, none⟩)) rfl (by kernel_rfl) (by kernel_rfl) (by kernel_rfl) (fun _ _ _ h => h) (Or.inl ⟨by rfl, fun w hSw => ?_⟩) hHeld ?_
                  · clear hSw; go_simp; all_goals (try first | rfl | omega)
                  try simp only [Act.put, List.getElem_toArray, List.getElem_cons_succ, List.getElem_cons_zero, List.setIfInBounds_toArray, List.set_cons_zero, List.set_cons_succ]
                  refine wpAnyH_ready (rs := [7]) (by kernel_rfl) (by simp) ?_
                  refine AllReadyH.cons rfl (fun K hK => ?_) ?_
                  · rw [if_pos (by rfl)]
                    go_simp
                    show K _ _
                    refine hK.out _ _ (by exact HQg.out.setOther (p := ⟨wm.heap.size, 0, none⟩) (by simp; omega) _) (fun hHeld => ?_)
                    clear hK K
                    try simp only [Act.put, List.getElem_toArray, List.getElem_cons_succ, List.getElem_cons_zero, List.setIfInBounds_toArray, List.set_cons_zero, List.set_cons_succ]
                    refine wpAnyH_done (by kernel_rfl) ?_ _
                    have HBX7 := Lib.hid (HBX6.out.set 0 (.slice (some ⟨g, 0, none⟩) (k + 1) cap6))
                    have HP7 := Lib.hid (HP.out.setCell (p := ⟨wm.heap.size, 0, none⟩) (by simp) (by simp) (.slice (some ⟨g, 0, none⟩) (k + 1) cap6))
                    have HB7 := Lib.hid (HB6.out.setCell (p := ⟨wm.heap.size, 0, none⟩) (by simp) (.slice (some ⟨g, 0, none⟩) (k + 1) cap6))
                    have hz7 : wm.heap.size < (w6.setCell ⟨wm.heap.size, 0, none⟩ (.slice (some ⟨g, 0, none⟩) (k + 1) cap6)).heap.size := by simp [World.setCell]; omega
                    clear p0 pf pz hgr6 hat6
                    go_wp2_with fail
                    go_roundw
                    case rel => exact ⟨k + 1, some ⟨g, 0, none⟩, cap6, by omega, by go_num, hz7, HBX7.out, by rw [HS.out]; exact HP7.out, HB7.out⟩
                    case measure => simp [intOf]; omega
                  exact AllReadyH.nil
                exact AllReadyH.nil
              exact AllReadyH.nil
            exact AllReadyH.nil
          exact AllReadyH.nil
        · obtain rfl : k = l.length := by omega
          rw [List.take_length] at HL HKL
          have t1 : ¬ (l.length : Int) < (l.length : Int) := by omega
          have HQ := Lib.hid (B3.out.belowS HBr.out)
          have HF1 := Lib.hid (H1.out.below HBr.out (fun _ h => h))
          have HF2 := Lib.hid (H2.out.below HBr.out (fun _ h => h))
          have HF3 := Lib.hid (H3.out.below HBr.out (fun _ h => h))
          have zB3 := B3.out.lt
          go_upto_region 22 with fail
          refine wp_region_held_drew (S := fun w' => BoxAt w' (w.heap.size + 1) [.int .i64 c.h.a, .int .i64 c.h.r, .slice adb c.h.bs.length capb, .slice adp c.h.ps.length capp, .slice adv c.vs.length capv] 45) (by kernel_rfl) (by exact HQ.out.drew) (fun hHeld => ?_)
          refine wpAnyH_take (i := 0) (v := .pointer (some ⟨wm.heap.size, 0, none⟩)) rfl (by kernel_rfl) (by kernel_rfl) (by kernel_rfl) (fun _ _ _ h => h) (Or.inl ⟨by rfl, fun w hSw => ?_⟩) hHeld ?_
          · clear hSw; go_simp; all_goals (try first | rfl | omega)
          try simp only [Act.put, List.getElem_toArray, List.getElem_cons_succ, List.getElem_cons_zero, List.setIfInBounds_toArray, List.set_cons_zero, List.set_cons_succ]
          refine wpAnyH_take (i := 2) (v := .agg #[.int .i64 c.h.a, .int .i64 c.h.r, .slice adb c.h.bs.length capb, .slice adp c.h.ps.length capp, .slice adv c.vs.length capv]) rfl (by kernel_rfl) (by kernel_rfl) (by kernel_rfl) (fun _ _ _ h => h) (Or.inl ⟨by rfl, fun w hSw => ?_⟩) hHeld ?_
          · have q0 := hSw.cell 0 rfl; have q1 := hSw.cell 1 rfl; have q2 := hSw.cell 2 rfl; have q3 := hSw.cell 3 rfl; have q4 := hSw.cell 4 rfl; clear hSw; go_simp
          try simp only [Act.put, List.getElem_toArray, List.getElem_cons_succ, List.getElem_cons_zero, List.setIfInBounds_toArray, List.set_cons_zero, List.set_cons_succ]
          refine wpAnyH_ready (rs := [1, 3]) (by kernel_rfl) (by simp) ?_
          refine AllReadyH.cons rfl (fun K hK => ?_) ?_
          · rw [if_pos (by rfl)]
            have q0 := HBX.out.cell 0 rfl
            go_simp
            show K _ _
            refine hK.out _ _ (by exact HQ.out) (fun hHeld => ?_)
            clear hK K
            try simp only [Act.put, List.getElem_toArray, List.getElem_cons_succ, List.getElem_cons_zero, List.setIfInBounds_toArray, List.set_cons_zero, List.set_cons_succ]
            refine wpAnyH_ready (rs := [3]) (by kernel_rfl) (by simp) ?_
            refine AllReadyH.cons rfl (fun K hK => ?_) ?_
            · rw [if_pos (by rfl)]
              go_simp
              go_at_call 43
              refine (dagOwn_any c _ _ _ _ (HF1.out.below ((Below.refl _ _).drew) (fun _ h => h)) (HF2.out.below ((Below.refl _ _).drew) (fun _ h => h)) (HF3.out.below ((Below.refl _ _).drew) (fun _ h => h)) HCC.out).mono ?_
              rintro e wo ⟨u1, u2, u3, rfl, hu1, hu2, hu3, hbo⟩
              obtain ⟨ub, ubc, rfl, -, -⟩ := hu1.form
              obtain ⟨up, upc, rfl, -, -⟩ := hu2.form
              obtain ⟨uv, uvc, rfl, -, -⟩ := hu3.form
              have hBo : Below wr.heap.size wr wo := Below.trans ((Below.refl _ _).drew) (hbo.mono (Nat.le_refl _))
              have zo := hBo.size
              have HBXo := Lib.hid (HBX.out.belowS hBo)
              have HQo := Lib.hid (HQ.out.belowS hBo)
              have HLo := Lib.hid (HL.out.below hBo)
              have HBo := Lib.hid (HBr.out.trans (hBo.mono (by omega)))
              have HU1 := Lib.hid (show RdBB (fun b => wr.heap.size ≤ b ∧ b < wo.heap.size) wo (.slice ub c.h.bs.length ubc) c.h.bs from hu1.low (by decide))
              have HU2 := Lib.hid (show RdBB (fun b => wr.heap.size ≤ b ∧ b < wo.heap.size) wo (.slice up c.h.ps.length upc) c.h.ps from hu2.low (by decide))
              have HU3 := Lib.hid (show RdI (fun b => wr.heap.size ≤ b ∧ b < wo.heap.size) wo (.slice uv c.vs.length uvc) c.vs from hu3.low (by decide))
              clear hbo hBo hu1 hu2 hu3
              show K _ _
              refine hK.out _ _ (by exact HQo.out) (fun hHeld => ?_)
              clear hK K
              try simp only [Act.put, List.getElem_toArray, List.getElem_cons_succ, List.getElem_cons_zero, List.setIfInBounds_toArray, List.set_cons_zero, List.set_cons_succ]
              refine wpAnyH_ready (rs := [4]) (by kernel_rfl) (by simp) ?_
              refine AllReadyH.cons rfl (fun K hK => ?_) ?_
              · rw [if_pos (by rfl)]
                go_simp
                show K _ _
                refine hK.out _ _ (by exact HQo.out.alloc _) (fun hHeld => ?_)
                clear hK K
                try simp only [Act.put, List.getElem_toArray, List.getElem_cons_succ, List.getElem_cons_zero, List.setIfInBounds_toArray, List.set_cons_zero, List.set_cons_succ]
                refine wpAnyH_ready (rs := [5]) (by kernel_rfl) (by simp) ?_
                refine AllReadyH.cons rfl (fun K hK => ?_) ?_
                · rw [if_pos (by rfl)]
                  have hownB : (wo.alloc (.cells #[.int .i64 c.h.a, .int .i64 c.h.r, .slice ub c.h.bs.length ubc, .slice up c.h.ps.length upc, .slice uv c.vs.length uvc] 45)).ownsRow (wm.heap.size + 1) 45 5 (.slice ado l.length capo) l.length vals := by have q := (HLo.out.alloc (.cells #[.int .i64 c.h.a, .int .i64 c.h.r, .slice ub c.h.bs.length ubc, .slice up c.h.ps.length upc, .slice uv c.vs.length uvc] 45)).own; rw [HKL.out] at q; exact q
                  refine wp_append_oneK _ _ _ (by rfl) elemCrt (wm.heap.size + 1) (.slice ado l.length capo) l.length _ (by rfl) hownB wo.heap.size 45 [.int .i64 c.h.a, .int .i64 c.h.r, .slice ub c.h.bs.length ubc, .slice up c.h.ps.length upc, .slice uv c.vs.length uvc] (by rfl) (by exact BoxAt.new wo [.int .i64 c.h.a, .int .i64 c.h.r, .slice ub c.h.bs.length ubc, .slice up c.h.ps.length upc, .slice uv c.vs.length uvc] _) rfl (by simp [Value.oneCell']) (by unfold maxLen; omega) (by omega) (by simp; omega) ?_
                  intro g cap6 w6 hown6 hgr6 hat6 hlt6
                  have hx : RCert.rd (fun b => wm.heap.size < b ∧ b < (wo.alloc (.cells #[.int .i64 c.h.a, .int .i64 c.h.r, .slice ub c.h.bs.length ubc, .slice up c.h.ps.length upc, .slice uv c.vs.length uvc] 45)).heap.size ∧ (Value.slice ado l.length capo).ownBlock ≠ some b) (wo.alloc (.cells #[.int .i64 c.h.a, .int .i64 c.h.r, .slice ub c.h.bs.length ubc, .slice up c.h.ps.length upc, .slice uv c.vs.length uvc] 45)) [.int .i64 c.h.a, .int .i64 c.h.r, .slice ub c.h.bs.length ubc, .slice up c.h.ps.length upc, .slice uv c.vs.length uvc] c := ⟨_, _, _, rfl, HU1.out.keep (Keep.alloc _ _ _) (fun b hb => ⟨by have h1 : wr.heap.size ≤ b := hb.1; omega, by have h2 : b < wo.heap.size := hb.2; simp; omega, fun e => by have h1 : wr.heap.size ≤ b := hb.1; have := (hvlt _ e).2; omega⟩), HU2.out.keep (Keep.alloc _ _ _) (fun b hb => ⟨by have h1 : wr.heap.size ≤ b := hb.1; omega, by have h2 : b < wo.heap.size := hb.2; simp; omega, fun e => by have h1 : wr.heap.size ≤ b := hb.1; have := (hvlt _ e).2; omega⟩), HU3.out.keep (Keep.alloc _ _ _) (fun b hb => ⟨by have h1 : wr.heap.size ≤ b := hb.1; omega, by have h2 : b < wo.heap.size := hb.2; simp; omega, fun e => by have h1 : wr.heap.size ≤ b := hb.1; have := (hvlt _ e).2; omega⟩)⟩
                  have hP := (HLo.out.alloc (.cells #[.int .i64 c.h.a, .int .i64 c.h.r, .slice ub c.h.bs.length ubc, .slice up c.h.ps.length upc, .slice uv c.vs.length uvc] 45)).push hx (by rw [HKL.out]; exact hown6) hgr6 hat6
                  rw [HKL.out] at hP
                  have HP := Lib.hid hP
                  have hbx6 := (HBXo.out.alloc (.cells #[.int .i64 c.h.a, .int .i64 c.h.r, .slice ub c.h.bs.length ubc, .slice up c.h.ps.length upc, .slice uv c.vs.length uvc] 45)).grown hgr6 (fun e => by have := (hvlt _ e).1; omega)
                  have HBX6 := Lib.hid hbx6
                  have HQg := Lib.hid ((HQo.out.alloc (.cells #[.int .i64 c.h.a, .int .i64 c.h.r, .slice ub c.h.bs.length ubc, .slice up c.h.ps.length upc, .slice uv c.vs.length uvc] 45)).grown hgr6 (fun e => by have := (hvlt _ e).1; omega))
                  have HB6 := Lib.hid ((HBo.out.alloc (by omega) (.cells #[.int .i64 c.h.a, .int .i64 c.h.r, .slice ub c.h.bs.length ubc, .slice up c.h.ps.length upc, .slice uv c.vs.length uvc] 45)).grown hgr6 (by simp; omega) (fun k hk => by have := (hvlt _ hk).1; omega))
                  have hz6 := hgr6.size
                  have p0 := hbx6.cell 0 rfl
                  have pf := hbx6.free 0
                  have pz := hbx6.lt
                  clear hP hx hown6 hownB hbx6
                  show K _ _
                  refine hK.out _ _ (by exact HQg.out) (fun hHeld => ?_)
                  clear hK K
                  try simp only [Act.put, List.getElem_toArray, List.getElem_cons_succ, List.getElem_cons_zero, List.setIfInBounds_toArray, List.set_cons_zero, List.set_cons_succ]
                  refine wpAnyH_take (i := 6) (v := .pointer (some ⟨wm.heap.size, 0, none⟩)) rfl (by kernel_rfl) (by kernel_rfl) (by kernel_rfl) (fun _ _ _ h => h) (Or.inl ⟨by rfl, fun w hSw => ?_⟩) hHeld ?_
                  · clear hSw; go_simp; all_goals (try first | rfl | omega)
                  try simp only [Act.put, List.getElem_toArray, List.getElem_cons_succ, List.getElem_cons_zero, List.setIfInBounds_toArray, List.set_cons_zero, List.set_cons_succ]
                  refine wpAnyH_ready (rs := [7]) (by kernel_rfl) (by simp) ?_
                  refine AllReadyH.cons rfl (fun K hK => ?_) ?_
                  · rw [if_pos (by rfl)]
                    go_simp
                    show K _ _
                    refine hK.out _ _ (by exact HQg.out.setOther (p := ⟨wm.heap.size, 0, none⟩) (by simp; omega) _) (fun hHeld => ?_)
                    clear hK K
                    try simp only [Act.put, List.getElem_toArray, List.getElem_cons_succ, List.getElem_cons_zero, List.setIfInBounds_toArray, List.set_cons_zero, List.set_cons_succ]
                    refine wpAnyH_done (by kernel_rfl) ?_ _
                    have HBX7 := Lib.hid (HBX6.out.set 0 (.slice (some ⟨g, 0, none⟩) (l.length + 1) cap6))
                    have HP7 := Lib.hid (HP.out.setCell (p := ⟨wm.heap.size, 0, none⟩) (by simp) (by simp) (.slice (some ⟨g, 0, none⟩) (l.length + 1) cap6))
                    have HB7 := Lib.hid (HB6.out.setCell (p := ⟨wm.heap.size, 0, none⟩) (by simp) (.slice (some ⟨g, 0, none⟩) (l.length + 1) cap6))
                    have hz7 : wm.heap.size < (w6.setCell ⟨wm.heap.size, 0, none⟩ (.slice (some ⟨g, 0, none⟩) (l.length + 1) cap6)).heap.size := by simp [World.setCell]; omega
                    clear p0 pf pz hgr6 hat6
                    have HB4 := Lib.hid (B4.out.belowS HB7.out)
                    have p0 := HBX7.out.cell 0 rfl
                    have y0 := HB4.out.cell 0 rfl
                    have yf := HB4.out.free 0
                    have yz := HB4.out.lt
                    have HZ := Lib.hid (HB4.out.set 0 (.slice (some ⟨g, 0, none⟩) (l.length + 1) cap6))
                    have g0 := HZ.out.cell 0 rfl
                    have HPE := Lib.hid (HP7.out.setCell (p := ⟨w.heap.size + 2, 0, none⟩) (by simp; omega) (by simp; omega) (.slice (some ⟨g, 0, none⟩) (l.length + 1) cap6))
                    have HBE := Lib.hid ((HB.out.trans (HB7.out.mono HB.out.size)).setCell (p := ⟨w.heap.size + 2, 0, none⟩) (by simp) (.slice (some ⟨g, 0, none⟩) (l.length + 1) cap6))
                    have hzw := HB.out.size
                    go_wp2
                    refine bodyPost_ret (v := .tuple #[.agg #[.slice (some ⟨g, 0, none⟩) (l.length + 1) cap6], .int .i64 0]) (by simp [results, Tryd.results52, go_sem, g0]) rfl ⟨_, by rw [HR.out], ?_, HBE.out⟩
                    rw [insL_yes HR.out]; exact HPE.out.rd (by decide) (fun b h1 h2 => by omega) (fun b h1 h2 => by omega)
                  exact AllReadyH.nil
                exact AllReadyH.nil
              exact AllReadyH.nil
            exact AllReadyH.nil
          refine AllReadyH.cons rfl (fun K hK => ?_) ?_
          · rw [if_pos (by rfl)]
            go_simp
            go_at_call 43
            refine (dagOwn_any c _ _ _ _ (HF1.out.below ((Below.refl _ _).drew) (fun _ h => h)) (HF2.out.below ((Below.refl _ _).drew) (fun _ h => h)) (HF3.out.below ((Below.refl _ _).drew) (fun _ h => h)) HCC.out).mono ?_
            rintro e wo ⟨u1, u2, u3, rfl, hu1, hu2, hu3, hbo⟩
            obtain ⟨ub, ubc, rfl, -, -⟩ := hu1.form
            obtain ⟨up, upc, rfl, -, -⟩ := hu2.form
            obtain ⟨uv, uvc, rfl, -, -⟩ := hu3.form
            have hBo : Below wr.heap.size wr wo := Below.trans ((Below.refl _ _).drew) (hbo.mono (Nat.le_refl _))
            have zo := hBo.size
            have HBXo := Lib.hid (HBX.out.belowS hBo)
            have HQo := Lib.hid (HQ.out.belowS hBo)
            have HLo := Lib.hid (HL.out.below hBo)
            have HBo := Lib.hid (HBr.out.trans (hBo.mono (by omega)))
            have HU1 := Lib.hid (show RdBB (fun b => wr.heap.size ≤ b ∧ b < wo.heap.size) wo (.slice ub c.h.bs.length ubc) c.h.bs from hu1.low (by decide))
            have HU2 := Lib.hid (show RdBB (fun b => wr.heap.size ≤ b ∧ b < wo.heap.size) wo (.slice up c.h.ps.length upc) c.h.ps from hu2.low (by decide))
            have HU3 := Lib.hid (show RdI (fun b => wr.heap.size ≤ b ∧ b < wo.heap.size) wo (.slice uv c.vs.length uvc) c.vs from hu3.low (by decide))
            clear hbo hBo hu1 hu2 hu3
            show K _ _
            refine hK.out _ _ (by exact HQo.out) (fun hHeld => ?_)
            clear hK K
            try simp only [Act.put, List.getElem_toArray, List.getElem_cons_succ, List.getElem_cons_zero, List.setIfInBounds_toArray, List.set_cons_zero, List.set_cons_succ]
            refine wpAnyH_ready (rs := [1, 4]) (by kernel_rfl) (by simp) ?_
            refine AllReadyH.cons rfl (fun K hK => ?_) ?_
            · rw [if_pos (by rfl)]
              have q0 := HBXo.out.cell 0 rfl
              go_simp
              show K _ _
              refine hK.out _ _ (by exact HQo.out) (fun hHeld => ?_)
              clear hK K
              try simp only [Act.put, List.getElem_toArray, List.getElem_cons_succ, List.getElem_cons_zero, List.setIfInBounds_toArray, List.set_cons_zero, List.set_cons_succ]
              refine wpAnyH_ready (rs := [4]) (by kernel_rfl) (by simp) ?_
              refine AllReadyH.cons rfl (fun K hK => ?_) ?_
              · rw [if_pos (by rfl)]
                go_simp
                show K _ _
                refine hK.out _ _ (by exact HQo.out.alloc _) (fun hHeld => ?_)
                clear hK K
                try simp only [Act.put, List.getElem_toArray, List.getElem_cons_succ, List.getElem_cons_zero, List.setIfInBounds_toArray, List.set_cons_zero, List.set_cons_succ]
                refine wpAnyH_ready (rs := [5]) (by kernel_rfl) (by simp) ?_
                refine AllReadyH.cons rfl (fun K hK => ?_) ?_
                · rw [if_pos (by rfl)]
                  have hownB : (wo.alloc (.cells #[.int .i64 c.h.a, .int .i64 c.h.r, .slice ub c.h.bs.length ubc, .slice up c.h.ps.length upc, .slice uv c.vs.length uvc] 45)).ownsRow (wm.heap.size + 1) 45 5 (.slice ado l.length capo) l.length vals := by have q := (HLo.out.alloc (.cells #[.int .i64 c.h.a, .int .i64 c.h.r, .slice ub c.h.bs.length ubc, .slice up c.h.ps.length upc, .slice uv c.vs.length uvc] 45)).own; rw [HKL.out] at q; exact q
                  refine wp_append_oneK _ _ _ (by rfl) elemCrt (wm.heap.size + 1) (.slice ado l.length capo) l.length _ (by rfl) hownB wo.heap.size 45 [.int .i64 c.h.a, .int .i64 c.h.r, .slice ub c.h.bs.length ubc, .slice up c.h.ps.length upc, .slice uv c.vs.length uvc] (by rfl) (by exact BoxAt.new wo [.int .i64 c.h.a, .int .i64 c.h.r, .slice ub c.h.bs.length ubc, .slice up c.h.ps.length upc, .slice uv c.vs.length uvc] _) rfl (by simp [Value.oneCell']) (by unfold maxLen; omega) (by omega) (by simp; omega) ?_
                  intro g cap6 w6 hown6 hgr6 hat6 hlt6
                  have hx : RCert.rd (fun b => wm.heap.size < b ∧ b < (wo.alloc (.cells #[.int .i64 c.h.a, .int .i64 c.h.r, .slice ub c.h.bs.length ubc, .slice up c.h.ps.length upc, .slice uv c.vs.length uvc] 45)).heap.size ∧ (Value.slice ado l.length capo).ownBlock ≠ some b) (wo.alloc (.cells #[.int .i64 c.h.a, .int .i64 c.h.r, .slice ub c.h.bs.length ubc, .slice up c.h.ps.length upc, .slice uv c.vs.length uvc] 45)) [.int .i64 c.h.a, .int .i64 c.h.r, .slice ub c.h.bs.length ubc, .slice up c.h.ps.length upc, .slice uv c.vs.length uvc] c := ⟨_, _, _, rfl, HU1.out.keep (Keep.alloc _ _ _) (fun b hb => ⟨by have h1 : wr.heap.size ≤ b := hb.1; omega, by have h2 : b < wo.heap.size := hb.2; simp; omega, fun e => by have h1 : wr.heap.size ≤ b := hb.1; have := (hvlt _ e).2; omega⟩), HU2.out.keep (Keep.alloc _ _ _) (fun b hb => ⟨by have h1 : wr.heap.size ≤ b := hb.1; omega, by have h2 : b < wo.heap.size := hb.2; simp; omega, fun e => by have h1 : wr.heap.size ≤ b := hb.1; have := (hvlt _ e).2; omega⟩), HU3.out.keep (Keep.alloc _ _ _) (fun b hb => ⟨by have h1 : wr.heap.size ≤ b := hb.1; omega, by have h2 : b < wo.heap.size := hb.2; simp; omega, fun e => by have h1 : wr.heap.size ≤ b := hb.1; have := (hvlt _ e).2; omega⟩)⟩
                  have hP := (HLo.out.alloc (.cells #[.int .i64 c.h.a, .int .i64 c.h.r, .slice ub c.h.bs.length ubc, .slice up c.h.ps.length upc, .slice uv c.vs.length uvc] 45)).push hx (by rw [HKL.out]; exact hown6) hgr6 hat6
                  rw [HKL.out] at hP
                  have HP := Lib.hid hP
                  have hbx6 := (HBXo.out.alloc (.cells #[.int .i64 c.h.a, .int .i64 c.h.r, .slice ub c.h.bs.length ubc, .slice up c.h.ps.length upc, .slice uv c.vs.length uvc] 45)).grown hgr6 (fun e => by have := (hvlt _ e).1; omega)
                  have HBX6 := Lib.hid hbx6
                  have HQg := Lib.hid ((HQo.out.alloc (.cells #[.int .i64 c.h.a, .int .i64 c.h.r, .slice ub c.h.bs.length ubc, .slice up c.h.ps.length upc, .slice uv c.vs.length uvc] 45)).grown hgr6 (fun e => by have := (hvlt _ e).1; omega))
                  have HB6 := Lib.hid ((HBo.out.alloc (by omega) (.cells #[.int .i64 c.h.a, .int .i64 c.h.r, .slice ub c.h.bs.length ubc, .slice up c.h.ps.length upc, .slice uv c.vs.length uvc] 45)).grown hgr6 (by simp; omega) (fun k hk => by have := (hvlt _ hk).1; omega))
                  have hz6 := hgr6.size
                  have p0 := hbx6.cell 0 rfl
                  have pf := hbx6.free 0
                  have pz := hbx6.lt
                  clear hP hx hown6 hownB hbx6
                  show K _ _
                  refine hK.out _ _ (by exact HQg.out) (fun hHeld => ?_)
                  clear hK K
                  try simp only [Act.put, List.getElem_toArray, List.getElem_cons_succ, List.getElem_cons_zero, List.setIfInBounds_toArray, List.set_cons_zero, List.set_cons_succ]
                  refine wpAnyH_take (i := 6) (v := .pointer (some ⟨wm.heap.size, 0, none⟩)) rfl (by kernel_rfl) (by kernel_rfl) (by kernel_rfl) (fun _ _ _ h => h) (Or.inl ⟨by rfl, fun w hSw => ?_⟩) hHeld ?_
                  · clear hSw; go_simp; all_goals (try first | rfl | omega)
                  try simp only [Act.put, List.getElem_toArray, List.getElem_cons_succ, List.getElem_cons_zero, List.setIfInBounds_toArray, List.set_cons_zero, List.set_cons_succ]
                  refine wpAnyH_ready (rs := [7]) (by kernel_rfl) (by simp) ?_
                  refine AllReadyH.cons rfl (fun K hK => ?_) ?_
                  · rw [if_pos (by rfl)]
                    go_simp
                    show K _ _
                    refine hK.out _ _ (by exact HQg.out.setOther (p := ⟨wm.heap.size, 0, none⟩) (by simp; omega) _) (fun hHeld => ?_)
                    clear hK K
                    try simp only [Act.put, List.getElem_toArray, List.getElem_cons_succ, List.getElem_cons_zero, List.setIfInBounds_toArray, List.set_cons_zero, List.set_cons_succ]
                    refine wpAnyH_done (by kernel_rfl) ?_ _
                    have HBX7 := Lib.hid (HBX6.out.set 0 (.slice (some ⟨g, 0, none⟩) (l.length + 1) cap6))
                    have HP7 := Lib.hid (HP.out.setCell (p := ⟨wm.heap.size, 0, none⟩) (by simp) (by simp) (.slice (some ⟨g, 0, none⟩) (l.length + 1) cap6))
                    have HB7 := Lib.hid (HB6.out.setCell (p := ⟨wm.heap.size, 0, none⟩) (by simp) (.slice (some ⟨g, 0, none⟩) (l.length + 1) cap6))
                    have hz7 : wm.heap.size < (w6.setCell ⟨wm.heap.size, 0, none⟩ (.slice (some ⟨g, 0, none⟩) (l.length + 1) cap6)).heap.size := by simp [World.setCell]; omega
                    clear p0 pf pz hgr6 hat6
                    have HB4 := Lib.hid (B4.out.belowS HB7.out)
                    have p0 := HBX7.out.cell 0 rfl
                    have y0 := HB4.out.cell 0 rfl
                    have yf := HB4.out.free 0
                    have yz := HB4.out.lt
                    have HZ := Lib.hid (HB4.out.set 0 (.slice (some ⟨g, 0, none⟩) (l.length + 1) cap6))
                    have g0 := HZ.out.cell 0 rfl
                    have HPE := Lib.hid (HP7.out.setCell (p := ⟨w.heap.size + 2, 0, none⟩) (by simp; omega) (by simp; omega) (.slice (some ⟨g, 0, none⟩) (l.length + 1) cap6))
                    have HBE := Lib.hid ((HB.out.trans (HB7.out.mono HB.out.size)).setCell (p := ⟨w.heap.size + 2, 0, none⟩) (by simp) (.slice (some ⟨g, 0, none⟩) (l.length + 1) cap6))
                    have hzw := HB.out.size
                    go_wp2
                    refine bodyPost_ret (v := .tuple #[.agg #[.slice (some ⟨g, 0, none⟩) (l.length + 1) cap6], .int .i64 0]) (by simp [results, Tryd.results52, go_sem, g0]) rfl ⟨_, by rw [HR.out], ?_, HBE.out⟩
                    rw [insL_yes HR.out]; exact HPE.out.rd (by decide) (fun b h1 h2 => by omega) (fun b h1 h2 => by omega)
                  exact AllReadyH.nil
                exact AllReadyH.nil
              exact AllReadyH.nil
            refine AllReadyH.cons rfl (fun K hK => ?_) ?_
            · rw [if_pos (by rfl)]
              go_simp
              show K _ _
              refine hK.out _ _ (by exact HQo.out.alloc _) (fun hHeld => ?_)
              clear hK K
              try simp only [Act.put, List.getElem_toArray, List.getElem_cons_succ, List.getElem_cons_zero, List.setIfInBounds_toArray, List.set_cons_zero, List.set_cons_succ]
              refine wpAnyH_ready (rs := [1]) (by kernel_rfl) (by simp) ?_
              refine AllReadyH.cons rfl (fun K hK => ?_) ?_
              · rw [if_pos (by rfl)]
                have q0 := (HBXo.out.alloc (.cells #[.int .i64 c.h.a, .int .i64 c.h.r, .slice ub c.h.bs.length ubc, .slice up c.h.ps.length upc, .slice uv c.vs.length uvc] 45)).cell 0 rfl
                go_simp
                show K _ _
                refine hK.out _ _ (by exact HQo.out.alloc _) (fun hHeld => ?_)
                clear hK K
                try simp only [Act.put, List.getElem_toArray, List.getElem_cons_succ, List.getElem_cons_zero, List.setIfInBounds_toArray, List.set_cons_zero, List.set_cons_succ]
                refine wpAnyH_ready (rs := [5]) (by kernel_rfl) (by simp) ?_
                refine AllReadyH.cons rfl (fun K hK => ?_) ?_
                · rw [if_pos (by rfl)]
                  have hownB : (wo.alloc (.cells #[.int .i64 c.h.a, .int .i64 c.h.r, .slice ub c.h.bs.length ubc, .slice up c.h.ps.length upc, .slice uv c.vs.length uvc] 45)).ownsRow (wm.heap.size + 1) 45 5 (.slice ado l.length capo) l.length vals := by have q := (HLo.out.alloc (.cells #[.int .i64 c.h.a, .int .i64 c.h.r, .slice ub c.h.bs.length ubc, .slice up c.h.ps.length upc, .slice uv c.vs.length uvc] 45)).own; rw [HKL.out] at q; exact q
                  refine wp_append_oneK _ _ _ (by rfl) elemCrt (wm.heap.size + 1) (.slice ado l.length capo) l.length _ (by rfl) hownB wo.heap.size 45 [.int .i64 c.h.a, .int .i64 c.h.r, .slice ub c.h.bs.length ubc, .slice up c.h.ps.length upc, .slice uv c.vs.length uvc] (by rfl) (by exact BoxAt.new wo [.int .i64 c.h.a, .int .i64 c.h.r, .slice ub c.h.bs.length ubc, .slice up c.h.ps.length upc, .slice uv c.vs.length uvc] _) rfl (by simp [Value.oneCell']) (by unfold maxLen; omega) (by omega) (by simp; omega) ?_
                  intro g cap6 w6 hown6 hgr6 hat6 hlt6
                  have hx : RCert.rd (fun b => wm.heap.size < b ∧ b < (wo.alloc (.cells #[.int .i64 c.h.a, .int .i64 c.h.r, .slice ub c.h.bs.length ubc, .slice up c.h.ps.length upc, .slice uv c.vs.length uvc] 45)).heap.size ∧ (Value.slice ado l.length capo).ownBlock ≠ some b) (wo.alloc (.cells #[.int .i64 c.h.a, .int .i64 c.h.r, .slice ub c.h.bs.length ubc, .slice up c.h.ps.length upc, .slice uv c.vs.length uvc] 45)) [.int .i64 c.h.a, .int .i64 c.h.r, .slice ub c.h.bs.length ubc, .slice up c.h.ps.length upc, .slice uv c.vs.length uvc] c := ⟨_, _, _, rfl, HU1.out.keep (Keep.alloc _ _ _) (fun b hb => ⟨by have h1 : wr.heap.size ≤ b := hb.1; omega, by have h2 : b < wo.heap.size := hb.2; simp; omega, fun e => by have h1 : wr.heap.size ≤ b := hb.1; have := (hvlt _ e).2; omega⟩), HU2.out.keep (Keep.alloc _ _ _) (fun b hb => ⟨by have h1 : wr.heap.size ≤ b := hb.1; omega, by have h2 : b < wo.heap.size := hb.2; simp; omega, fun e => by have h1 : wr.heap.size ≤ b := hb.1; have := (hvlt _ e).2; omega⟩), HU3.out.keep (Keep.alloc _ _ _) (fun b hb => ⟨by have h1 : wr.heap.size ≤ b := hb.1; omega, by have h2 : b < wo.heap.size := hb.2; simp; omega, fun e => by have h1 : wr.heap.size ≤ b := hb.1; have := (hvlt _ e).2; omega⟩)⟩
                  have hP := (HLo.out.alloc (.cells #[.int .i64 c.h.a, .int .i64 c.h.r, .slice ub c.h.bs.length ubc, .slice up c.h.ps.length upc, .slice uv c.vs.length uvc] 45)).push hx (by rw [HKL.out]; exact hown6) hgr6 hat6
                  rw [HKL.out] at hP
                  have HP := Lib.hid hP
                  have hbx6 := (HBXo.out.alloc (.cells #[.int .i64 c.h.a, .int .i64 c.h.r, .slice ub c.h.bs.length ubc, .slice up c.h.ps.length upc, .slice uv c.vs.length uvc] 45)).grown hgr6 (fun e => by have := (hvlt _ e).1; omega)
                  have HBX6 := Lib.hid hbx6
                  have HQg := Lib.hid ((HQo.out.alloc (.cells #[.int .i64 c.h.a, .int .i64 c.h.r, .slice ub c.h.bs.length ubc, .slice up c.h.ps.length upc, .slice uv c.vs.length uvc] 45)).grown hgr6 (fun e => by have := (hvlt _ e).1; omega))
                  have HB6 := Lib.hid ((HBo.out.alloc (by omega) (.cells #[.int .i64 c.h.a, .int .i64 c.h.r, .slice ub c.h.bs.length ubc, .slice up c.h.ps.length upc, .slice uv c.vs.length uvc] 45)).grown hgr6 (by simp; omega) (fun k hk => by have := (hvlt _ hk).1; omega))
                  have hz6 := hgr6.size
                  have p0 := hbx6.cell 0 rfl
                  have pf := hbx6.free 0
                  have pz := hbx6.lt
                  clear hP hx hown6 hownB hbx6
                  show K _ _
                  refine hK.out _ _ (by exact HQg.out) (fun hHeld => ?_)
                  clear hK K
                  try simp only [Act.put, List.getElem_toArray, List.getElem_cons_succ, List.getElem_cons_zero, List.setIfInBounds_toArray, List.set_cons_zero, List.set_cons_succ]
                  refine wpAnyH_take (i := 6) (v := .pointer (some ⟨wm.heap.size, 0, none⟩)) rfl (by kernel_rfl) (by kernel_rfl) (by kernel_rfl) (fun _ _ _ h => h) (Or.inl ⟨by rfl, fun w hSw => ?_⟩) hHeld ?_
                  · clear hSw; go_simp; all_goals (try first | rfl | omega)
                  try simp only [Act.put, List.getElem_toArray, List.getElem_cons_succ, List.getElem_cons_zero, List.setIfInBounds_toArray, List.set_cons_zero, List.set_cons_succ]
                  refine wpAnyH_ready (rs := [7]) (by kernel_rfl) (by simp) ?_
                  refine AllReadyH.cons rfl (fun K hK => ?_) ?_
                  · rw [if_pos (by rfl)]
                    go_simp
                    show K _ _
                    refine hK.out _ _ (by exact HQg.out.setOther (p := ⟨wm.heap.size, 0, none⟩) (by simp; omega) _) (fun hHeld => ?_)
                    clear hK K
                    try simp only [Act.put, List.getElem_toArray, List.getElem_cons_succ, List.getElem_cons_zero, List.setIfInBounds_toArray, List.set_cons_zero, List.set_cons_succ]
                    refine wpAnyH_done (by kernel_rfl) ?_ _
                    have HBX7 := Lib.hid (HBX6.out.set 0 (.slice (some ⟨g, 0, none⟩) (l.length + 1) cap6))
                    have HP7 := Lib.hid (HP.out.setCell (p := ⟨wm.heap.size, 0, none⟩) (by simp) (by simp) (.slice (some ⟨g, 0, none⟩) (l.length + 1) cap6))
                    have HB7 := Lib.hid (HB6.out.setCell (p := ⟨wm.heap.size, 0, none⟩) (by simp) (.slice (some ⟨g, 0, none⟩) (l.length + 1) cap6))
                    have hz7 : wm.heap.size < (w6.setCell ⟨wm.heap.size, 0, none⟩ (.slice (some ⟨g, 0, none⟩) (l.length + 1) cap6)).heap.size := by simp [World.setCell]; omega
                    clear p0 pf pz hgr6 hat6
                    have HB4 := Lib.hid (B4.out.belowS HB7.out)
                    have p0 := HBX7.out.cell 0 rfl
                    have y0 := HB4.out.cell 0 rfl
                    have yf := HB4.out.free 0
                    have yz := HB4.out.lt
                    have HZ := Lib.hid (HB4.out.set 0 (.slice (some ⟨g, 0, none⟩) (l.length + 1) cap6))
                    have g0 := HZ.out.cell 0 rfl
                    have HPE := Lib.hid (HP7.out.setCell (p := ⟨w.heap.size + 2, 0, none⟩) (by simp; omega) (by simp; omega) (.slice (some ⟨g, 0, none⟩) (l.length + 1) cap6))
                    have HBE := Lib.hid ((HB.out.trans (HB7.out.mono HB.out.size)).setCell (p := ⟨w.heap.size + 2, 0, none⟩) (by simp) (.slice (some ⟨g, 0, none⟩) (l.length + 1) cap6))
                    have hzw := HB.out.size
                    go_wp2
                    refine bodyPost_ret (v := .tuple #[.agg #[.slice (some ⟨g, 0, none⟩) (l.length + 1) cap6], .int .i64 0]) (by simp [results, Tryd.results52, go_sem, g0]) rfl ⟨_, by rw [HR.out], ?_, HBE.out⟩
                    rw [insL_yes HR.out]; exact HPE.out.rd (by decide) (fun b h1 h2 => by omega) (fun b h1 h2 => by omega)
                  exact AllReadyH.nil
                exact AllReadyH.nil
              exact AllReadyH.nil
            exact AllReadyH.nil
          exact AllReadyH.nil
    exact AllReadyH.nil
  exact AllReadyH.nil
end Go.Proofs.YtpfmmncnhlfdgaaDoor
