/- dag: Round, Digests, Missing: what they compute. -/
import Derived.Test.YtpfmmncnhlfdgaaDoorDag9
import Derived.Test.YtpfmmncnhlfdgaaDoorStp
set_option linter.unusedVariables false
set_option linter.unusedSimpArgs false
attribute [local go_sem ↓] Go.wp_at_zero Go.wp_at_succ
namespace Go.Proofs.YtpfmmncnhlfdgaaDoor
open Go Go.RowKit

theorem of_mono {G : Nat → Prop} {w w' : World} {v : Value} {l : List Crt} (h : RdS RCert G w v l) (hG : ∀ b, G b → b < w.heap.size → b < w.heap.size) : RdS RCert (fun b => G b ∧ b < w.heap.size) w v l := h.low (by decide)
set_option maxRecDepth 100000 in
set_option maxHeartbeats 8000000 in
theorem dagRound_any {G : Nat → Prop} {l : List Crt} (v : Value) (w : World) (h : RdS RCert G w v l) (ht : Tabs w) (hok : dagOk l = true) :
    Calls Tryd.prog 51 #[.agg #[v]] w fun e w' => e = .returned (.tuple #[.int .i64 (roundL l), .int .i64 0]) ∧ Below w.heap.size w w' := by
  have hC := dagCode_zero.2 hok
  have HS := Lib.hid (dagOk_solo hok)
  have hl4 := (dagOk_iff.1 hok).1
  have HC := Lib.hid hC
  clear hC hok
  obtain ⟨ad, cap, rfl, hcap, hm⟩ := h.form
  unfold maxLen at hm
  have hb0 := (Below.refl w.heap.size w).alloc (Nat.le_refl _) (.cells #[.slice ad l.length cap] 30)
  have HV := Lib.hid (h.below hb0 (fun _ h => h))
  have HT := Lib.hid (ht.belowS hb0)
  have HB := Lib.hid hb0
  have HX := Lib.hid (BoxAt.new w [.slice ad l.length cap] 30)
  clear h ht hb0
  go_enter Tryd.func51, Tryd.ntmps51
  go_upto_region 1 with fail
  obtain ⟨w0, hw0⟩ : ∃ w0, w0 = w.alloc (.cells #[.slice ad l.length cap] 30) := ⟨_, rfl⟩
  rw [← hw0] at HV HT HX HB ⊢
  have hz0 := HX.out.lt
  clear hw0
  have x0 := HX.out.cell 0 rfl
  go_wp2_with fail
  refine (dagCheck_any _ _ HV.out HT.out).mono ?_
  rintro e w1 ⟨rfl, hb1⟩
  replace HV := Lib.hid (HV.out.below hb1 (fun _ h => h))
  replace HT := Lib.hid (HT.out.belowS hb1)
  replace HX := Lib.hid (HX.out.belowS hb1)
  replace HB := Lib.hid (HB.out.trans (hb1.mono HB.out.size))
  have hz1 := HX.out.lt
  clear x0 hb1
  rw [HC.out]
  have HBo := HB
  go_wp2_with fail
  go_loopw [5] (fun i wr => ∃ r : Int, i = .int .i64 r ∧ Hid (over l r) ∧ 1 ≤ r ∧ 3 * (r - 1) ≤ l.length ∧ Below w1.heap.size w1 wr) (fun i _ => (200 - intOf i).toNat)
  case atStart => exact ⟨1, rfl, Lib.hid (over_one l), by omega, by omega, Below.refl _ _⟩
  case round =>
    obtain ⟨r, rfl, HO, hr1, hr3, hB⟩ := hrel
    have HBr := Lib.hid (HB.out.trans (hB.mono HB.out.size))
    have HB1 := Lib.hid hB
    have HXr := Lib.hid (HX.out.belowS hB)
    have HVr := Lib.hid (HV.out.below hB (fun _ h => h))
    have x0 := HXr.out.cell 0 rfl
    have hzr := hB.size
    have wr1 : IntKind.i64.wrap (r + 1) = r + 1 := IntWalk.i64_in _ (by omega)
    clear hB
    go_wp2_with fail
    refine (dagOf_any r _ _ HVr.out HS.out hl4).mono ?_
    rintro e w3 ⟨v3, rfl, h3, hb3⟩
    obtain ⟨ad3, cap3, rfl, hc3, hm3⟩ := h3.form
    unfold maxLen at hm3
    have HB3 := Lib.hid (HBr.out.trans (hb3.mono HBr.out.size))
    have HB13 := Lib.hid (HB1.out.trans (hb3.mono HB1.out.size))
    have HOL := Lib.hid (ofL_len HS.out r)
    clear h3 hb3 x0
    by_cases hq : 3 ≤ (ofL l r).length
    · have t0 : (3 : Int) ≤ ((ofL l r).length : Int) := by omega
      have HO' := Lib.hid (over_succ HO.out (by rw [← HOL.out]; exact hq))
      have hle := over_le HO'.out
      clear hq
      go_wp2
      go_roundw
      case rel => exact ⟨r + 1, rfl, HO', by omega, by omega, HB13.out⟩
      case measure => simp [intOf]; omega
    · have t0 : ¬ (3 : Int) ≤ ((ofL l r).length : Int) := by omega
      have HR := Lib.hid (roundL_eq HO.out (by rw [← HOL.out]; omega))
      clear hq
      go_wp2
      refine bodyPost_ret (v := .tuple #[.int .i64 r, .int .i64 0]) (by simp [results, Tryd.results51, go_sem]) rfl ⟨by rw [HR.out], HB3.out⟩
theorem digsL_succ {L : List Crt} {k : Nat} (h : k < L.length) : (L.take (k + 1)).map crtSum = (L.take k).map crtSum ++ [crtSum L[k]] := by
  rw [List.take_succ_eq_append_getElem h, List.map_append]; rfl
set_option maxRecDepth 100000 in
set_option maxHeartbeats 8000000 in
theorem dagDigests_any {G : Nat → Prop} {l : List Crt} (r : Int) (v : Value) (w : World) (h : RdS RCert G w v l) (ht : Tabs w) (hok : dagOk l = true) :
    Calls Tryd.prog 21 #[.agg #[v], .int .i64 r] w fun e w' => ∃ v', e = .returned (.tuple #[v', .int .i64 0]) ∧ RdBB (fun b => w.heap.size ≤ b) w' v' (digsL l r) ∧ Below w.heap.size w w' := by
  have hC := dagCode_zero.2 hok
  have hS := dagOk_solo hok
  have hl4 := (dagOk_iff.1 hok).1
  have HC := Lib.hid hC
  have HM := Lib.hid (fun c (hc : c ∈ ofL l r) => (crt_partsP ((dagOk_iff.1 hok).2.1 c ((mem_ofL hS).1 hc).1)).1)
  have HS := Lib.hid hS
  have hL4 := @ofL_len4 l r
  clear hC hok hS
  obtain ⟨ad, cap, rfl, hcap, hm⟩ := h.form
  unfold maxLen at hm
  have hb0 := (Below.refl w.heap.size w).alloc (Nat.le_refl _) (.cells #[.slice ad l.length cap] 30)
  have HV := Lib.hid (h.below hb0 (fun _ h => h))
  have HT := Lib.hid (ht.belowS hb0)
  have HB := Lib.hid hb0
  have HX := Lib.hid (BoxAt.new w [.slice ad l.length cap] 30)
  clear h ht hb0
  go_enter Tryd.func21, Tryd.ntmps21
  go_upto_region 1 with fail
  obtain ⟨w0, hw0⟩ : ∃ w0, w0 = w.alloc (.cells #[.slice ad l.length cap] 30) := ⟨_, rfl⟩
  rw [← hw0] at HV HT HX HB ⊢
  have hz0 := HX.out.lt
  clear hw0
  have x0 := HX.out.cell 0 rfl
  go_wp2_with fail
  refine (dagCheck_any _ _ HV.out HT.out).mono ?_
  rintro e w1 ⟨rfl, hb1⟩
  replace HV := Lib.hid (HV.out.below hb1 (fun _ h => h))
  replace HT := Lib.hid (HT.out.belowS hb1)
  replace HX := Lib.hid (HX.out.belowS hb1)
  replace HB := Lib.hid (HB.out.trans (hb1.mono HB.out.size))
  have hz1 := HX.out.lt
  clear x0 hb1
  rw [HC.out]
  have x0 := HX.out.cell 0 rfl
  go_wp2_with fail
  refine (dagOf_any r _ _ HV.out HS.out hl4).mono ?_
  rintro e w2 ⟨v2, rfl, h2, hb2⟩
  obtain ⟨ad2, cap2, rfl, hc2, hm2⟩ := h2.form
  unfold maxLen at hm2
  have HO := Lib.hid h2
  have HB2 := Lib.hid (HB.out.trans (hb2.mono HB.out.size))
  replace HT := Lib.hid (HT.out.belowS hb2)
  have HD := Lib.hid (show digsL l r = (ofL l r).map crtSum from rfl)
  clear h2 hb2 x0 HV HX HB
  generalize ofL l r = L at *
  go_wp2_with fail
  go_loopw [7, 20] (fun o i wr => ∃ (k : Nat) (ad : Option Addr) (cap : Nat), k ≤ L.length ∧ i = .int .i64 k ∧ o = .slice ad k cap ∧ LstO RBytes (fun b => w2.heap.size ≤ b) w2.heap.size 39 wr (.slice ad k cap) ((L.take k).map crtSum) ∧ Below w2.heap.size w2 wr) (fun _ i _ => L.length - (intOf i).toNat)
  case atStart => exact ⟨0, none, 0, Nat.zero_le _, rfl, rfl, LstO.nil _ _ _ _ _, Below.refl _ _⟩
  case round =>
    obtain ⟨k, ado, capo, hk, rfl, rfl, hL, hB⟩ := hrel
    have hz := hB.size
    have HBr := Lib.hid hB
    by_cases hlt : k < L.length
    · have i0 : (0 : Int) ≤ (k : Int) := by omega
      have i1 : (k : Int) < (L.length : Int) := by omega
      obtain ⟨vals, hv⟩ := hL.valsOf
      have hvlt := hv.lt
      have HLr := Lib.hid hv
      have HKL := Lib.hid (show ((L.take k).map crtSum).length = k by rw [List.length_map, List.length_take]; omega)
      have HMS := Lib.hid (digsL_succ hlt)
      obtain ⟨b, o, ub, up, uv, rfl, -, e0, e1, e2, e3, e4, hb', hp', hv'⟩ := (HO.out.below hB (fun _ h => h)).crt k hlt
      have hc := HM.out L[k] (List.getElem_mem hlt)
      generalize L[k] = c at *
      obtain ⟨adb, capb, rfl, -, -⟩ := hb'.form
      obtain ⟨adp, capp, rfl, -, -⟩ := hp'.form
      obtain ⟨adw, capw, rfl, -, -⟩ := hv'.form
      have H1 := Lib.hid hb'
      have H2 := Lib.hid hp'
      have H3 := Lib.hid hv'
      have HCC := Lib.hid hc
      clear hb' hp' hv' hc hv hL hB
      go_wp2_with fail
      refine (ddigest_ok c _ _ _ _ (H1.out.below (by repeat (first | with_reducible exact Below.refl _ _ | with_reducible refine Below.drew ?_ | with_reducible refine Below.setCell ?_ (by first | omega | (simp <;> omega)) _ | with_reducible refine Below.alloc ?_ (by first | omega | (simp <;> omega)) _)) (fun _ h => h)) (H2.out.below (by repeat (first | with_reducible exact Below.refl _ _ | with_reducible refine Below.drew ?_ | with_reducible refine Below.setCell ?_ (by first | omega | (simp <;> omega)) _ | with_reducible refine Below.alloc ?_ (by first | omega | (simp <;> omega)) _)) (fun _ h => h)) (H3.out.below (by repeat (first | with_reducible exact Below.refl _ _ | with_reducible refine Below.drew ?_ | with_reducible refine Below.setCell ?_ (by first | omega | (simp <;> omega)) _ | with_reducible refine Below.alloc ?_ (by first | omega | (simp <;> omega)) _)) (fun _ h => h)) HCC.out (HT.out.belowS (by repeat (first | with_reducible exact HBr.out | with_reducible exact Below.refl _ _ | with_reducible refine Below.drew ?_ | with_reducible refine Below.setCell ?_ (by first | omega | (simp <;> omega)) _ | with_reducible refine Below.alloc ?_ (by first | omega | (simp <;> omega)) _)))).mono ?_
      rintro e w5 ⟨vd, rfl, hd, hb5⟩
      have hB5 : Below wr.heap.size wr w5 := Below.trans (by repeat (first | with_reducible exact Below.refl _ _ | with_reducible refine Below.drew ?_ | with_reducible refine Below.setCell ?_ (by first | omega | (simp <;> omega)) _ | with_reducible refine Below.alloc ?_ (by first | omega | (simp <;> omega)) _)) (hb5.mono (by simp))
      have HL5 := Lib.hid (HLr.out.below hB5)
      have HD5 := Lib.hid (hd.low (by decide))
      have HB5 := Lib.hid (HBr.out.trans (hB5.mono hz))
      have s5 := hB5.size
      obtain ⟨add, capd, rfl, -, -⟩ := hd.form
      clear hd hb5 hB5 e0 e1 e2 e3 e4
      go_wp2_with (at_builtin; refine wpList_append_one rfl _ _ 34 rfl elemBY w2.heap.size _ k vals rfl (by have h := (HL5.out.alloc (.cells #[.slice add (crtSum c).length capd] 39)).own; rw [HKL.out] at h; exact h) w5.heap.size 39 [.slice add (crtSum c).length capd] rfl (BoxAt.new w5 [_] _) rfl (by simp [Value.oneCell']) (by unfold maxLen; omega) (by omega) (by simp; omega) ?_; intro g cap6 w6 hown6 hgr6 hat6 hlt6)
      have hx : RBytes.rd (fun b => w2.heap.size ≤ b ∧ b < (w5.alloc (.cells #[.slice add (crtSum c).length capd] 39)).heap.size ∧ (Value.slice ado k capo).ownBlock ≠ some b) (w5.alloc (.cells #[.slice add (crtSum c).length capd] 39)) [.slice add (crtSum c).length capd] (crtSum c) :=
        ⟨_, rfl, HD5.out.keep (Keep.alloc _ _ _) (fun b hb => ⟨by have := hb.1; simp at this; omega, by have := hb.2; simp; omega, fun e => by have h1 := hb.1; simp at h1; have := (hvlt _ e).2; omega⟩)⟩
      have hP := (HL5.out.alloc (.cells #[.slice add (crtSum c).length capd] 39)).push hx (by rw [HKL.out]; exact hown6) hgr6 hat6
      rw [HKL.out, ← HMS.out] at hP
      have HP := Lib.hid hP
      have HB6 := Lib.hid ((HB5.out.alloc HB5.out.size (.cells #[.slice add (crtSum c).length capd] 39)).grown hgr6 (by have := HB5.out.size; simp; omega) (fun k hk => (hvlt _ hk).1))
      clear hP hx hown6
      go_wp2
      go_roundw
      case rel => exact ⟨k + 1, some ⟨g, 0, none⟩, cap6, by omega, by go_num, rfl, HP.out, HB6.out⟩
      case measure => simp [intOf]; omega
    · obtain rfl : k = L.length := by omega
      rw [List.take_length] at hL
      have hw2 := HB2.out.size
      have HM2 := Lib.hid (hL.rd (G' := fun b => w.heap.size ≤ b) (by decide) (fun b h1 h2 => by omega) (fun b h1 h2 => by omega))
      have HBE := Lib.hid (HB2.out.trans (HBr.out.mono HB2.out.size))
      clear hL hB
      have t1 : ¬ (L.length : Int) < (L.length : Int) := by omega
      go_wp2
      refine bodyPost_ret (v := .tuple #[.slice ado L.length capo, .int .i64 0]) (by simp [results, Tryd.results21, go_sem]) rfl ⟨_, rfl, by rw [HD.out]; exact HM2.out, HBE.out⟩
/-- What Missing tells. -/
def misCode (l : List Crt) (x : Hdr) : Int := if hdrCode x ≠ 0 then hdrCode x else if wrongB l (crtSums l) x.r x.ps = true then 9 else 0
def misL (l : List Crt) (x : Hdr) : List Bytes := if misCode l x = 0 then noneL (crtSums l) x.ps else []
theorem mis_1 {l : List Crt} {x : Hdr} (h : hdrCode x ≠ 0) : misCode l x = hdrCode x ∧ misL l x = [] := by
  have h1 : misCode l x = hdrCode x := by unfold misCode; rw [if_pos h]
  exact ⟨h1, by unfold misL; rw [h1, if_neg h]⟩
theorem mis_2 {l : List Crt} {x : Hdr} (h : hdrCode x = 0) (h2 : wrongB l (crtSums l) x.r x.ps = true) : misCode l x = 9 ∧ misL l x = [] := by
  have h1 : misCode l x = 9 := by unfold misCode; rw [if_neg (by simp [h]), if_pos h2]
  exact ⟨h1, by unfold misL; rw [h1, if_neg (by decide)]⟩
theorem mis_3 {l : List Crt} {x : Hdr} (h : hdrCode x = 0) (h2 : wrongB l (crtSums l) x.r x.ps = false) : misCode l x = 0 ∧ misL l x = noneL (crtSums l) x.ps := by
  have h1 : misCode l x = 0 := by unfold misCode; rw [if_neg (by simp [h]), if_neg (by simp [h2])]
  exact ⟨h1, by unfold misL; rw [if_pos h1]⟩
theorem hdr_ps {x : Hdr} (h : hdrCode x = 0) : (∀ d ∈ x.ps, d.length = 32) ∧ x.ps.length ≤ 4 ∧ 1 ≤ x.r ∧ x.r ≤ 9223372036854775807 := by
  obtain ⟨-, h2, -, h4, -, h6⟩ := hdr_partsD h
  unfold countOk at h2
  simp only [decide_eq_true_eq] at h2
  exact ⟨((digCode_zero _).1 h6).1, h4, h2.1, by omega⟩
end Go.Proofs.YtpfmmncnhlfdgaaDoor
