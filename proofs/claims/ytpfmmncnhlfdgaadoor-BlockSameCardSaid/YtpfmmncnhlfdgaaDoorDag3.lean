/- dag: missing: what it computes. -/
import Derived.Test.YtpfmmncnhlfdgaaDoorDag2
set_option linter.unusedVariables false
set_option linter.unusedSimpArgs false
attribute [local go_sem ↓] Go.wp_at_zero Go.wp_at_succ
namespace Go.Proofs.YtpfmmncnhlfdgaaDoor
open Go Go.RowKit

def crtZ : Crt := ⟨⟨0, 0, [], []⟩, []⟩
/-- Of the parents: which have no certificate; does one stand on another round? -/
def noneL (ds ps : List Bytes) : List Bytes := ps.filter fun d => decide (idxP (isB d) ds < 0)
def wrong1 (l : List Crt) (ds : List Bytes) (r : Int) (d : Bytes) : Bool := decide (0 ≤ idxP (isB d) ds) && decide ((l.getD (idxP (isB d) ds).toNat crtZ).h.r ≠ r - 1)
def wrongB (l : List Crt) (ds : List Bytes) (r : Int) (ps : List Bytes) : Bool := ps.any (wrong1 l ds r)
theorem noneL_succ {ds ps : List Bytes} {k : Nat} (hk : k < ps.length) : noneL ds (ps.take (k + 1)) = if idxP (isB ps[k]) ds < 0 then noneL ds (ps.take k) ++ [ps[k]] else noneL ds (ps.take k) := by
  unfold noneL
  rw [List.take_succ_eq_append_getElem hk, List.filter_append]
  by_cases h : idxP (isB ps[k]) ds < 0 <;> simp [h]
theorem wrongB_succ {l : List Crt} {ds ps : List Bytes} {r : Int} {k : Nat} (hk : k < ps.length) : wrongB l ds r (ps.take (k + 1)) = (wrongB l ds r (ps.take k) || wrong1 l ds r ps[k]) := by
  unfold wrongB
  rw [List.take_succ_eq_append_getElem hk, List.any_append]
  simp
theorem noneL_len (ds ps : List Bytes) : (noneL ds ps).length ≤ ps.length := List.length_filter_le _ _
set_option maxRecDepth 100000 in
set_option maxHeartbeats 8000000 in
theorem missing_any {G G' G2 : Nat → Prop} {l : List Crt} {ds : List Bytes} (h : Hdr) (v vds vb vp : Value) (w : World) (hl : RdS RCert G w v l) (hds : RdBB G' w vds ds) (hb : RdBB G2 w vb h.bs) (hp : RdBB G2 w vp h.ps) (hlen : ds.length ≤ l.length) (h32 : ∀ d ∈ h.ps, d.length = 32) (h4 : h.ps.length ≤ 4) (hr1 : 1 ≤ h.r) (hr2 : h.r ≤ 9223372036854775807) :
    Calls Tryd.prog 54 #[v, vds, .agg #[.int .i64 h.a, .int .i64 h.r, vb, vp]] w fun e w' => ∃ v', e = .returned (.tuple #[v', .bool (wrongB l ds h.r h.ps)]) ∧ RdBB (fun b => w.heap.size ≤ b) w' v' (noneL ds h.ps) ∧ Below w.heap.size w w' := by
  obtain ⟨adl, capl, rfl, hcl, hml⟩ := hl.form
  obtain ⟨add, capd, rfl, hcd, hmd⟩ := hds.form
  obtain ⟨adb, capb, rfl, -, -⟩ := hb.form
  obtain ⟨adp, capp, rfl, -, -⟩ := hp.form
  unfold maxLen at hml hmd
  have hb1 := (Below.refl w.heap.size w).alloc (Nat.le_refl _) (.cells #[.int .i64 h.a, .int .i64 h.r, .slice adb h.bs.length capb, .slice adp h.ps.length capp] 42)
  have HL := Lib.hid (hl.below hb1 (fun _ h => h))
  have HD := Lib.hid (hds.below hb1 (fun _ h => h))
  have HP := Lib.hid (hp.below hb1 (fun _ h => h))
  have HX := Lib.hid (BoxAt.new w [.int .i64 h.a, .int .i64 h.r, .slice adb h.bs.length capb, .slice adp h.ps.length capp] 42)
  have HB := Lib.hid hb1
  have H32 := Lib.hid h32
  have HLEN := Lib.hid hlen
  clear hl hds hb hp hb1 h32 hlen
  have wr1 : IntKind.i64.wrap (h.r - 1) = h.r - 1 := IntWalk.i64_in _ (by omega)
  go_enter Tryd.func54, Tryd.ntmps54
  go_upto_region 1 with fail
  obtain ⟨w0, hw0⟩ : ∃ w0, w0 = w.alloc (.cells #[.int .i64 h.a, .int .i64 h.r, .slice adb h.bs.length capb, .slice adp h.ps.length capp] 42) := ⟨_, rfl⟩
  rw [← hw0] at HL HD HP HX HB ⊢
  have hz0 := HX.out.lt
  clear hw0
  have x3 := HX.out.cell 3 rfl
  go_wp2_with fail
  clear x3
  go_loopw [6, 7, 14] (fun o u i wr => ∃ (k : Nat) (ad : Option Addr) (cap : Nat), k ≤ h.ps.length ∧ i = .int .i64 k ∧ o = .slice ad (noneL ds (h.ps.take k)).length cap ∧ u = .bool (wrongB l ds h.r (h.ps.take k)) ∧ LstO RBytes (fun b => w0.heap.size ≤ b) w0.heap.size 39 wr (.slice ad (noneL ds (h.ps.take k)).length cap) (noneL ds (h.ps.take k)) ∧ Below w0.heap.size w0 wr) (fun _ _ i _ => h.ps.length - (intOf i).toNat)
  case atStart => exact ⟨0, none, 0, Nat.zero_le _, rfl, rfl, rfl, LstO.nil _ _ _ _ _, Below.refl _ _⟩
  case round =>
    obtain ⟨k, ad, cap, hk, rfl, rfl, rfl, hL, hB⟩ := hrel
    have hz := hB.size
    have HBr := Lib.hid hB
    by_cases hlt : k < h.ps.length
    · have i0 : (0 : Int) ≤ (k : Int) := by omega
      have i1 : (k : Int) < (h.ps.length : Int) := by omega
      obtain ⟨bb, ob, vx, rfl, -, e0, hx⟩ := (HP.out.below hB (fun _ h => h)).cellS k hlt
      have H32d := Lib.hid (H32.out h.ps[k] (List.getElem_mem hlt))
      have HS := Lib.hid (noneL_succ (ds := ds) hlt)
      have HWS := Lib.hid (wrongB_succ (l := l) (ds := ds) (r := h.r) hlt)
      have HNL := Lib.hid (show (noneL ds (h.ps.take k)).length ≤ k by have := noneL_len ds (h.ps.take k); rw [List.length_take] at this; omega)
      have hnl := HNL.out
      obtain ⟨adx, capx, rfl, -, -⟩ := hx.form
      have HX2 := Lib.hid hx
      have HXB := Lib.hid (HX.out.belowS hB)
      have HLr := Lib.hid (HL.out.below hB (fun _ h => h))
      have HDr := Lib.hid (HD.out.below hB (fun _ h => h))
      generalize h.ps[k] = d at *
      generalize wrongB l ds h.r (h.ps.take k) = u at *
      generalize noneL ds (h.ps.take k) = N at *
      obtain ⟨vals, hv⟩ := hL.valsOf
      have hvlt := hv.lt
      have HLV := Lib.hid hv
      have wk : IntKind.i64.wrap ((k : Int) + 1) = (k : Int) + 1 := IntWalk.i64_in _ (by omega)
      clear hx hv hL hB
      go_wp2_with fail
      refine (dat_any _ _ _ (HDr.out.below (by repeat (first | with_reducible exact Below.refl _ _ | with_reducible refine Below.drew ?_ | with_reducible refine Below.setCell ?_ (by first | omega | (simp <;> omega)) _ | with_reducible refine Below.alloc ?_ (by first | omega | (simp <;> omega)) _)) (fun _ h => h)) (HX2.out.below (by repeat (first | with_reducible exact Below.refl _ _ | with_reducible refine Below.drew ?_ | with_reducible refine Below.setCell ?_ (by first | omega | (simp <;> omega)) _ | with_reducible refine Below.alloc ?_ (by first | omega | (simp <;> omega)) _)) (fun _ h => h))).mono ?_
      rintro e w2 ⟨rfl, hb2⟩
      have hB2 : Below wr.heap.size wr w2 := Below.trans (by repeat (first | with_reducible exact Below.refl _ _ | with_reducible refine Below.drew ?_ | with_reducible refine Below.setCell ?_ (by first | omega | (simp <;> omega)) _ | with_reducible refine Below.alloc ?_ (by first | omega | (simp <;> omega)) _)) (hb2.mono (by first | exact Nat.le_refl _ | (simp; done) | (simp; omega)))
      have HL2 := Lib.hid (HLV.out.below hB2)
      have HXC := Lib.hid (HX2.out.below hB2 (fun _ h => h))
      have HXD := Lib.hid (HXB.out.belowS hB2)
      have HC2 := Lib.hid (HLr.out.below hB2 (fun _ h => h))
      have HB2 := Lib.hid (HBr.out.trans (hB2.mono hz))
      have s2 := hB2.size
      clear hb2 hB2 e0
      by_cases hneg : idxP (isB d) ds < 0
      · have HW1 := Lib.hid (show wrong1 l ds h.r d = false by unfold wrong1; rw [decide_eq_false (by omega)]; rfl)
        have hn1 : idxP (isB d) ds < (0 : Int) := hneg
        go_wp2_with fail
        refine (cloneB_any _ _ (HXC.out.below (by repeat (first | with_reducible exact Below.refl _ _ | with_reducible refine Below.drew ?_ | with_reducible refine Below.setCell ?_ (by first | omega | (simp <;> omega)) _ | with_reducible refine Below.alloc ?_ (by first | omega | (simp <;> omega)) _)) (fun _ h => h)) (by have := H32d.out; omega)).mono ?_
        rintro e w3 ⟨vc, rfl, hc, hb3⟩
        obtain ⟨adc, capc, rfl⟩ := ownsRow_form hc
        have hB3 : Below w2.heap.size w2 w3 := Below.trans (by repeat (first | with_reducible exact Below.refl _ _ | with_reducible refine Below.drew ?_ | with_reducible refine Below.setCell ?_ (by first | omega | (simp <;> omega)) _ | with_reducible refine Below.alloc ?_ (by first | omega | (simp <;> omega)) _)) (hb3.mono (by first | exact Nat.le_refl _ | (simp; done) | (simp; omega)))
        have HC3 := Lib.hid (show RdB (fun b => w2.heap.size ≤ b ∧ b < w3.heap.size) w3 (.slice adc d.length capc) d from ((RdS.of_owns (f := fun c : UInt8 => Value.int .u8 c.toNat) (G := fun b => w2.heap.size ≤ b) hc (fun b hb => by first | exact hb | (simp at hb; omega))).low (by decide)))
        have HL3 := Lib.hid (HL2.out.below hB3)
        have HB3 := Lib.hid (HB2.out.trans (hB3.mono HB2.out.size))
        have s3 := hB3.size
        clear hc hb3 hB3
        go_wp2_with (at_builtin; refine wpList_append_one rfl _ _ 34 rfl elemBY w0.heap.size _ N.length vals rfl (by exact (HL3.out.alloc (.cells #[.slice adc d.length capc] 39)).own) w3.heap.size 39 [.slice adc d.length capc] rfl (BoxAt.new w3 [_] _) rfl (by simp [Value.oneCell']) (by unfold maxLen; omega) (by omega) (by have := HB3.out.size; simp; omega) ?_; intro g cap6 w6 hown6 hgr6 hat6 hlt6)
        have hx : RBytes.rd (fun b => w0.heap.size ≤ b ∧ b < (w3.alloc (.cells #[.slice adc d.length capc] 39)).heap.size ∧ (Value.slice ad N.length cap).ownBlock ≠ some b) (w3.alloc (.cells #[.slice adc d.length capc] 39)) [.slice adc d.length capc] d :=
          ⟨_, rfl, HC3.out.keep (Keep.alloc _ _ _) (fun b hb => ⟨by have := hb.1; have := HB2.out.size; omega, by have := hb.2; simp; omega, fun e => by have h1 := hb.1; have := (hvlt _ e).2; omega⟩)⟩
        have hP := (HL3.out.alloc (.cells #[.slice adc d.length capc] 39)).push hx hown6 hgr6 hat6
        have HP6 := Lib.hid hP
        have HB6 := Lib.hid ((HB3.out.alloc HB3.out.size (.cells #[.slice adc d.length capc] 39)).grown hgr6 (by have := HB3.out.size; simp; omega) (fun k hk => (hvlt _ hk).1))
        clear hP hx hown6
        go_wp2
        go_roundw
        case rel => exact ⟨k + 1, some ⟨g, 0, none⟩, cap6, by omega, by go_num, by rw [HS.out, if_pos hneg, List.length_append]; rfl, by rw [HWS.out, HW1.out, Bool.or_false], by rw [HS.out, if_pos hneg, List.length_append]; exact HP6.out, HB6.out⟩
        case measure => simp [intOf]; omega
      · have hge : 0 ≤ idxP (isB d) ds := by omega
        obtain ⟨j, hj, hij, -, -⟩ := idxP_at hge
        have hjl : j < l.length := by have := HLEN.out; omega
        obtain ⟨bc, oc, ub, up, uv, rfl, -, c0, c1, c2, c3, c4, -, -, -⟩ := HC2.out.crt j hjl
        have j0 : (0 : Int) ≤ (j : Int) := by omega
        have j1 : (j : Int) < (l.length : Int) := by omega
        have HW1 := Lib.hid (show wrong1 l ds h.r d = decide (l[j].h.r ≠ h.r - 1) by unfold wrong1; rw [decide_eq_true hge, hij]; simp [hjl])
        have jn : ¬ (j : Int) < 0 := by omega
        rw [hij]
        have x1 := HXD.out.cell 1 rfl
        have HSN := Lib.hid (show noneL ds (h.ps.take (k + 1)) = N by rw [HS.out, if_neg hneg])
        generalize l[j].h.r = lr at *
        clear hneg hge hij
        by_cases hq : lr = h.r - 1
        · have hb0 : (lr != h.r - 1) = false := by simp [hq]
          have HW2 := Lib.hid (show wrong1 l ds h.r d = false by rw [HW1.out]; exact decide_eq_false (fun q => q hq))
          clear hq
          go_wp2
          go_quiet (fail)
          go_wp2
          all_goals
            go_roundw
            case rel => exact ⟨k + 1, ad, cap, by omega, by go_num, by rw [HSN.out], by rw [HWS.out, HW2.out, Bool.or_false], by rw [HSN.out]; exact HL2.out.o, below_drewN HB2.out _⟩
            case measure => simp [intOf]; omega
        · have hb0 : (lr != h.r - 1) = true := by simpa using hq
          have HW2 := Lib.hid (show wrong1 l ds h.r d = true by rw [HW1.out]; exact decide_eq_true hq)
          clear hq
          go_wp2
          go_quiet (fail)
          go_wp2
          all_goals
            go_roundw
            case rel => exact ⟨k + 1, ad, cap, by omega, by go_num, by rw [HSN.out], by rw [HWS.out, HW2.out, Bool.or_true], by rw [HSN.out]; exact HL2.out.o, below_drewN HB2.out _⟩
            case measure => simp [intOf]; omega
    · obtain rfl : k = h.ps.length := by omega
      rw [List.take_length] at hL
      have HM := Lib.hid (hL.rd (G' := fun b => w.heap.size ≤ b) (by decide) (fun b h1 h2 => by omega) (fun b h1 h2 => by omega))
      have HBB := Lib.hid (HB.out.trans (HBr.out.mono HB.out.size))
      have t1 : ¬ (h.ps.length : Int) < (h.ps.length : Int) := by omega
      rw [List.take_length]
      clear hL hB
      go_wp2
      refine bodyPost_ret (v := .tuple #[.slice ad (noneL ds h.ps).length cap, .bool (wrongB l ds h.r h.ps)]) (by simp [results, Tryd.results54, go_sem]) rfl ⟨_, rfl, HM.out, HBB.out⟩
end Go.Proofs.YtpfmmncnhlfdgaaDoor
