/- dag: taken, digest, all: what they compute. -/
import Derived.Test.YtpfmmncnhlfdgaaDoorDag1
set_option linter.unusedVariables false
set_option linter.unusedSimpArgs false
attribute [local go_sem ↓] Go.wp_at_zero Go.wp_at_succ
namespace Go.Proofs.YtpfmmncnhlfdgaaDoor
open Go Go.RowKit

set_option maxRecDepth 100000 in
set_option maxHeartbeats 8000000 in
theorem takIndex_any {G : Nat → Prop} {l : List Crt} (h : Hdr) (v vb vp : Value) (b : Nat) (w : World) (hl : RdS RCert G w v l)
    (hb : BoxAt w b [.int .i64 h.a, .int .i64 h.r, vb, vp] 42) :
    Calls Tryd.prog 83 #[v, .func (.func 76) #[] #[.pointer (some ⟨b, 0, none⟩)]] w fun e w' => e = .returned (.int .i64 (idxP (isKey h) l)) ∧ Below w.heap.size w w' := by
  obtain ⟨ad, cap, rfl, h1, h2⟩ := hl.form
  unfold maxLen at h2
  have HB := Lib.hid hb
  have HV := Lib.hid hl
  clear hb hl
  go_enter Tryd.func83, Tryd.ntmps83
  go_wp2
  go_loopw [8] (fun i wr => ∃ k : Nat, k ≤ l.length ∧ i = .int .i64 k ∧ (∀ j, j < k → ∀ x, l[j]? = some x → isKey h x = false) ∧ Below w.heap.size w wr) (fun i _ => l.length - (intOf i).toNat)
  case atStart => exact ⟨0, Nat.zero_le _, rfl, fun j hj => (by omega), Below.refl _ _⟩
  case round =>
    obtain ⟨k, hk, rfl, hno, hB⟩ := hrel
    have HN := Lib.hid hno; clear hno
    by_cases hlt : k < l.length
    · obtain ⟨bb, o, ub, up, uv, rfl, -, e0, e1, e2, e3, e4, hx1, hx2, hx3⟩ := (HV.out.below hB (fun _ h => h)).crt k hlt
      have hone : ub.oneCell' = true ∧ up.oneCell' = true ∧ uv.oneCell' = true := by
        obtain ⟨_, _, rfl, -, -⟩ := hx1.form
        obtain ⟨_, _, rfl, -, -⟩ := hx2.form
        obtain ⟨_, _, rfl, -, -⟩ := hx3.form
        exact ⟨rfl, rfl, rfl⟩
      have HONE := Lib.hid hone
      have q0 := (HB.out.belowS hB).cell 0 rfl
      have q1 := (HB.out.belowS hB).cell 1 rfl
      have i0 : (0 : Int) ≤ (k : Int) := by omega
      have i1 : (k : Int) < (l.length : Int) := by omega
      clear hx1 hx2 hx3 hone
      by_cases he : isKey h l[k] = true
      · have hr := Lib.hid (idxP_hit hlt HN.out he)
        have HE := Lib.hid he
        clear he
        go_wp2_with fail
        refine (takClo_any (l[k]) h ub up uv ub up b _ HONE.out q0 q1).mono ?_
        rintro e w' ⟨rfl, hb2⟩
        rw [HE.out]
        clear q0 q1 e0 e1 e2 e3 e4
        go_wp2
        go_ret
        exact ⟨ret_intH hr.out, hB.trans (hb2.mono hB.size)⟩
      · have HE := Lib.hid (show isKey h l[k] = false by simpa using he)
        clear he
        go_wp2_with fail
        refine (takClo_any (l[k]) h ub up uv ub up b _ HONE.out q0 q1).mono ?_
        rintro e w' ⟨rfl, hb2⟩
        rw [HE.out]
        clear q0 q1 e0 e1 e2 e3 e4
        go_wp2
        go_roundw
        case rel =>
          refine ⟨k + 1, by omega, by go_num, fun j hj x hx => ?_, hB.trans (hb2.mono hB.size)⟩
          rcases Nat.lt_or_ge j k with h | h
          · exact HN.out j h x hx
          · obtain rfl : j = k := by omega
            rw [List.getElem?_eq_getElem hlt] at hx
            simp only [Option.some.injEq] at hx
            rw [← hx]; exact HE.out
        case measure => simp [intOf]; omega
    · obtain rfl : k = l.length := by omega
      have hr := Lib.hid (idxP_miss HN.out)
      go_wp2
      go_ret
      exact ⟨ret_intH hr.out, hB⟩
def takenB (l : List Crt) (h : Hdr) : Bool := l.any (isKey h)
theorem takenB_idx (l : List Crt) (h : Hdr) : decide (0 ≤ idxP (isKey h) l) = takenB l h := by
  rw [Bool.eq_iff_iff]
  simp only [decide_eq_true_eq, idxP_ge, takenB, List.any_eq_true]
set_option maxRecDepth 100000 in
set_option maxHeartbeats 8000000 in
theorem takContains_any {G : Nat → Prop} {l : List Crt} (h : Hdr) (v vb vp : Value) (b : Nat) (w : World) (hl : RdS RCert G w v l) (hb : BoxAt w b [.int .i64 h.a, .int .i64 h.r, vb, vp] 42) :
    Calls Tryd.prog 75 #[v, .func (.func 76) #[] #[.pointer (some ⟨b, 0, none⟩)]] w fun e w' => e = .returned (.bool (takenB l h)) ∧ Below w.heap.size w w' := by
  have HT := Lib.hid (takenB_idx l h)
  have HB := Lib.hid hb
  have HV := Lib.hid hl
  clear hb hl
  go_enter Tryd.func75, Tryd.ntmps75
  go_wp2_with fail
  refine (takIndex_any h _ vb vp b w HV.out HB.out).mono ?_
  rintro e w2 ⟨rfl, hb2⟩
  have HB2 := Lib.hid hb2
  clear hb2
  go_wp2
  go_ret
  exact ⟨ret_boolH HT.out.symm, HB2.out⟩
set_option maxRecDepth 100000 in
set_option maxHeartbeats 8000000 in
theorem taken_any {G : Nat → Prop} {l : List Crt} (h : Hdr) (v vb vp : Value) (w : World) (hl : RdS RCert G w v l) (hone : vb.oneCell' = true ∧ vp.oneCell' = true) :
    Calls Tryd.prog 55 #[v, .agg #[.int .i64 h.a, .int .i64 h.r, vb, vp]] w fun e w' => e = .returned (.bool (takenB l h)) ∧ Below w.heap.size w w' := by
  have hmf : ∀ (fn : Fn) (first cap : Array Value) (w : World), (Instr.makeFunc fn first cap).run Tryd.prog w = .ok (.func fn first cap) w := fun _ _ _ _ => rfl
  have hb := (Below.refl w.heap.size w).alloc (Nat.le_refl _) (.cells #[.int .i64 h.a, .int .i64 h.r, vb, vp] 42)
  have HB := Lib.hid (BoxAt.new w [.int .i64 h.a, .int .i64 h.r, vb, vp] 42)
  have HV := Lib.hid (hl.below hb (fun _ h => h))
  have HB2 := Lib.hid hb
  have HT := Lib.hid (takenB_idx l h)
  clear hb hl
  go_enter Tryd.func55, Tryd.ntmps55
  go_wp2_with fail
  refine (takContains_any h _ vb vp w.heap.size _ HV.out HB.out).mono ?_
  rintro e w2 ⟨rfl, hb2⟩
  have HB3 := Lib.hid (HB2.out.trans (hb2.mono (by simp)))
  clear hb2
  go_wp2
  go_ret
  exact ⟨rfl, HB3.out⟩
/-! ### digest, all -/
theorem elemBY : ElemOk Tryd.prog 34 39 1 24 := elemOk_of (z := .slice none 0 0) (by kernel_rfl) (by kernel_rfl) rfl (by decide)
def crtSum (c : Crt) : Bytes := hdrSum c.h
def crtSums (l : List Crt) : List Bytes := l.map crtSum
theorem crtSums_len (l : List Crt) : (crtSums l).length = l.length := by simp [crtSums]
theorem crtSums_take (l : List Crt) (k : Nat) : (crtSums l).take k = crtSums (l.take k) := by simp [crtSums, List.map_take]
theorem crtSums_succ {l : List Crt} {k : Nat} (h : k < l.length) : crtSums (l.take (k + 1)) = crtSums (l.take k) ++ [crtSum l[k]] := by
  unfold crtSums; rw [List.take_succ_eq_append_getElem h, List.map_append]; rfl
set_option maxRecDepth 100000 in
set_option maxHeartbeats 8000000 in
theorem ddigest_ok {G : Nat → Prop} (c : Crt) (vb vp vv : Value) (w : World) (hb : RdBB G w vb c.h.bs) (hp : RdBB G w vp c.h.ps) (hv : RdI G w vv c.vs) (hc : hdrCode c.h = 0) (ht : Tabs w) :
    Calls Tryd.prog 38 #[.agg #[.int .i64 c.h.a, .int .i64 c.h.r, vb, vp, vv]] w fun e w' => ∃ v', e = .returned v' ∧ RdB (fun b => w.heap.size ≤ b) w' v' (crtSum c) ∧ Below w.heap.size w w' := by
  obtain ⟨adb, capb, rfl, -, -⟩ := hb.form
  obtain ⟨adp, capp, rfl, -, -⟩ := hp.form
  obtain ⟨adv, capv, rfl, -, -⟩ := hv.form
  have HBB := Lib.hid hb
  have HPP := Lib.hid hp
  have HT := Lib.hid ht
  have HC := Lib.hid hc
  clear hb hp hv ht hc
  go_enter Tryd.func38, Tryd.ntmps38
  go_wp2_with fail
  refine (headerDigest_ok c.h _ _ _ (HBB.out.below (by repeat (first | with_reducible exact Below.refl _ _ | with_reducible refine Below.drew ?_ | with_reducible refine Below.setCell ?_ (by first | omega | (simp <;> omega)) _ | with_reducible refine Below.alloc ?_ (by first | omega | (simp <;> omega)) _)) (fun _ h => h)) (HPP.out.below (by repeat (first | with_reducible exact Below.refl _ _ | with_reducible refine Below.drew ?_ | with_reducible refine Below.setCell ?_ (by first | omega | (simp <;> omega)) _ | with_reducible refine Below.alloc ?_ (by first | omega | (simp <;> omega)) _)) (fun _ h => h)) HC.out (HT.out.belowS (by repeat (first | with_reducible exact Below.refl _ _ | with_reducible refine Below.drew ?_ | with_reducible refine Below.setCell ?_ (by first | omega | (simp <;> omega)) _ | with_reducible refine Below.alloc ?_ (by first | omega | (simp <;> omega)) _)))).mono ?_
  rintro e w2 ⟨vd, rfl, hd, hb2⟩
  have HD := Lib.hid (hd.mono (G' := fun b => w.heap.size ≤ b) (fun b hb => by simp at hb; omega))
  have hB2 : Below w.heap.size w w2 := Below.trans (by repeat (first | with_reducible exact Below.refl _ _ | with_reducible refine Below.drew ?_ | with_reducible refine Below.setCell ?_ (by first | omega | (simp <;> omega)) _ | with_reducible refine Below.alloc ?_ (by first | omega | (simp <;> omega)) _)) (hb2.mono (by simp))
  have HB2 := Lib.hid hB2
  clear hd hb2 hB2
  go_wp2
  go_ret
  exact ⟨_, rfl, HD.out, HB2.out⟩
set_option maxRecDepth 100000 in
set_option maxHeartbeats 8000000 in
theorem dall_ok {G : Nat → Prop} {l : List Crt} (v : Value) (w : World) (h : RdS RCert G w v l) (hc : ∀ c ∈ l, hdrCode c.h = 0) (hl : l.length ≤ 1000) (ht : Tabs w) :
    Calls Tryd.prog 42 #[v] w fun e w' => ∃ v', e = .returned v' ∧ RdBB (fun b => w.heap.size ≤ b) w' v' (crtSums l) ∧ Below w.heap.size w w' := by
  obtain ⟨adv, capv, rfl, hcv, hcm⟩ := h.form
  unfold maxLen at hcm
  have HV := Lib.hid h
  have HC := Lib.hid hc
  have HT := Lib.hid ht
  clear h hc ht
  go_enter Tryd.func42, Tryd.ntmps42
  go_wp2_with fail
  go_loopw [3, 8] (fun o i wr => ∃ (k : Nat) (ad : Option Addr) (cap : Nat), k ≤ l.length ∧ i = .int .i64 k ∧ o = .slice ad k cap ∧ LstO RBytes (fun b => w.heap.size ≤ b) w.heap.size 39 wr (.slice ad k cap) (crtSums (l.take k)) ∧ Below w.heap.size w wr) (fun _ i _ => l.length - (intOf i).toNat)
  case atStart => exact ⟨0, none, 0, Nat.zero_le _, rfl, rfl, LstO.nil _ _ _ _ _, Below.refl _ _⟩
  case round =>
    obtain ⟨k, ad, cap, hk, rfl, rfl, hL, hB⟩ := hrel
    have hz := hB.size
    have HBr := Lib.hid hB
    by_cases hlt : k < l.length
    · have i0 : (0 : Int) ≤ (k : Int) := by omega
      have i1 : (k : Int) < (l.length : Int) := by omega
      obtain ⟨vals, hv⟩ := hL.valsOf
      have hvlt := hv.lt
      have HLr := Lib.hid hv
      have HKL := Lib.hid (show (crtSums (l.take k)).length = k by rw [crtSums_len, List.length_take]; omega)
      have HMS := Lib.hid (crtSums_succ hlt)
      obtain ⟨b, o, ub, up, uv, rfl, -, e0, e1, e2, e3, e4, hb', hp', hv'⟩ := (HV.out.below hB (fun _ h => h)).crt k hlt
      have hc := HC.out l[k] (List.getElem_mem hlt)
      generalize l[k] = c at *
      obtain ⟨adb, capb, rfl, -, -⟩ := hb'.form
      obtain ⟨adp, capp, rfl, -, -⟩ := hp'.form
      obtain ⟨adw, capw, rfl, -, -⟩ := hv'.form
      have H1 := Lib.hid hb'
      have H2 := Lib.hid hp'
      have H3 := Lib.hid hv'
      have HCC := Lib.hid hc
      clear hb' hp' hv' hc hv hL hB
      go_wp2_with fail
      refine (ddigest_ok c _ _ _ _ (H1.out.below (by repeat (first | with_reducible exact Below.refl _ _ | with_reducible refine Below.drew ?_ | with_reducible refine Below.setCell ?_ (by first | omega | (simp <;> omega)) _ | with_reducible refine Below.alloc ?_ (by first | omega | (simp <;> omega)) _)) (fun _ h => h)) (H2.out.below (by repeat (first | with_reducible exact Below.refl _ _ | with_reducible refine Below.drew ?_ | with_reducible refine Below.setCell ?_ (by first | omega | (simp <;> omega)) _ | with_reducible refine Below.alloc ?_ (by first | omega | (simp <;> omega)) _)) (fun _ h => h)) (H3.out.below (by repeat (first | with_reducible exact Below.refl _ _ | with_reducible refine Below.drew ?_ | with_reducible refine Below.setCell ?_ (by first | omega | (simp <;> omega)) _ | with_reducible refine Below.alloc ?_ (by first | omega | (simp <;> omega)) _)) (fun _ h => h)) HCC.out (HT.out.belowS (by repeat (first | with_reducible exact HBr.out | with_reducible exact Below.refl _ _ | with_reducible refine Below.drew ?_ | with_reducible refine Below.setCell ?_ (by first | omega | (simp <;> omega)) _ | with_reducible refine Below.alloc ?_ (by first | omega | (simp <;> omega)) _)))).mono ?_
      rintro e w2 ⟨vd, rfl, hd, hb2⟩
      have hB2 : Below wr.heap.size wr w2 := Below.trans (by repeat (first | with_reducible exact Below.refl _ _ | with_reducible refine Below.drew ?_ | with_reducible refine Below.setCell ?_ (by first | omega | (simp <;> omega)) _ | with_reducible refine Below.alloc ?_ (by first | omega | (simp <;> omega)) _)) (hb2.mono (by simp))
      have HL2 := Lib.hid (HLr.out.below hB2)
      have HD2 := Lib.hid (hd.low (by decide))
      have HB2 := Lib.hid (HBr.out.trans (hB2.mono hz))
      have s2 := hB2.size
      obtain ⟨add, capd, rfl, -, -⟩ := hd.form
      clear hd hb2 hB2 e0 e1 e2 e3 e4
      go_wp2_with (at_builtin; refine wpList_append_one rfl _ _ 34 rfl elemBY w.heap.size _ k vals rfl (by have h := (HL2.out.alloc (.cells #[.slice add (crtSum c).length capd] 39)).own; rw [HKL.out] at h; exact h) w2.heap.size 39 [.slice add (crtSum c).length capd] rfl (BoxAt.new w2 [_] _) rfl (by simp [Value.oneCell']) (by unfold maxLen; omega) (by omega) (by simp; omega) ?_; intro g cap6 w6 hown6 hgr6 hat6 hlt6)
      have hx : RBytes.rd (fun b => w.heap.size ≤ b ∧ b < (w2.alloc (.cells #[.slice add (crtSum c).length capd] 39)).heap.size ∧ (Value.slice ad k cap).ownBlock ≠ some b) (w2.alloc (.cells #[.slice add (crtSum c).length capd] 39)) [.slice add (crtSum c).length capd] (crtSum c) :=
        ⟨_, rfl, HD2.out.keep (Keep.alloc _ _ _) (fun b hb => ⟨by have := hb.1; simp at this; omega, by have := hb.2; simp; omega, fun e => by have h1 := hb.1; simp at h1; have := (hvlt _ e).2; omega⟩)⟩
      have hP := (HL2.out.alloc (.cells #[.slice add (crtSum c).length capd] 39)).push hx (by rw [HKL.out]; exact hown6) hgr6 hat6
      rw [HKL.out, ← HMS.out] at hP
      have HP := Lib.hid hP
      have HB6 := Lib.hid ((HB2.out.alloc HB2.out.size (.cells #[.slice add (crtSum c).length capd] 39)).grown hgr6 (by have := HB2.out.size; simp; omega) (fun k hk => (hvlt _ hk).1))
      clear hP hx hown6
      go_wp2
      go_roundw
      case rel => exact ⟨k + 1, some ⟨g, 0, none⟩, cap6, by omega, by go_num, rfl, HP.out, HB6.out⟩
      case measure => simp [intOf]; omega
    · obtain rfl : k = l.length := by omega
      rw [List.take_length] at hL
      have HM := Lib.hid (hL.rd (G' := fun b => w.heap.size ≤ b) (by decide) (fun b h1 h2 => h1) (fun b h1 h2 => h1))
      clear hL hB
      have t1 : ¬ (l.length : Int) < (l.length : Int) := by omega
      go_wp2
      go_ret
      exact ⟨_, rfl, HM.out, HBr.out⟩
end Go.Proofs.YtpfmmncnhlfdgaaDoor
