/- seal.Add, seal.Signed. -/
import Derived.Test.YtialhdmdeggenaaDoorSeal2
set_option linter.unusedVariables false
set_option linter.unusedSimpArgs false
attribute [local go_sem ↓] Go.wp_at_zero Go.wp_at_succ
namespace Go.Proofs.YtialhdmdeggenaaDoor
open Go Go.RowKit

theorem elemSign : ElemOk Tryd.prog 33 77 4 48 := elemOk_of (z := .agg #[.int .i64 0, .int .i64 0, .int .i64 0, .slice none 0 0]) (by kernel_rfl) (by kernel_rfl) rfl (by decide)
def signAdd (l : List Sgn) (s : Sgn) : List Sgn := if s ∈ l then l else l ++ [s]
theorem signsCode_or (l : List Sgn) : signsCode l = 0 ∨ signsCode l = 12 := by unfold signsCode; split <;> simp
theorem sgnOk_len {x : Sgn} (h : sgnOk x = true) : x.2.2.2.length = 32 := by
  unfold sgnOk sgnCode sltCode at h
  simp only [decide_eq_true_eq] at h
  split at h
  · simp at h
  · split at h
    · simp at h
    · split at h
      · simp at h
      · omega

set_option maxRecDepth 100000 in
set_option maxHeartbeats 1000000 in
theorem sadd_no {G G' : Nat → Prop} {l : List Sgn} (s : Sgn) (c : Int) (v vy : Value) (w : World) (h : RdS RSign G w v l) (hy : RdB G' w vy s.2.2.2)
    (hc : (signsCode l = c ∧ c ≠ 0) ∨ (signsCode l = 0 ∧ sgnCode s.1 s.2.1 s.2.2.1 s.2.2.2.length = c ∧ c ≠ 0)) :
    Calls Tryd.prog 34 #[v, .agg #[.int .i64 s.1, .int .i64 s.2.1, .int .i64 s.2.2.1, vy]] w fun e w' => e = .returned (.tuple #[.slice none 0 0, .int .i64 c]) ∧ Below w.heap.size w w' := by
  obtain ⟨ady, capy, rfl, -, -⟩ := hy.form
  have HB := Lib.hid (BoxAt.new w [.int .i64 s.1, .int .i64 s.2.1, .int .i64 s.2.2.1, .slice ady s.2.2.2.length capy] 77)
  have HV := Lib.hid (h.keep (Keep.alloc G w (.cells #[.int .i64 s.1, .int .i64 s.2.1, .int .i64 s.2.2.1, .slice ady s.2.2.2.length capy] 77)) (fun _ h => h))
  have hR := (Below.refl w.heap.size w).alloc (Nat.le_refl _) (.cells #[.int .i64 s.1, .int .i64 s.2.1, .int .i64 s.2.2.1, .slice ady s.2.2.2.length capy] 77)
  go_enter Tryd.func34, Tryd.ntmps34
  rcases hc with ⟨h1, h0⟩ | ⟨h1, h2, h0⟩
  · obtain rfl : c = 12 := by rcases signsCode_or l with e | e <;> omega
    have H1 := Lib.hid h1
    clear h1
    go_wp2_with fail
    refine (scheck_any _ _ HV.out).mono ?_
    rintro e w1 ⟨rfl, hb1⟩
    rw [H1.out]
    have hR1 := hR.trans (hb1.mono hR.size)
    go_wp2
    go_ret2
    exact ⟨rfl, hR1⟩
  · have H1 := Lib.hid h1
    have H2 := Lib.hid h2
    have hcc : c = 2 ∨ c = 4 := by rcases sgnCode_or s.1 s.2.1 s.2.2.1 s.2.2.2.length with e | e | e <;> omega
    clear h1 h2
    go_wp2_with fail
    refine (scheck_any _ _ HV.out).mono ?_
    rintro e w1 ⟨rfl, hb1⟩
    rw [H1.out]
    have hR1 := hR.trans (hb1.mono hR.size)
    have bq := HB.out.belowS hb1
    have q0 := bq.cell 0 rfl
    have q1 := bq.cell 1 rfl
    have q2 := bq.cell 2 rfl
    have q3 := bq.cell 3 rfl
    clear bq hb1
    go_wp2_with fail
    refine (sign_any _ _ _ _ _ _ _).mono ?_
    rintro e w2 ⟨rfl, hb2⟩
    rw [H2.out]
    have hR2 := hR1.trans (hb2.mono hR1.size)
    clear q0 q1 q2 q3
    rcases hcc with rfl | rfl
    all_goals
      go_wp2
      go_ret2
      exact ⟨rfl, hR2⟩

set_option maxRecDepth 100000 in
set_option maxHeartbeats 2000000 in
theorem sadd_ok {G G' : Nat → Prop} {l : List Sgn} (s : Sgn) (v vy : Value) (w : World) (h : RdS RSign G w v l) (hy : RdB G' w vy s.2.2.2) (hl : l.length ≤ 1000)
    (h1 : signsOk l = true) (h2 : sgnOk s = true) :
    Calls Tryd.prog 34 #[v, .agg #[.int .i64 s.1, .int .i64 s.2.1, .int .i64 s.2.2.1, vy]] w fun e w' => ∃ ad cap, e = .returned (.tuple #[.slice ad (signAdd l s).length cap, .int .i64 0]) ∧ RdS RSign (fun b => w.heap.size ≤ b) w' (.slice ad (signAdd l s).length cap) (signAdd l s) ∧ Below w.heap.size w w' := by
  obtain ⟨ady, capy, rfl, -, -⟩ := hy.form
  obtain ⟨adv, capv, rfl, hcv, hcm⟩ := h.form
  unfold maxLen at hcm
  have hall : ∀ x ∈ l, x.2.2.2.length = 32 := fun x hx => sgnOk_len (by unfold signsOk at h1; simp only [decide_eq_true_eq] at h1; exact h1.1 x hx)
  have HALL := Lib.hid hall
  have hs32 := Lib.hid (sgnOk_len h2)
  have H1 := Lib.hid (show signsCode l = 0 by unfold signsCode; rw [if_pos h1])
  have H2 := Lib.hid (show sgnCode s.1 s.2.1 s.2.2.1 s.2.2.2.length = 0 by unfold sgnOk at h2; simpa using h2)
  have HB := Lib.hid (BoxAt.new w [.int .i64 s.1, .int .i64 s.2.1, .int .i64 s.2.2.1, .slice ady s.2.2.2.length capy] 77)
  have HV := Lib.hid (h.keep (Keep.alloc G w (.cells #[.int .i64 s.1, .int .i64 s.2.1, .int .i64 s.2.2.1, .slice ady s.2.2.2.length capy] 77)) (fun _ h => h))
  have HY := Lib.hid (hy.keep (Keep.alloc G' w (.cells #[.int .i64 s.1, .int .i64 s.2.1, .int .i64 s.2.2.1, .slice ady s.2.2.2.length capy] 77)) (fun _ h => h))
  have hR := (Below.refl w.heap.size w).alloc (Nat.le_refl _) (.cells #[.int .i64 s.1, .int .i64 s.2.1, .int .i64 s.2.2.1, .slice ady s.2.2.2.length capy] 77)
  clear hall h1 h2 h hy
  go_enter Tryd.func34, Tryd.ntmps34
  go_wp2_with fail
  refine (scheck_any _ _ HV.out).mono ?_
  rintro e w1 ⟨rfl, hb1⟩
  rw [H1.out]
  have hR1 := hR.trans (hb1.mono hR.size)
  have bq := HB.out.belowS hb1
  have HB1 := Lib.hid bq
  have HV1 := Lib.hid (HV.out.below hb1 (fun _ h => h))
  have HY1 := Lib.hid (HY.out.below hb1 (fun _ h => h))
  have q0 := bq.cell 0 rfl
  have q1 := bq.cell 1 rfl
  have q2 := bq.cell 2 rfl
  have q3 := bq.cell 3 rfl
  clear bq hb1
  go_wp2_with fail
  refine (sign_any _ _ _ _ _ _ _).mono ?_
  rintro e w2 ⟨rfl, hb2⟩
  rw [H2.out]
  have HR2 := Lib.hid (hR1.trans (hb2.mono hR1.size))
  have HB2 := Lib.hid (HB1.out.belowS hb2)
  have HV2 := Lib.hid (HV1.out.below hb2 (fun _ h => h))
  have HY2 := Lib.hid (HY1.out.below hb2 (fun _ h => h))
  have z2 := HB2.out.lt
  clear q0 q1 q2 q3 hb2 hR1 hR
  go_wp2_with fail
  go_loopw [8, 23] (fun o i wr => ∃ (k : Nat) (ad : Option Addr) (cap : Nat), k ≤ l.length ∧ i = .int .i64 k ∧ o = .slice ad k cap ∧ LstO RSign (fun b => w2.heap.size ≤ b) w2.heap.size 77 wr (.slice ad k cap) (l.take k) ∧ Below w2.heap.size w2 wr) (fun _ i _ => l.length - (intOf i).toNat)
  case atStart => exact ⟨0, none, 0, Nat.zero_le _, rfl, rfl, LstO.nil _ _ _ _ _, Below.refl _ _⟩
  case round =>
    obtain ⟨k, ad, cap, hk, rfl, rfl, hL, hB⟩ := hrel
    have hz := hB.size
    by_cases hlt : k < l.length
    · obtain ⟨vals, hv⟩ := hL.valsOf
      have hkl : (l.take k).length = k := by simp; omega
      have HKL := Lib.hid hkl
      have HL := Lib.hid hv
      have hvlt := hv.lt
      obtain ⟨b, o, vd, rfl, -, e0, e1, e2, e3, hd⟩ := (HV2.out.below hB (fun _ h => h)).sign k hlt
      obtain ⟨ad2, cap2, rfl, -, -⟩ := hd.form
      have HD := Lib.hid (hd.keep (Keep.alloc G wr (.cells #[.int .i64 l[k].1, .int .i64 l[k].2.1, .int .i64 l[k].2.2.1, .slice ad2 l[k].2.2.2.length cap2] 77)) (fun _ h => h))
      have h32 := Lib.hid (HALL.out _ (List.getElem_mem hlt))
      have HBr := Lib.hid hB
      have i0 : (0 : Int) ≤ (k : Int) := by omega
      have i1 : (k : Int) < (l.length : Int) := by omega
      clear hd hv hL hB hkl
      go_wp2_with fail
      refine (own_any l[k] _ _ HD.out (by rw [h32.out]; omega)).mono ?_
      rintro e w3 ⟨v3, rfl, hd3, hb3⟩
      obtain ⟨ad3, cap3, rfl, -, -⟩ := hd3.form
      have hb3' : Below wr.heap.size wr w3 := ((Below.refl _ wr).alloc (Nat.le_refl _) _).trans (hb3.mono (by simp))
      have HL3 := Lib.hid (HL.out.below hb3')
      have HD3 := Lib.hid (hd3.low (by decide))
      have s3 : wr.heap.size < w3.heap.size := by have := hb3.size; simp at this; omega
      have HB3 := Lib.hid (HBr.out.trans (hb3'.mono hz))
      clear hd3 hb3 hb3' e0 e1 e2 e3
      go_wp2_with (at_builtin; refine wpList_append_one rfl _ _ 33 rfl elemSign w2.heap.size _ k vals rfl (by have h := (HL3.out.alloc (.cells #[.int .i64 l[k].1, .int .i64 l[k].2.1, .int .i64 l[k].2.2.1, .slice ad3 l[k].2.2.2.length cap3] 77)).own; rw [HKL.out] at h; exact h) w3.heap.size 77 [.int .i64 l[k].1, .int .i64 l[k].2.1, .int .i64 l[k].2.2.1, .slice ad3 l[k].2.2.2.length cap3] rfl (BoxAt.new _ [_, _, _, _] _) rfl (by simp [Value.oneCell']) (by unfold maxLen; omega) (by omega) (by simp; omega) ?_; intro g cap4 w4 hown4 hgr4 hat4 hlt4)
      have hx : RSign.rd (fun b => w2.heap.size ≤ b ∧ b < (w3.alloc (.cells #[.int .i64 l[k].1, .int .i64 l[k].2.1, .int .i64 l[k].2.2.1, .slice ad3 l[k].2.2.2.length cap3] 77)).heap.size ∧ (Value.slice ad k cap).ownBlock ≠ some b) (w3.alloc (.cells #[.int .i64 l[k].1, .int .i64 l[k].2.1, .int .i64 l[k].2.2.1, .slice ad3 l[k].2.2.2.length cap3] 77)) [.int .i64 l[k].1, .int .i64 l[k].2.1, .int .i64 l[k].2.2.1, .slice ad3 l[k].2.2.2.length cap3] l[k] :=
        ⟨_, rfl, HD3.out.keep (Keep.alloc _ _ _) (fun b hb => ⟨by have := hb.1; simp at this; omega, by have := hb.2; simp; omega, fun e => by have h1 := hb.1; simp at h1; have := (hvlt _ e).2; omega⟩)⟩
      have hP := (HL3.out.alloc (.cells #[.int .i64 l[k].1, .int .i64 l[k].2.1, .int .i64 l[k].2.2.1, .slice ad3 l[k].2.2.2.length cap3] 77)).push hx (by rw [HKL.out]; exact hown4) hgr4 hat4
      rw [HKL.out, ← List.take_succ_eq_append_getElem hlt] at hP
      have hB4 : Below w2.heap.size w2 w4 := (HB3.out.alloc HB3.out.size _).grown hgr4 (by have := HB3.out.size; simp; omega) (fun k hk => (hvlt _ hk).1)
      have HP := Lib.hid hP
      clear hP hx hown4
      go_wp2
      go_roundw
      case rel => exact ⟨k + 1, some ⟨g, 0, none⟩, cap4, by omega, by go_num, rfl, HP.out, hB4⟩
      case measure => simp [intOf]; omega
    · obtain rfl : k = l.length := by omega
      rw [List.take_length] at hL
      have HBr := Lib.hid hB
      have HL := Lib.hid hL
      have bq := HB2.out.belowS hB
      have HBq := Lib.hid bq
      have q0 := bq.cell 0 rfl
      have q1 := bq.cell 1 rfl
      have q2 := bq.cell 2 rfl
      have q3 := bq.cell 3 rfl
      have HV3 := Lib.hid (HV2.out.below hB (fun _ h => h))
      have HY3 := Lib.hid (HY2.out.below hB (fun _ h => h))
      clear hL bq hB
      by_cases hm : s ∈ l
      · have HM := Lib.hid (show decide (s ∈ l) = true by simpa using hm)
        have HE := Lib.hid (show signAdd l s = l by unfold signAdd; rw [if_pos hm])
        clear hm
        go_wp2_with fail
        refine (shas_any s _ _ _ HV3.out HY3.out).mono ?_
        rintro e w3 ⟨rfl, hb3⟩
        rw [HM.out]
        go_wp2
        go_ret2
        exact ⟨ad, cap, by rw [HE.out]; rfl, by rw [HE.out]; exact (HL.out.below hb3).rd (by decide) (fun b h1 h2 => by have := HR2.out.size; omega) (fun b h1 h2 => by have := HR2.out.size; omega), HR2.out.trans ((HBr.out.trans (hb3.mono hz)).mono HR2.out.size)⟩
      · have HM := Lib.hid (show decide (s ∈ l) = false by simpa using hm)
        have HE := Lib.hid (show signAdd l s = l ++ [s] by unfold signAdd; rw [if_neg hm])
        clear hm
        go_wp2_with fail
        refine (shas_any s _ _ _ HV3.out HY3.out).mono ?_
        rintro e w3 ⟨rfl, hb3⟩
        rw [HM.out]
        obtain ⟨vals, hv⟩ := (HL.out.below hb3).valsOf
        have HL3 := Lib.hid hv
        have hvlt := hv.lt
        have bq := HBq.out.belowS hb3
        have HY4 := Lib.hid (HY3.out.below hb3 (fun _ h => h))
        clear q0 q1 q2 q3
        have q0 := bq.cell 0 rfl
        have q1 := bq.cell 1 rfl
        have q2 := bq.cell 2 rfl
        have q3 := bq.cell 3 rfl
        have HB3 := Lib.hid (HBr.out.trans (hb3.mono hz))
        have s3 := hb3.size
        clear hv bq hb3
        go_wp2_with fail
        refine (own_any s _ _ HY4.out (by rw [hs32.out]; omega)).mono ?_
        rintro e w4 ⟨v4, rfl, hd4, hb4⟩
        obtain ⟨ad4, cap4, rfl, -, -⟩ := hd4.form
        have HL4 := Lib.hid (HL3.out.below hb4)
        have HD4 := Lib.hid (hd4.low (by decide))
        have s4 := hb4.size
        have HB4 := Lib.hid (HB3.out.trans (hb4.mono HB3.out.size))
        clear hd4 hb4 q0 q1 q2 q3
        go_wp2_with (at_builtin; refine wpList_append_one rfl _ _ 33 rfl elemSign w2.heap.size _ l.length vals rfl (HL4.out.alloc (.cells #[.int .i64 s.1, .int .i64 s.2.1, .int .i64 s.2.2.1, .slice ad4 s.2.2.2.length cap4] 77)).own w4.heap.size 77 [.int .i64 s.1, .int .i64 s.2.1, .int .i64 s.2.2.1, .slice ad4 s.2.2.2.length cap4] rfl (BoxAt.new _ [_, _, _, _] _) rfl (by simp [Value.oneCell']) (by unfold maxLen; omega) (by omega) (by simp; omega) ?_; intro g cap5 w5 hown5 hgr5 hat5 hlt5)
        have hx : RSign.rd (fun b => w2.heap.size ≤ b ∧ b < (w4.alloc (.cells #[.int .i64 s.1, .int .i64 s.2.1, .int .i64 s.2.2.1, .slice ad4 s.2.2.2.length cap4] 77)).heap.size ∧ (Value.slice ad l.length cap).ownBlock ≠ some b) (w4.alloc (.cells #[.int .i64 s.1, .int .i64 s.2.1, .int .i64 s.2.2.1, .slice ad4 s.2.2.2.length cap4] 77)) [.int .i64 s.1, .int .i64 s.2.1, .int .i64 s.2.2.1, .slice ad4 s.2.2.2.length cap4] s :=
          ⟨_, rfl, HD4.out.keep (Keep.alloc _ _ _) (fun b hb => ⟨by have := hb.1; omega, by have := hb.2; simp; omega, fun e => by have h1 := hb.1; have := (hvlt _ e).2; omega⟩)⟩
        have hP := (HL4.out.alloc (.cells #[.int .i64 s.1, .int .i64 s.2.1, .int .i64 s.2.2.1, .slice ad4 s.2.2.2.length cap4] 77)).push hx hown5 hgr5 hat5
        have hB5 : Below w2.heap.size w2 w5 := (HB4.out.alloc HB4.out.size _).grown hgr5 (by have := HB4.out.size; simp; omega) (fun k hk => (hvlt _ hk).1)
        have HP := Lib.hid hP
        clear hP hx hown5
        go_wp2
        go_ret2
        have hlen : (l ++ [s]).length = l.length + 1 := by simp
        exact ⟨some ⟨g, 0, none⟩, cap5, by rw [HE.out, hlen]; rfl, by rw [HE.out, hlen]; exact HP.out.rd (by decide) (fun b h1 h2 => by have := HR2.out.size; omega) (fun b h1 h2 => by have := HR2.out.size; omega), HR2.out.trans (hB5.mono HR2.out.size)⟩
end Go.Proofs.YtialhdmdeggenaaDoor
