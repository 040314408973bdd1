/- ballot: Voted, Cast: what they compute. -/
import Derived.Test.YtialhdmdeggenaaDoorBal
import Derived.Test.YtialhdmdeggenaaDoorBDig
import Derived.Test.YtialhdmdeggenaaDoorBDigN
set_option linter.unusedVariables false
set_option linter.unusedSimpArgs false
attribute [local go_sem ↓] Go.wp_at_zero Go.wp_at_succ
namespace Go.Proofs.YtialhdmdeggenaaDoor
open Go Go.RowKit

theorem elemSlot : ElemOk Tryd.prog 42 47 3 40 := elemOk_of (z := .agg #[.int .i64 0, .int .i64 0, .slice none 0 0]) (by kernel_rfl) (by kernel_rfl) rfl (by decide)
def voteOf (h : Hdr) : Slt := ⟨h.a, h.r, hdrSum h⟩
/-- What becomes of a vote, in a table that may be, for a header that may be. -/
def castC (l : List Slt) (h : Hdr) : Int :=
  if 0 ≤ idxP (isAR h.a h.r) l then (if (l.getD (idxP (isAR h.a h.r) l).toNat ⟨0, 0, []⟩).d = hdrSum h then 0 else 7)
  else if l.length = 400 then 6 else 0
def castL (l : List Slt) (h : Hdr) : List Slt := if 0 ≤ idxP (isAR h.a h.r) l then l else l ++ [voteOf h]

/-- Whose table, or whose header, may not be is told so. -/
theorem cast_no {G G' : Nat → Prop} {l : List Slt} (h : Hdr) (c : Int) (v vb vp : Value) (w : World) (hl : RdS RSlot G w v l) (hb : RdBB G' w vb h.bs) (hp : RdBB G' w vp h.ps)
    (hc : (balCode l = c ∧ c ≠ 0) ∨ (balCode l = 0 ∧ hdrCode h = c ∧ c ≠ 0)) :
    Calls Tryd.prog 23 #[v, .agg #[.int .i64 h.a, .int .i64 h.r, vb, vp]] w fun e w' => e = .returned (.tuple #[.slice none 0 0, .agg #[.int .i64 0, .int .i64 0, .slice none 0 0], .int .i64 c]) ∧ Below w.heap.size w w' := by
  obtain ⟨adb, capb, rfl, -, -⟩ := hb.form
  obtain ⟨adp, capp, rfl, -, -⟩ := hp.form
  have hb1 := ((Below.refl w.heap.size w).alloc (Nat.le_refl _) (.cells #[.int .i64 h.a, .int .i64 h.r, .slice adb h.bs.length capb, .slice adp h.ps.length capp] 27))
  have hb2 := hb1.alloc (by simp) (.cells #[.int .i64 0, .int .i64 0, .slice none 0 0] 47)
  have HB2 := Lib.hid hb2
  have HX := Lib.hid ((BoxAt.new w [.int .i64 h.a, .int .i64 h.r, .slice adb h.bs.length capb, .slice adp h.ps.length capp] 27).alloc (.cells #[.int .i64 0, .int .i64 0, .slice none 0 0] 47))
  have HY := Lib.hid (BoxAt.newAt (w.alloc (.cells #[.int .i64 h.a, .int .i64 h.r, .slice adb h.bs.length capb, .slice adp h.ps.length capp] 27)) [.int .i64 0, .int .i64 0, .slice none 0 0] 47 (n := w.heap.size + 1) (by simp))
  have HV := Lib.hid (hl.below hb2 (fun _ h => h))
  have HBB := Lib.hid (hb.below hb2 (fun _ h => h))
  have HPP := Lib.hid (hp.below hb2 (fun _ h => h))
  clear hb1 hb2 hl hb hp
  go_enter Tryd.func23, Tryd.ntmps23
  go_wp2_with fail
  refine (bcheck_any _ _ HV.out).mono ?_
  rintro e w1 ⟨rfl, hb3⟩
  have HB3 := Lib.hid (HB2.out.trans (hb3.mono HB2.out.size))
  have HX3 := Lib.hid (HX.out.belowS hb3)
  have HY3 := Lib.hid (HY.out.belowS hb3)
  have HBB3 := Lib.hid (HBB.out.below hb3 (fun _ h => h))
  have HPP3 := Lib.hid (HPP.out.below hb3 (fun _ h => h))
  have zz := HB3.out.size
  clear hb3
  rcases hc with ⟨h1, h0⟩ | ⟨h1, h2, h0⟩
  · have hne : (c != 0) = true := by simpa using h0
    rw [h1]
    have by3 := HY3.out
    have y0 := by3.cell 0 rfl
    have y1 := by3.cell 1 rfl
    have y2 := by3.cell 2 rfl
    have f0 := by3.free 0
    have f1 := by3.free 1
    have f2 := by3.free 2
    clear by3 h0 h1
    go_wp2
    refine bodyPost_ret (v := .tuple #[.slice none 0 0, .agg #[.int .i64 0, .int .i64 0, .slice none 0 0], .int .i64 c]) (by simp [results, Tryd.results23, go_sem, y0, y1, y2]) rfl ⟨rfl, ?_⟩
    repeat (first | with_reducible exact HB3.out | with_reducible refine Below.setCell ?_ (by first | (simp; done) | (simp; omega)) _)
  · rw [h1]
    have hne : (c != 0) = true := by simpa using h0
    have H2 := Lib.hid h2
    have H0 := Lib.hid h0
    have bx3 := HX3.out
    have x0 := bx3.cell 0 rfl
    have x1 := bx3.cell 1 rfl
    have x2 := bx3.cell 2 rfl
    have x3 := bx3.cell 3 rfl
    clear bx3 h0 h1 h2
    go_wp2_with fail
    refine (headerDigest_no h.a h.r c _ _ _ HBB3.out HPP3.out H2.out H0.out).mono ?_
    rintro e w2 ⟨rfl, hb4⟩
    have HB4 := Lib.hid (HB3.out.trans (hb4.mono HB3.out.size))
    have by3 := HY3.out.belowS hb4
    have y0 := by3.cell 0 rfl
    have y1 := by3.cell 1 rfl
    have y2 := by3.cell 2 rfl
    have f0 := by3.free 0
    have f1 := by3.free 1
    have f2 := by3.free 2
    clear by3 hb4 x0 x1 x2 x3
    go_wp2
    refine bodyPost_ret (v := .tuple #[.slice none 0 0, .agg #[.int .i64 0, .int .i64 0, .slice none 0 0], .int .i64 c]) (by simp [results, Tryd.results23, go_sem, y0, y1, y2]) rfl ⟨rfl, ?_⟩
    repeat (first | with_reducible exact HB4.out | with_reducible refine Below.setCell ?_ (by first | (simp; done) | (simp; omega)) _)

/-- What a vote answers, whatever the table and the header. -/
def castCode (l : List Slt) (h : Hdr) : Int := if balCode l ≠ 0 then balCode l else if hdrCode h ≠ 0 then hdrCode h else castC l h
def castTab (l : List Slt) (h : Hdr) : List Slt := if castCode l h = 0 then castL l h else []
def castSlt (l : List Slt) (h : Hdr) : Slt := if castCode l h = 0 then voteOf h else ⟨0, 0, []⟩
theorem balOk_len {l : List Slt} (h : balCode l = 0) : l.length ≤ 400 ∧ ∀ x ∈ l, x.d.length = 32 := by
  unfold balCode balOk at h
  split at h
  · rename_i h'
    simp only [decide_eq_true_eq] at h'
    refine ⟨h'.1, fun x hx => ?_⟩
    have := h'.2.1 x hx
    unfold sltOk sltCode at this
    simp only [decide_eq_true_eq] at this
    split at this
    · simp at this
    · split at this
      · simp at this
      · omega
  · simp at h
set_option maxRecDepth 100000 in
set_option maxHeartbeats 4000000 in
theorem cast_ok {G G' : Nat → Prop} {l : List Slt} (h : Hdr) (v vb vp : Value) (w : World) (hl : RdS RSlot G w v l) (hb : RdBB G' w vb h.bs) (hp : RdBB G' w vp h.ps) (ht : Tabs w)
    (h1 : balCode l = 0) (h2 : hdrCode h = 0) :
    Calls Tryd.prog 23 #[v, .agg #[.int .i64 h.a, .int .i64 h.r, vb, vp]] w fun e w' => ∃ v' vd, e = .returned (.tuple #[v', .agg #[.int .i64 (castSlt l h).a, .int .i64 (castSlt l h).r, vd], .int .i64 (castCode l h)]) ∧ RdS RSlot (fun b => w.heap.size ≤ b) w' v' (castTab l h) ∧ RdB (fun b => w.heap.size ≤ b) w' vd (castSlt l h).d ∧ Below w.heap.size w w' := by
  obtain ⟨adb, capb, rfl, -, -⟩ := hb.form
  obtain ⟨adp, capp, rfl, -, -⟩ := hp.form
  obtain ⟨adv, capv, rfl, hcv, hcm⟩ := hl.form
  unfold maxLen at hcm
  obtain ⟨l4, hall⟩ := balOk_len h1
  have HALL := Lib.hid hall
  have hb1 := ((Below.refl w.heap.size w).alloc (Nat.le_refl _) (.cells #[.int .i64 h.a, .int .i64 h.r, .slice adb h.bs.length capb, .slice adp h.ps.length capp] 27))
  have hb2 := hb1.alloc (by simp) (.cells #[.int .i64 0, .int .i64 0, .slice none 0 0] 47)
  have HB2 := Lib.hid hb2
  have HX := Lib.hid ((BoxAt.new w [.int .i64 h.a, .int .i64 h.r, .slice adb h.bs.length capb, .slice adp h.ps.length capp] 27).alloc (.cells #[.int .i64 0, .int .i64 0, .slice none 0 0] 47))
  have HY := Lib.hid (BoxAt.newAt (w.alloc (.cells #[.int .i64 h.a, .int .i64 h.r, .slice adb h.bs.length capb, .slice adp h.ps.length capp] 27)) [.int .i64 0, .int .i64 0, .slice none 0 0] 47 (n := w.heap.size + 1) (by simp))
  have HV := Lib.hid (hl.below hb2 (fun _ h => h))
  have HBB := Lib.hid (hb.below hb2 (fun _ h => h))
  have HPP := Lib.hid (hp.below hb2 (fun _ h => h))
  have HT := Lib.hid (ht.belowS hb2)
  have HCC := Lib.hid (show castCode l h = castC l h by unfold castCode; rw [if_neg (by simp [h1]), if_neg (by simp [h2])])
  have HCT := Lib.hid (show castTab l h = if castCode l h = 0 then castL l h else [] from rfl)
  have HCS := Lib.hid (show castSlt l h = if castCode l h = 0 then voteOf h else ⟨0, 0, []⟩ from rfl)
  have H1 := Lib.hid h1
  have H2 := Lib.hid h2
  have HDL := Lib.hid (hdrSum_length h)
  have HDV := Lib.hid (show (voteOf h).d = hdrSum h from rfl)
  clear hb1 hb2 hl hb hp ht hall h1 h2
  go_enter Tryd.func23, Tryd.ntmps23
  go_wp2_with fail
  refine (bcheck_any _ _ HV.out).mono ?_
  rintro e w1 ⟨rfl, hb3⟩
  rw [H1.out]
  have HB3 := Lib.hid (HB2.out.trans (hb3.mono HB2.out.size))
  have HX3 := Lib.hid (HX.out.belowS hb3)
  have HY3 := Lib.hid (HY.out.belowS hb3)
  have HV3 := Lib.hid (HV.out.below hb3 (fun _ h => h))
  have HBB3 := Lib.hid (HBB.out.below hb3 (fun _ h => h))
  have HPP3 := Lib.hid (HPP.out.below hb3 (fun _ h => h))
  have HT3 := Lib.hid (HT.out.belowS hb3)
  have bx3 := HX3.out
  have x0 := bx3.cell 0 rfl
  have x1 := bx3.cell 1 rfl
  have x2 := bx3.cell 2 rfl
  have x3 := bx3.cell 3 rfl
  clear hb3 bx3 HX HY HV HBB HPP HT HB2
  go_wp2_with fail
  refine (headerDigest_ok h _ _ w1 HBB3.out HPP3.out H2.out HT3.out).mono ?_
  rintro e w2 ⟨vd, rfl, hd, hb4⟩
  obtain ⟨add, capd, rfl, -, -⟩ := hd.form
  have HB4 := Lib.hid (HB3.out.trans (hb4.mono HB3.out.size))
  have HX4 := Lib.hid (HX3.out.belowS hb4)
  have HY4 := Lib.hid (HY3.out.belowS hb4)
  have HV4 := Lib.hid (HV3.out.below hb4 (fun _ h => h))
  have HD4 := Lib.hid (hd.low (by decide))
  have hz1 := HX3.out.lt
  have hz2 := HX4.out.lt
  have hz3 := HY3.out.lt
  have hz4 := HY4.out.lt
  rw [HDL.out]
  have D4' := HD4.out
  rw [HDL.out] at D4'
  have HD4 := Lib.hid D4'
  clear hd hb4 D4' x0 x1 x2 x3 HX3 HY3 HV3 HBB3 HPP3 HT3
  go_wp2_with fail
  go_loopw [10, 32] (fun o i wr => ∃ (k : Nat) (ad : Option Addr) (cap : Nat), k ≤ l.length ∧ i = .int .i64 k ∧ o = .slice ad k cap ∧ LstO RSlot (fun b => w2.heap.size ≤ b) w2.heap.size 47 wr (.slice ad k cap) (l.take k) ∧ Below w2.heap.size w2 wr) (fun _ i _ => l.length - (intOf i).toNat)
  case atStart => exact ⟨0, none, 0, Nat.zero_le _, rfl, rfl, LstO.nil _ _ _ _ _, Below.refl _ _⟩
  case round =>
    obtain ⟨k, ad, cap, hk, rfl, rfl, hL, hB⟩ := hrel
    have hz := hB.size
    by_cases hlt : k < l.length
    · obtain ⟨vals, hv⟩ := hL.valsOf
      have hkl : (l.take k).length = k := by simp; omega
      have HKL := Lib.hid hkl
      have HTK := Lib.hid (List.take_succ_eq_append_getElem hlt)
      have hvlt := hv.lt
      obtain ⟨b, o, vx, rfl, -, e0, e1, e2, hd⟩ := (HV4.out.below hB (fun _ h => h)).slot k hlt
      obtain ⟨ad2, cap2, rfl, -, -⟩ := hd.form
      have h32 : l[k].d.length = 32 := HALL.out _ (List.getElem_mem hlt)
      rw [h32] at e2 hd
      have HBr := Lib.hid hB
      have i0 : (0 : Int) ≤ (k : Int) := by omega
      have i1 : (k : Int) < (l.length : Int) := by omega
      have HXa := Lib.hid (BoxAt.new wr [.int .i64 l[k].a, .int .i64 l[k].r, .slice ad2 32 cap2] 47)
      have HDa := Lib.hid (hd.keep (Keep.alloc _ wr (.cells #[.int .i64 l[k].a, .int .i64 l[k].r, .slice ad2 32 cap2] 47)) (fun _ h => h))
      have HLa := Lib.hid (hv.alloc (.cells #[.int .i64 l[k].a, .int .i64 l[k].r, .slice ad2 32 cap2] 47))
      have HBa := Lib.hid (HBr.out.alloc hz (.cells #[.int .i64 l[k].a, .int .i64 l[k].r, .slice ad2 32 cap2] 47))
      have H32 := Lib.hid h32
      have za : wr.heap.size < (wr.alloc (.cells #[.int .i64 l[k].a, .int .i64 l[k].r, .slice ad2 32 cap2] 47)).heap.size := by simp
      clear hd hv hL hB hkl h32
      go_wp2_with fail
      generalize wr.alloc (.cells #[.int .i64 l[k].a, .int .i64 l[k].r, .slice ad2 32 cap2] 47) = wa at *
      have bxa := HXa.out
      have p0 := bxa.cell 0 rfl
      have p1 := bxa.cell 1 rfl
      have p2 := bxa.cell 2 rfl
      clear bxa e0 e1 e2
      go_region_held3 (fun w' => w'.cell? ⟨wr.heap.size, 0, none⟩ = some (.int .i64 l[k].a) ∧ w'.cell? ⟨wr.heap.size, 1, none⟩ = some (.int .i64 l[k].r) ∧ w'.cell? ⟨wr.heap.size, 2, none⟩ = some (.slice ad2 32 cap2)) (go_keep)
        (first
          | ((refine step_append_one (by rfl) _ _ _ (by rfl) elemSlot w2.heap.size (.slice ad k cap) k vals (by rfl) (by have h := HL3.out.own; rw [HKL.out] at h; first | exact ownsRow_below h ((Below.refl _ _).alloc (Nat.le_refl _) _) | exact ownsRow_below h ((Below.refl _ _).drew.alloc (Nat.le_refl _) _)) _ 47 [.int .i64 l[k].a, .int .i64 l[k].r, .slice ad3 32 cap3] (by rfl) (by first | exact BoxAt.new _ [_, _, _] _ | exact (BoxAt.new _ [_, _, _] _).drew) rfl (by simp [Value.oneCell']) (by unfold maxLen; omega) (by omega) (by simp; omega) ?_; intro g cap4 w4 hown4 hgr4 hat4 hlt4;
              have bx4 := (HX3.out.alloc (.cells #[.int .i64 l[k].a, .int .i64 l[k].r, .slice ad3 32 cap3] 47)).grown (w' := w4) hgr4 (fun e => by have := (hvlt _ e).2; omega); have r0 := bx4.cell 0 rfl; have r1 := bx4.cell 1 rfl; have r2 := bx4.cell 2 rfl))
          | (go_at_call 41; refine (cloneB_any (l := l[k].d) (.slice ad2 32 cap2) _ (by first | exact HDa.out | exact HDa.out.keep (Keep.drew _ _) (fun _ h => h)) (by rw [H32.out]; omega)).mono ?_; rintro e w3 ⟨v3, rfl, hown3, hb3⟩; have hbw : Below wa.heap.size wa w3 := (by first | exact hb3 | exact (Below.refl _ _).drew.trans hb3); rw [H32.out] at hown3; obtain ⟨ad3, cap3, rfl⟩ := ownsRow_form hown3; have HO3 := Lib.hid (show w3.ownsRow wa.heap.size 5 1 (.slice ad3 32 cap3) 32 _ from hown3); have HL3 := Lib.hid (HLa.out.below hbw); have HX3 := Lib.hid (HXa.out.belowS hbw); have HB5 := Lib.hid (HBa.out.trans (hbw.mono HBa.out.size)); have s3 := hbw.size; have q0 := HX3.out.cell 0 rfl; have q1 := HX3.out.cell 1 rfl; have q2 := HX3.out.cell 2 rfl; clear hb3 hbw hown3))
      all_goals
        have hd3 : RdB (fun b => wa.heap.size ≤ b ∧ b < w3.heap.size) w3 (.slice ad3 32 cap3) l[k].d := (RdS.of_owns (G := fun b => wa.heap.size ≤ b) HO3.out (fun b hb => by simpa using hb)).low (by decide)
        have hx : RSlot.rd (fun b => w2.heap.size ≤ b ∧ b < (w3.alloc (.cells #[.int .i64 l[k].a, .int .i64 l[k].r, .slice ad3 32 cap3] 47)).heap.size ∧ (Value.slice ad k cap).ownBlock ≠ some b) (w3.alloc (.cells #[.int .i64 l[k].a, .int .i64 l[k].r, .slice ad3 32 cap3] 47)) [.int .i64 l[k].a, .int .i64 l[k].r, .slice ad3 32 cap3] l[k] :=
          ⟨_, rfl, hd3.keep (Keep.alloc _ _ _) (fun b hb => ⟨by have := hb.1; have := HBa.out.size; omega, by have := hb.2; simp; omega, fun e => by have h1 := hb.1; have := (hvlt _ e).2; omega⟩)⟩
        have hP := (HL3.out.alloc (.cells #[.int .i64 l[k].a, .int .i64 l[k].r, .slice ad3 32 cap3] 47)).push hx (by rw [HKL.out]; exact hown4) hgr4 hat4
        rw [HKL.out, ← HTK.out] at hP
        have hB4 : Below w2.heap.size w2 w4 := (HB5.out.alloc HB5.out.size _).grown hgr4 (by have := HB5.out.size; simp; omega) (fun k hk => (hvlt _ hk).1)
        have HP := Lib.hid hP
        have HB6 := Lib.hid hB4
        clear hP hx hown4 hB4 hd3
        go_wp2
        go_roundw
        case rel => exact ⟨k + 1, some ⟨g, 0, none⟩, cap4, by omega, by go_num, rfl, HP.out, HB6.out⟩
        case measure => simp [intOf]; omega
    · obtain rfl : k = l.length := by omega
      rw [List.take_length] at hL
      obtain ⟨vals0, hv0⟩ := hL.valsOf
      have hvr := hv0.lt
      clear hv0
      have hba := (Below.refl wr.heap.size wr).alloc (Nat.le_refl _) (.cells #[.int .i64 h.a, .int .i64 h.r, .slice add 32 capd] 47)
      have HZb := Lib.hid (BoxAt.new wr [.int .i64 h.a, .int .i64 h.r, .slice add 32 capd] 47)
      have HXr := Lib.hid (HX4.out.belowS hB)
      have bx := HXr.out
      have x0 := bx.cell 0 rfl
      have x1 := bx.cell 1 rfl
      have HXb := Lib.hid (HXr.out.belowS hba)
      have HYb := Lib.hid ((HY4.out.belowS hB).belowS hba)
      have HVb := Lib.hid ((HV4.out.below hB (fun _ h => h)).below hba (fun _ h => h))
      have HDb := Lib.hid ((HD4.out.below hB (fun _ h => h)).below hba (fun _ h => h))
      have HLb := Lib.hid (hL.below hba)
      have HBb := Lib.hid ((HB4.out.trans (hB.mono HB4.out.size)).trans (hba.mono (by have := HB4.out.size; omega)))
      have zb : wr.heap.size < (wr.alloc (.cells #[.int .i64 h.a, .int .i64 h.r, .slice add 32 capd] 47)).heap.size := by simp
      clear hba hL hB bx HXr HX4 HY4 HV4 HD4 HB4
      go_upto_region 14 with (fail)
      generalize wr.alloc (.cells #[.int .i64 h.a, .int .i64 h.r, .slice add 32 capd] 47) = wb at *
      clear x0 x1
      have bxb := HXb.out
      have x0 := bxb.cell 0 rfl
      have x1 := bxb.cell 1 rfl
      clear bxb
      go_wp2_with fail
      refine (find_any h.a h.r _ wb HVb.out).mono ?_
      rintro e w5 ⟨rfl, hb5⟩
      have HZ5 := Lib.hid (HZb.out.belowS hb5)
      have HX5 := Lib.hid (HXb.out.belowS hb5)
      have HY5 := Lib.hid (HYb.out.belowS hb5)
      have HV5 := Lib.hid (HVb.out.below hb5 (fun _ h => h))
      have HD5 := Lib.hid (HDb.out.below hb5 (fun _ h => h))
      have HL5 := Lib.hid (HLb.out.below hb5)
      have HB5 := Lib.hid (HBb.out.trans (hb5.mono HBb.out.size))
      have hz5 := hb5.size
      have z2r : w2.heap.size ≤ wr.heap.size := hz
      have hzw := HBb.out.size
      have by5 := HY5.out
      have y0 := by5.cell 0 rfl
      have y1 := by5.cell 1 rfl
      have y2 := by5.cell 2 rfl
      have f0 := by5.free 0
      have f1 := by5.free 1
      have f2 := by5.free 2
      have bz5 := HZ5.out
      have c0 := bz5.cell 0 rfl
      have c1 := bz5.cell 1 rfl
      have c2 := bz5.cell 2 rfl
      have nz : wr.heap.size ≠ w.heap.size + 1 := by omega
      have nz' : w.heap.size + 1 ≠ wr.heap.size := by omega
      clear x0 x1
      clear hb5 HZb HXb HYb HVb HDb HLb HBb by5 bz5
      by_cases hi : 0 ≤ idxP (isAR h.a h.r) l
      · obtain ⟨j, hj, hij, -, -⟩ := idxP_at hi
        have HIJ := Lib.hid hij
        have hg : l.getD (idxP (isAR h.a h.r) l).toNat ⟨0, 0, []⟩ = l[j] := by rw [hij]; simp [hj]
        obtain ⟨b, o, vx, rfl, -, e0, e1, e2, hdj⟩ := HV5.out.slot j hj
        obtain ⟨adj, capj, rfl, -, -⟩ := hdj.form
        rw [HALL.out _ (List.getElem_mem hj)] at e2 hdj
        have HDJ := Lib.hid hdj
        have i0 : (0 : Int) ≤ (j : Int) := by omega
        have i1 : (j : Int) < (l.length : Int) := by omega
        have i2 : ¬ (j : Int) < 0 := by omega
        rw [hij]
        by_cases he : l[j].d = hdrSum h
        · have HE := Lib.hid (show decide (l[j].d = hdrSum h) = true by simp [he])
          have HC0 := Lib.hid (show castCode l h = 0 by rw [HCC.out]; unfold castC; rw [if_pos hi, hg, if_pos he])
          have HL0 := Lib.hid (show castL l h = l by unfold castL; rw [if_pos hi])
          clear he hi hg hij hdj
          go_wp2_with (go_at_call 42; refine (bytesEqual_any _ _ _ HDJ.out HD5.out).mono ?_; rintro e w' ⟨rfl, rfl⟩; rw [HE.out])
          go_region_held3 (fun w' => w'.cell? ⟨wr.heap.size, 0, none⟩ = some (.int .i64 h.a) ∧ w'.cell? ⟨wr.heap.size, 1, none⟩ = some (.int .i64 h.r) ∧ w'.cell? ⟨wr.heap.size, 2, none⟩ = some (.slice add 32 capd)) (go_keep) (fail)
          all_goals
            go_wp2
            refine bodyPost_ret (v := .tuple #[.slice ad l.length cap, .agg #[.int .i64 h.a, .int .i64 h.r, .slice add 32 capd], .int .i64 0]) (by simp [results, Tryd.results23, go_sem, y0, y1, y2]) rfl ⟨.slice ad l.length cap, .slice add 32 capd, ?_, ?_, ?_, ?_⟩
            · rw [HC0.out, HCS.out, if_pos HC0.out]; rfl
            · rw [HCT.out, if_pos HC0.out, HL0.out]
              refine (HL5.out.rd (G' := fun b => w2.heap.size ≤ b) (by decide) (fun b h1 h2 => h1) (fun b h1 h2 => h1)).keep ?_ (fun b hb => by have := HB5.out.size; omega)
              repeat (first | with_reducible exact Keep.refl _ _ | with_reducible refine Keep.setCell' ?_ (by simp; omega) _ | with_reducible refine Keep.drew' ?_)
            · rw [HCS.out, if_pos HC0.out, HDV.out]
              refine HD5.out.keep (G' := fun b => w.heap.size ≤ b) ?_ (fun b hb => by have := HB5.out.size; omega)
              repeat (first | with_reducible exact Keep.refl _ _ | with_reducible refine Keep.setCell' ?_ (by simp; omega) _ | with_reducible refine Keep.drew' ?_)
            · repeat (first | with_reducible exact HB5.out | with_reducible refine Below.setCell ?_ (by first | (simp; done) | (simp; omega)) _ | with_reducible refine Below.drew ?_)
        · have HE := Lib.hid (show decide (l[j].d = hdrSum h) = false by simp [he])
          have HC7 := Lib.hid (show castCode l h = 7 by rw [HCC.out]; unfold castC; rw [if_pos hi, hg, if_neg he])
          clear he hi hg hij hdj
          go_wp2_with (go_at_call 42; refine (bytesEqual_any _ _ _ HDJ.out HD5.out).mono ?_; rintro e w' ⟨rfl, rfl⟩; rw [HE.out])
          refine bodyPost_ret (v := .tuple #[.slice none 0 0, .agg #[.int .i64 0, .int .i64 0, .slice none 0 0], .int .i64 7]) (by simp [results, Tryd.results23, go_sem, y0, y1, y2]) rfl ⟨.slice none 0 0, .slice none 0 0, ?_, ?_, ?_, ?_⟩
          · rw [HC7.out, HCS.out, if_neg (by rw [HC7.out]; decide)]
          · rw [HCT.out, if_neg (by rw [HC7.out]; decide)]; exact RdS.nil _ _ _
          · rw [HCS.out, if_neg (by rw [HC7.out]; decide)]; exact RdS.nil _ _ _
          · repeat (first | with_reducible exact HB5.out | with_reducible refine Below.setCell ?_ (by first | (simp; done) | (simp; omega)) _ | with_reducible refine Below.drew ?_)
      · have hij := idxP_neg (by omega : idxP (isAR h.a h.r) l < 0)
        rw [hij]
        by_cases h400 : l.length = 400
        · have HC6 := Lib.hid (show castCode l h = 6 by rw [HCC.out]; unfold castC; rw [if_neg hi, if_pos h400])
          have e4 : ((l.length : Int) == 400) = true := by rw [h400]; rfl
          clear hi hij h400
          go_wp2
          refine bodyPost_ret (v := .tuple #[.slice none 0 0, .agg #[.int .i64 0, .int .i64 0, .slice none 0 0], .int .i64 6]) (by simp [results, Tryd.results23, go_sem, y0, y1, y2]) rfl ⟨.slice none 0 0, .slice none 0 0, ?_, ?_, ?_, ?_⟩
          · rw [HC6.out, HCS.out, if_neg (by rw [HC6.out]; decide)]
          · rw [HCT.out, if_neg (by rw [HC6.out]; decide)]; exact RdS.nil _ _ _
          · rw [HCS.out, if_neg (by rw [HC6.out]; decide)]; exact RdS.nil _ _ _
          · repeat (first | with_reducible exact HB5.out | with_reducible refine Below.setCell ?_ (by first | (simp; done) | (simp; omega)) _ | with_reducible refine Below.drew ?_)
        · have HC0 := Lib.hid (show castCode l h = 0 by rw [HCC.out]; unfold castC; rw [if_neg hi, if_neg h400])
          have HL0 := Lib.hid (show castL l h = l ++ [voteOf h] by unfold castL; rw [if_neg hi])
          have e4 : ((l.length : Int) == 400) = false := by rw [beq_eq_false_iff_ne]; omega
          clear hi hij h400
          have bx5 := HX5.out
          have x0 := bx5.cell 0 rfl
          have x1 := bx5.cell 1 rfl
          clear bx5
          obtain ⟨vals, hv⟩ := HL5.out.valsOf
          have HLV := Lib.hid hv
          have hvlt := hv.lt
          clear hv
          go_upto_region 20 with (fail)
          go_region_held3 (fun w' => w'.cell? ⟨w.heap.size, 0, none⟩ = some (.int .i64 h.a) ∧ w'.cell? ⟨w.heap.size, 1, none⟩ = some (.int .i64 h.r)) (go_keep)
            (first
              | ((refine step_append_one (by rfl) _ _ _ (by rfl) elemSlot w2.heap.size (.slice ad l.length cap) l.length vals (by rfl) (by first | exact ownsRow_below HL6.out.own ((Below.refl _ _).alloc (Nat.le_refl _) _) | exact ownsRow_below HL6.out.own ((Below.refl _ _).drew.alloc (Nat.le_refl _) _)) _ 47 [.int .i64 h.a, .int .i64 h.r, .slice ad6 32 cap6] (by rfl) (by first | exact BoxAt.new _ [_, _, _] _ | exact (BoxAt.new _ [_, _, _] _).drew) rfl (by simp [Value.oneCell']) (by unfold maxLen; omega) (by omega) (by simp; omega) ?_; intro g cap7 w7 hown7 hgr7 hat7 hlt7;
                  have bx7 := (HX6.out.alloc (.cells #[.int .i64 h.a, .int .i64 h.r, .slice ad6 32 cap6] 47)).grown (w' := w7) hgr7 (fun e => by have := (hvlt _ e).1; omega); have r0 := bx7.cell 0 rfl; have r1 := bx7.cell 1 rfl))
              | (go_at_call 41; refine (cloneB_any (l := hdrSum h) (.slice add 32 capd) _ (by first | exact HD5.out | exact HD5.out.keep (Keep.drew _ _) (fun _ h => h)) (by rw [HDL.out]; omega)).mono ?_; rintro e w6 ⟨v6, rfl, hown6, hb6⟩; have hbw : Below w5.heap.size w5 w6 := (by first | exact hb6 | exact (Below.refl _ _).drew.trans hb6); rw [HDL.out] at hown6; obtain ⟨ad6, cap6, rfl⟩ := ownsRow_form hown6; have HO6 := Lib.hid (show w6.ownsRow w5.heap.size 5 1 (.slice ad6 32 cap6) 32 _ from hown6); have HL6 := Lib.hid (HLV.out.below hbw); have HX6 := Lib.hid (HX5.out.belowS hbw); have HY6 := Lib.hid (HY5.out.belowS hbw); have HZ6 := Lib.hid (HZ5.out.belowS hbw); have HD6 := Lib.hid (HD5.out.below hbw (fun _ h => h)); have HB6 := Lib.hid (HB5.out.trans (hbw.mono HB5.out.size)); have s6 := hbw.size; have q0 := HX6.out.cell 0 rfl; have q1 := HX6.out.cell 1 rfl; clear hb6 hbw hown6))
          all_goals
            have hd6 : RdB (fun b => w5.heap.size ≤ b ∧ b < w6.heap.size) w6 (.slice ad6 32 cap6) (hdrSum h) := (RdS.of_owns (G := fun b => w5.heap.size ≤ b) HO6.out (fun b hb => by simpa using hb)).low (by decide)
            have hx : RSlot.rd (fun b => w2.heap.size ≤ b ∧ b < (w6.alloc (.cells #[.int .i64 h.a, .int .i64 h.r, .slice ad6 32 cap6] 47)).heap.size ∧ (Value.slice ad l.length cap).ownBlock ≠ some b) (w6.alloc (.cells #[.int .i64 h.a, .int .i64 h.r, .slice ad6 32 cap6] 47)) [.int .i64 h.a, .int .i64 h.r, .slice ad6 32 cap6] (voteOf h) :=
              ⟨_, rfl, hd6.keep (Keep.alloc _ _ _) (fun b hb => ⟨by have := hb.1; omega, by have := hb.2; simp; omega, fun e => by have h1 := hb.1; have := (hvlt _ e).2; omega⟩)⟩
            have HP := Lib.hid ((HL6.out.alloc (.cells #[.int .i64 h.a, .int .i64 h.r, .slice ad6 32 cap6] 47)).push hx hown7 hgr7 hat7)
            have HB7 := Lib.hid ((HB6.out.alloc HB6.out.size (.cells #[.int .i64 h.a, .int .i64 h.r, .slice ad6 32 cap6] 47)).grown hgr7 (by have := HB6.out.size; simp; omega) (fun k hk => by have := (hvlt _ hk).1; omega))
            have hy7 := (HY6.out.alloc (.cells #[.int .i64 h.a, .int .i64 h.r, .slice ad6 32 cap6] 47)).grown hgr7 (fun e => by have := (hvlt _ e).1; omega)
            have hzz7 := (HZ6.out.alloc (.cells #[.int .i64 h.a, .int .i64 h.r, .slice ad6 32 cap6] 47)).grown hgr7 (fun e => by have := (hvr _ e).2; omega)
            have HD7 := Lib.hid ((HD6.out.keep (Keep.alloc _ _ (.cells #[.int .i64 h.a, .int .i64 h.r, .slice ad6 32 cap6] 47)) (fun _ h => h)).keep (Keep.grown hgr7 (fun k hk hb => by have := (hvlt _ hk).1; omega)) (fun _ h => h))
            have hlen : (l ++ [voteOf h]).length = l.length + 1 := by simp
            have HLEN := Lib.hid hlen
            have d0 := hy7.cell 0 rfl
            have d1 := hy7.cell 1 rfl
            have d2 := hy7.cell 2 rfl
            have g0 := hy7.free 0
            have g1 := hy7.free 1
            have g2 := hy7.free 2
            have k0 := hzz7.cell 0 rfl
            have k1 := hzz7.cell 1 rfl
            have k2 := hzz7.cell 2 rfl
            have hz7 := hgr7.size
            clear hd6 hx hown7 hy7 hzz7 hlen x0 x1 y0 y1 y2 f0 f1 f2 c0 c1 c2 q0 q1 r0 r1
            go_wp2_with fail
            go_region_held3 (fun w' => w'.cell? ⟨wr.heap.size, 0, none⟩ = some (.int .i64 h.a) ∧ w'.cell? ⟨wr.heap.size, 1, none⟩ = some (.int .i64 h.r) ∧ w'.cell? ⟨wr.heap.size, 2, none⟩ = some (.slice add 32 capd)) (go_keep) (fail)
            all_goals
              go_wp2
              refine bodyPost_ret (v := .tuple #[.slice (some ⟨g, 0, none⟩) (l.length + 1) cap7, .agg #[.int .i64 h.a, .int .i64 h.r, .slice add 32 capd], .int .i64 0]) (by simp [results, Tryd.results23, go_sem, d0, d1, d2]) rfl ⟨.slice (some ⟨g, 0, none⟩) (l.length + 1) cap7, .slice add 32 capd, ?_, ?_, ?_, ?_⟩
              · rw [HC0.out, HCS.out, if_pos HC0.out]; rfl
              · rw [HCT.out, if_pos HC0.out, HL0.out]
                refine (HP.out.rd (G' := fun b => w2.heap.size ≤ b) (by decide) (fun b h1 h2 => h1) (fun b h1 h2 => h1)).keep ?_ (fun b hb => by have := HB5.out.size; omega)
                repeat (first | with_reducible exact Keep.refl _ _ | with_reducible refine Keep.setCell' ?_ (by simp; omega) _ | with_reducible refine Keep.drew' ?_)
              · rw [HCS.out, if_pos HC0.out, HDV.out]
                refine HD7.out.keep (G' := fun b => w.heap.size ≤ b) ?_ (fun b hb => by have := HB3.out.size; have := hb.1; omega)
                repeat (first | with_reducible exact Keep.refl _ _ | with_reducible refine Keep.setCell' ?_ (by simp; omega) _ | with_reducible refine Keep.drew' ?_)
              · repeat (first | with_reducible exact HB7.out | with_reducible refine Below.setCell ?_ (by first | (simp; done) | (simp; omega)) _ | with_reducible refine Below.drew ?_)
end Go.Proofs.YtialhdmdeggenaaDoor
