import Derived.Test.YtlailhhffejbbaaDoorDag10
import Derived.Test.YtlailhhffejbbaaDoorOneSum
import Derived.Test.YtlailhhffejbbaaDoorGrown
import Derived.Test.YtlailhhffejbbaaDoorBas
import Derived.Test.YtlailhhffejbbaaDoorInsLaw
import Derived.Test.YtlailhhffejbbaaDoorDOf
import Derived.Test.YtlailhhffejbbaaDoorDag11
import Derived.Test.YtlailhhffejbbaaDoorNoneLaw
/- sheaveskeep.headers: what it makes. -/
set_option linter.unusedVariables false
set_option linter.unusedSimpArgs false
attribute [local go_sem ↓] Go.wp_at_zero Go.wp_at_succ
namespace Go.Proofs.YtlailhhffejbbaaDoor
open Go Go.RowKit

theorem elemHdrD : ElemOk Tryd.prog 54 36 4 64 := elemOk_of (z := .agg #[.int .i64 0, .int .i64 0, .slice none 0 0, .slice none 0 0]) (by kernel_rfl) (by kernel_rfl) rfl (by decide)
def hdrsOf (l : List Crt) : List Hdr := l.map (·.h)
theorem hdrsOf_len (l : List Crt) : (hdrsOf l).length = l.length := by simp [hdrsOf]
theorem hdrsOf_succ {l : List Crt} {k : Nat} (h : k < l.length) : hdrsOf (l.take (k + 1)) = hdrsOf (l.take k) ++ [l[k].h] := by
  unfold hdrsOf; rw [List.take_succ_eq_append_getElem h, List.map_append]; rfl
set_option maxRecDepth 100000 in
set_option maxHeartbeats 8000000 in
theorem headers_any {G : Nat → Prop} {l : List Crt} (v : Value) (w : World) (h : RdS RCert G w v l) (hl : l.length ≤ 1000) :
    Calls Tryd.prog 37 #[.agg #[v]] w fun e w' => ∃ (ado : Option Addr) (capo : Nat), e = .returned (.slice ado l.length capo) ∧ LstO RHdr (fun b => G b ∧ b < w.heap.size) (w.heap.size + 1) 36 w' (.slice ado l.length capo) (hdrsOf l) ∧ Below w.heap.size w w' := by
  obtain ⟨ad, cap, rfl, hcap, hm⟩ := h.form
  unfold maxLen at hm
  have hb0 := (Below.refl w.heap.size w).alloc (Nat.le_refl _) (.cells #[.slice ad l.length cap] 27)
  have HV := Lib.hid ((h.low (by decide)).below hb0 (fun _ h => h))
  have HB := Lib.hid hb0
  have HX := Lib.hid (BoxAt.new w [.slice ad l.length cap] 27)
  clear h hb0
  go_enter Tryd.func37, Tryd.ntmps37
  go_upto_region 1 with fail
  obtain ⟨w0, hw0⟩ : ∃ w0, w0 = w.alloc (.cells #[.slice ad l.length cap] 27) := ⟨_, rfl⟩
  rw [← hw0] at HV HX HB ⊢
  have hz0 := HX.out.lt
  have hz1 : w0.heap.size = w.heap.size + 1 := by rw [hw0]; simp
  have hz2 : w0.heap.size ≤ w.heap.size + 1 := by omega
  have hz3 : w.heap.size + 1 ≤ w0.heap.size := by omega
  clear hw0 hz1
  go_wp2_with fail
  go_loopw [3, 4] (fun o i wr => ∃ (k : Nat) (ado : Option Addr) (capo : Nat), k ≤ l.length ∧ i = .int .i64 k ∧ o = .slice ado k capo ∧ LstO RHdr (fun b => G b ∧ b < w.heap.size) (w.heap.size + 1) 36 wr (.slice ado k capo) (hdrsOf (l.take k)) ∧ Below w0.heap.size w0 wr) (fun _ i _ => l.length - (intOf i).toNat)
  case atStart => exact ⟨0, none, 0, Nat.zero_le _, rfl, rfl, LstO.nil _ _ _ _ _, Below.refl _ _⟩
  case round =>
    obtain ⟨k, ado, capo, hk, rfl, rfl, hL, hB⟩ := hrel
    have hz := hB.size
    have HBr := Lib.hid hB
    have x0 := (HX.out.belowS hB).cell 0 rfl
    have hzx := (HX.out.belowS hB).lt
    by_cases hlt : k < l.length
    · have i0 : (0 : Int) ≤ (k : Int) := by omega
      have i1 : (k : Int) < (l.length : Int) := by omega
      have wk : IntKind.i64.wrap ((k : Int) + 1) = (k : Int) + 1 := IntWalk.i64_in _ (by omega)
      obtain ⟨vals, hv⟩ := hL.valsOf
      have hvlt := hv.lt
      have HLr := Lib.hid hv
      have HKL := Lib.hid (show (hdrsOf (l.take k)).length = k by rw [hdrsOf_len, List.length_take]; omega)
      have HMS := Lib.hid (hdrsOf_succ hlt)
      obtain ⟨b, o, ub, up, uv, rfl, -, e0, e1, e2, e3, e4, hb', hp', -⟩ := (HV.out.below hB (fun _ h => h)).crt k hlt
      generalize l[k] = c at *
      obtain ⟨adb, capb, rfl, -, -⟩ := hb'.form
      obtain ⟨adp, capp, rfl, -, -⟩ := hp'.form
      have H1 := Lib.hid hb'
      have H2 := Lib.hid hp'
      clear hb' hp' hv hL hB
      go_wp2_with (at_builtin; refine wpList_append_one rfl _ _ 54 rfl elemHdrD (w.heap.size + 1) _ k vals rfl (by have h := (HLr.out.alloc (.cells #[.int .i64 c.h.a, .int .i64 c.h.r, .slice adb c.h.bs.length capb, .slice adp c.h.ps.length capp] 36)).own; rw [HKL.out] at h; exact h) wr.heap.size 36 [.int .i64 c.h.a, .int .i64 c.h.r, .slice adb c.h.bs.length capb, .slice adp c.h.ps.length capp] rfl (BoxAt.new wr [_, _, _, _] _) rfl (by simp [Value.oneCell']) (by unfold maxLen; omega) (by omega) (by simp; omega) ?_; intro g cap6 w6 hown6 hgr6 hat6 hlt6)
      have hx : RHdr.rd (fun b => (G b ∧ b < w.heap.size) ∧ b < (wr.alloc (.cells #[.int .i64 c.h.a, .int .i64 c.h.r, .slice adb c.h.bs.length capb, .slice adp c.h.ps.length capp] 36)).heap.size ∧ (Value.slice ado k capo).ownBlock ≠ some b) (wr.alloc (.cells #[.int .i64 c.h.a, .int .i64 c.h.r, .slice adb c.h.bs.length capb, .slice adp c.h.ps.length capp] 36)) [.int .i64 c.h.a, .int .i64 c.h.r, .slice adb c.h.bs.length capb, .slice adp c.h.ps.length capp] c.h :=
        ⟨_, _, rfl, H1.out.keep (Keep.alloc _ _ _) (fun b hb => ⟨hb, by have := hb.2; simp; omega, fun e => by have h1 := hb.2; have := (hvlt _ e).1; omega⟩), H2.out.keep (Keep.alloc _ _ _) (fun b hb => ⟨hb, by have := hb.2; simp; omega, fun e => by have h1 := hb.2; have := (hvlt _ e).1; omega⟩)⟩
      have hP := (HLr.out.alloc (.cells #[.int .i64 c.h.a, .int .i64 c.h.r, .slice adb c.h.bs.length capb, .slice adp c.h.ps.length capp] 36)).push hx (by rw [HKL.out]; exact hown6) hgr6 hat6
      rw [HKL.out, ← HMS.out] at hP
      have HP := Lib.hid hP
      have HB6 := Lib.hid (show Below w0.heap.size w0 w6 from ((HBr.out).alloc (by omega) (.cells #[.int .i64 c.h.a, .int .i64 c.h.r, .slice adb c.h.bs.length capb, .slice adp c.h.ps.length capp] 36)).grown hgr6 (by simp; omega) (fun k hk => by have := (hvlt _ hk).1; omega))
      clear hP hx hown6 e0 e1 e2 e3 e4 x0
      go_wp2
      go_roundw
      case rel => exact ⟨k + 1, some ⟨g, 0, none⟩, cap6, by omega, by go_num, rfl, HP.out, HB6.out⟩
      case measure => simp [intOf]; omega
    · obtain rfl : k = l.length := by omega
      rw [List.take_length] at hL
      have HM := Lib.hid hL
      have HBE := Lib.hid (HB.out.trans (HBr.out.mono HB.out.size))
      clear hL hB
      have t1 : ¬ (l.length : Int) < (l.length : Int) := by omega
      go_wp2
      go_ret
      exact ⟨_, _, rfl, HM.out, HBE.out⟩
end Go.Proofs.YtlailhhffejbbaaDoor

/- A dag whose headers have no two unlike ones of one sum: its digests are all different. -/
set_option linter.unusedVariables false
set_option linter.unusedSimpArgs false
attribute [local go_sem ↓] Go.wp_at_zero Go.wp_at_succ
namespace Go.Proofs.YtlailhhffejbbaaDoor
open Go Go.RowKit

theorem anyPair_down {α : Type} {p : α → α → Bool} {l : List α} : ∀ m : Nat, m ≤ l.length → anyPair p (l.take m) (l.drop m) = true → anyPair p [] l = true
  | 0, _, h => by simpa using h
  | m + 1, hm, h => anyPair_down m (by omega) (by
      rw [List.drop_eq_getElem_cons (show m < l.length by omega), anyPair, ← List.take_succ_eq_append_getElem (show m < l.length by omega), h, Bool.or_true])
theorem anyPair_at {α : Type} {p : α → α → Bool} {l : List α} {k j : Nat} (hk : k < l.length) (hj : j < k) (h : p l[k] (l[j]'(by omega)) = true) : anyPair p [] l = true :=
  anyPair_down k (by omega) (anyPair_hit hk hj h)
/-- The digests of a dag are all different, or two unlike headers have one sum. -/
theorem clear_of {l : List Crt} (hok : dagOk l = true) {X : List Hdr} {B : List Bat} (h : oneSumL (hdrsOf l ++ X) B = false) : (crtSums l).Nodup := by
  have hS := dagOk_solo hok
  have hH : ∀ c ∈ l, hdrCode c.h = 0 := fun c hc => (crt_partsP ((dagOk_iff.1 hok).2.1 c hc)).1
  rw [List.nodup_iff_pairwise_ne, List.pairwise_iff_getElem]
  intro i j hi hj hij he
  have hi' : i < l.length := by rw [crtSums_len] at hi; exact hi
  have hj' : j < l.length := by rw [crtSums_len] at hj; exact hj
  have e1 : (crtSums l)[i] = hdrSum l[i].h := by simp [crtSums, crtSum]
  have e2 : (crtSums l)[j] = hdrSum l[j].h := by simp [crtSums, crtSum]
  rw [e1, e2] at he
  have hkey : ¬ (l[i].h.a = l[j].h.a ∧ l[i].h.r = l[j].h.r) := (List.pairwise_iff_getElem.1 hS.2) i j hi' hj' hij
  have g1 : (hdrsOf l ++ X)[j]'(by simp [hdrsOf]; omega) = l[j].h := by rw [List.getElem_append_left (by simp [hdrsOf]; omega)]; simp [hdrsOf]
  have g2 : (hdrsOf l ++ X)[i]'(by simp [hdrsOf]; omega) = l[i].h := by rw [List.getElem_append_left (by simp [hdrsOf]; omega)]; simp [hdrsOf]
  have hp : pairH ((hdrsOf l ++ X)[j]'(by simp [hdrsOf]; omega)) ((hdrsOf l ++ X)[i]'(by simp [hdrsOf]; omega)) = true := by
    rw [g1, g2]
    unfold pairH
    refine decide_eq_true ⟨hH _ (List.getElem_mem hj'), hH _ (List.getElem_mem hi'), he.symm, ?_⟩
    unfold sameH
    exact decide_eq_false (fun q => hkey ⟨q.1.symm, q.2.1.symm⟩)
  have ht := anyPair_at (p := pairH) (l := hdrsOf l ++ X) (by simp [hdrsOf]; omega) hij hp
  unfold oneSumL at h
  rw [ht] at h
  simp at h
/-- Where digests are all different, a digest is found at its own place. -/
theorem idx_clear {l : List Crt} (hn : (crtSums l).Nodup) {k : Nat} (hk : k < l.length) : idxP (isB (crtSum l[k])) (crtSums l) = k := by
  have hkS : k < (crtSums l).length := by rw [crtSums_len]; exact hk
  have e : (crtSums l)[k] = crtSum l[k] := by simp [crtSums]
  refine idxP_hit hkS (fun j hj x hx => ?_) (by unfold isB; exact decide_eq_true e)
  unfold isB
  refine decide_eq_false (fun q => ?_)
  have hjS : j < (crtSums l).length := by omega
  rw [List.getElem?_eq_getElem hjS] at hx
  have hx' := Option.some.inj hx
  rw [List.nodup_iff_pairwise_ne, List.pairwise_iff_getElem] at hn
  exact hn j k hjS hkS hj (by rw [hx', q, e])
theorem find_clear {l : List Crt} (hn : (crtSums l).Nodup) {k : Nat} (hk : k < l.length) : idxP (isB (crtSum l[k])) (crtSums l) = k := idx_clear hn hk
end Go.Proofs.YtlailhhffejbbaaDoor

/- sheaveskeep.grownSum: what it computes. -/
set_option linter.unusedVariables false
set_option linter.unusedSimpArgs false
attribute [local go_sem ↓] Go.wp_at_zero Go.wp_at_succ
namespace Go.Proofs.YtlailhhffejbbaaDoor
open Go Go.RowKit

/-- Two lists one behind the other. -/
theorem RdS.ofAppend2 {α : Type} {R : Rel α} {w : World} {base e : Nat} {v : Value} {l1 l2 : List α} {vals news : List Value} (hs : 0 < R.size) (h0 : vals.length = l1.length * R.size)
    (hown : w.ownsRow base e R.size v (l1.length + l2.length) (vals ++ news)) (h1 : ∀ j x, l1[j]? = some x → R.rd (fun _ => True) w ((vals.drop (j * R.size)).take R.size) x) (h2 : ∀ j x, l2[j]? = some x → R.rd (fun _ => True) w ((news.drop (j * R.size)).take R.size) x) :
    RdS R (fun _ => True) w v (l1 ++ l2) := by
  obtain ⟨hl, hown'⟩ := hown
  rcases hown' with ⟨rfl, h0'⟩ | ⟨g, cap, cur, rfl, hbg, hg, k1, k2, k3, k4⟩
  · have e1 : l1 = [] := List.eq_nil_of_length_eq_zero (by omega)
    have e2 : l2 = [] := List.eq_nil_of_length_eq_zero (by omega)
    subst e1 e2; exact RdS.nil _ _ _
  · refine ⟨some ⟨g, 0, none⟩, cap, by rw [List.length_append], by rw [List.length_append]; exact k1, k2, fun h => by simp at h, fun j x hx => ?_⟩
    have hj : j < l1.length + l2.length := by
      rcases Nat.lt_or_ge j (l1 ++ l2).length with h | h
      · simpa using h
      · rw [List.getElem?_eq_none h] at hx; simp at hx
    have hle : (j + 1) * R.size ≤ (l1.length + l2.length) * R.size := Nat.mul_le_mul_right _ hj
    rw [Nat.add_mul, Nat.one_mul] at hle
    have hr : R.rd (fun _ => True) w (((vals ++ news).drop (j * R.size)).take R.size) x := by
      rcases Nat.lt_or_ge j l1.length with h | h
      · rw [List.getElem?_append_left h] at hx
        have hle2 : (j + 1) * R.size ≤ l1.length * R.size := Nat.mul_le_mul_right _ h
        rw [Nat.add_mul, Nat.one_mul] at hle2
        rw [List.drop_append_of_le_length (by omega), List.take_append_of_le_length (by simp; omega)]
        exact h1 j x hx
      · rw [List.getElem?_append_right h] at hx
        have e : j * R.size = vals.length + (j - l1.length) * R.size := by rw [h0, ← Nat.add_mul]; congr 1; omega
        rw [e, ← List.drop_drop, List.drop_left' rfl]
        exact h2 _ x hx
    refine ⟨g, 0, _, rfl, trivial, fun t c ht => ?_, hr⟩
    have hlen := R.len hr
    have ht' : t < R.size := by
      rcases Nat.lt_or_ge t R.size with h | h
      · exact h
      · rw [List.getElem?_eq_none (by omega)] at ht; simp at ht
    rw [List.getElem?_take_of_lt ht', List.getElem?_drop, ← k4, List.getElem?_take_of_lt (by omega)] at ht
    simp [World.cell?, hg]
    simpa using ht
theorem LstO.baseMono {α : Type} {R : Rel α} {G : Nat → Prop} {base base' e : Nat} {w : World} {v : Value} {l : List α} (h : LstO R G base e w v l) (hb : base' ≤ base) : LstO R G base' e w v l := by
  obtain ⟨vals, h1, h2⟩ := h
  exact ⟨vals, ownsRow_mono h1 hb, h2⟩
def gsumB (l : List Stp) : Bool := oneSumL (hdrsOf (grownL l) ++ hdrsOf (grownL (l.take 12))) (grownBs l ++ grownBs (l.take 12))
theorem batTo_mono (l : List Stp) (n : Nat) : ∀ m, n ≤ m → (batTo l n).length ≤ (batTo l m).length
  | 0, h => by obtain rfl : n = 0 := by omega
               exact Nat.le_refl _
  | m + 1, h => by
    rcases Nat.lt_or_ge m n with q | q
    · obtain rfl : n = m + 1 := by omega
      exact Nat.le_refl _
    · have h1 := batTo_mono l n m q
      have h2 : (batTo l m).length ≤ (batTo l (m + 1)).length := by simp [batTo]
      omega
theorem own_zero {w : World} {base e k a b : Nat} {v : Value} {l m : List Value} (h : w.ownsRow base e k v (0 + a + b) ([] ++ l ++ m)) : w.ownsRow base e k v (a + b) (l ++ m) := by
  rw [Nat.zero_add] at h; exact h
theorem take_min12 {α : Type} (l : List α) : l.take (min l.length 12) = l.take 12 := by
  rcases Nat.le_total l.length 12 with q | q
  · rw [Nat.min_eq_left q, List.take_length, List.take_of_length_le q]
  · rw [Nat.min_eq_right q]
theorem grownBs_pos (l : List Stp) : 0 < (grownBs l).length := by
  have h1 : (batTo (stp1 :: l) 1).length = 1 := by
    show (batTo (stp1 :: l) 0 ++ stpBs 0 stp1 (stpN stp1)).length = 1
    rw [List.length_append, stpBs_len]
    show 0 + stpN stp1 = 1
    decide
  have h2 := batTo_mono (stp1 :: l) 1 (stpMany (stp1 :: l)) (by unfold stpMany; simp; omega)
  show 0 < (batTo (stp1 :: l) (stpMany (stp1 :: l))).length
  omega
theorem grownBs_len (l : List Stp) : (grownBs l).length ≤ 48 := by
  have := batTo_len (stp1 :: l) (stpMany (stp1 :: l))
  have h : stpMany (stp1 :: l) ≤ 24 := by unfold stpMany; omega
  show (batTo (stp1 :: l) (stpMany (stp1 :: l))).length ≤ 48
  omega
theorem lst_steps {w w' : World} {base e : Nat} {v : Value} {l : List Stp} {news : List Value} (hown : w.ownsRow base e 3 v l.length news) (h : ∀ j x, l[j]? = some x → RStp.rd (fun _ => True) w' ((news.drop (j * 3)).take 3) x) :
    LstO RStp (fun _ => True) base e w v l := ⟨news, hown, fun j x hx => h j x hx⟩
set_option maxRecDepth 100000 in
set_option maxHeartbeats 8000000 in
theorem grownSum_any {l : List Stp} (v : Value) (w : World) (hv : RdS RStp (fun _ => True) w v l) (hz : l.length * 24 ≤ reachBytes) (ht : Tabs w) :
    Calls Tryd.prog 17 #[v, .slice none 0 0] w fun e w' => e = .returned (.bool (gsumB l)) ∧ Below w.heap.size w w' := by
  have HT := Lib.hid ht
  have hlz : l.length * 24 ≤ 140737488351232 := hz
  obtain ⟨adl, capl, rfl, hcl, hml⟩ := hv.form
  unfold maxLen at hml
  have HV := Lib.hid hv
  obtain ⟨m, hm⟩ : ∃ m, m = min l.length 12 := ⟨_, rfl⟩
  have hm1 : m ≤ l.length := by omega
  have hm2 : m ≤ 12 := by omega
  have hm3 : ((l.length : Int) ≤ 12 ∧ (m : Int) = (l.length : Int)) ∨ (¬ (l.length : Int) ≤ 12 ∧ (m : Int) = 12) := by omega
  have HM3 := Lib.hid hm3
  have HTK := Lib.hid (show l.take m = l.take 12 by rw [hm]; exact take_min12 l)
  have htl : (l.take m).length = m := by rw [List.length_take]; omega
  have HTL := Lib.hid htl
  have HZ2 := Lib.hid (show (l.take m).length * 24 ≤ reachBytes by rw [htl]; exact Nat.le_trans (Nat.mul_le_mul_right _ hm1) hz)
  clear hv ht hm hm3 htl
  go_enter Tryd.func17, Tryd.ntmps17
  go_wp2_with fail
  refine (grown_any _ _ HV.out hz HT.out).mono ?_
  rintro e w1 ⟨vd, vb, rfl, hd, hb, hb1⟩
  obtain ⟨add, capd, rfl, -, -⟩ := hd.form
  obtain ⟨adb, capb, rfl, -, -⟩ := hb.form
  have HD1 := Lib.hid ((hd.mono (G' := fun _ => True) (fun _ _ => trivial)))
  have HS1 := Lib.hid ((hb.mono (G' := fun _ => True) (fun _ _ => trivial)))
  have HB1 := Lib.hid hb1
  have HV1 := Lib.hid (HV.out.below hb1 (fun _ h => h))
  clear hd hb hb1 HV
  have hg4 := grown_len l
  have hgp := grown_pos l
  have hb4 := grownBs_len l
  have hbp := grownBs_pos l
  obtain ⟨D1, hD1⟩ : ∃ D1, D1 = grownL l := ⟨_, rfl⟩
  obtain ⟨S1, hS1⟩ : ∃ S1, S1 = grownBs l := ⟨_, rfl⟩
  rw [← hD1] at HD1 hg4 hgp ⊢
  rw [← hS1] at HS1 hb4 hbp ⊢
  have HDE1 := Lib.hid hD1
  have HSE1 := Lib.hid hS1
  clear hD1 hS1
  go_upto_region 2 with fail
  obtain ⟨w2, hwl⟩ : ∃ w2, w2 = w1.alloc (.cells #[.slice add D1.length capd] 27) := ⟨_, rfl⟩
  have hBl : Below w1.heap.size w1 w2 := by rw [hwl]; exact (Below.refl _ _).alloc (Nat.le_refl _) _
  have HX := Lib.hid (show BoxAt w2 w1.heap.size [.slice add D1.length capd] 27 by rw [hwl]; exact BoxAt.new w1 [_] _)
  rw [← hwl]
  replace HD1 := Lib.hid (HD1.out.below hBl (fun _ h => h))
  replace HS1 := Lib.hid (HS1.out.below hBl (fun _ h => h))
  replace HB1 := Lib.hid (HB1.out.trans (hBl.mono HB1.out.size))
  replace HV1 := Lib.hid (HV1.out.below hBl (fun _ h => h))
  clear hwl hBl
  obtain ⟨news, hsl, hrd, hone⟩ := (HV1.out.take m hm1).flatOf (by decide) (fun h => RStp_one h)
  rw [HTL.out] at hsl
  have HSL := Lib.hid hsl
  have HRD := Lib.hid hrd
  have HON := Lib.hid hone
  clear hsl hrd hone
  have k1 : (m : Int) ≤ (capl : Int) := by omega
  have k0 : (0 : Int) ≤ (m : Int) := by omega
  have kmin : min (l.length : Int) 12 = (m : Int) := by have q := HM3.out; omega
  go_wp2_with (first
    | (refine wpList_min rfl (.tmp 17) (.const (.int .i64 12)) 3 3 rfl (l.length : Int) 12 (m : Int) rfl rfl HM3.out ?_)
    | (at_builtin; refine wpList_append_sl rfl (.const (.slice none 0 0)) (.tmp 19) 22 rfl elemStp w2.heap.size (.slice none 0 0) rfl 0 [] (World.ownsRow_nil _ _ _ _) _ rfl m news HSL.out HON.out (by unfold maxLen; omega) (by omega) (Nat.le_refl _) ?_; intro v20 w20 hown20 hgr20)
    | (at_builtin; refine wpList_append_sl rfl (.tmp 20) (.tmp 21) 22 rfl elemStp w2.heap.size v20 rfl (0 + m) ([] ++ news) hown20 (.slice none 0 0) rfl 0 [] ⟨none, 0, rfl, fun _ => ⟨rfl, rfl⟩, rfl, fun j u h => by simp at h⟩ (by simp) (by unfold maxLen; omega) (by omega) hgr20.size ?_; intro v22 w22 hown22 hgr22))
  have hlt20 := hown20.lt
  have hown22' : w22.ownsRow w2.heap.size 59 3 v22 (l.take m).length news := by
    rw [HTL.out]; simpa using hown22
  have HL22 := Lib.hid (lst_steps (w' := w2) hown22' HRD.out)
  have hB22 : Below w2.heap.size w2 w22 := ((Below.refl _ _).grown hgr20 (Nat.le_refl _) (fun k hk => by simp [Value.ownBlock] at hk)).grown hgr22 hgr20.size (fun k hk => (hlt20 k hk).1)
  replace HD1 := Lib.hid (HD1.out.below hB22 (fun _ h => h))
  replace HS1 := Lib.hid (HS1.out.below hB22 (fun _ h => h))
  replace HX := Lib.hid (HX.out.belowS hB22)
  replace HB1 := Lib.hid (HB1.out.trans (hB22.mono HB1.out.size))
  clear hown20 hgr20 hown22 hown22' hgr22 hB22 hlt20 HSL HRD HON HV1
  refine (grown_any _ _ (HL22.out.rd (G' := fun _ => True) (by decide) (fun _ _ _ => trivial) (fun _ _ _ => trivial)) HZ2.out (HT.out.belowS HB1.out)).mono ?_
  rintro e w3 ⟨ve, vf, rfl, hd, hb, hb3⟩
  obtain ⟨ade, cape, rfl, -, -⟩ := hd.form
  obtain ⟨adf, capf, rfl, -, -⟩ := hb.form
  have HD2 := Lib.hid ((hd.mono (G' := fun _ => True) (fun _ _ => trivial)))
  have HS2 := Lib.hid ((hb.mono (G' := fun _ => True) (fun _ _ => trivial)))
  replace HD1 := Lib.hid (HD1.out.below hb3 (fun _ h => h))
  replace HS1 := Lib.hid (HS1.out.below hb3 (fun _ h => h))
  replace HX := Lib.hid (HX.out.belowS hb3)
  replace HB1 := Lib.hid (HB1.out.trans (hb3.mono HB1.out.size))
  rw [HTK.out] at HD2 HS2 ⊢
  clear hd hb hb3 HL22
  have hg4' := grown_len (l.take 12)
  have hgp' := grown_pos (l.take 12)
  have hb4' := grownBs_len (l.take 12)
  have hbp' := grownBs_pos (l.take 12)
  have HG := Lib.hid (show gsumB l = oneSumL (hdrsOf (grownL l) ++ hdrsOf (grownL (l.take 12))) (grownBs l ++ grownBs (l.take 12)) from rfl)
  rw [← HDE1.out, ← HSE1.out] at HG
  generalize grownL (l.take 12) = D2 at *
  generalize grownBs (l.take 12) = S2 at *
  go_upto_region 3 with fail
  obtain ⟨w5, hwl⟩ : ∃ w5, w5 = w3.alloc (.cells #[.slice ade D2.length cape] 27) := ⟨_, rfl⟩
  have hBl : Below w3.heap.size w3 w5 := by rw [hwl]; exact (Below.refl _ _).alloc (Nat.le_refl _) _
  have HY := Lib.hid (show BoxAt w5 w3.heap.size [.slice ade D2.length cape] 27 by rw [hwl]; exact BoxAt.new w3 [_] _)
  rw [← hwl]
  replace HD1 := Lib.hid (((HD1.out.low (by decide)).mono (G' := fun b => b < w3.heap.size) (fun b hb => hb.2)).below hBl (fun _ h => h))
  replace HS1 := Lib.hid (((HS1.out.low (by decide)).mono (G' := fun b => b < w3.heap.size) (fun b hb => hb.2)).below hBl (fun _ h => h))
  replace HD2 := Lib.hid (((HD2.out.low (by decide)).mono (G' := fun b => b < w3.heap.size) (fun b hb => hb.2)).below hBl (fun _ h => h))
  replace HS2 := Lib.hid (((HS2.out.low (by decide)).mono (G' := fun b => b < w3.heap.size) (fun b hb => hb.2)).below hBl (fun _ h => h))
  replace HX := Lib.hid (HX.out.belowS hBl)
  replace HB1 := Lib.hid (HB1.out.trans (hBl.mono HB1.out.size))
  clear hwl hBl
  have zx := HX.out.lt
  have zy := HY.out.lt
  have hzw := HB1.out.size
  refine wp_region_held_drew (S := fun w' => Below w5.heap.size w5 w') (by kernel_rfl) (by exact (Below.refl _ _).drew) (fun hHeld => ?_)
  obtain ⟨wd, hwd⟩ : ∃ wd, wd = w5.drew := ⟨_, rfl⟩
  have HBd := Lib.hid (show Below w5.heap.size w5 wd by rw [hwd]; exact (Below.refl _ _).drew)
  rw [← hwd] at hHeld ⊢
  clear hwd
  refine wpAnyH_take (i := 0) (v := .agg #[.slice add D1.length capd]) rfl (by kernel_rfl) (by kernel_rfl) (by kernel_rfl) (fun _ _ _ h => h) (Or.inl ⟨by rfl, fun w hSw => ?_⟩) hHeld ?_
  · have q0 := (HX.out.belowS hSw).cell 0 rfl; clear hSw; go_simp
  try simp only [Act.put, List.getElem_toArray, List.getElem_cons_succ, List.getElem_cons_zero, List.setIfInBounds_toArray, List.set_cons_zero, List.set_cons_succ]
  refine wpAnyH_take (i := 2) (v := .agg #[.slice ade D2.length cape]) rfl (by kernel_rfl) (by kernel_rfl) (by kernel_rfl) (fun _ _ _ h => h) (Or.inl ⟨by rfl, fun w hSw => ?_⟩) hHeld ?_
  · have q0 := (HY.out.belowS hSw).cell 0 rfl; clear hSw; go_simp
  try simp only [Act.put, List.getElem_toArray, List.getElem_cons_succ, List.getElem_cons_zero, List.setIfInBounds_toArray, List.set_cons_zero, List.set_cons_succ]
  refine wpAnyH_take (i := 5) (v := .slice adb S1.length capb) rfl (by kernel_rfl) (by kernel_rfl) (by kernel_rfl) (fun _ _ _ h => h) (Or.inl ⟨by rfl, fun w hSw => ?_⟩) hHeld ?_
  · clear hSw; go_simp; all_goals (try first | rfl | omega)
  try simp only [Act.put, List.getElem_toArray, List.getElem_cons_succ, List.getElem_cons_zero, List.setIfInBounds_toArray, List.set_cons_zero, List.set_cons_succ]
  refine wpAnyH_take (i := 7) (v := .slice adf S2.length capf) rfl (by kernel_rfl) (by kernel_rfl) (by kernel_rfl) (fun _ _ _ h => h) (Or.inl ⟨by rfl, fun w hSw => ?_⟩) hHeld ?_
  · clear hSw; go_simp; all_goals (try first | rfl | omega)
  try simp only [Act.put, List.getElem_toArray, List.getElem_cons_succ, List.getElem_cons_zero, List.setIfInBounds_toArray, List.set_cons_zero, List.set_cons_succ]
  refine wpAnyH_ready (rs := [1]) (by kernel_rfl) (by simp) ?_
  refine AllReadyH.cons rfl (fun K hK => ?_) ?_
  · rw [if_pos (by rfl)]
    go_simp
    go_at_call 37
    refine (headers_any _ _ (HD1.out.below HBd.out (fun _ h => h)) (by omega)).mono ?_
    rintro e wh ⟨ah, ch, rfl, hL, hbh⟩
    have hBh : Below w5.heap.size w5 wh := HBd.out.trans (hbh.mono (Below.size HBd.out))
    have HBh := Lib.hid hBh
    have zh := hBh.size
    have HL1 := Lib.hid (show LstO RHdr (fun b => b < w3.heap.size) w5.heap.size 36 wh (.slice ah D1.length ch) (hdrsOf D1) from (hL.mono (G' := fun b => b < w3.heap.size) (fun b hb => hb.1)).baseMono (by have := Below.size HBd.out; omega))
    have hL1up := HL1.out.lt
    clear hL hbh hBh
    show K _ _
    refine hK.out _ _ (by exact HBh.out) (fun hHeld => ?_)
    clear hK K
    try simp only [Act.put, List.getElem_toArray, List.getElem_cons_succ, List.getElem_cons_zero, List.setIfInBounds_toArray, List.set_cons_zero, List.set_cons_succ]
    refine wpAnyH_ready (rs := [3]) (by kernel_rfl) (by simp) ?_
    refine AllReadyH.cons rfl (fun K hK => ?_) ?_
    · rw [if_pos (by rfl)]
      go_simp
      go_at_call 37
      refine (headers_any _ _ (HD2.out.below HBh.out (fun _ h => h)) (by omega)).mono ?_
      rintro e wi ⟨ai, ci, rfl, hL, hbi⟩
      have hBi : Below w5.heap.size w5 wi := HBh.out.trans (hbi.mono (Below.size HBh.out))
      have HBi := Lib.hid hBi
      have zi := hbi.size
      replace HL1 := Lib.hid (HL1.out.below hbi)
      have hL2 := (hL.mono (G' := fun b => b < w3.heap.size) (fun b hb => hb.1)).rd (G' := fun b => b < w3.heap.size ∨ wh.heap.size ≤ b) (by decide) (fun b h1 h2 => .inr (by omega)) (fun b h1 h2 => .inl h1)
      obtain ⟨newsh, hslh, hrdh, honeh⟩ := hL2.flatOf (by decide) (fun h => RHdr_one h)
      rw [hdrsOf_len] at hslh
      have HSLH := Lib.hid hslh
      have HRDH := Lib.hid hrdh
      have HONH := Lib.hid honeh
      obtain ⟨valsh, hVh⟩ := HL1.out.valsOf
      have HVH := Lib.hid hVh
      have hvlt := hVh.lt
      have HL1n := Lib.hid (hdrsOf_len D1)
      have HL2n := Lib.hid (hdrsOf_len D2)
      clear hL hbi hBi hL2 hslh hrdh honeh hVh
      show K _ _
      refine hK.out _ _ (by exact HBi.out) (fun hHeld => ?_)
      clear hK K
      try simp only [Act.put, List.getElem_toArray, List.getElem_cons_succ, List.getElem_cons_zero, List.setIfInBounds_toArray, List.set_cons_zero, List.set_cons_succ]
      refine wpAnyH_ready (rs := [4]) (by kernel_rfl) (by simp) ?_
      refine AllReadyH.cons rfl (fun K hK => ?_) ?_
      · rw [if_pos (by rfl)]
        have hownH : wi.ownsRow w5.heap.size 36 4 (.slice ah D1.length ch) D1.length valsh := by have q := HVH.out.own; rw [HL1n.out] at q; exact q
        refine wp_append_at1 _ _ _ (by rfl) elemHdrD w5.heap.size (.slice ah D1.length ch) D1.length valsh (by rfl) hownH (.slice ai D2.length ci) D2.length newsh (by rfl) HSLH.out HONH.out hgp' (by unfold maxLen; omega) (by omega) (by omega) ?_
        intro gj cj wj hownj hgrj hatj hltj
        have HHJ := Lib.hid (show RdS RHdr (fun b => b < wj.heap.size) wj (.slice (some ⟨gj, 0, none⟩) (D1.length + D2.length) cj) (hdrsOf D1 ++ hdrsOf D2) from ((RdS.ofAppend2 (by decide) (by rw [HL1n.out]; exact hownH.1) (by rw [HL1n.out, HL2n.out]; exact hownj) (fun j x hx => RHdr.keep (HVH.out.2 j x hx) (Keep.grown hgrj (fun k hk h => h.2.2 hk)) (fun _ _ => trivial)) (fun j x hx => RHdr.keep (HRDH.out j x hx) (Keep.grown hgrj (fun k hk h => by have q1 := (hL1up k hk).1; have q2 := (hL1up k hk).2; omega)) (fun _ _ => trivial))).low (by decide)).mono (fun b hb => hb.2))
        have HBj := Lib.hid (show Below w5.heap.size w5 wj from HBi.out.grown hgrj (Below.size HBi.out) (fun k hk => (hL1up k hk).1))
        have zj := hgrj.size
        clear hownH hownj hgrj hatj
        show K _ _
        refine hK.out _ _ (by exact HBj.out) (fun hHeld => ?_)
        clear hK K
        try simp only [Act.put, List.getElem_toArray, List.getElem_cons_succ, List.getElem_cons_zero, List.setIfInBounds_toArray, List.set_cons_zero, List.set_cons_succ]
        refine wpAnyH_ready (rs := [6]) (by kernel_rfl) (by simp) ?_
        refine AllReadyH.cons rfl (fun K hK => ?_) ?_
        · rw [if_pos (by rfl)]
          obtain ⟨newsb, hslb, hrdb, honeb⟩ := (HS1.out.below HBj.out (fun _ h => h)).flatOf (by decide) (fun h => RBat_one h)
          refine wp_append_at1 _ _ _ (by rfl) elemBatD wj.heap.size (.slice none 0 0) 0 [] (by rfl) (World.ownsRow_nil _ _ _ _) (.slice adb S1.length capb) S1.length newsb (by rfl) hslb honeb hbp (by unfold maxLen; omega) (by omega) (Nat.le_refl _) ?_
          intro gk ck wk hownk hgrk hatk hltk
          have HOK := Lib.hid (show wk.ownsRow wj.heap.size 82 3 (.slice (some ⟨gk, 0, none⟩) (0 + S1.length) ck) (0 + S1.length) ([] ++ newsb) from hownk)
          have HNB := Lib.hid (show newsb.length = S1.length * 3 by obtain ⟨_, _, _, _, q, _⟩ := hslb; exact q)
          have HRK := Lib.hid (show ∀ j x, S1[j]? = some x → RBat.rd (fun b => b < w3.heap.size) wk ((newsb.drop (j * 3)).take 3) x from fun j x hx => RBat.keep (hrdb j x hx) (Keep.grown hgrk (fun k hk h => by simp [Value.ownBlock] at hk)) (fun _ h => h))
          have HBk := Lib.hid (show Below w5.heap.size w5 wk from HBj.out.grown hgrk (Below.size HBj.out) (fun k hk => by simp [Value.ownBlock] at hk))
          have HHK := Lib.hid (HHJ.out.keep (G' := fun b => b < wj.heap.size) (Keep.grown hgrk (fun k hk h => by simp [Value.ownBlock] at hk)) (fun _ h => h))
          have zk := hgrk.size
          clear hslb hrdb honeb hownk hgrk hatk
          show K _ _
          refine hK.out _ _ (by exact HBk.out) (fun hHeld => ?_)
          clear hK K
          try simp only [Act.put, List.getElem_toArray, List.getElem_cons_succ, List.getElem_cons_zero, List.setIfInBounds_toArray, List.set_cons_zero, List.set_cons_succ]
          refine wpAnyH_ready (rs := [8]) (by kernel_rfl) (by simp) ?_
          refine AllReadyH.cons rfl (fun K hK => ?_) ?_
          · rw [if_pos (by rfl)]
            obtain ⟨newsc, hslc, hrdc, honec⟩ := (HS2.out.below HBk.out (fun _ h => h)).flatOf (by decide) (fun h => RBat_one h)
            have hltk2 := HOK.out.lt
            refine wp_append_at1 _ _ _ (by rfl) elemBatD wj.heap.size (.slice (some ⟨gk, 0, none⟩) (0 + S1.length) ck) (0 + S1.length) ([] ++ newsb) (by rfl) HOK.out (.slice adf S2.length capf) S2.length newsc (by rfl) hslc honec hbp' (by unfold maxLen; omega) (by omega) zk ?_
            intro gm cm wm hownm hgrm hatm hltm
            have hgk : wj.heap.size ≤ gk := (hltk2 gk rfl).1
            have HBM := Lib.hid (show RdS RBat (fun _ => True) wm (.slice (some ⟨gm, 0, none⟩) (0 + S1.length + S2.length) cm) (S1 ++ S2) from RdS.ofAppend2 (vals := newsb) (by decide) HNB.out (own_zero hownm) (fun j x hx => RBat.keep (HRK.out j x hx) (Keep.grown hgrm (fun k hk h => by have := (hltk2 k hk).1; omega)) (fun _ _ => trivial)) (fun j x hx => RBat.keep (hrdc j x hx) (Keep.grown hgrm (fun k hk h => by have := (hltk2 k hk).1; omega)) (fun _ _ => trivial)))
            have HHM := Lib.hid (HHK.out.keep (G' := fun _ => True) (Keep.grown hgrm (fun k hk h => by have := (hltk2 k hk).1; have h0 : k < wj.heap.size := h; omega)) (fun _ _ => trivial))
            have HBm := Lib.hid (show Below w5.heap.size w5 wm from HBk.out.grown hgrm (Below.size HBk.out) (fun k hk => by have := (hltk2 k hk).1; omega))
            clear hslc hrdc honec hownm hgrm hatm
            show K _ _
            refine hK.out _ _ (by exact HBm.out) (fun hHeld => ?_)
            clear hK K
            try simp only [Act.put, List.getElem_toArray, List.getElem_cons_succ, List.getElem_cons_zero, List.setIfInBounds_toArray, List.set_cons_zero, List.set_cons_succ]
            refine wpAnyH_ready (rs := [9]) (by kernel_rfl) (by simp) ?_
            refine AllReadyH.cons rfl (fun K hK => ?_) ?_
            · rw [if_pos (by rfl)]
              go_simp
              go_at_call 36
              refine (oneSum_any _ _ _ HHM.out (show RdS RBat (fun _ => True) wm (.slice (some ⟨gm, 0, none⟩) (S1.length + S2.length) cm) (S1 ++ S2) by have q := HBM.out; rw [Nat.zero_add] at q; exact q) (HT.out.belowS (HB1.out.trans (HBm.out.mono HB1.out.size)))).mono ?_
              rintro e wn ⟨rfl, hbn⟩
              have HBn := Lib.hid (HBm.out.trans (hbn.mono (Below.size HBm.out)))
              rw [← HG.out]
              clear hbn
              show K _ _
              refine hK.out _ _ (by exact HBn.out) (fun hHeld => ?_)
              clear hK K
              try simp only [Act.put, List.getElem_toArray, List.getElem_cons_succ, List.getElem_cons_zero, List.setIfInBounds_toArray, List.set_cons_zero, List.set_cons_succ]
              refine wpAnyH_take (i := 10) (v := .bool (gsumB l)) rfl (by kernel_rfl) (by kernel_rfl) (by kernel_rfl) (fun _ _ _ h => h) (Or.inl ⟨by rfl, fun w hSw => ?_⟩) hHeld ?_
              · clear hSw; go_simp; all_goals (try first | rfl | omega)
              try simp only [Act.put, List.getElem_toArray, List.getElem_cons_succ, List.getElem_cons_zero, List.setIfInBounds_toArray, List.set_cons_zero, List.set_cons_succ]
              refine wpAnyH_done (by kernel_rfl) ?_ _
              go_wp2
              go_ret
              exact ⟨rfl, HB1.out.trans (HBn.out.mono HB1.out.size)⟩
            exact AllReadyH.nil
          exact AllReadyH.nil
        exact AllReadyH.nil
      exact AllReadyH.nil
    exact AllReadyH.nil
  exact AllReadyH.nil
end Go.Proofs.YtlailhhffejbbaaDoor

/- missingSome: plain laws. -/
set_option linter.unusedVariables false
set_option linter.unusedSimpArgs false
namespace Go.Proofs.YtlailhhffejbbaaDoor
open Go Go.RowKit

/-- The first two digests of a round: where they stand. -/
theorem digs_place {l : List Crt} (hok : dagOk l = true) {r : Int} {i : Nat} (hi : i < (digsL l r).length) :
    ∃ m : Nat, ∃ hm : m < l.length, (digsL l r)[i] = crtSum l[m] ∧ l[m].h.r = r ∧ l[m] = (ofL l r)[i]'(by rwa [digsL_len] at hi) := by
  have hS := dagOk_solo hok
  have hi' : i < (ofL l r).length := by rwa [digsL_len] at hi
  have e : (digsL l r)[i] = crtSum (ofL l r)[i] := by simp [digsL]
  have hm := (mem_ofL hS).1 (List.getElem_mem hi')
  obtain ⟨m, hml, hme⟩ := List.getElem_of_mem hm.1
  exact ⟨m, hml, by rw [e, hme], by rw [hme]; exact hm.2, hme⟩
/-- A digest of the round before is not wrong. -/
theorem digs_right {l : List Crt} (hok : dagOk l = true) (hn : (crtSums l).Nodup) {r : Int} {i : Nat} (hi : i < (digsL l (r - 1)).length) :
    wrong1 l (crtSums l) r (digsL l (r - 1))[i] = false ∧ 0 ≤ idxP (isB (digsL l (r - 1))[i]) (crtSums l) := by
  obtain ⟨m, hm, e, hr, -⟩ := digs_place hok hi
  have hx := idx_clear hn hm
  rw [e, hx]
  refine ⟨?_, by omega⟩
  unfold wrong1
  rw [hx]
  have e2 : (l.getD (Int.toNat (m : Int)) crtZ).h.r = r - 1 := by simp [hm, hr]
  rw [e2]
  simp
/-- Two digests of one round are unlike. -/
theorem digs_ne {l : List Crt} (hok : dagOk l = true) (hn : (crtSums l).Nodup) {r : Int} {i j : Nat} (hj : j < (digsL l r).length) (hij : i < j) :
    (digsL l r)[i] ≠ (digsL l r)[j] := by
  intro q
  obtain ⟨m, hm, e, -, h1⟩ := digs_place hok (show i < (digsL l r).length by omega)
  obtain ⟨k, hk, e', -, h2⟩ := digs_place hok hj
  have hx := idx_clear hn hm
  have hy := idx_clear hn hk
  rw [← e, q, e', hy] at hx
  have : k = m := by omega
  subst this
  have ha := (List.pairwise_iff_getElem.1 (ofL_sorted l r)) i j (by rw [digsL_len] at hj; omega) (by rwa [digsL_len] at hj) hij
  rw [← h1, ← h2] at ha
  omega
/-- A header that has two parents that are there, and two that are not. -/
def missH (n r : Int) (d0 d1 : Bytes) : Hdr := ⟨0, r, [], [someL n 1, d0, someL n 2, d1]⟩
theorem missH_ok {n r : Int} {d0 d1 : Bytes} (hr1 : 1 < r) (hr2 : r ≤ 1000) (h0 : d0.length = 32) (h1 : d1.length = 32) (h01 : d0 ≠ d1) (a0 : d0 ≠ someL n 1) (a1 : d1 ≠ someL n 1) (b0 : d0 ≠ someL n 2) (b1 : d1 ≠ someL n 2) : hdrCode (missH n r d0 d1) = 0 := by
  have hd : digCode [someL n 1, d0, someL n 2, d1] = 0 := (digCode_zero _).2 ⟨fun x hx => by
    simp only [List.mem_cons, List.not_mem_nil, or_false] at hx
    rcases hx with rfl | rfl | rfl | rfl
    · exact someL_length _ _
    · exact h0
    · exact someL_length _ _
    · exact h1, by
    have h4 : someL n 1 ≠ someL n 2 := someL_ne (by decide)
    simp [h4, h01, a0.symm, a1.symm, b0, b1.symm]⟩
  have hrn : countOk r = true := by unfold countOk; exact decide_eq_true (by omega)
  unfold hdrCode missH
  rw [if_neg (by simp [hrn, nodeOk]), if_neg (by simp), if_neg (by simp [digCode, digGo]), if_neg (by simp [hd]), if_neg (by simp; omega)]
theorem miss_some {L : List Crt} (hok : dagOk L = true) (hn : (crtSums L).Nodup) {n r : Int} (hr1 : 1 < r) (hr2 : r ≤ 1000) (h2 : 2 ≤ (digsL L (r - 1)).length) (i1 : idxP (isB (someL n 1)) (crtSums L) < 0) (i2 : idxP (isB (someL n 2)) (crtSums L) < 0) :
    misCode L (missH n r ((digsL L (r - 1))[0]'(by omega)) ((digsL L (r - 1))[1]'(by omega))) = 0 ∧ misL L (missH n r ((digsL L (r - 1))[0]'(by omega)) ((digsL L (r - 1))[1]'(by omega))) = [someL n 1, someL n 2] := by
  obtain ⟨w0, g0⟩ := digs_right hok hn (r := r) (i := 0) (by omega)
  obtain ⟨w1, g1⟩ := digs_right hok hn (r := r) (i := 1) (by omega)
  have h01 := digs_ne hok hn (r := r - 1) (i := 0) (j := 1) (by omega) (by omega)
  have l0 : ((digsL L (r - 1))[0]'(by omega)).length = 32 := digsL_32 (List.getElem_mem _)
  have l1 : ((digsL L (r - 1))[1]'(by omega)).length = 32 := digsL_32 (List.getElem_mem _)
  generalize (digsL L (r - 1))[0]'(by omega) = d0 at *
  generalize (digsL L (r - 1))[1]'(by omega) = d1 at *
  have ne : ∀ {d s : Bytes}, 0 ≤ idxP (isB d) (crtSums L) → idxP (isB s) (crtSums L) < 0 → d ≠ s := fun hd hs e => by subst e; omega
  have hc := missH_ok hr1 hr2 l0 l1 h01 (ne g0 i1) (ne g1 i1) (ne g0 i2) (ne g1 i2)
  have hw : wrongB L (crtSums L) (missH n r d0 d1).r (missH n r d0 d1).ps = false := by
    unfold wrongB
    rw [List.any_eq_false]
    intro d hd q
    have hd' : d = someL n 1 ∨ d = d0 ∨ d = someL n 2 ∨ d = d1 := by simpa [missH] using hd
    rcases hd' with rfl | rfl | rfl | rfl
    · unfold wrong1 at q; simp only [Bool.and_eq_true, decide_eq_true_eq] at q; omega
    · have q' : wrong1 L (crtSums L) r d = true := q; rw [w0] at q'; cases q'
    · unfold wrong1 at q; simp only [Bool.and_eq_true, decide_eq_true_eq] at q; omega
    · have q' : wrong1 L (crtSums L) r d = true := q; rw [w1] at q'; cases q'
  obtain ⟨m1, m2⟩ := mis_3 hc hw
  refine ⟨m1, ?_⟩
  rw [m2]
  unfold noneL missH
  have x0 : ¬ idxP (isB d0) (crtSums L) < 0 := by omega
  have x1 : ¬ idxP (isB d1) (crtSums L) < 0 := by omega
  simp [i1, i2, x0, x1]
end Go.Proofs.YtlailhhffejbbaaDoor

/- missingSome: the walk. -/
set_option linter.unusedVariables false
set_option linter.unusedSimpArgs false
attribute [local go_sem ↓] Go.wp_at_zero Go.wp_at_succ
namespace Go.Proofs.YtlailhhffejbbaaDoor
open Go Go.RowKit

theorem rdBB_four {G : Nat → Prop} {w : World} {B : Nat} {v v' v'' v3 : Value} {l l' l'' l3 : List UInt8} {T : TypeId} (hb : BoxAt w B [v, v', v'', v3] T) (hG : G B) (h : RdB G w v l) (h' : RdB G w v' l') (h'' : RdB G w v'' l'') (h3 : RdB G w v3 l3) : RdBB G w (.slice (some ⟨B, 0, none⟩) 4 4) [l, l', l'', l3] :=
  rdBB_box hb hG rfl rfl (by unfold maxLen; omega) (fun j u x h1 h2 => by
    match j, h1, h2 with
    | 0, h1, h2 => simp at h1 h2; subst h1 h2; exact h
    | 1, h1, h2 => simp at h1 h2; subst h1 h2; exact h'
    | 2, h1, h2 => simp at h1 h2; subst h1 h2; exact h''
    | 3, h1, h2 => simp at h1 h2; subst h1 h2; exact h3)
theorem someL_rd {w : World} {b : Nat} {n m : Int} {T : TypeId} (h : BoxAt w b ((someL n m).map fun c => Value.int .u8 c.toNat) T) : RdB (fun _ => True) w (.slice (some ⟨b, 0, none⟩) 32 32) (someL n m) := by
  have h1 : (someL n m).length ≤ 32 := by rw [someL_length]; exact Nat.le_refl _
  have := RdS.of_box (G := fun _ => True) (l := someL n m) (cap := 32) h trivial h1 (by unfold maxLen; simp)
  rw [someL_length] at this
  exact this
theorem miss_some2 {L : List Crt} (hok : dagOk L = true) (hn : (crtSums L).Nodup) {n r : Int} {d0 d1 : Bytes} (hr1 : 1 < r) (hr2 : r ≤ 1000) (h0 : (digsL L (r - 1))[0]? = some d0) (h1 : (digsL L (r - 1))[1]? = some d1) (i1 : idxP (isB (someL n 1)) (crtSums L) < 0) (i2 : idxP (isB (someL n 2)) (crtSums L) < 0) :
    misCode L (missH n r d0 d1) = 0 ∧ misL L (missH n r d0 d1) = [someL n 1, someL n 2] := by
  obtain ⟨hl, e1⟩ := List.getElem?_eq_some_iff.1 h1
  obtain ⟨hl0, e0⟩ := List.getElem?_eq_some_iff.1 h0
  have := miss_some hok hn hr1 hr2 (by omega) i1 i2
  rw [e0, e1] at this
  exact this
set_option maxRecDepth 100000 in
set_option maxHeartbeats 8000000 in
theorem missingSome_any (v : Value) (l : List Stp) (n : Int) (w : World) (hv : RdS RStp (fun _ => True) w v l) (hz : l.length * 24 ≤ reachBytes) (n1 : -9223372036854775808 ≤ n) (n2 : n ≤ 9223372036854775807) (ht : Tabs w) :
    Calls Tryd.prog 27 #[v, .int .i64 n] w fun e w' => ∃ b, e = .returned (.bool b) ∧ ((crtSums (grownL l)).Nodup → b = true) ∧ Below w.heap.size w w' := by
  have HT := Lib.hid ht
  go_enter Tryd.func27, Tryd.ntmps27
  go_wp2_with fail
  refine (grown_any _ _ hv hz ht).mono ?_
  rintro e w1 ⟨vd, vb, rfl, hd, -, hb1⟩
  obtain ⟨add, capd, rfl, -, -⟩ := hd.form
  have HD1 := Lib.hid hd
  have HB1 := Lib.hid hb1
  clear hd hb1 ht hv
  go_upto_region 2 with fail
  obtain ⟨w2, hw2⟩ : ∃ w2, w2 = w1.alloc (.cells #[.slice add (grownL l).length capd] 27) := ⟨_, rfl⟩
  have HX := Lib.hid (show BoxAt w2 w1.heap.size [.slice add (grownL l).length capd] 27 by rw [hw2]; exact BoxAt.new w1 [_] _)
  have hB2 : Below w1.heap.size w1 w2 := by rw [hw2]; exact (Below.refl _ _).alloc (Nat.le_refl _) _
  rw [← hw2]
  have HD := Lib.hid ((HD1.out.mono (G' := fun _ => True) (fun _ _ => trivial)).below hB2 (fun _ h => h))
  have HB := Lib.hid (HB1.out.trans (hB2.mono HB1.out.size))
  have HOK := Lib.hid (grown_ok l)
  have hz2 := HX.out.lt
  have hzw2 := HB.out.size
  clear hw2 hB2 HD1 HB1
  have hg4 := grown_len l
  have hgp := grown_pos l
  generalize hLL : grownL l = L at *
  have HLL := Lib.hid hLL
  clear hLL
  have HH := Lib.hid (fun c (hc : c ∈ L) => (crt_partsP ((dagOk_iff.1 HOK.out).2.1 c hc)).1)
  have x0 := HX.out.cell 0 rfl
  go_wp2_with fail
  refine (dagRound_any _ _ HD.out (HT.out.belowS HB.out) HOK.out).mono ?_
  rintro e w3 ⟨rfl, hb3⟩
  have hr1 := roundL_pos L
  have hr2 := roundL_le L
  have HRL := Lib.hid (fun hn hr hr' d0 d1 h0 h1 i1 i2 => @miss_some2 L HOK.out hn n (roundL L) d0 d1 hr hr' h0 h1 i1 i2)
  generalize roundL L = r at *
  replace HX := Lib.hid (HX.out.belowS hb3)
  replace HD := Lib.hid (HD.out.below hb3 (fun _ h => h))
  replace HB := Lib.hid (HB.out.trans (hb3.mono HB.out.size))
  clear hb3 x0
  have x0 := HX.out.cell 0 rfl
  have wr1 : IntKind.i64.wrap (r - 1) = r - 1 := IntWalk.i64_in _ (by omega)
  go_wp2_with fail
  refine (dagDigests_any (r - 1) _ _ HD.out (HT.out.belowS HB.out) HOK.out).mono ?_
  rintro e w4 ⟨vP, rfl, hP, hb4⟩
  obtain ⟨adp, capp, rfl, -, hmp⟩ := hP.form
  unfold maxLen at hmp
  have HP := Lib.hid (hP.mono (G' := fun _ => True) (fun _ _ => trivial))
  replace HX := Lib.hid (HX.out.belowS hb4)
  replace HD := Lib.hid (HD.out.below hb4 (fun _ h => h))
  replace HB := Lib.hid (HB.out.trans (hb4.mono HB.out.size))
  have hPl := digsL_le L (r - 1)
  have hP32 := Lib.hid (fun d (hd : d ∈ digsL L (r - 1)) => digsL_32 hd)
  generalize digsL L (r - 1) = PS at *
  clear hb4 hP x0
  have x0 := HX.out.cell 0 rfl
  by_cases hq1 : r = 1
  · subst hq1
    have hL0 : (0 : Int) < (L.length : Int) := by omega
    go_wp2
    go_ret
    exact ⟨true, rfl, fun _ => rfl, HB.out⟩
  by_cases hq2 : PS.length < 3
  · have hL0 : (0 : Int) < (L.length : Int) := by omega
    have hq3 : (PS.length : Int) < 3 := by omega
    go_wp2
    go_ret
    exact ⟨true, rfl, fun _ => rfl, HB.out⟩
  have hq3 : ¬ (PS.length : Int) < 3 := by omega
  go_wp2_with fail
  refine (digestsOf_any _ _ HD.out HH.out (by omega) (HT.out.belowS HB.out)).mono ?_
  rintro e w5 ⟨vs, rfl, hS, hb5⟩
  obtain ⟨ads, caps, rfl, -, hms⟩ := hS.form
  unfold maxLen at hms
  have HS := Lib.hid (hS.mono (G' := fun _ => True) (fun _ _ => trivial))
  replace HX := Lib.hid (HX.out.belowS hb5)
  replace HD := Lib.hid (HD.out.below hb5 (fun _ h => h))
  replace HB := Lib.hid (HB.out.trans (hb5.mono HB.out.size))
  replace HP := Lib.hid (HP.out.below hb5 (fun _ h => h))
  have hSL := crtSums_len L
  clear hb5 hS x0
  obtain ⟨DS, hDS⟩ : ∃ DS, DS = crtSums L := ⟨_, rfl⟩
  have HDS := Lib.hid hDS
  rw [← hDS] at HS HRL hSL ⊢
  have hSL1 : DS.length ≤ L.length := by omega
  have hSL2 : L.length ≤ DS.length := by omega
  clear hDS hSL
  go_wp2_with fail
  refine (some_any n 1 _ n1 n2).mono ?_
  rintro e w6 ⟨rfl, hs, hb_s⟩
  replace HX := Lib.hid (HX.out.belowS hb_s)
  replace HD := Lib.hid (HD.out.below hb_s (fun _ h => h))
  replace HB := Lib.hid (HB.out.trans (hb_s.mono HB.out.size))
  replace HP := Lib.hid (HP.out.below hb_s (fun _ h => h))
  replace HS := Lib.hid (HS.out.below hb_s (fun _ h => h))
  have HSK := Lib.hid (show RdB (fun _ => True) w6 (.slice (some ⟨w5.heap.size, 0, none⟩) 32 32) (someL n 1) from someL_rd hs)
  clear hs hb_s
  go_wp2_with fail
  refine (sat_any _ _ _ HS.out HSK.out).mono ?_
  rintro e w' ⟨rfl, rfl⟩
  clear HSK
  obtain ⟨i1, hi1⟩ : ∃ i1, i1 = idxP (isB (someL n 1)) DS := ⟨_, rfl⟩
  rw [← hi1]
  have HI1 := Lib.hid hi1
  clear hi1
  by_cases g1 : 0 ≤ i1
  · go_wp2
    go_ret
    exact ⟨true, rfl, fun _ => rfl, HB.out⟩
  go_wp2_with fail
  refine (some_any n 2 _ n1 n2).mono ?_
  rintro e w7 ⟨rfl, hs, hb_s⟩
  replace HX := Lib.hid (HX.out.belowS hb_s)
  replace HD := Lib.hid (HD.out.below hb_s (fun _ h => h))
  replace HB := Lib.hid (HB.out.trans (hb_s.mono HB.out.size))
  replace HP := Lib.hid (HP.out.below hb_s (fun _ h => h))
  replace HS := Lib.hid (HS.out.below hb_s (fun _ h => h))
  have HSK := Lib.hid (show RdB (fun _ => True) w7 (.slice (some ⟨w6.heap.size, 0, none⟩) 32 32) (someL n 2) from someL_rd hs)
  clear hs hb_s
  go_wp2_with fail
  refine (sat_any _ _ _ HS.out HSK.out).mono ?_
  rintro e w' ⟨rfl, rfl⟩
  clear HSK
  obtain ⟨i2, hi2⟩ : ∃ i2, i2 = idxP (isB (someL n 2)) DS := ⟨_, rfl⟩
  rw [← hi2]
  have HI2 := Lib.hid hi2
  clear hi2
  by_cases g2 : 0 ≤ i2
  · go_wp2
    go_ret
    exact ⟨true, rfl, fun _ => rfl, HB.out⟩
  have h3 : 3 ≤ PS.length := by omega
  have p0 : PS[0]? = some (PS[0]'(by omega)) := List.getElem?_eq_getElem _
  have p1 : PS[1]? = some (PS[1]'(by omega)) := List.getElem?_eq_getElem _
  have HM := Lib.hid (fun hn => HRL.out hn (by omega) (by omega) _ _ p0 p1 (by rw [← HI1.out]; omega) (by rw [← HI2.out]; omega))
  clear p0 p1
  obtain ⟨bp, op, v0, hadp, -, e0, hd0⟩ := HP.out.cellS 0 (by omega)
  obtain ⟨bp', op', v1, hadp', -, e1, hd1⟩ := HP.out.cellS 1 (by omega)
  subst hadp
  simp only [Option.some.injEq, Addr.mk.injEq, and_true] at hadp'
  obtain ⟨rfl, rfl⟩ := hadp'
  obtain ⟨ad0, cap0, rfl, -, -⟩ := hd0.form
  obtain ⟨ad1, cap1, rfl, -, -⟩ := hd1.form
  generalize PS[0] = d0 at *
  generalize PS[1] = d1 at *
  rw [Nat.add_zero] at e0
  have hPS0 : ¬ PS = [] := by intro q; rw [q] at h3; simp at h3
  have HD0 := Lib.hid hd0
  have HD1 := Lib.hid hd1
  have E0 := Lib.hid e0
  have E1 := Lib.hid e1
  have hbp : bp < w7.heap.size := World.block_lt_of_cell? w7 _ e0
  clear hd0 hd1 e0 e1 HRL HI1 HI2
  go_upto_region 9 with fail
  clear g1 g2
  go_cut [12] (fun h wx => ∃ (H Q : Nat), h = .pointer (some ⟨H, 0, none⟩) ∧ BoxAt wx H [.int .i64 0, .int .i64 r, .slice none 0 0, .slice (some ⟨Q, 0, none⟩) 4 4] 36 ∧ RdBB (fun _ => True) wx (.slice (some ⟨Q, 0, none⟩) 4 4) [someL n 1, d0, someL n 2, d1] ∧ Below w7.heap.size w7 wx)
  case first =>
    refine wp_region_held_drew (S := fun w' => Below w7.heap.size w7 w') (by kernel_rfl) (by exact (Below.refl _ _).drew) (fun hHeld => ?_)
    obtain ⟨wd, hwd⟩ : ∃ wd, wd = w7.drew := ⟨_, rfl⟩
    rw [← hwd] at hHeld ⊢
    have HBd := Lib.hid (show Below w7.heap.size w7 wd from hHeld)
    have zwd : w7.heap.size ≤ wd.heap.size := by rw [hwd]; exact Nat.le_refl _
    clear hwd
    refine wpAnyH_take (i := 0) (v := .int .i64 r) rfl (by kernel_rfl) (by kernel_rfl) (by kernel_rfl) (fun _ _ _ h => h) (Or.inl ⟨by rfl, fun w hSw => ?_⟩) hHeld ?_
    · clear hSw; go_simp; all_goals (try first | rfl | omega)
    try simp only [Act.put, List.getElem_toArray, List.getElem_cons_succ, List.getElem_cons_zero, List.setIfInBounds_toArray, List.set_cons_zero, List.set_cons_succ]
    refine wpAnyH_take (i := 1) (v := .int .i64 n) rfl (by kernel_rfl) (by kernel_rfl) (by kernel_rfl) (fun _ _ _ h => h) (Or.inl ⟨by rfl, fun w hSw => ?_⟩) hHeld ?_
    · clear hSw; go_simp; all_goals (try first | rfl | omega)
    try simp only [Act.put, List.getElem_toArray, List.getElem_cons_succ, List.getElem_cons_zero, List.setIfInBounds_toArray, List.set_cons_zero, List.set_cons_succ]
    refine wpAnyH_take (i := 3) (v := .slice (some ⟨bp, op, none⟩) PS.length capp) rfl (by kernel_rfl) (by kernel_rfl) (by kernel_rfl) (fun _ _ _ h => h) (Or.inl ⟨by rfl, fun w hSw => ?_⟩) hHeld ?_
    · clear hSw; go_simp; all_goals (try first | rfl | omega)
    try simp only [Act.put, List.getElem_toArray, List.getElem_cons_succ, List.getElem_cons_zero, List.setIfInBounds_toArray, List.set_cons_zero, List.set_cons_succ]
    refine wpAnyH_take (i := 4) (v := .pointer (some ⟨bp, op, none⟩)) rfl (by kernel_rfl) (by kernel_rfl) (by kernel_rfl) (fun _ _ _ h => h) (Or.inl ⟨by rfl, fun w hSw => ?_⟩) hHeld ?_
    · clear hSw; go_simp; all_goals (try first | rfl | omega)
    try simp only [Act.put, List.getElem_toArray, List.getElem_cons_succ, List.getElem_cons_zero, List.setIfInBounds_toArray, List.set_cons_zero, List.set_cons_succ]
    refine wpAnyH_take (i := 5) (v := .slice ad0 d0.length cap0) rfl (by kernel_rfl) (by kernel_rfl) (by kernel_rfl) (fun _ _ _ h => h) (Or.inl ⟨by rfl, fun w hSw => ?_⟩) hHeld ?_
    · have q0 := (hSw.cell (p := ⟨bp, op, none⟩) hbp).trans E0.out; clear hSw; go_simp
    try simp only [Act.put, List.getElem_toArray, List.getElem_cons_succ, List.getElem_cons_zero, List.setIfInBounds_toArray, List.set_cons_zero, List.set_cons_succ]
    refine wpAnyH_take (i := 6) (v := .int .i64 n) rfl (by kernel_rfl) (by kernel_rfl) (by kernel_rfl) (fun _ _ _ h => h) (Or.inl ⟨by rfl, fun w hSw => ?_⟩) hHeld ?_
    · clear hSw; go_simp; all_goals (try first | rfl | omega)
    try simp only [Act.put, List.getElem_toArray, List.getElem_cons_succ, List.getElem_cons_zero, List.setIfInBounds_toArray, List.set_cons_zero, List.set_cons_succ]
    refine wpAnyH_take (i := 8) (v := .slice (some ⟨bp, op, none⟩) PS.length capp) rfl (by kernel_rfl) (by kernel_rfl) (by kernel_rfl) (fun _ _ _ h => h) (Or.inl ⟨by rfl, fun w hSw => ?_⟩) hHeld ?_
    · clear hSw; go_simp; all_goals (try first | rfl | omega)
    try simp only [Act.put, List.getElem_toArray, List.getElem_cons_succ, List.getElem_cons_zero, List.setIfInBounds_toArray, List.set_cons_zero, List.set_cons_succ]
    refine wpAnyH_take (i := 9) (v := .pointer (some ⟨bp, op + 1, none⟩)) rfl (by kernel_rfl) (by kernel_rfl) (by kernel_rfl) (fun _ _ _ h => h) (Or.inl ⟨by rfl, fun w hSw => ?_⟩) hHeld ?_
    · clear hSw; go_simp; all_goals (try first | rfl | omega)
    try simp only [Act.put, List.getElem_toArray, List.getElem_cons_succ, List.getElem_cons_zero, List.setIfInBounds_toArray, List.set_cons_zero, List.set_cons_succ]
    refine wpAnyH_take (i := 10) (v := .slice ad1 d1.length cap1) rfl (by kernel_rfl) (by kernel_rfl) (by kernel_rfl) (fun _ _ _ h => h) (Or.inl ⟨by rfl, fun w hSw => ?_⟩) hHeld ?_
    · have q0 := (hSw.cell (p := ⟨bp, op + 1, none⟩) hbp).trans E1.out; clear hSw; go_simp
    try simp only [Act.put, List.getElem_toArray, List.getElem_cons_succ, List.getElem_cons_zero, List.setIfInBounds_toArray, List.set_cons_zero, List.set_cons_succ]
    refine wpAnyH_ready (rs := [2, 13]) (by kernel_rfl) (by simp) ?_
    refine AllReadyH.cons rfl (fun K hK => ?_) ?_
    · rw [if_pos (by rfl)]
      go_simp
      go_at_call 50
      refine (some_any n 1 _ n1 n2).mono ?_
      rintro e ws1 ⟨rfl, hs_, hb_ws1⟩
      have HBws1 := Lib.hid (HBd.out.trans (hb_ws1.mono (Below.size HBd.out)))
      have FA1 := Lib.hid hs_
      have zws1 := FA1.out.lt
      clear hs_ hb_ws1
      show K _ _
      refine hK.out _ _ (by exact HBws1.out) (fun hHeld => ?_)
      clear hK K
      try simp only [Act.put, List.getElem_toArray, List.getElem_cons_succ, List.getElem_cons_zero, List.setIfInBounds_toArray, List.set_cons_zero, List.set_cons_succ]
      refine wpAnyH_ready (rs := [7, 13]) (by kernel_rfl) (by simp) ?_
      refine AllReadyH.cons rfl (fun K hK => ?_) ?_
      · rw [if_pos (by rfl)]
        go_simp
        go_at_call 50
        refine (some_any n 2 _ n1 n2).mono ?_
        rintro e ws2 ⟨rfl, hs_, hb_ws2⟩
        have HBws2 := Lib.hid (HBws1.out.trans (hb_ws2.mono (Below.size HBws1.out)))
        replace FA1 := Lib.hid (FA1.out.belowS hb_ws2)
        have FA2 := Lib.hid hs_
        have zws2 := FA2.out.lt
        clear hs_ hb_ws2
        show K _ _
        refine hK.out _ _ (by exact HBws2.out) (fun hHeld => ?_)
        clear hK K
        try simp only [Act.put, List.getElem_toArray, List.getElem_cons_succ, List.getElem_cons_zero, List.setIfInBounds_toArray, List.set_cons_zero, List.set_cons_succ]
        refine wpAnyH_ready (rs := [11, 13]) (by kernel_rfl) (by simp) ?_
        refine AllReadyH.cons rfl (fun K hK => ?_) ?_
        · rw [if_pos (by rfl)]
          go_simp
          show K _ _
          refine hK.out _ _ (by exact (HBws2.out.alloc (Below.size HBws2.out) _)) (fun hHeld => ?_)
          clear hK K
          try simp only [Act.put, List.getElem_toArray, List.getElem_cons_succ, List.getElem_cons_zero, List.setIfInBounds_toArray, List.set_cons_zero, List.set_cons_succ]
          obtain ⟨wa3, hwn⟩ : ∃ wa3, wa3 = ws2.alloc (.cells #[.slice (some ⟨wd.heap.size, 0, none⟩) 32 32, .slice ad0 d0.length cap0, .slice (some ⟨ws1.heap.size, 0, none⟩) 32 32, .slice ad1 d1.length cap1] 46) := ⟨_, rfl⟩
          have FA3 := Lib.hid (show BoxAt wa3 (ws2.heap.size) [.slice (some ⟨wd.heap.size, 0, none⟩) 32 32, .slice ad0 d0.length cap0, .slice (some ⟨ws1.heap.size, 0, none⟩) 32 32, .slice ad1 d1.length cap1] 46 by rw [hwn]; exact BoxAt.newAt ws2 [.slice (some ⟨wd.heap.size, 0, none⟩) 32 32, .slice ad0 d0.length cap0, .slice (some ⟨ws1.heap.size, 0, none⟩) 32 32, .slice ad1 d1.length cap1] 46 rfl)
          replace FA1 := Lib.hid (show BoxAt wa3 (wd.heap.size) ((someL n 1).map fun c => Value.int .u8 c.toNat) 5 by rw [hwn]; exact FA1.out.alloc _)
          replace FA2 := Lib.hid (show BoxAt wa3 (ws1.heap.size) ((someL n 2).map fun c => Value.int .u8 c.toNat) 5 by rw [hwn]; exact FA2.out.alloc _)
          have HBwa3 := Lib.hid (show Below w7.heap.size w7 wa3 by rw [hwn]; exact HBws2.out.alloc (Below.size HBws2.out) _)
          rw [← hwn] at hHeld ⊢
          clear hwn
          have zwa3 := FA3.out.lt
          refine wpAnyH_take (i := 12) (v := .agg #[.int .i64 0, .int .i64 r, .slice none 0 0, .slice (some ⟨ws2.heap.size, 0, none⟩) 4 4]) rfl (by kernel_rfl) (by kernel_rfl) (by kernel_rfl) (fun _ _ _ h => h) (Or.inl ⟨by rfl, fun w hSw => ?_⟩) hHeld ?_
          · clear hSw; go_simp; all_goals (try first | rfl | omega)
          try simp only [Act.put, List.getElem_toArray, List.getElem_cons_succ, List.getElem_cons_zero, List.setIfInBounds_toArray, List.set_cons_zero, List.set_cons_succ]
          refine wpAnyH_ready (rs := [13]) (by kernel_rfl) (by simp) ?_
          refine AllReadyH.cons rfl (fun K hK => ?_) ?_
          · rw [if_pos (by rfl)]
            go_simp
            show K _ _
            refine hK.out _ _ (by exact (HBwa3.out.alloc (Below.size HBwa3.out) _)) (fun hHeld => ?_)
            clear hK K
            try simp only [Act.put, List.getElem_toArray, List.getElem_cons_succ, List.getElem_cons_zero, List.setIfInBounds_toArray, List.set_cons_zero, List.set_cons_succ]
            obtain ⟨wa4, hwn⟩ : ∃ wa4, wa4 = wa3.alloc (.cells #[.int .i64 0, .int .i64 0, .slice none 0 0, .slice none 0 0] 36) := ⟨_, rfl⟩
            have FA4 := Lib.hid (show BoxAt wa4 (wa3.heap.size) [.int .i64 0, .int .i64 0, .slice none 0 0, .slice none 0 0] 36 by rw [hwn]; exact BoxAt.newAt wa3 [.int .i64 0, .int .i64 0, .slice none 0 0, .slice none 0 0] 36 rfl)
            replace FA1 := Lib.hid (show BoxAt wa4 (wd.heap.size) ((someL n 1).map fun c => Value.int .u8 c.toNat) 5 by rw [hwn]; exact FA1.out.alloc _)
            replace FA2 := Lib.hid (show BoxAt wa4 (ws1.heap.size) ((someL n 2).map fun c => Value.int .u8 c.toNat) 5 by rw [hwn]; exact FA2.out.alloc _)
            replace FA3 := Lib.hid (show BoxAt wa4 (ws2.heap.size) [.slice (some ⟨wd.heap.size, 0, none⟩) 32 32, .slice ad0 d0.length cap0, .slice (some ⟨ws1.heap.size, 0, none⟩) 32 32, .slice ad1 d1.length cap1] 46 by rw [hwn]; exact FA3.out.alloc _)
            have HBwa4 := Lib.hid (show Below w7.heap.size w7 wa4 by rw [hwn]; exact HBwa3.out.alloc (Below.size HBwa3.out) _)
            rw [← hwn] at hHeld ⊢
            clear hwn
            have zwa4 := FA4.out.lt
            refine wpAnyH_ready (rs := [14]) (by kernel_rfl) (by simp) ?_
            refine AllReadyH.cons rfl (fun K hK => ?_) ?_
            · rw [if_pos (by rfl)]
              have q0 := FA4.out.cell 0 rfl
              have q1 := FA4.out.cell 1 rfl
              have q2 := FA4.out.cell 2 rfl
              have q3 := FA4.out.cell 3 rfl
              have qf0 := FA4.out.free 0
              have qf1 := FA4.out.free 1
              have qf2 := FA4.out.free 2
              have qf3 := FA4.out.free 3
              have qz := FA4.out.lt
              go_simp
              show K _ _
              refine hK.out _ _ (by exact ((((HBwa4.out.setCell (p := ⟨wa3.heap.size, 0, none⟩) (by simp; omega) (.int .i64 0)).setCell (p := ⟨wa3.heap.size, 1, none⟩) (by simp; omega) (.int .i64 r)).setCell (p := ⟨wa3.heap.size, 2, none⟩) (by simp; omega) (.slice none 0 0)).setCell (p := ⟨wa3.heap.size, 3, none⟩) (by simp; omega) (.slice (some ⟨ws2.heap.size, 0, none⟩) 4 4))) (fun hHeld => ?_)
              clear hK K
              try simp only [Act.put, List.getElem_toArray, List.getElem_cons_succ, List.getElem_cons_zero, List.setIfInBounds_toArray, List.set_cons_zero, List.set_cons_succ]
              refine wpAnyH_done (by kernel_rfl) ?_ _
              obtain ⟨wz, hwz⟩ : ∃ wz, wz = ((((wa4.setCell ⟨wa3.heap.size, 0, none⟩ (.int .i64 0)).setCell ⟨wa3.heap.size, 1, none⟩ (.int .i64 r)).setCell ⟨wa3.heap.size, 2, none⟩ (.slice none 0 0)).setCell ⟨wa3.heap.size, 3, none⟩ (.slice (some ⟨ws2.heap.size, 0, none⟩) 4 4)) := ⟨_, rfl⟩
              have HZ := Lib.hid (show BoxAt wz (wa3.heap.size) [.int .i64 0, .int .i64 r, .slice none 0 0, .slice (some ⟨ws2.heap.size, 0, none⟩) 4 4] 36 by rw [hwz]; exact ((((FA4.out.set 0 (.int .i64 0)).set 1 (.int .i64 r)).set 2 (.slice none 0 0)).set 3 (.slice (some ⟨ws2.heap.size, 0, none⟩) 4 4)))
              have HPz := Lib.hid (show BoxAt wz (ws2.heap.size) [.slice (some ⟨wd.heap.size, 0, none⟩) 32 32, .slice ad0 d0.length cap0, .slice (some ⟨ws1.heap.size, 0, none⟩) 32 32, .slice ad1 d1.length cap1] 46 by rw [hwz]; exact ((((FA3.out.setOther (p := ⟨wa3.heap.size, 0, none⟩) (by simp; omega) (.int .i64 0)).setOther (p := ⟨wa3.heap.size, 1, none⟩) (by simp; omega) (.int .i64 r)).setOther (p := ⟨wa3.heap.size, 2, none⟩) (by simp; omega) (.slice none 0 0)).setOther (p := ⟨wa3.heap.size, 3, none⟩) (by simp; omega) (.slice (some ⟨ws2.heap.size, 0, none⟩) 4 4)))
              have HAz := Lib.hid (show BoxAt wz (wd.heap.size) ((someL n 1).map fun c => Value.int .u8 c.toNat) 5 by rw [hwz]; exact ((((FA1.out.setOther (p := ⟨wa3.heap.size, 0, none⟩) (by simp; omega) (.int .i64 0)).setOther (p := ⟨wa3.heap.size, 1, none⟩) (by simp; omega) (.int .i64 r)).setOther (p := ⟨wa3.heap.size, 2, none⟩) (by simp; omega) (.slice none 0 0)).setOther (p := ⟨wa3.heap.size, 3, none⟩) (by simp; omega) (.slice (some ⟨ws2.heap.size, 0, none⟩) 4 4)))
              have HCz := Lib.hid (show BoxAt wz (ws1.heap.size) ((someL n 2).map fun c => Value.int .u8 c.toNat) 5 by rw [hwz]; exact ((((FA2.out.setOther (p := ⟨wa3.heap.size, 0, none⟩) (by simp; omega) (.int .i64 0)).setOther (p := ⟨wa3.heap.size, 1, none⟩) (by simp; omega) (.int .i64 r)).setOther (p := ⟨wa3.heap.size, 2, none⟩) (by simp; omega) (.slice none 0 0)).setOther (p := ⟨wa3.heap.size, 3, none⟩) (by simp; omega) (.slice (some ⟨ws2.heap.size, 0, none⟩) 4 4)))
              have HBz := Lib.hid (show Below w7.heap.size w7 wz by rw [hwz]; exact ((((HBwa4.out.setCell (p := ⟨wa3.heap.size, 0, none⟩) (by simp; omega) (.int .i64 0)).setCell (p := ⟨wa3.heap.size, 1, none⟩) (by simp; omega) (.int .i64 r)).setCell (p := ⟨wa3.heap.size, 2, none⟩) (by simp; omega) (.slice none 0 0)).setCell (p := ⟨wa3.heap.size, 3, none⟩) (by simp; omega) (.slice (some ⟨ws2.heap.size, 0, none⟩) 4 4)))
              go_wp2
              rw [← hwz]
              clear hwz
              go_meet
              exact ⟨wa3.heap.size, ws2.heap.size, rfl, HZ.out, rdBB_four HPz.out trivial (someL_rd HAz.out) (HD0.out.below HBz.out (fun _ h => h)) (someL_rd HCz.out) (HD1.out.below HBz.out (fun _ h => h)), HBz.out⟩
            exact AllReadyH.nil
          exact AllReadyH.nil
        refine AllReadyH.cons rfl (fun K hK => ?_) ?_
        · rw [if_pos (by rfl)]
          go_simp
          show K _ _
          refine hK.out _ _ (by exact (HBws2.out.alloc (Below.size HBws2.out) _)) (fun hHeld => ?_)
          clear hK K
          try simp only [Act.put, List.getElem_toArray, List.getElem_cons_succ, List.getElem_cons_zero, List.setIfInBounds_toArray, List.set_cons_zero, List.set_cons_succ]
          obtain ⟨wa3, hwn⟩ : ∃ wa3, wa3 = ws2.alloc (.cells #[.int .i64 0, .int .i64 0, .slice none 0 0, .slice none 0 0] 36) := ⟨_, rfl⟩
          have FA3 := Lib.hid (show BoxAt wa3 (ws2.heap.size) [.int .i64 0, .int .i64 0, .slice none 0 0, .slice none 0 0] 36 by rw [hwn]; exact BoxAt.newAt ws2 [.int .i64 0, .int .i64 0, .slice none 0 0, .slice none 0 0] 36 rfl)
          replace FA1 := Lib.hid (show BoxAt wa3 (wd.heap.size) ((someL n 1).map fun c => Value.int .u8 c.toNat) 5 by rw [hwn]; exact FA1.out.alloc _)
          replace FA2 := Lib.hid (show BoxAt wa3 (ws1.heap.size) ((someL n 2).map fun c => Value.int .u8 c.toNat) 5 by rw [hwn]; exact FA2.out.alloc _)
          have HBwa3 := Lib.hid (show Below w7.heap.size w7 wa3 by rw [hwn]; exact HBws2.out.alloc (Below.size HBws2.out) _)
          rw [← hwn] at hHeld ⊢
          clear hwn
          have zwa3 := FA3.out.lt
          refine wpAnyH_ready (rs := [11]) (by kernel_rfl) (by simp) ?_
          refine AllReadyH.cons rfl (fun K hK => ?_) ?_
          · rw [if_pos (by rfl)]
            go_simp
            show K _ _
            refine hK.out _ _ (by exact (HBwa3.out.alloc (Below.size HBwa3.out) _)) (fun hHeld => ?_)
            clear hK K
            try simp only [Act.put, List.getElem_toArray, List.getElem_cons_succ, List.getElem_cons_zero, List.setIfInBounds_toArray, List.set_cons_zero, List.set_cons_succ]
            obtain ⟨wa4, hwn⟩ : ∃ wa4, wa4 = wa3.alloc (.cells #[.slice (some ⟨wd.heap.size, 0, none⟩) 32 32, .slice ad0 d0.length cap0, .slice (some ⟨ws1.heap.size, 0, none⟩) 32 32, .slice ad1 d1.length cap1] 46) := ⟨_, rfl⟩
            have FA4 := Lib.hid (show BoxAt wa4 (wa3.heap.size) [.slice (some ⟨wd.heap.size, 0, none⟩) 32 32, .slice ad0 d0.length cap0, .slice (some ⟨ws1.heap.size, 0, none⟩) 32 32, .slice ad1 d1.length cap1] 46 by rw [hwn]; exact BoxAt.newAt wa3 [.slice (some ⟨wd.heap.size, 0, none⟩) 32 32, .slice ad0 d0.length cap0, .slice (some ⟨ws1.heap.size, 0, none⟩) 32 32, .slice ad1 d1.length cap1] 46 rfl)
            replace FA1 := Lib.hid (show BoxAt wa4 (wd.heap.size) ((someL n 1).map fun c => Value.int .u8 c.toNat) 5 by rw [hwn]; exact FA1.out.alloc _)
            replace FA2 := Lib.hid (show BoxAt wa4 (ws1.heap.size) ((someL n 2).map fun c => Value.int .u8 c.toNat) 5 by rw [hwn]; exact FA2.out.alloc _)
            replace FA3 := Lib.hid (show BoxAt wa4 (ws2.heap.size) [.int .i64 0, .int .i64 0, .slice none 0 0, .slice none 0 0] 36 by rw [hwn]; exact FA3.out.alloc _)
            have HBwa4 := Lib.hid (show Below w7.heap.size w7 wa4 by rw [hwn]; exact HBwa3.out.alloc (Below.size HBwa3.out) _)
            rw [← hwn] at hHeld ⊢
            clear hwn
            have zwa4 := FA4.out.lt
            refine wpAnyH_take (i := 12) (v := .agg #[.int .i64 0, .int .i64 r, .slice none 0 0, .slice (some ⟨wa3.heap.size, 0, none⟩) 4 4]) rfl (by kernel_rfl) (by kernel_rfl) (by kernel_rfl) (fun _ _ _ h => h) (Or.inl ⟨by rfl, fun w hSw => ?_⟩) hHeld ?_
            · clear hSw; go_simp; all_goals (try first | rfl | omega)
            try simp only [Act.put, List.getElem_toArray, List.getElem_cons_succ, List.getElem_cons_zero, List.setIfInBounds_toArray, List.set_cons_zero, List.set_cons_succ]
            refine wpAnyH_ready (rs := [14]) (by kernel_rfl) (by simp) ?_
            refine AllReadyH.cons rfl (fun K hK => ?_) ?_
            · rw [if_pos (by rfl)]
              have q0 := FA3.out.cell 0 rfl
              have q1 := FA3.out.cell 1 rfl
              have q2 := FA3.out.cell 2 rfl
              have q3 := FA3.out.cell 3 rfl
              have qf0 := FA3.out.free 0
              have qf1 := FA3.out.free 1
              have qf2 := FA3.out.free 2
              have qf3 := FA3.out.free 3
              have qz := FA3.out.lt
              go_simp
              show K _ _
              refine hK.out _ _ (by exact ((((HBwa4.out.setCell (p := ⟨ws2.heap.size, 0, none⟩) (by simp; omega) (.int .i64 0)).setCell (p := ⟨ws2.heap.size, 1, none⟩) (by simp; omega) (.int .i64 r)).setCell (p := ⟨ws2.heap.size, 2, none⟩) (by simp; omega) (.slice none 0 0)).setCell (p := ⟨ws2.heap.size, 3, none⟩) (by simp; omega) (.slice (some ⟨wa3.heap.size, 0, none⟩) 4 4))) (fun hHeld => ?_)
              clear hK K
              try simp only [Act.put, List.getElem_toArray, List.getElem_cons_succ, List.getElem_cons_zero, List.setIfInBounds_toArray, List.set_cons_zero, List.set_cons_succ]
              refine wpAnyH_done (by kernel_rfl) ?_ _
              obtain ⟨wz, hwz⟩ : ∃ wz, wz = ((((wa4.setCell ⟨ws2.heap.size, 0, none⟩ (.int .i64 0)).setCell ⟨ws2.heap.size, 1, none⟩ (.int .i64 r)).setCell ⟨ws2.heap.size, 2, none⟩ (.slice none 0 0)).setCell ⟨ws2.heap.size, 3, none⟩ (.slice (some ⟨wa3.heap.size, 0, none⟩) 4 4)) := ⟨_, rfl⟩
              have HZ := Lib.hid (show BoxAt wz (ws2.heap.size) [.int .i64 0, .int .i64 r, .slice none 0 0, .slice (some ⟨wa3.heap.size, 0, none⟩) 4 4] 36 by rw [hwz]; exact ((((FA3.out.set 0 (.int .i64 0)).set 1 (.int .i64 r)).set 2 (.slice none 0 0)).set 3 (.slice (some ⟨wa3.heap.size, 0, none⟩) 4 4)))
              have HPz := Lib.hid (show BoxAt wz (wa3.heap.size) [.slice (some ⟨wd.heap.size, 0, none⟩) 32 32, .slice ad0 d0.length cap0, .slice (some ⟨ws1.heap.size, 0, none⟩) 32 32, .slice ad1 d1.length cap1] 46 by rw [hwz]; exact ((((FA4.out.setOther (p := ⟨ws2.heap.size, 0, none⟩) (by simp; omega) (.int .i64 0)).setOther (p := ⟨ws2.heap.size, 1, none⟩) (by simp; omega) (.int .i64 r)).setOther (p := ⟨ws2.heap.size, 2, none⟩) (by simp; omega) (.slice none 0 0)).setOther (p := ⟨ws2.heap.size, 3, none⟩) (by simp; omega) (.slice (some ⟨wa3.heap.size, 0, none⟩) 4 4)))
              have HAz := Lib.hid (show BoxAt wz (wd.heap.size) ((someL n 1).map fun c => Value.int .u8 c.toNat) 5 by rw [hwz]; exact ((((FA1.out.setOther (p := ⟨ws2.heap.size, 0, none⟩) (by simp; omega) (.int .i64 0)).setOther (p := ⟨ws2.heap.size, 1, none⟩) (by simp; omega) (.int .i64 r)).setOther (p := ⟨ws2.heap.size, 2, none⟩) (by simp; omega) (.slice none 0 0)).setOther (p := ⟨ws2.heap.size, 3, none⟩) (by simp; omega) (.slice (some ⟨wa3.heap.size, 0, none⟩) 4 4)))
              have HCz := Lib.hid (show BoxAt wz (ws1.heap.size) ((someL n 2).map fun c => Value.int .u8 c.toNat) 5 by rw [hwz]; exact ((((FA2.out.setOther (p := ⟨ws2.heap.size, 0, none⟩) (by simp; omega) (.int .i64 0)).setOther (p := ⟨ws2.heap.size, 1, none⟩) (by simp; omega) (.int .i64 r)).setOther (p := ⟨ws2.heap.size, 2, none⟩) (by simp; omega) (.slice none 0 0)).setOther (p := ⟨ws2.heap.size, 3, none⟩) (by simp; omega) (.slice (some ⟨wa3.heap.size, 0, none⟩) 4 4)))
              have HBz := Lib.hid (show Below w7.heap.size w7 wz by rw [hwz]; exact ((((HBwa4.out.setCell (p := ⟨ws2.heap.size, 0, none⟩) (by simp; omega) (.int .i64 0)).setCell (p := ⟨ws2.heap.size, 1, none⟩) (by simp; omega) (.int .i64 r)).setCell (p := ⟨ws2.heap.size, 2, none⟩) (by simp; omega) (.slice none 0 0)).setCell (p := ⟨ws2.heap.size, 3, none⟩) (by simp; omega) (.slice (some ⟨wa3.heap.size, 0, none⟩) 4 4)))
              go_wp2
              rw [← hwz]
              clear hwz
              go_meet
              exact ⟨ws2.heap.size, wa3.heap.size, rfl, HZ.out, rdBB_four HPz.out trivial (someL_rd HAz.out) (HD0.out.below HBz.out (fun _ h => h)) (someL_rd HCz.out) (HD1.out.below HBz.out (fun _ h => h)), HBz.out⟩
            exact AllReadyH.nil
          exact AllReadyH.nil
        exact AllReadyH.nil
      refine AllReadyH.cons rfl (fun K hK => ?_) ?_
      · rw [if_pos (by rfl)]
        go_simp
        show K _ _
        refine hK.out _ _ (by exact (HBws1.out.alloc (Below.size HBws1.out) _)) (fun hHeld => ?_)
        clear hK K
        try simp only [Act.put, List.getElem_toArray, List.getElem_cons_succ, List.getElem_cons_zero, List.setIfInBounds_toArray, List.set_cons_zero, List.set_cons_succ]
        obtain ⟨wa2, hwn⟩ : ∃ wa2, wa2 = ws1.alloc (.cells #[.int .i64 0, .int .i64 0, .slice none 0 0, .slice none 0 0] 36) := ⟨_, rfl⟩
        have FA2 := Lib.hid (show BoxAt wa2 (ws1.heap.size) [.int .i64 0, .int .i64 0, .slice none 0 0, .slice none 0 0] 36 by rw [hwn]; exact BoxAt.newAt ws1 [.int .i64 0, .int .i64 0, .slice none 0 0, .slice none 0 0] 36 rfl)
        replace FA1 := Lib.hid (show BoxAt wa2 (wd.heap.size) ((someL n 1).map fun c => Value.int .u8 c.toNat) 5 by rw [hwn]; exact FA1.out.alloc _)
        have HBwa2 := Lib.hid (show Below w7.heap.size w7 wa2 by rw [hwn]; exact HBws1.out.alloc (Below.size HBws1.out) _)
        rw [← hwn] at hHeld ⊢
        clear hwn
        have zwa2 := FA2.out.lt
        refine wpAnyH_ready (rs := [7]) (by kernel_rfl) (by simp) ?_
        refine AllReadyH.cons rfl (fun K hK => ?_) ?_
        · rw [if_pos (by rfl)]
          go_simp
          go_at_call 50
          refine (some_any n 2 _ n1 n2).mono ?_
          rintro e ws2 ⟨rfl, hs_, hb_ws2⟩
          have HBws2 := Lib.hid (HBwa2.out.trans (hb_ws2.mono (Below.size HBwa2.out)))
          replace FA1 := Lib.hid (FA1.out.belowS hb_ws2)
          replace FA2 := Lib.hid (FA2.out.belowS hb_ws2)
          have FA3 := Lib.hid hs_
          have zws2 := FA3.out.lt
          clear hs_ hb_ws2
          show K _ _
          refine hK.out _ _ (by exact HBws2.out) (fun hHeld => ?_)
          clear hK K
          try simp only [Act.put, List.getElem_toArray, List.getElem_cons_succ, List.getElem_cons_zero, List.setIfInBounds_toArray, List.set_cons_zero, List.set_cons_succ]
          refine wpAnyH_ready (rs := [11]) (by kernel_rfl) (by simp) ?_
          refine AllReadyH.cons rfl (fun K hK => ?_) ?_
          · rw [if_pos (by rfl)]
            go_simp
            show K _ _
            refine hK.out _ _ (by exact (HBws2.out.alloc (Below.size HBws2.out) _)) (fun hHeld => ?_)
            clear hK K
            try simp only [Act.put, List.getElem_toArray, List.getElem_cons_succ, List.getElem_cons_zero, List.setIfInBounds_toArray, List.set_cons_zero, List.set_cons_succ]
            obtain ⟨wa4, hwn⟩ : ∃ wa4, wa4 = ws2.alloc (.cells #[.slice (some ⟨wd.heap.size, 0, none⟩) 32 32, .slice ad0 d0.length cap0, .slice (some ⟨wa2.heap.size, 0, none⟩) 32 32, .slice ad1 d1.length cap1] 46) := ⟨_, rfl⟩
            have FA4 := Lib.hid (show BoxAt wa4 (ws2.heap.size) [.slice (some ⟨wd.heap.size, 0, none⟩) 32 32, .slice ad0 d0.length cap0, .slice (some ⟨wa2.heap.size, 0, none⟩) 32 32, .slice ad1 d1.length cap1] 46 by rw [hwn]; exact BoxAt.newAt ws2 [.slice (some ⟨wd.heap.size, 0, none⟩) 32 32, .slice ad0 d0.length cap0, .slice (some ⟨wa2.heap.size, 0, none⟩) 32 32, .slice ad1 d1.length cap1] 46 rfl)
            replace FA1 := Lib.hid (show BoxAt wa4 (wd.heap.size) ((someL n 1).map fun c => Value.int .u8 c.toNat) 5 by rw [hwn]; exact FA1.out.alloc _)
            replace FA2 := Lib.hid (show BoxAt wa4 (ws1.heap.size) [.int .i64 0, .int .i64 0, .slice none 0 0, .slice none 0 0] 36 by rw [hwn]; exact FA2.out.alloc _)
            replace FA3 := Lib.hid (show BoxAt wa4 (wa2.heap.size) ((someL n 2).map fun c => Value.int .u8 c.toNat) 5 by rw [hwn]; exact FA3.out.alloc _)
            have HBwa4 := Lib.hid (show Below w7.heap.size w7 wa4 by rw [hwn]; exact HBws2.out.alloc (Below.size HBws2.out) _)
            rw [← hwn] at hHeld ⊢
            clear hwn
            have zwa4 := FA4.out.lt
            refine wpAnyH_take (i := 12) (v := .agg #[.int .i64 0, .int .i64 r, .slice none 0 0, .slice (some ⟨ws2.heap.size, 0, none⟩) 4 4]) rfl (by kernel_rfl) (by kernel_rfl) (by kernel_rfl) (fun _ _ _ h => h) (Or.inl ⟨by rfl, fun w hSw => ?_⟩) hHeld ?_
            · clear hSw; go_simp; all_goals (try first | rfl | omega)
            try simp only [Act.put, List.getElem_toArray, List.getElem_cons_succ, List.getElem_cons_zero, List.setIfInBounds_toArray, List.set_cons_zero, List.set_cons_succ]
            refine wpAnyH_ready (rs := [14]) (by kernel_rfl) (by simp) ?_
            refine AllReadyH.cons rfl (fun K hK => ?_) ?_
            · rw [if_pos (by rfl)]
              have q0 := FA2.out.cell 0 rfl
              have q1 := FA2.out.cell 1 rfl
              have q2 := FA2.out.cell 2 rfl
              have q3 := FA2.out.cell 3 rfl
              have qf0 := FA2.out.free 0
              have qf1 := FA2.out.free 1
              have qf2 := FA2.out.free 2
              have qf3 := FA2.out.free 3
              have qz := FA2.out.lt
              go_simp
              show K _ _
              refine hK.out _ _ (by exact ((((HBwa4.out.setCell (p := ⟨ws1.heap.size, 0, none⟩) (by simp; omega) (.int .i64 0)).setCell (p := ⟨ws1.heap.size, 1, none⟩) (by simp; omega) (.int .i64 r)).setCell (p := ⟨ws1.heap.size, 2, none⟩) (by simp; omega) (.slice none 0 0)).setCell (p := ⟨ws1.heap.size, 3, none⟩) (by simp; omega) (.slice (some ⟨ws2.heap.size, 0, none⟩) 4 4))) (fun hHeld => ?_)
              clear hK K
              try simp only [Act.put, List.getElem_toArray, List.getElem_cons_succ, List.getElem_cons_zero, List.setIfInBounds_toArray, List.set_cons_zero, List.set_cons_succ]
              refine wpAnyH_done (by kernel_rfl) ?_ _
              obtain ⟨wz, hwz⟩ : ∃ wz, wz = ((((wa4.setCell ⟨ws1.heap.size, 0, none⟩ (.int .i64 0)).setCell ⟨ws1.heap.size, 1, none⟩ (.int .i64 r)).setCell ⟨ws1.heap.size, 2, none⟩ (.slice none 0 0)).setCell ⟨ws1.heap.size, 3, none⟩ (.slice (some ⟨ws2.heap.size, 0, none⟩) 4 4)) := ⟨_, rfl⟩
              have HZ := Lib.hid (show BoxAt wz (ws1.heap.size) [.int .i64 0, .int .i64 r, .slice none 0 0, .slice (some ⟨ws2.heap.size, 0, none⟩) 4 4] 36 by rw [hwz]; exact ((((FA2.out.set 0 (.int .i64 0)).set 1 (.int .i64 r)).set 2 (.slice none 0 0)).set 3 (.slice (some ⟨ws2.heap.size, 0, none⟩) 4 4)))
              have HPz := Lib.hid (show BoxAt wz (ws2.heap.size) [.slice (some ⟨wd.heap.size, 0, none⟩) 32 32, .slice ad0 d0.length cap0, .slice (some ⟨wa2.heap.size, 0, none⟩) 32 32, .slice ad1 d1.length cap1] 46 by rw [hwz]; exact ((((FA4.out.setOther (p := ⟨ws1.heap.size, 0, none⟩) (by simp; omega) (.int .i64 0)).setOther (p := ⟨ws1.heap.size, 1, none⟩) (by simp; omega) (.int .i64 r)).setOther (p := ⟨ws1.heap.size, 2, none⟩) (by simp; omega) (.slice none 0 0)).setOther (p := ⟨ws1.heap.size, 3, none⟩) (by simp; omega) (.slice (some ⟨ws2.heap.size, 0, none⟩) 4 4)))
              have HAz := Lib.hid (show BoxAt wz (wd.heap.size) ((someL n 1).map fun c => Value.int .u8 c.toNat) 5 by rw [hwz]; exact ((((FA1.out.setOther (p := ⟨ws1.heap.size, 0, none⟩) (by simp; omega) (.int .i64 0)).setOther (p := ⟨ws1.heap.size, 1, none⟩) (by simp; omega) (.int .i64 r)).setOther (p := ⟨ws1.heap.size, 2, none⟩) (by simp; omega) (.slice none 0 0)).setOther (p := ⟨ws1.heap.size, 3, none⟩) (by simp; omega) (.slice (some ⟨ws2.heap.size, 0, none⟩) 4 4)))
              have HCz := Lib.hid (show BoxAt wz (wa2.heap.size) ((someL n 2).map fun c => Value.int .u8 c.toNat) 5 by rw [hwz]; exact ((((FA3.out.setOther (p := ⟨ws1.heap.size, 0, none⟩) (by simp; omega) (.int .i64 0)).setOther (p := ⟨ws1.heap.size, 1, none⟩) (by simp; omega) (.int .i64 r)).setOther (p := ⟨ws1.heap.size, 2, none⟩) (by simp; omega) (.slice none 0 0)).setOther (p := ⟨ws1.heap.size, 3, none⟩) (by simp; omega) (.slice (some ⟨ws2.heap.size, 0, none⟩) 4 4)))
              have HBz := Lib.hid (show Below w7.heap.size w7 wz by rw [hwz]; exact ((((HBwa4.out.setCell (p := ⟨ws1.heap.size, 0, none⟩) (by simp; omega) (.int .i64 0)).setCell (p := ⟨ws1.heap.size, 1, none⟩) (by simp; omega) (.int .i64 r)).setCell (p := ⟨ws1.heap.size, 2, none⟩) (by simp; omega) (.slice none 0 0)).setCell (p := ⟨ws1.heap.size, 3, none⟩) (by simp; omega) (.slice (some ⟨ws2.heap.size, 0, none⟩) 4 4)))
              go_wp2
              rw [← hwz]
              clear hwz
              go_meet
              exact ⟨ws1.heap.size, ws2.heap.size, rfl, HZ.out, rdBB_four HPz.out trivial (someL_rd HAz.out) (HD0.out.below HBz.out (fun _ h => h)) (someL_rd HCz.out) (HD1.out.below HBz.out (fun _ h => h)), HBz.out⟩
            exact AllReadyH.nil
          exact AllReadyH.nil
        exact AllReadyH.nil
      exact AllReadyH.nil
    refine AllReadyH.cons rfl (fun K hK => ?_) ?_
    · rw [if_pos (by rfl)]
      go_simp
      show K _ _
      refine hK.out _ _ (by exact (HBd.out.alloc (Below.size HBd.out) _)) (fun hHeld => ?_)
      clear hK K
      try simp only [Act.put, List.getElem_toArray, List.getElem_cons_succ, List.getElem_cons_zero, List.setIfInBounds_toArray, List.set_cons_zero, List.set_cons_succ]
      obtain ⟨wa1, hwn⟩ : ∃ wa1, wa1 = wd.alloc (.cells #[.int .i64 0, .int .i64 0, .slice none 0 0, .slice none 0 0] 36) := ⟨_, rfl⟩
      have FA1 := Lib.hid (show BoxAt wa1 (wd.heap.size) [.int .i64 0, .int .i64 0, .slice none 0 0, .slice none 0 0] 36 by rw [hwn]; exact BoxAt.newAt wd [.int .i64 0, .int .i64 0, .slice none 0 0, .slice none 0 0] 36 rfl)
      have HBwa1 := Lib.hid (show Below w7.heap.size w7 wa1 by rw [hwn]; exact HBd.out.alloc (Below.size HBd.out) _)
      rw [← hwn] at hHeld ⊢
      clear hwn
      have zwa1 := FA1.out.lt
      refine wpAnyH_ready (rs := [2]) (by kernel_rfl) (by simp) ?_
      refine AllReadyH.cons rfl (fun K hK => ?_) ?_
      · rw [if_pos (by rfl)]
        go_simp
        go_at_call 50
        refine (some_any n 1 _ n1 n2).mono ?_
        rintro e ws1 ⟨rfl, hs_, hb_ws1⟩
        have HBws1 := Lib.hid (HBwa1.out.trans (hb_ws1.mono (Below.size HBwa1.out)))
        replace FA1 := Lib.hid (FA1.out.belowS hb_ws1)
        have FA2 := Lib.hid hs_
        have zws1 := FA2.out.lt
        clear hs_ hb_ws1
        show K _ _
        refine hK.out _ _ (by exact HBws1.out) (fun hHeld => ?_)
        clear hK K
        try simp only [Act.put, List.getElem_toArray, List.getElem_cons_succ, List.getElem_cons_zero, List.setIfInBounds_toArray, List.set_cons_zero, List.set_cons_succ]
        refine wpAnyH_ready (rs := [7]) (by kernel_rfl) (by simp) ?_
        refine AllReadyH.cons rfl (fun K hK => ?_) ?_
        · rw [if_pos (by rfl)]
          go_simp
          go_at_call 50
          refine (some_any n 2 _ n1 n2).mono ?_
          rintro e ws2 ⟨rfl, hs_, hb_ws2⟩
          have HBws2 := Lib.hid (HBws1.out.trans (hb_ws2.mono (Below.size HBws1.out)))
          replace FA1 := Lib.hid (FA1.out.belowS hb_ws2)
          replace FA2 := Lib.hid (FA2.out.belowS hb_ws2)
          have FA3 := Lib.hid hs_
          have zws2 := FA3.out.lt
          clear hs_ hb_ws2
          show K _ _
          refine hK.out _ _ (by exact HBws2.out) (fun hHeld => ?_)
          clear hK K
          try simp only [Act.put, List.getElem_toArray, List.getElem_cons_succ, List.getElem_cons_zero, List.setIfInBounds_toArray, List.set_cons_zero, List.set_cons_succ]
          refine wpAnyH_ready (rs := [11]) (by kernel_rfl) (by simp) ?_
          refine AllReadyH.cons rfl (fun K hK => ?_) ?_
          · rw [if_pos (by rfl)]
            go_simp
            show K _ _
            refine hK.out _ _ (by exact (HBws2.out.alloc (Below.size HBws2.out) _)) (fun hHeld => ?_)
            clear hK K
            try simp only [Act.put, List.getElem_toArray, List.getElem_cons_succ, List.getElem_cons_zero, List.setIfInBounds_toArray, List.set_cons_zero, List.set_cons_succ]
            obtain ⟨wa4, hwn⟩ : ∃ wa4, wa4 = ws2.alloc (.cells #[.slice (some ⟨wa1.heap.size, 0, none⟩) 32 32, .slice ad0 d0.length cap0, .slice (some ⟨ws1.heap.size, 0, none⟩) 32 32, .slice ad1 d1.length cap1] 46) := ⟨_, rfl⟩
            have FA4 := Lib.hid (show BoxAt wa4 (ws2.heap.size) [.slice (some ⟨wa1.heap.size, 0, none⟩) 32 32, .slice ad0 d0.length cap0, .slice (some ⟨ws1.heap.size, 0, none⟩) 32 32, .slice ad1 d1.length cap1] 46 by rw [hwn]; exact BoxAt.newAt ws2 [.slice (some ⟨wa1.heap.size, 0, none⟩) 32 32, .slice ad0 d0.length cap0, .slice (some ⟨ws1.heap.size, 0, none⟩) 32 32, .slice ad1 d1.length cap1] 46 rfl)
            replace FA1 := Lib.hid (show BoxAt wa4 (wd.heap.size) [.int .i64 0, .int .i64 0, .slice none 0 0, .slice none 0 0] 36 by rw [hwn]; exact FA1.out.alloc _)
            replace FA2 := Lib.hid (show BoxAt wa4 (wa1.heap.size) ((someL n 1).map fun c => Value.int .u8 c.toNat) 5 by rw [hwn]; exact FA2.out.alloc _)
            replace FA3 := Lib.hid (show BoxAt wa4 (ws1.heap.size) ((someL n 2).map fun c => Value.int .u8 c.toNat) 5 by rw [hwn]; exact FA3.out.alloc _)
            have HBwa4 := Lib.hid (show Below w7.heap.size w7 wa4 by rw [hwn]; exact HBws2.out.alloc (Below.size HBws2.out) _)
            rw [← hwn] at hHeld ⊢
            clear hwn
            have zwa4 := FA4.out.lt
            refine wpAnyH_take (i := 12) (v := .agg #[.int .i64 0, .int .i64 r, .slice none 0 0, .slice (some ⟨ws2.heap.size, 0, none⟩) 4 4]) rfl (by kernel_rfl) (by kernel_rfl) (by kernel_rfl) (fun _ _ _ h => h) (Or.inl ⟨by rfl, fun w hSw => ?_⟩) hHeld ?_
            · clear hSw; go_simp; all_goals (try first | rfl | omega)
            try simp only [Act.put, List.getElem_toArray, List.getElem_cons_succ, List.getElem_cons_zero, List.setIfInBounds_toArray, List.set_cons_zero, List.set_cons_succ]
            refine wpAnyH_ready (rs := [14]) (by kernel_rfl) (by simp) ?_
            refine AllReadyH.cons rfl (fun K hK => ?_) ?_
            · rw [if_pos (by rfl)]
              have q0 := FA1.out.cell 0 rfl
              have q1 := FA1.out.cell 1 rfl
              have q2 := FA1.out.cell 2 rfl
              have q3 := FA1.out.cell 3 rfl
              have qf0 := FA1.out.free 0
              have qf1 := FA1.out.free 1
              have qf2 := FA1.out.free 2
              have qf3 := FA1.out.free 3
              have qz := FA1.out.lt
              go_simp
              show K _ _
              refine hK.out _ _ (by exact ((((HBwa4.out.setCell (p := ⟨wd.heap.size, 0, none⟩) (by simp; omega) (.int .i64 0)).setCell (p := ⟨wd.heap.size, 1, none⟩) (by simp; omega) (.int .i64 r)).setCell (p := ⟨wd.heap.size, 2, none⟩) (by simp; omega) (.slice none 0 0)).setCell (p := ⟨wd.heap.size, 3, none⟩) (by simp; omega) (.slice (some ⟨ws2.heap.size, 0, none⟩) 4 4))) (fun hHeld => ?_)
              clear hK K
              try simp only [Act.put, List.getElem_toArray, List.getElem_cons_succ, List.getElem_cons_zero, List.setIfInBounds_toArray, List.set_cons_zero, List.set_cons_succ]
              refine wpAnyH_done (by kernel_rfl) ?_ _
              obtain ⟨wz, hwz⟩ : ∃ wz, wz = ((((wa4.setCell ⟨wd.heap.size, 0, none⟩ (.int .i64 0)).setCell ⟨wd.heap.size, 1, none⟩ (.int .i64 r)).setCell ⟨wd.heap.size, 2, none⟩ (.slice none 0 0)).setCell ⟨wd.heap.size, 3, none⟩ (.slice (some ⟨ws2.heap.size, 0, none⟩) 4 4)) := ⟨_, rfl⟩
              have HZ := Lib.hid (show BoxAt wz (wd.heap.size) [.int .i64 0, .int .i64 r, .slice none 0 0, .slice (some ⟨ws2.heap.size, 0, none⟩) 4 4] 36 by rw [hwz]; exact ((((FA1.out.set 0 (.int .i64 0)).set 1 (.int .i64 r)).set 2 (.slice none 0 0)).set 3 (.slice (some ⟨ws2.heap.size, 0, none⟩) 4 4)))
              have HPz := Lib.hid (show BoxAt wz (ws2.heap.size) [.slice (some ⟨wa1.heap.size, 0, none⟩) 32 32, .slice ad0 d0.length cap0, .slice (some ⟨ws1.heap.size, 0, none⟩) 32 32, .slice ad1 d1.length cap1] 46 by rw [hwz]; exact ((((FA4.out.setOther (p := ⟨wd.heap.size, 0, none⟩) (by simp; omega) (.int .i64 0)).setOther (p := ⟨wd.heap.size, 1, none⟩) (by simp; omega) (.int .i64 r)).setOther (p := ⟨wd.heap.size, 2, none⟩) (by simp; omega) (.slice none 0 0)).setOther (p := ⟨wd.heap.size, 3, none⟩) (by simp; omega) (.slice (some ⟨ws2.heap.size, 0, none⟩) 4 4)))
              have HAz := Lib.hid (show BoxAt wz (wa1.heap.size) ((someL n 1).map fun c => Value.int .u8 c.toNat) 5 by rw [hwz]; exact ((((FA2.out.setOther (p := ⟨wd.heap.size, 0, none⟩) (by simp; omega) (.int .i64 0)).setOther (p := ⟨wd.heap.size, 1, none⟩) (by simp; omega) (.int .i64 r)).setOther (p := ⟨wd.heap.size, 2, none⟩) (by simp; omega) (.slice none 0 0)).setOther (p := ⟨wd.heap.size, 3, none⟩) (by simp; omega) (.slice (some ⟨ws2.heap.size, 0, none⟩) 4 4)))
              have HCz := Lib.hid (show BoxAt wz (ws1.heap.size) ((someL n 2).map fun c => Value.int .u8 c.toNat) 5 by rw [hwz]; exact ((((FA3.out.setOther (p := ⟨wd.heap.size, 0, none⟩) (by simp; omega) (.int .i64 0)).setOther (p := ⟨wd.heap.size, 1, none⟩) (by simp; omega) (.int .i64 r)).setOther (p := ⟨wd.heap.size, 2, none⟩) (by simp; omega) (.slice none 0 0)).setOther (p := ⟨wd.heap.size, 3, none⟩) (by simp; omega) (.slice (some ⟨ws2.heap.size, 0, none⟩) 4 4)))
              have HBz := Lib.hid (show Below w7.heap.size w7 wz by rw [hwz]; exact ((((HBwa4.out.setCell (p := ⟨wd.heap.size, 0, none⟩) (by simp; omega) (.int .i64 0)).setCell (p := ⟨wd.heap.size, 1, none⟩) (by simp; omega) (.int .i64 r)).setCell (p := ⟨wd.heap.size, 2, none⟩) (by simp; omega) (.slice none 0 0)).setCell (p := ⟨wd.heap.size, 3, none⟩) (by simp; omega) (.slice (some ⟨ws2.heap.size, 0, none⟩) 4 4)))
              go_wp2
              rw [← hwz]
              clear hwz
              go_meet
              exact ⟨wd.heap.size, ws2.heap.size, rfl, HZ.out, rdBB_four HPz.out trivial (someL_rd HAz.out) (HD0.out.below HBz.out (fun _ h => h)) (someL_rd HCz.out) (HD1.out.below HBz.out (fun _ h => h)), HBz.out⟩
            exact AllReadyH.nil
          exact AllReadyH.nil
        exact AllReadyH.nil
      exact AllReadyH.nil
    exact AllReadyH.nil
  case rest =>
  obtain ⟨H, Q, rfl, hH, hQ, hb8⟩ := hcut
  rename World => w8
  replace HX := Lib.hid (HX.out.belowS hb8)
  replace HD := Lib.hid (HD.out.below hb8 (fun _ h => h))
  replace HB := Lib.hid (HB.out.trans (hb8.mono HB.out.size))
  have HHd := Lib.hid hH
  have HQ := Lib.hid hQ
  clear hH hQ hb8 HD0 HD1 E0 E1 hbp HP HS
  have x0 := HX.out.cell 0 rfl
  have y0 := HHd.out.cell 0 rfl
  have y1 := HHd.out.cell 1 rfl
  have y2 := HHd.out.cell 2 rfl
  have y3 := HHd.out.cell 3 rfl
  have zx := HX.out.lt
  have zh := HHd.out.lt
  go_wp2_with fail
  refine (dagMissing_any (missH n r d0 d1) _ _ _ _ HD.out (RdS.nil _ (fun _ => True) _) HQ.out (HT.out.belowS HB.out) HOK.out).mono ?_
  rintro e w9 ⟨vm, rfl, hM, hb9⟩
  obtain ⟨adm, capm, rfl, -, hmm⟩ := hM.form
  unfold maxLen at hmm
  have HMM := Lib.hid (hM.mono (G' := fun _ => True) (fun _ _ => trivial))
  generalize misCode L (missH n r d0 d1) = q at *
  generalize misL L (missH n r d0 d1) = ML at *
  replace HB := Lib.hid (HB.out.trans (hb9.mono HB.out.size))
  clear hb9 hM x0 y0 y1 y2 y3 zx zh
  have HMN := Lib.hid (fun hn => HM.out (HDS.out ▸ HLL.out ▸ hn))
  clear HM
  go_upto_region 11 with fail
  by_cases hq : q = 0
  · have hqb : (q == 0) = true := by simp [hq]
    by_cases hl : ML.length = 2
    · obtain ⟨m0, m1, rfl⟩ : ∃ m0 m1, ML = [m0, m1] := by
        match ML, hl with
        | [a, b], _ => exact ⟨a, b, rfl⟩
      obtain ⟨bm, om, u0, hadm, -, f0, hn0⟩ := HMM.out.cellS 0 (by simp)
      obtain ⟨bm', om', u1, hadm', -, f1, hn1⟩ := HMM.out.cellS 1 (by simp)
      subst hadm
      simp only [Option.some.injEq, Addr.mk.injEq, and_true] at hadm'
      obtain ⟨rfl, rfl⟩ := hadm'
      simp only [List.getElem_cons_zero, List.getElem_cons_succ] at hn0 hn1
      obtain ⟨an0, cn0, rfl, -, -⟩ := hn0.form
      obtain ⟨an1, cn1, rfl, -, -⟩ := hn1.form
      rw [Nat.add_zero] at f0
      have HN0 := Lib.hid hn0
      have HN1 := Lib.hid hn1
      have M0 := Lib.hid f0
      have M1 := Lib.hid f1
      have hbm : bm < w9.heap.size := World.block_lt_of_cell? w9 _ f0
      have hl2 : [m0, m1].length = 2 := rfl
      rw [hl2]
      clear hl hl2 hn0 hn1 f0 f1 HMM hmm
      cases hE0 : decide (m0 = someL n 1) with
      | false =>
        have HE0 := Lib.hid hE0
        have HNO := Lib.hid (fun hn => by have := (HMN.out hn).2; simp at this; have h := HE0.out; rw [this.1] at h; simp at h : (crtSums (grownL l)).Nodup → False)
        clear hE0
        refine wp_region_held_drew (S := fun w' => Below w9.heap.size w9 w') (by kernel_rfl) (by exact (Below.refl _ _).drew) (fun hHeld => ?_)
        obtain ⟨wd, hwd⟩ : ∃ wd, wd = w9.drew := ⟨_, rfl⟩
        rw [← hwd] at hHeld ⊢
        have HBd := Lib.hid (show Below w9.heap.size w9 wd from hHeld)
        have zwd : w9.heap.size ≤ wd.heap.size := by rw [hwd]; exact Nat.le_refl _
        clear hwd
        refine wpAnyH_take (i := 0) (v := .int .i64 q) rfl (by kernel_rfl) (by kernel_rfl) (by kernel_rfl) (fun _ _ _ h => h) (Or.inl ⟨by rfl, fun w hSw => ?_⟩) hHeld ?_
        · clear hSw; go_simp; all_goals (try first | rfl | omega)
        try simp only [Act.put, List.getElem_toArray, List.getElem_cons_succ, List.getElem_cons_zero, List.setIfInBounds_toArray, List.set_cons_zero, List.set_cons_succ]
        refine wpAnyH_take (i := 1) (v := .bool true) rfl (by kernel_rfl) (by kernel_rfl) (by kernel_rfl) (fun _ _ _ h => h) (Or.inl ⟨by rfl, fun w hSw => ?_⟩) hHeld ?_
        · clear hSw; go_simp; all_goals (try first | rfl | omega)
        try simp only [Act.put, List.getElem_toArray, List.getElem_cons_succ, List.getElem_cons_zero, List.setIfInBounds_toArray, List.set_cons_zero, List.set_cons_succ]
        refine wpAnyH_take (i := 2) (v := .bool true) rfl (by kernel_rfl) (by kernel_rfl) (by kernel_rfl) (fun _ _ _ h => h) (Or.inl ⟨by rfl, fun w hSw => ?_⟩) hHeld ?_
        · clear hSw; go_simp; all_goals (try first | rfl | omega)
        try simp only [Act.put, List.getElem_toArray, List.getElem_cons_succ, List.getElem_cons_zero, List.setIfInBounds_toArray, List.set_cons_zero, List.set_cons_succ]
        refine wpAnyH_take (i := 3) (v := .slice (some ⟨bm, om, none⟩) 2 capm) rfl (by kernel_rfl) (by kernel_rfl) (by kernel_rfl) (fun _ _ _ h => h) (Or.inl ⟨by rfl, fun w hSw => ?_⟩) hHeld ?_
        · clear hSw; go_simp; all_goals (try first | rfl | omega)
        try simp only [Act.put, List.getElem_toArray, List.getElem_cons_succ, List.getElem_cons_zero, List.setIfInBounds_toArray, List.set_cons_zero, List.set_cons_succ]
        refine wpAnyH_take (i := 4) (v := .int .i64 (2 : Int)) rfl (by kernel_rfl) (by kernel_rfl) (by kernel_rfl) (fun _ _ _ h => h) (Or.inl ⟨by rfl, fun w hSw => ?_⟩) hHeld ?_
        · clear hSw; go_simp; all_goals (try first | rfl | omega)
        try simp only [Act.put, List.getElem_toArray, List.getElem_cons_succ, List.getElem_cons_zero, List.setIfInBounds_toArray, List.set_cons_zero, List.set_cons_succ]
        refine wpAnyH_take (i := 5) (v := .bool true) rfl (by kernel_rfl) (by kernel_rfl) (by kernel_rfl) (fun _ _ _ h => h) (Or.inl ⟨by rfl, fun w hSw => ?_⟩) hHeld ?_
        · clear hSw; go_simp; all_goals (try first | rfl | omega)
        try simp only [Act.put, List.getElem_toArray, List.getElem_cons_succ, List.getElem_cons_zero, List.setIfInBounds_toArray, List.set_cons_zero, List.set_cons_succ]
        refine wpAnyH_take (i := 6) (v := .bool true) rfl (by kernel_rfl) (by kernel_rfl) (by kernel_rfl) (fun _ _ _ h => h) (Or.inl ⟨by rfl, fun w hSw => ?_⟩) hHeld ?_
        · clear hSw; go_simp; all_goals (try first | rfl | omega)
        try simp only [Act.put, List.getElem_toArray, List.getElem_cons_succ, List.getElem_cons_zero, List.setIfInBounds_toArray, List.set_cons_zero, List.set_cons_succ]
        refine wpAnyH_take (i := 7) (v := .bool true) rfl (by kernel_rfl) (by kernel_rfl) (by kernel_rfl) (fun _ _ _ h => h) (Or.inl ⟨by rfl, fun w hSw => ?_⟩) hHeld ?_
        · clear hSw; go_simp; all_goals (try first | rfl | omega)
        try simp only [Act.put, List.getElem_toArray, List.getElem_cons_succ, List.getElem_cons_zero, List.setIfInBounds_toArray, List.set_cons_zero, List.set_cons_succ]
        refine wpAnyH_take (i := 8) (v := .slice (some ⟨bm, om, none⟩) 2 capm) rfl (by kernel_rfl) (by kernel_rfl) (by kernel_rfl) (fun _ _ _ h => h) (Or.inl ⟨by rfl, fun w hSw => ?_⟩) hHeld ?_
        · clear hSw; go_simp; all_goals (try first | rfl | omega)
        try simp only [Act.put, List.getElem_toArray, List.getElem_cons_succ, List.getElem_cons_zero, List.setIfInBounds_toArray, List.set_cons_zero, List.set_cons_succ]
        refine wpAnyH_take (i := 9) (v := .pointer (some ⟨bm, om, none⟩)) rfl (by kernel_rfl) (by kernel_rfl) (by kernel_rfl) (fun _ _ _ h => h) (Or.inl ⟨by rfl, fun w hSw => ?_⟩) hHeld ?_
        · clear hSw; go_simp; all_goals (try first | rfl | omega)
        try simp only [Act.put, List.getElem_toArray, List.getElem_cons_succ, List.getElem_cons_zero, List.setIfInBounds_toArray, List.set_cons_zero, List.set_cons_succ]
        refine wpAnyH_take (i := 10) (v := .slice an0 m0.length cn0) rfl (by kernel_rfl) (by kernel_rfl) (by kernel_rfl) (fun _ _ _ h => h) (Or.inl ⟨by rfl, fun w hSw => ?_⟩) hHeld ?_
        · have q0 := (hSw.cell (p := ⟨bm, om, none⟩) hbm).trans M0.out; clear hSw; go_simp
        try simp only [Act.put, List.getElem_toArray, List.getElem_cons_succ, List.getElem_cons_zero, List.setIfInBounds_toArray, List.set_cons_zero, List.set_cons_succ]
        refine wpAnyH_take (i := 11) (v := .int .i64 n) rfl (by kernel_rfl) (by kernel_rfl) (by kernel_rfl) (fun _ _ _ h => h) (Or.inl ⟨by rfl, fun w hSw => ?_⟩) hHeld ?_
        · clear hSw; go_simp; all_goals (try first | rfl | omega)
        try simp only [Act.put, List.getElem_toArray, List.getElem_cons_succ, List.getElem_cons_zero, List.setIfInBounds_toArray, List.set_cons_zero, List.set_cons_succ]
        refine wpAnyH_ready (rs := [12]) (by kernel_rfl) (by simp) ?_
        refine AllReadyH.cons rfl (fun K hK => ?_) ?_
        · rw [if_pos (by rfl)]
          go_simp
          go_at_call 50
          refine (some_any n 1 _ n1 n2).mono ?_
          rintro e ws1 ⟨rfl, hs_, hb_ws1⟩
          have HBws1 := Lib.hid (HBd.out.trans (hb_ws1.mono (Below.size HBd.out)))
          have FA1 := Lib.hid hs_
          have zws1 := FA1.out.lt
          clear hs_ hb_ws1
          show K _ _
          refine hK.out _ _ (by exact HBws1.out) (fun hHeld => ?_)
          clear hK K
          try simp only [Act.put, List.getElem_toArray, List.getElem_cons_succ, List.getElem_cons_zero, List.setIfInBounds_toArray, List.set_cons_zero, List.set_cons_succ]
          refine wpAnyH_ready (rs := [13]) (by kernel_rfl) (by simp) ?_
          refine AllReadyH.cons rfl (fun K hK => ?_) ?_
          · rw [if_pos (by rfl)]
            go_simp
            go_at_call 48
            refine (same_any _ _ _ (HN0.out.below HBws1.out (fun _ h => h)) (someL_rd FA1.out)).mono ?_
            rintro e w' ⟨rfl, rfl⟩
            rw [show decide (m0 = someL n 1) = false from HE0.out]
            show K _ _
            refine hK.out _ _ (by exact hHeld) (fun hHeld => ?_)
            clear hK K
            try simp only [Act.put, List.getElem_toArray, List.getElem_cons_succ, List.getElem_cons_zero, List.setIfInBounds_toArray, List.set_cons_zero, List.set_cons_succ]
            refine wpAnyH_take (i := 14) (v := .bool false) rfl (by kernel_rfl) (by kernel_rfl) (by kernel_rfl) (fun _ _ _ h => h) (Or.inl ⟨by rfl, fun w hSw => ?_⟩) hHeld ?_
            · clear hSw; go_simp; all_goals (try first | rfl | omega)
            try simp only [Act.put, List.getElem_toArray, List.getElem_cons_succ, List.getElem_cons_zero, List.setIfInBounds_toArray, List.set_cons_zero, List.set_cons_succ]
            refine wpAnyH_take (i := 15) (v := .bool false) rfl (by kernel_rfl) (by kernel_rfl) (by kernel_rfl) (fun _ _ _ h => h) (Or.inl ⟨by rfl, fun w hSw => ?_⟩) hHeld ?_
            · clear hSw; go_simp; all_goals (try first | rfl | omega)
            try simp only [Act.put, List.getElem_toArray, List.getElem_cons_succ, List.getElem_cons_zero, List.setIfInBounds_toArray, List.set_cons_zero, List.set_cons_succ]
            refine wpAnyH_take (i := 16) (v := undef) rfl (by kernel_rfl) (by kernel_rfl) (by kernel_rfl) (fun _ _ _ h => h) (Or.inr ⟨by rfl, rfl⟩) hHeld ?_
            try simp only [Act.put, List.getElem_toArray, List.getElem_cons_succ, List.getElem_cons_zero, List.setIfInBounds_toArray, List.set_cons_zero, List.set_cons_succ]
            refine wpAnyH_take (i := 17) (v := undef) rfl (by kernel_rfl) (by kernel_rfl) (by kernel_rfl) (fun _ _ _ h => h) (Or.inr ⟨by rfl, rfl⟩) hHeld ?_
            try simp only [Act.put, List.getElem_toArray, List.getElem_cons_succ, List.getElem_cons_zero, List.setIfInBounds_toArray, List.set_cons_zero, List.set_cons_succ]
            refine wpAnyH_take (i := 18) (v := undef) rfl (by kernel_rfl) (by kernel_rfl) (by kernel_rfl) (fun _ _ _ h => h) (Or.inr ⟨by rfl, rfl⟩) hHeld ?_
            try simp only [Act.put, List.getElem_toArray, List.getElem_cons_succ, List.getElem_cons_zero, List.setIfInBounds_toArray, List.set_cons_zero, List.set_cons_succ]
            refine wpAnyH_take (i := 19) (v := undef) rfl (by kernel_rfl) (by kernel_rfl) (by kernel_rfl) (fun _ _ _ h => h) (Or.inr ⟨by rfl, rfl⟩) hHeld ?_
            try simp only [Act.put, List.getElem_toArray, List.getElem_cons_succ, List.getElem_cons_zero, List.setIfInBounds_toArray, List.set_cons_zero, List.set_cons_succ]
            refine wpAnyH_take (i := 20) (v := undef) rfl (by kernel_rfl) (by kernel_rfl) (by kernel_rfl) (fun _ _ _ h => h) (Or.inr ⟨by rfl, rfl⟩) hHeld ?_
            try simp only [Act.put, List.getElem_toArray, List.getElem_cons_succ, List.getElem_cons_zero, List.setIfInBounds_toArray, List.set_cons_zero, List.set_cons_succ]
            refine wpAnyH_take (i := 21) (v := undef) rfl (by kernel_rfl) (by kernel_rfl) (by kernel_rfl) (fun _ _ _ h => h) (Or.inr ⟨by rfl, rfl⟩) hHeld ?_
            try simp only [Act.put, List.getElem_toArray, List.getElem_cons_succ, List.getElem_cons_zero, List.setIfInBounds_toArray, List.set_cons_zero, List.set_cons_succ]
            refine wpAnyH_take (i := 22) (v := .bool false) rfl (by kernel_rfl) (by kernel_rfl) (by kernel_rfl) (fun _ _ _ h => h) (Or.inl ⟨by rfl, fun w hSw => ?_⟩) hHeld ?_
            · clear hSw; go_simp; all_goals (try first | rfl | omega)
            try simp only [Act.put, List.getElem_toArray, List.getElem_cons_succ, List.getElem_cons_zero, List.setIfInBounds_toArray, List.set_cons_zero, List.set_cons_succ]
            refine wpAnyH_take (i := 23) (v := .bool false) rfl (by kernel_rfl) (by kernel_rfl) (by kernel_rfl) (fun _ _ _ h => h) (Or.inl ⟨by rfl, fun w hSw => ?_⟩) hHeld ?_
            · clear hSw; go_simp; all_goals (try first | rfl | omega)
            try simp only [Act.put, List.getElem_toArray, List.getElem_cons_succ, List.getElem_cons_zero, List.setIfInBounds_toArray, List.set_cons_zero, List.set_cons_succ]
            refine wpAnyH_done (by kernel_rfl) ?_ _
            have HBE := Lib.hid (HB.out.trans (HBws1.out.mono HB.out.size))
            go_wp2
            go_ret
            exact ⟨false, rfl, fun hn => (HNO.out hn).elim, HBE.out⟩
          exact AllReadyH.nil
        exact AllReadyH.nil
      | true =>
        have HE0 := Lib.hid hE0
        clear hE0
        cases hE1 : decide (m1 = someL n 2) with
        | false =>
          have HE1 := Lib.hid hE1
          have HNO := Lib.hid (fun hn => by have := (HMN.out hn).2; simp at this; have h := HE1.out; rw [this.2] at h; simp at h : (crtSums (grownL l)).Nodup → False)
          clear hE1
          refine wp_region_held_drew (S := fun w' => Below w9.heap.size w9 w') (by kernel_rfl) (by exact (Below.refl _ _).drew) (fun hHeld => ?_)
          obtain ⟨wd, hwd⟩ : ∃ wd, wd = w9.drew := ⟨_, rfl⟩
          rw [← hwd] at hHeld ⊢
          have HBd := Lib.hid (show Below w9.heap.size w9 wd from hHeld)
          have zwd : w9.heap.size ≤ wd.heap.size := by rw [hwd]; exact Nat.le_refl _
          clear hwd
          refine wpAnyH_take (i := 0) (v := .int .i64 q) rfl (by kernel_rfl) (by kernel_rfl) (by kernel_rfl) (fun _ _ _ h => h) (Or.inl ⟨by rfl, fun w hSw => ?_⟩) hHeld ?_
          · clear hSw; go_simp; all_goals (try first | rfl | omega)
          try simp only [Act.put, List.getElem_toArray, List.getElem_cons_succ, List.getElem_cons_zero, List.setIfInBounds_toArray, List.set_cons_zero, List.set_cons_succ]
          refine wpAnyH_take (i := 1) (v := .bool true) rfl (by kernel_rfl) (by kernel_rfl) (by kernel_rfl) (fun _ _ _ h => h) (Or.inl ⟨by rfl, fun w hSw => ?_⟩) hHeld ?_
          · clear hSw; go_simp; all_goals (try first | rfl | omega)
          try simp only [Act.put, List.getElem_toArray, List.getElem_cons_succ, List.getElem_cons_zero, List.setIfInBounds_toArray, List.set_cons_zero, List.set_cons_succ]
          refine wpAnyH_take (i := 2) (v := .bool true) rfl (by kernel_rfl) (by kernel_rfl) (by kernel_rfl) (fun _ _ _ h => h) (Or.inl ⟨by rfl, fun w hSw => ?_⟩) hHeld ?_
          · clear hSw; go_simp; all_goals (try first | rfl | omega)
          try simp only [Act.put, List.getElem_toArray, List.getElem_cons_succ, List.getElem_cons_zero, List.setIfInBounds_toArray, List.set_cons_zero, List.set_cons_succ]
          refine wpAnyH_take (i := 3) (v := .slice (some ⟨bm, om, none⟩) 2 capm) rfl (by kernel_rfl) (by kernel_rfl) (by kernel_rfl) (fun _ _ _ h => h) (Or.inl ⟨by rfl, fun w hSw => ?_⟩) hHeld ?_
          · clear hSw; go_simp; all_goals (try first | rfl | omega)
          try simp only [Act.put, List.getElem_toArray, List.getElem_cons_succ, List.getElem_cons_zero, List.setIfInBounds_toArray, List.set_cons_zero, List.set_cons_succ]
          refine wpAnyH_take (i := 4) (v := .int .i64 (2 : Int)) rfl (by kernel_rfl) (by kernel_rfl) (by kernel_rfl) (fun _ _ _ h => h) (Or.inl ⟨by rfl, fun w hSw => ?_⟩) hHeld ?_
          · clear hSw; go_simp; all_goals (try first | rfl | omega)
          try simp only [Act.put, List.getElem_toArray, List.getElem_cons_succ, List.getElem_cons_zero, List.setIfInBounds_toArray, List.set_cons_zero, List.set_cons_succ]
          refine wpAnyH_take (i := 5) (v := .bool true) rfl (by kernel_rfl) (by kernel_rfl) (by kernel_rfl) (fun _ _ _ h => h) (Or.inl ⟨by rfl, fun w hSw => ?_⟩) hHeld ?_
          · clear hSw; go_simp; all_goals (try first | rfl | omega)
          try simp only [Act.put, List.getElem_toArray, List.getElem_cons_succ, List.getElem_cons_zero, List.setIfInBounds_toArray, List.set_cons_zero, List.set_cons_succ]
          refine wpAnyH_take (i := 6) (v := .bool true) rfl (by kernel_rfl) (by kernel_rfl) (by kernel_rfl) (fun _ _ _ h => h) (Or.inl ⟨by rfl, fun w hSw => ?_⟩) hHeld ?_
          · clear hSw; go_simp; all_goals (try first | rfl | omega)
          try simp only [Act.put, List.getElem_toArray, List.getElem_cons_succ, List.getElem_cons_zero, List.setIfInBounds_toArray, List.set_cons_zero, List.set_cons_succ]
          refine wpAnyH_take (i := 7) (v := .bool true) rfl (by kernel_rfl) (by kernel_rfl) (by kernel_rfl) (fun _ _ _ h => h) (Or.inl ⟨by rfl, fun w hSw => ?_⟩) hHeld ?_
          · clear hSw; go_simp; all_goals (try first | rfl | omega)
          try simp only [Act.put, List.getElem_toArray, List.getElem_cons_succ, List.getElem_cons_zero, List.setIfInBounds_toArray, List.set_cons_zero, List.set_cons_succ]
          refine wpAnyH_take (i := 8) (v := .slice (some ⟨bm, om, none⟩) 2 capm) rfl (by kernel_rfl) (by kernel_rfl) (by kernel_rfl) (fun _ _ _ h => h) (Or.inl ⟨by rfl, fun w hSw => ?_⟩) hHeld ?_
          · clear hSw; go_simp; all_goals (try first | rfl | omega)
          try simp only [Act.put, List.getElem_toArray, List.getElem_cons_succ, List.getElem_cons_zero, List.setIfInBounds_toArray, List.set_cons_zero, List.set_cons_succ]
          refine wpAnyH_take (i := 9) (v := .pointer (some ⟨bm, om, none⟩)) rfl (by kernel_rfl) (by kernel_rfl) (by kernel_rfl) (fun _ _ _ h => h) (Or.inl ⟨by rfl, fun w hSw => ?_⟩) hHeld ?_
          · clear hSw; go_simp; all_goals (try first | rfl | omega)
          try simp only [Act.put, List.getElem_toArray, List.getElem_cons_succ, List.getElem_cons_zero, List.setIfInBounds_toArray, List.set_cons_zero, List.set_cons_succ]
          refine wpAnyH_take (i := 10) (v := .slice an0 m0.length cn0) rfl (by kernel_rfl) (by kernel_rfl) (by kernel_rfl) (fun _ _ _ h => h) (Or.inl ⟨by rfl, fun w hSw => ?_⟩) hHeld ?_
          · have q0 := (hSw.cell (p := ⟨bm, om, none⟩) hbm).trans M0.out; clear hSw; go_simp
          try simp only [Act.put, List.getElem_toArray, List.getElem_cons_succ, List.getElem_cons_zero, List.setIfInBounds_toArray, List.set_cons_zero, List.set_cons_succ]
          refine wpAnyH_take (i := 11) (v := .int .i64 n) rfl (by kernel_rfl) (by kernel_rfl) (by kernel_rfl) (fun _ _ _ h => h) (Or.inl ⟨by rfl, fun w hSw => ?_⟩) hHeld ?_
          · clear hSw; go_simp; all_goals (try first | rfl | omega)
          try simp only [Act.put, List.getElem_toArray, List.getElem_cons_succ, List.getElem_cons_zero, List.setIfInBounds_toArray, List.set_cons_zero, List.set_cons_succ]
          refine wpAnyH_ready (rs := [12]) (by kernel_rfl) (by simp) ?_
          refine AllReadyH.cons rfl (fun K hK => ?_) ?_
          · rw [if_pos (by rfl)]
            go_simp
            go_at_call 50
            refine (some_any n 1 _ n1 n2).mono ?_
            rintro e ws1 ⟨rfl, hs_, hb_ws1⟩
            have HBws1 := Lib.hid (HBd.out.trans (hb_ws1.mono (Below.size HBd.out)))
            have FA1 := Lib.hid hs_
            have zws1 := FA1.out.lt
            clear hs_ hb_ws1
            show K _ _
            refine hK.out _ _ (by exact HBws1.out) (fun hHeld => ?_)
            clear hK K
            try simp only [Act.put, List.getElem_toArray, List.getElem_cons_succ, List.getElem_cons_zero, List.setIfInBounds_toArray, List.set_cons_zero, List.set_cons_succ]
            refine wpAnyH_ready (rs := [13]) (by kernel_rfl) (by simp) ?_
            refine AllReadyH.cons rfl (fun K hK => ?_) ?_
            · rw [if_pos (by rfl)]
              go_simp
              go_at_call 48
              refine (same_any _ _ _ (HN0.out.below HBws1.out (fun _ h => h)) (someL_rd FA1.out)).mono ?_
              rintro e w' ⟨rfl, rfl⟩
              rw [show decide (m0 = someL n 1) = true from HE0.out]
              show K _ _
              refine hK.out _ _ (by exact hHeld) (fun hHeld => ?_)
              clear hK K
              try simp only [Act.put, List.getElem_toArray, List.getElem_cons_succ, List.getElem_cons_zero, List.setIfInBounds_toArray, List.set_cons_zero, List.set_cons_succ]
              refine wpAnyH_take (i := 14) (v := .bool true) rfl (by kernel_rfl) (by kernel_rfl) (by kernel_rfl) (fun _ _ _ h => h) (Or.inl ⟨by rfl, fun w hSw => ?_⟩) hHeld ?_
              · clear hSw; go_simp; all_goals (try first | rfl | omega)
              try simp only [Act.put, List.getElem_toArray, List.getElem_cons_succ, List.getElem_cons_zero, List.setIfInBounds_toArray, List.set_cons_zero, List.set_cons_succ]
              refine wpAnyH_take (i := 15) (v := .bool true) rfl (by kernel_rfl) (by kernel_rfl) (by kernel_rfl) (fun _ _ _ h => h) (Or.inl ⟨by rfl, fun w hSw => ?_⟩) hHeld ?_
              · clear hSw; go_simp; all_goals (try first | rfl | omega)
              try simp only [Act.put, List.getElem_toArray, List.getElem_cons_succ, List.getElem_cons_zero, List.setIfInBounds_toArray, List.set_cons_zero, List.set_cons_succ]
              refine wpAnyH_take (i := 16) (v := .slice (some ⟨bm, om, none⟩) 2 capm) rfl (by kernel_rfl) (by kernel_rfl) (by kernel_rfl) (fun _ _ _ h => h) (Or.inl ⟨by rfl, fun w hSw => ?_⟩) hHeld ?_
              · clear hSw; go_simp; all_goals (try first | rfl | omega)
              try simp only [Act.put, List.getElem_toArray, List.getElem_cons_succ, List.getElem_cons_zero, List.setIfInBounds_toArray, List.set_cons_zero, List.set_cons_succ]
              refine wpAnyH_take (i := 17) (v := .pointer (some ⟨bm, om + 1, none⟩)) rfl (by kernel_rfl) (by kernel_rfl) (by kernel_rfl) (fun _ _ _ h => h) (Or.inl ⟨by rfl, fun w hSw => ?_⟩) hHeld ?_
              · clear hSw; go_simp; all_goals (try first | rfl | omega)
              try simp only [Act.put, List.getElem_toArray, List.getElem_cons_succ, List.getElem_cons_zero, List.setIfInBounds_toArray, List.set_cons_zero, List.set_cons_succ]
              refine wpAnyH_take (i := 18) (v := .slice an1 m1.length cn1) rfl (by kernel_rfl) (by kernel_rfl) (by kernel_rfl) (fun _ _ _ h => h) (Or.inl ⟨by rfl, fun w hSw => ?_⟩) hHeld ?_
              · have q0 := (hSw.cell (p := ⟨bm, om + 1, none⟩) hbm).trans M1.out; clear hSw; go_simp
              try simp only [Act.put, List.getElem_toArray, List.getElem_cons_succ, List.getElem_cons_zero, List.setIfInBounds_toArray, List.set_cons_zero, List.set_cons_succ]
              refine wpAnyH_take (i := 19) (v := .int .i64 n) rfl (by kernel_rfl) (by kernel_rfl) (by kernel_rfl) (fun _ _ _ h => h) (Or.inl ⟨by rfl, fun w hSw => ?_⟩) hHeld ?_
              · clear hSw; go_simp; all_goals (try first | rfl | omega)
              try simp only [Act.put, List.getElem_toArray, List.getElem_cons_succ, List.getElem_cons_zero, List.setIfInBounds_toArray, List.set_cons_zero, List.set_cons_succ]
              refine wpAnyH_ready (rs := [20]) (by kernel_rfl) (by simp) ?_
              refine AllReadyH.cons rfl (fun K hK => ?_) ?_
              · rw [if_pos (by rfl)]
                go_simp
                go_at_call 50
                refine (some_any n 2 _ n1 n2).mono ?_
                rintro e ws2 ⟨rfl, hs_, hb_ws2⟩
                have HBws2 := Lib.hid (HBws1.out.trans (hb_ws2.mono (Below.size HBws1.out)))
                replace FA1 := Lib.hid (FA1.out.belowS hb_ws2)
                have FA2 := Lib.hid hs_
                have zws2 := FA2.out.lt
                clear hs_ hb_ws2
                show K _ _
                refine hK.out _ _ (by exact HBws2.out) (fun hHeld => ?_)
                clear hK K
                try simp only [Act.put, List.getElem_toArray, List.getElem_cons_succ, List.getElem_cons_zero, List.setIfInBounds_toArray, List.set_cons_zero, List.set_cons_succ]
                refine wpAnyH_ready (rs := [21]) (by kernel_rfl) (by simp) ?_
                refine AllReadyH.cons rfl (fun K hK => ?_) ?_
                · rw [if_pos (by rfl)]
                  go_simp
                  go_at_call 48
                  refine (same_any _ _ _ (HN1.out.below HBws2.out (fun _ h => h)) (someL_rd FA2.out)).mono ?_
                  rintro e w' ⟨rfl, rfl⟩
                  rw [show decide (m1 = someL n 2) = false from HE1.out]
                  show K _ _
                  refine hK.out _ _ (by exact hHeld) (fun hHeld => ?_)
                  clear hK K
                  try simp only [Act.put, List.getElem_toArray, List.getElem_cons_succ, List.getElem_cons_zero, List.setIfInBounds_toArray, List.set_cons_zero, List.set_cons_succ]
                  refine wpAnyH_take (i := 22) (v := .bool false) rfl (by kernel_rfl) (by kernel_rfl) (by kernel_rfl) (fun _ _ _ h => h) (Or.inl ⟨by rfl, fun w hSw => ?_⟩) hHeld ?_
                  · clear hSw; go_simp; all_goals (try first | rfl | omega)
                  try simp only [Act.put, List.getElem_toArray, List.getElem_cons_succ, List.getElem_cons_zero, List.setIfInBounds_toArray, List.set_cons_zero, List.set_cons_succ]
                  refine wpAnyH_take (i := 23) (v := .bool false) rfl (by kernel_rfl) (by kernel_rfl) (by kernel_rfl) (fun _ _ _ h => h) (Or.inl ⟨by rfl, fun w hSw => ?_⟩) hHeld ?_
                  · clear hSw; go_simp; all_goals (try first | rfl | omega)
                  try simp only [Act.put, List.getElem_toArray, List.getElem_cons_succ, List.getElem_cons_zero, List.setIfInBounds_toArray, List.set_cons_zero, List.set_cons_succ]
                  refine wpAnyH_done (by kernel_rfl) ?_ _
                  have HBE := Lib.hid (HB.out.trans (HBws2.out.mono HB.out.size))
                  go_wp2
                  go_ret
                  exact ⟨false, rfl, fun hn => (HNO.out hn).elim, HBE.out⟩
                exact AllReadyH.nil
              exact AllReadyH.nil
            exact AllReadyH.nil
          exact AllReadyH.nil
        | true =>
          have HE1 := Lib.hid hE1
          clear hE1
          refine wp_region_held_drew (S := fun w' => Below w9.heap.size w9 w') (by kernel_rfl) (by exact (Below.refl _ _).drew) (fun hHeld => ?_)
          obtain ⟨wd, hwd⟩ : ∃ wd, wd = w9.drew := ⟨_, rfl⟩
          rw [← hwd] at hHeld ⊢
          have HBd := Lib.hid (show Below w9.heap.size w9 wd from hHeld)
          have zwd : w9.heap.size ≤ wd.heap.size := by rw [hwd]; exact Nat.le_refl _
          clear hwd
          refine wpAnyH_take (i := 0) (v := .int .i64 q) rfl (by kernel_rfl) (by kernel_rfl) (by kernel_rfl) (fun _ _ _ h => h) (Or.inl ⟨by rfl, fun w hSw => ?_⟩) hHeld ?_
          · clear hSw; go_simp; all_goals (try first | rfl | omega)
          try simp only [Act.put, List.getElem_toArray, List.getElem_cons_succ, List.getElem_cons_zero, List.setIfInBounds_toArray, List.set_cons_zero, List.set_cons_succ]
          refine wpAnyH_take (i := 1) (v := .bool true) rfl (by kernel_rfl) (by kernel_rfl) (by kernel_rfl) (fun _ _ _ h => h) (Or.inl ⟨by rfl, fun w hSw => ?_⟩) hHeld ?_
          · clear hSw; go_simp; all_goals (try first | rfl | omega)
          try simp only [Act.put, List.getElem_toArray, List.getElem_cons_succ, List.getElem_cons_zero, List.setIfInBounds_toArray, List.set_cons_zero, List.set_cons_succ]
          refine wpAnyH_take (i := 2) (v := .bool true) rfl (by kernel_rfl) (by kernel_rfl) (by kernel_rfl) (fun _ _ _ h => h) (Or.inl ⟨by rfl, fun w hSw => ?_⟩) hHeld ?_
          · clear hSw; go_simp; all_goals (try first | rfl | omega)
          try simp only [Act.put, List.getElem_toArray, List.getElem_cons_succ, List.getElem_cons_zero, List.setIfInBounds_toArray, List.set_cons_zero, List.set_cons_succ]
          refine wpAnyH_take (i := 3) (v := .slice (some ⟨bm, om, none⟩) 2 capm) rfl (by kernel_rfl) (by kernel_rfl) (by kernel_rfl) (fun _ _ _ h => h) (Or.inl ⟨by rfl, fun w hSw => ?_⟩) hHeld ?_
          · clear hSw; go_simp; all_goals (try first | rfl | omega)
          try simp only [Act.put, List.getElem_toArray, List.getElem_cons_succ, List.getElem_cons_zero, List.setIfInBounds_toArray, List.set_cons_zero, List.set_cons_succ]
          refine wpAnyH_take (i := 4) (v := .int .i64 (2 : Int)) rfl (by kernel_rfl) (by kernel_rfl) (by kernel_rfl) (fun _ _ _ h => h) (Or.inl ⟨by rfl, fun w hSw => ?_⟩) hHeld ?_
          · clear hSw; go_simp; all_goals (try first | rfl | omega)
          try simp only [Act.put, List.getElem_toArray, List.getElem_cons_succ, List.getElem_cons_zero, List.setIfInBounds_toArray, List.set_cons_zero, List.set_cons_succ]
          refine wpAnyH_take (i := 5) (v := .bool true) rfl (by kernel_rfl) (by kernel_rfl) (by kernel_rfl) (fun _ _ _ h => h) (Or.inl ⟨by rfl, fun w hSw => ?_⟩) hHeld ?_
          · clear hSw; go_simp; all_goals (try first | rfl | omega)
          try simp only [Act.put, List.getElem_toArray, List.getElem_cons_succ, List.getElem_cons_zero, List.setIfInBounds_toArray, List.set_cons_zero, List.set_cons_succ]
          refine wpAnyH_take (i := 6) (v := .bool true) rfl (by kernel_rfl) (by kernel_rfl) (by kernel_rfl) (fun _ _ _ h => h) (Or.inl ⟨by rfl, fun w hSw => ?_⟩) hHeld ?_
          · clear hSw; go_simp; all_goals (try first | rfl | omega)
          try simp only [Act.put, List.getElem_toArray, List.getElem_cons_succ, List.getElem_cons_zero, List.setIfInBounds_toArray, List.set_cons_zero, List.set_cons_succ]
          refine wpAnyH_take (i := 7) (v := .bool true) rfl (by kernel_rfl) (by kernel_rfl) (by kernel_rfl) (fun _ _ _ h => h) (Or.inl ⟨by rfl, fun w hSw => ?_⟩) hHeld ?_
          · clear hSw; go_simp; all_goals (try first | rfl | omega)
          try simp only [Act.put, List.getElem_toArray, List.getElem_cons_succ, List.getElem_cons_zero, List.setIfInBounds_toArray, List.set_cons_zero, List.set_cons_succ]
          refine wpAnyH_take (i := 8) (v := .slice (some ⟨bm, om, none⟩) 2 capm) rfl (by kernel_rfl) (by kernel_rfl) (by kernel_rfl) (fun _ _ _ h => h) (Or.inl ⟨by rfl, fun w hSw => ?_⟩) hHeld ?_
          · clear hSw; go_simp; all_goals (try first | rfl | omega)
          try simp only [Act.put, List.getElem_toArray, List.getElem_cons_succ, List.getElem_cons_zero, List.setIfInBounds_toArray, List.set_cons_zero, List.set_cons_succ]
          refine wpAnyH_take (i := 9) (v := .pointer (some ⟨bm, om, none⟩)) rfl (by kernel_rfl) (by kernel_rfl) (by kernel_rfl) (fun _ _ _ h => h) (Or.inl ⟨by rfl, fun w hSw => ?_⟩) hHeld ?_
          · clear hSw; go_simp; all_goals (try first | rfl | omega)
          try simp only [Act.put, List.getElem_toArray, List.getElem_cons_succ, List.getElem_cons_zero, List.setIfInBounds_toArray, List.set_cons_zero, List.set_cons_succ]
          refine wpAnyH_take (i := 10) (v := .slice an0 m0.length cn0) rfl (by kernel_rfl) (by kernel_rfl) (by kernel_rfl) (fun _ _ _ h => h) (Or.inl ⟨by rfl, fun w hSw => ?_⟩) hHeld ?_
          · have q0 := (hSw.cell (p := ⟨bm, om, none⟩) hbm).trans M0.out; clear hSw; go_simp
          try simp only [Act.put, List.getElem_toArray, List.getElem_cons_succ, List.getElem_cons_zero, List.setIfInBounds_toArray, List.set_cons_zero, List.set_cons_succ]
          refine wpAnyH_take (i := 11) (v := .int .i64 n) rfl (by kernel_rfl) (by kernel_rfl) (by kernel_rfl) (fun _ _ _ h => h) (Or.inl ⟨by rfl, fun w hSw => ?_⟩) hHeld ?_
          · clear hSw; go_simp; all_goals (try first | rfl | omega)
          try simp only [Act.put, List.getElem_toArray, List.getElem_cons_succ, List.getElem_cons_zero, List.setIfInBounds_toArray, List.set_cons_zero, List.set_cons_succ]
          refine wpAnyH_ready (rs := [12]) (by kernel_rfl) (by simp) ?_
          refine AllReadyH.cons rfl (fun K hK => ?_) ?_
          · rw [if_pos (by rfl)]
            go_simp
            go_at_call 50
            refine (some_any n 1 _ n1 n2).mono ?_
            rintro e ws1 ⟨rfl, hs_, hb_ws1⟩
            have HBws1 := Lib.hid (HBd.out.trans (hb_ws1.mono (Below.size HBd.out)))
            have FA1 := Lib.hid hs_
            have zws1 := FA1.out.lt
            clear hs_ hb_ws1
            show K _ _
            refine hK.out _ _ (by exact HBws1.out) (fun hHeld => ?_)
            clear hK K
            try simp only [Act.put, List.getElem_toArray, List.getElem_cons_succ, List.getElem_cons_zero, List.setIfInBounds_toArray, List.set_cons_zero, List.set_cons_succ]
            refine wpAnyH_ready (rs := [13]) (by kernel_rfl) (by simp) ?_
            refine AllReadyH.cons rfl (fun K hK => ?_) ?_
            · rw [if_pos (by rfl)]
              go_simp
              go_at_call 48
              refine (same_any _ _ _ (HN0.out.below HBws1.out (fun _ h => h)) (someL_rd FA1.out)).mono ?_
              rintro e w' ⟨rfl, rfl⟩
              rw [show decide (m0 = someL n 1) = true from HE0.out]
              show K _ _
              refine hK.out _ _ (by exact hHeld) (fun hHeld => ?_)
              clear hK K
              try simp only [Act.put, List.getElem_toArray, List.getElem_cons_succ, List.getElem_cons_zero, List.setIfInBounds_toArray, List.set_cons_zero, List.set_cons_succ]
              refine wpAnyH_take (i := 14) (v := .bool true) rfl (by kernel_rfl) (by kernel_rfl) (by kernel_rfl) (fun _ _ _ h => h) (Or.inl ⟨by rfl, fun w hSw => ?_⟩) hHeld ?_
              · clear hSw; go_simp; all_goals (try first | rfl | omega)
              try simp only [Act.put, List.getElem_toArray, List.getElem_cons_succ, List.getElem_cons_zero, List.setIfInBounds_toArray, List.set_cons_zero, List.set_cons_succ]
              refine wpAnyH_take (i := 15) (v := .bool true) rfl (by kernel_rfl) (by kernel_rfl) (by kernel_rfl) (fun _ _ _ h => h) (Or.inl ⟨by rfl, fun w hSw => ?_⟩) hHeld ?_
              · clear hSw; go_simp; all_goals (try first | rfl | omega)
              try simp only [Act.put, List.getElem_toArray, List.getElem_cons_succ, List.getElem_cons_zero, List.setIfInBounds_toArray, List.set_cons_zero, List.set_cons_succ]
              refine wpAnyH_take (i := 16) (v := .slice (some ⟨bm, om, none⟩) 2 capm) rfl (by kernel_rfl) (by kernel_rfl) (by kernel_rfl) (fun _ _ _ h => h) (Or.inl ⟨by rfl, fun w hSw => ?_⟩) hHeld ?_
              · clear hSw; go_simp; all_goals (try first | rfl | omega)
              try simp only [Act.put, List.getElem_toArray, List.getElem_cons_succ, List.getElem_cons_zero, List.setIfInBounds_toArray, List.set_cons_zero, List.set_cons_succ]
              refine wpAnyH_take (i := 17) (v := .pointer (some ⟨bm, om + 1, none⟩)) rfl (by kernel_rfl) (by kernel_rfl) (by kernel_rfl) (fun _ _ _ h => h) (Or.inl ⟨by rfl, fun w hSw => ?_⟩) hHeld ?_
              · clear hSw; go_simp; all_goals (try first | rfl | omega)
              try simp only [Act.put, List.getElem_toArray, List.getElem_cons_succ, List.getElem_cons_zero, List.setIfInBounds_toArray, List.set_cons_zero, List.set_cons_succ]
              refine wpAnyH_take (i := 18) (v := .slice an1 m1.length cn1) rfl (by kernel_rfl) (by kernel_rfl) (by kernel_rfl) (fun _ _ _ h => h) (Or.inl ⟨by rfl, fun w hSw => ?_⟩) hHeld ?_
              · have q0 := (hSw.cell (p := ⟨bm, om + 1, none⟩) hbm).trans M1.out; clear hSw; go_simp
              try simp only [Act.put, List.getElem_toArray, List.getElem_cons_succ, List.getElem_cons_zero, List.setIfInBounds_toArray, List.set_cons_zero, List.set_cons_succ]
              refine wpAnyH_take (i := 19) (v := .int .i64 n) rfl (by kernel_rfl) (by kernel_rfl) (by kernel_rfl) (fun _ _ _ h => h) (Or.inl ⟨by rfl, fun w hSw => ?_⟩) hHeld ?_
              · clear hSw; go_simp; all_goals (try first | rfl | omega)
              try simp only [Act.put, List.getElem_toArray, List.getElem_cons_succ, List.getElem_cons_zero, List.setIfInBounds_toArray, List.set_cons_zero, List.set_cons_succ]
              refine wpAnyH_ready (rs := [20]) (by kernel_rfl) (by simp) ?_
              refine AllReadyH.cons rfl (fun K hK => ?_) ?_
              · rw [if_pos (by rfl)]
                go_simp
                go_at_call 50
                refine (some_any n 2 _ n1 n2).mono ?_
                rintro e ws2 ⟨rfl, hs_, hb_ws2⟩
                have HBws2 := Lib.hid (HBws1.out.trans (hb_ws2.mono (Below.size HBws1.out)))
                replace FA1 := Lib.hid (FA1.out.belowS hb_ws2)
                have FA2 := Lib.hid hs_
                have zws2 := FA2.out.lt
                clear hs_ hb_ws2
                show K _ _
                refine hK.out _ _ (by exact HBws2.out) (fun hHeld => ?_)
                clear hK K
                try simp only [Act.put, List.getElem_toArray, List.getElem_cons_succ, List.getElem_cons_zero, List.setIfInBounds_toArray, List.set_cons_zero, List.set_cons_succ]
                refine wpAnyH_ready (rs := [21]) (by kernel_rfl) (by simp) ?_
                refine AllReadyH.cons rfl (fun K hK => ?_) ?_
                · rw [if_pos (by rfl)]
                  go_simp
                  go_at_call 48
                  refine (same_any _ _ _ (HN1.out.below HBws2.out (fun _ h => h)) (someL_rd FA2.out)).mono ?_
                  rintro e w' ⟨rfl, rfl⟩
                  rw [show decide (m1 = someL n 2) = true from HE1.out]
                  show K _ _
                  refine hK.out _ _ (by exact hHeld) (fun hHeld => ?_)
                  clear hK K
                  try simp only [Act.put, List.getElem_toArray, List.getElem_cons_succ, List.getElem_cons_zero, List.setIfInBounds_toArray, List.set_cons_zero, List.set_cons_succ]
                  refine wpAnyH_take (i := 22) (v := .bool true) rfl (by kernel_rfl) (by kernel_rfl) (by kernel_rfl) (fun _ _ _ h => h) (Or.inl ⟨by rfl, fun w hSw => ?_⟩) hHeld ?_
                  · clear hSw; go_simp; all_goals (try first | rfl | omega)
                  try simp only [Act.put, List.getElem_toArray, List.getElem_cons_succ, List.getElem_cons_zero, List.setIfInBounds_toArray, List.set_cons_zero, List.set_cons_succ]
                  refine wpAnyH_take (i := 23) (v := .bool true) rfl (by kernel_rfl) (by kernel_rfl) (by kernel_rfl) (fun _ _ _ h => h) (Or.inl ⟨by rfl, fun w hSw => ?_⟩) hHeld ?_
                  · clear hSw; go_simp; all_goals (try first | rfl | omega)
                  try simp only [Act.put, List.getElem_toArray, List.getElem_cons_succ, List.getElem_cons_zero, List.setIfInBounds_toArray, List.set_cons_zero, List.set_cons_succ]
                  refine wpAnyH_done (by kernel_rfl) ?_ _
                  have HBE := Lib.hid (HB.out.trans (HBws2.out.mono HB.out.size))
                  go_wp2
                  go_ret
                  exact ⟨true, rfl, fun _ => rfl, HBE.out⟩
                exact AllReadyH.nil
              exact AllReadyH.nil
            exact AllReadyH.nil
          exact AllReadyH.nil
    · have hlb : ((ML.length : Int) == 2) = false := by rw [beq_eq_false_iff_ne]; omega
      have HNO := Lib.hid (fun hn => hl (by rw [(HMN.out hn).2]; rfl) : (crtSums (grownL l)).Nodup → False)
      refine wp_region_held_drew (S := fun w' => Below w9.heap.size w9 w') (by kernel_rfl) (by exact (Below.refl _ _).drew) (fun hHeld => ?_)
      obtain ⟨wd, hwd⟩ : ∃ wd, wd = w9.drew := ⟨_, rfl⟩
      rw [← hwd] at hHeld ⊢
      have HBd := Lib.hid (show Below w9.heap.size w9 wd from hHeld)
      have zwd : w9.heap.size ≤ wd.heap.size := by rw [hwd]; exact Nat.le_refl _
      clear hwd
      refine wpAnyH_take (i := 0) (v := .int .i64 q) rfl (by kernel_rfl) (by kernel_rfl) (by kernel_rfl) (fun _ _ _ h => h) (Or.inl ⟨by rfl, fun w hSw => ?_⟩) hHeld ?_
      · clear hSw; go_simp; all_goals (try first | rfl | omega)
      try simp only [Act.put, List.getElem_toArray, List.getElem_cons_succ, List.getElem_cons_zero, List.setIfInBounds_toArray, List.set_cons_zero, List.set_cons_succ]
      refine wpAnyH_take (i := 1) (v := .bool true) rfl (by kernel_rfl) (by kernel_rfl) (by kernel_rfl) (fun _ _ _ h => h) (Or.inl ⟨by rfl, fun w hSw => ?_⟩) hHeld ?_
      · clear hSw; go_simp; all_goals (try first | rfl | omega)
      try simp only [Act.put, List.getElem_toArray, List.getElem_cons_succ, List.getElem_cons_zero, List.setIfInBounds_toArray, List.set_cons_zero, List.set_cons_succ]
      refine wpAnyH_take (i := 2) (v := .bool true) rfl (by kernel_rfl) (by kernel_rfl) (by kernel_rfl) (fun _ _ _ h => h) (Or.inl ⟨by rfl, fun w hSw => ?_⟩) hHeld ?_
      · clear hSw; go_simp; all_goals (try first | rfl | omega)
      try simp only [Act.put, List.getElem_toArray, List.getElem_cons_succ, List.getElem_cons_zero, List.setIfInBounds_toArray, List.set_cons_zero, List.set_cons_succ]
      refine wpAnyH_take (i := 3) (v := .slice adm ML.length capm) rfl (by kernel_rfl) (by kernel_rfl) (by kernel_rfl) (fun _ _ _ h => h) (Or.inl ⟨by rfl, fun w hSw => ?_⟩) hHeld ?_
      · clear hSw; go_simp; all_goals (try first | rfl | omega)
      try simp only [Act.put, List.getElem_toArray, List.getElem_cons_succ, List.getElem_cons_zero, List.setIfInBounds_toArray, List.set_cons_zero, List.set_cons_succ]
      refine wpAnyH_take (i := 4) (v := .int .i64 (ML.length : Int)) rfl (by kernel_rfl) (by kernel_rfl) (by kernel_rfl) (fun _ _ _ h => h) (Or.inl ⟨by rfl, fun w hSw => ?_⟩) hHeld ?_
      · clear hSw; go_simp; all_goals (try first | rfl | omega)
      try simp only [Act.put, List.getElem_toArray, List.getElem_cons_succ, List.getElem_cons_zero, List.setIfInBounds_toArray, List.set_cons_zero, List.set_cons_succ]
      refine wpAnyH_take (i := 5) (v := .bool false) rfl (by kernel_rfl) (by kernel_rfl) (by kernel_rfl) (fun _ _ _ h => h) (Or.inl ⟨by rfl, fun w hSw => ?_⟩) hHeld ?_
      · clear hSw; go_simp; all_goals (try first | rfl | omega)
      try simp only [Act.put, List.getElem_toArray, List.getElem_cons_succ, List.getElem_cons_zero, List.setIfInBounds_toArray, List.set_cons_zero, List.set_cons_succ]
      refine wpAnyH_take (i := 6) (v := .bool false) rfl (by kernel_rfl) (by kernel_rfl) (by kernel_rfl) (fun _ _ _ h => h) (Or.inl ⟨by rfl, fun w hSw => ?_⟩) hHeld ?_
      · clear hSw; go_simp; all_goals (try first | rfl | omega)
      try simp only [Act.put, List.getElem_toArray, List.getElem_cons_succ, List.getElem_cons_zero, List.setIfInBounds_toArray, List.set_cons_zero, List.set_cons_succ]
      refine wpAnyH_take (i := 7) (v := .bool false) rfl (by kernel_rfl) (by kernel_rfl) (by kernel_rfl) (fun _ _ _ h => h) (Or.inl ⟨by rfl, fun w hSw => ?_⟩) hHeld ?_
      · clear hSw; go_simp; all_goals (try first | rfl | omega)
      try simp only [Act.put, List.getElem_toArray, List.getElem_cons_succ, List.getElem_cons_zero, List.setIfInBounds_toArray, List.set_cons_zero, List.set_cons_succ]
      refine wpAnyH_take (i := 8) (v := undef) rfl (by kernel_rfl) (by kernel_rfl) (by kernel_rfl) (fun _ _ _ h => h) (Or.inr ⟨by rfl, rfl⟩) hHeld ?_
      try simp only [Act.put, List.getElem_toArray, List.getElem_cons_succ, List.getElem_cons_zero, List.setIfInBounds_toArray, List.set_cons_zero, List.set_cons_succ]
      refine wpAnyH_take (i := 9) (v := undef) rfl (by kernel_rfl) (by kernel_rfl) (by kernel_rfl) (fun _ _ _ h => h) (Or.inr ⟨by rfl, rfl⟩) hHeld ?_
      try simp only [Act.put, List.getElem_toArray, List.getElem_cons_succ, List.getElem_cons_zero, List.setIfInBounds_toArray, List.set_cons_zero, List.set_cons_succ]
      refine wpAnyH_take (i := 10) (v := undef) rfl (by kernel_rfl) (by kernel_rfl) (by kernel_rfl) (fun _ _ _ h => h) (Or.inr ⟨by rfl, rfl⟩) hHeld ?_
      try simp only [Act.put, List.getElem_toArray, List.getElem_cons_succ, List.getElem_cons_zero, List.setIfInBounds_toArray, List.set_cons_zero, List.set_cons_succ]
      refine wpAnyH_take (i := 11) (v := undef) rfl (by kernel_rfl) (by kernel_rfl) (by kernel_rfl) (fun _ _ _ h => h) (Or.inr ⟨by rfl, rfl⟩) hHeld ?_
      try simp only [Act.put, List.getElem_toArray, List.getElem_cons_succ, List.getElem_cons_zero, List.setIfInBounds_toArray, List.set_cons_zero, List.set_cons_succ]
      refine wpAnyH_take (i := 12) (v := undef) rfl (by kernel_rfl) (by kernel_rfl) (by kernel_rfl) (fun _ _ _ h => h) (Or.inr ⟨by rfl, rfl⟩) hHeld ?_
      try simp only [Act.put, List.getElem_toArray, List.getElem_cons_succ, List.getElem_cons_zero, List.setIfInBounds_toArray, List.set_cons_zero, List.set_cons_succ]
      refine wpAnyH_take (i := 13) (v := undef) rfl (by kernel_rfl) (by kernel_rfl) (by kernel_rfl) (fun _ _ _ h => h) (Or.inr ⟨by rfl, rfl⟩) hHeld ?_
      try simp only [Act.put, List.getElem_toArray, List.getElem_cons_succ, List.getElem_cons_zero, List.setIfInBounds_toArray, List.set_cons_zero, List.set_cons_succ]
      refine wpAnyH_take (i := 14) (v := .bool false) rfl (by kernel_rfl) (by kernel_rfl) (by kernel_rfl) (fun _ _ _ h => h) (Or.inl ⟨by rfl, fun w hSw => ?_⟩) hHeld ?_
      · clear hSw; go_simp; all_goals (try first | rfl | omega)
      try simp only [Act.put, List.getElem_toArray, List.getElem_cons_succ, List.getElem_cons_zero, List.setIfInBounds_toArray, List.set_cons_zero, List.set_cons_succ]
      refine wpAnyH_take (i := 15) (v := .bool false) rfl (by kernel_rfl) (by kernel_rfl) (by kernel_rfl) (fun _ _ _ h => h) (Or.inl ⟨by rfl, fun w hSw => ?_⟩) hHeld ?_
      · clear hSw; go_simp; all_goals (try first | rfl | omega)
      try simp only [Act.put, List.getElem_toArray, List.getElem_cons_succ, List.getElem_cons_zero, List.setIfInBounds_toArray, List.set_cons_zero, List.set_cons_succ]
      refine wpAnyH_take (i := 16) (v := undef) rfl (by kernel_rfl) (by kernel_rfl) (by kernel_rfl) (fun _ _ _ h => h) (Or.inr ⟨by rfl, rfl⟩) hHeld ?_
      try simp only [Act.put, List.getElem_toArray, List.getElem_cons_succ, List.getElem_cons_zero, List.setIfInBounds_toArray, List.set_cons_zero, List.set_cons_succ]
      refine wpAnyH_take (i := 17) (v := undef) rfl (by kernel_rfl) (by kernel_rfl) (by kernel_rfl) (fun _ _ _ h => h) (Or.inr ⟨by rfl, rfl⟩) hHeld ?_
      try simp only [Act.put, List.getElem_toArray, List.getElem_cons_succ, List.getElem_cons_zero, List.setIfInBounds_toArray, List.set_cons_zero, List.set_cons_succ]
      refine wpAnyH_take (i := 18) (v := undef) rfl (by kernel_rfl) (by kernel_rfl) (by kernel_rfl) (fun _ _ _ h => h) (Or.inr ⟨by rfl, rfl⟩) hHeld ?_
      try simp only [Act.put, List.getElem_toArray, List.getElem_cons_succ, List.getElem_cons_zero, List.setIfInBounds_toArray, List.set_cons_zero, List.set_cons_succ]
      refine wpAnyH_take (i := 19) (v := undef) rfl (by kernel_rfl) (by kernel_rfl) (by kernel_rfl) (fun _ _ _ h => h) (Or.inr ⟨by rfl, rfl⟩) hHeld ?_
      try simp only [Act.put, List.getElem_toArray, List.getElem_cons_succ, List.getElem_cons_zero, List.setIfInBounds_toArray, List.set_cons_zero, List.set_cons_succ]
      refine wpAnyH_take (i := 20) (v := undef) rfl (by kernel_rfl) (by kernel_rfl) (by kernel_rfl) (fun _ _ _ h => h) (Or.inr ⟨by rfl, rfl⟩) hHeld ?_
      try simp only [Act.put, List.getElem_toArray, List.getElem_cons_succ, List.getElem_cons_zero, List.setIfInBounds_toArray, List.set_cons_zero, List.set_cons_succ]
      refine wpAnyH_take (i := 21) (v := undef) rfl (by kernel_rfl) (by kernel_rfl) (by kernel_rfl) (fun _ _ _ h => h) (Or.inr ⟨by rfl, rfl⟩) hHeld ?_
      try simp only [Act.put, List.getElem_toArray, List.getElem_cons_succ, List.getElem_cons_zero, List.setIfInBounds_toArray, List.set_cons_zero, List.set_cons_succ]
      refine wpAnyH_take (i := 22) (v := .bool false) rfl (by kernel_rfl) (by kernel_rfl) (by kernel_rfl) (fun _ _ _ h => h) (Or.inl ⟨by rfl, fun w hSw => ?_⟩) hHeld ?_
      · clear hSw; go_simp; all_goals (try first | rfl | omega)
      try simp only [Act.put, List.getElem_toArray, List.getElem_cons_succ, List.getElem_cons_zero, List.setIfInBounds_toArray, List.set_cons_zero, List.set_cons_succ]
      refine wpAnyH_take (i := 23) (v := .bool false) rfl (by kernel_rfl) (by kernel_rfl) (by kernel_rfl) (fun _ _ _ h => h) (Or.inl ⟨by rfl, fun w hSw => ?_⟩) hHeld ?_
      · clear hSw; go_simp; all_goals (try first | rfl | omega)
      try simp only [Act.put, List.getElem_toArray, List.getElem_cons_succ, List.getElem_cons_zero, List.setIfInBounds_toArray, List.set_cons_zero, List.set_cons_succ]
      refine wpAnyH_done (by kernel_rfl) ?_ _
      have HBE := Lib.hid (HB.out.trans (HBd.out.mono HB.out.size))
      go_wp2
      go_ret
      exact ⟨false, rfl, fun hn => (HNO.out hn).elim, HBE.out⟩
  · have hqb : (q == 0) = false := by rw [beq_eq_false_iff_ne]; exact hq
    have HNO := Lib.hid (fun hn => hq (HMN.out hn).1 : (crtSums (grownL l)).Nodup → False)
    refine wp_region_held_drew (S := fun w' => Below w9.heap.size w9 w') (by kernel_rfl) (by exact (Below.refl _ _).drew) (fun hHeld => ?_)
    obtain ⟨wd, hwd⟩ : ∃ wd, wd = w9.drew := ⟨_, rfl⟩
    rw [← hwd] at hHeld ⊢
    have HBd := Lib.hid (show Below w9.heap.size w9 wd from hHeld)
    have zwd : w9.heap.size ≤ wd.heap.size := by rw [hwd]; exact Nat.le_refl _
    clear hwd
    refine wpAnyH_take (i := 0) (v := .int .i64 q) rfl (by kernel_rfl) (by kernel_rfl) (by kernel_rfl) (fun _ _ _ h => h) (Or.inl ⟨by rfl, fun w hSw => ?_⟩) hHeld ?_
    · clear hSw; go_simp; all_goals (try first | rfl | omega)
    try simp only [Act.put, List.getElem_toArray, List.getElem_cons_succ, List.getElem_cons_zero, List.setIfInBounds_toArray, List.set_cons_zero, List.set_cons_succ]
    refine wpAnyH_take (i := 1) (v := .bool false) rfl (by kernel_rfl) (by kernel_rfl) (by kernel_rfl) (fun _ _ _ h => h) (Or.inl ⟨by rfl, fun w hSw => ?_⟩) hHeld ?_
    · clear hSw; go_simp; all_goals (try first | rfl | omega)
    try simp only [Act.put, List.getElem_toArray, List.getElem_cons_succ, List.getElem_cons_zero, List.setIfInBounds_toArray, List.set_cons_zero, List.set_cons_succ]
    refine wpAnyH_take (i := 2) (v := .bool false) rfl (by kernel_rfl) (by kernel_rfl) (by kernel_rfl) (fun _ _ _ h => h) (Or.inl ⟨by rfl, fun w hSw => ?_⟩) hHeld ?_
    · clear hSw; go_simp; all_goals (try first | rfl | omega)
    try simp only [Act.put, List.getElem_toArray, List.getElem_cons_succ, List.getElem_cons_zero, List.setIfInBounds_toArray, List.set_cons_zero, List.set_cons_succ]
    refine wpAnyH_take (i := 3) (v := undef) rfl (by kernel_rfl) (by kernel_rfl) (by kernel_rfl) (fun _ _ _ h => h) (Or.inr ⟨by rfl, rfl⟩) hHeld ?_
    try simp only [Act.put, List.getElem_toArray, List.getElem_cons_succ, List.getElem_cons_zero, List.setIfInBounds_toArray, List.set_cons_zero, List.set_cons_succ]
    refine wpAnyH_take (i := 4) (v := undef) rfl (by kernel_rfl) (by kernel_rfl) (by kernel_rfl) (fun _ _ _ h => h) (Or.inr ⟨by rfl, rfl⟩) hHeld ?_
    try simp only [Act.put, List.getElem_toArray, List.getElem_cons_succ, List.getElem_cons_zero, List.setIfInBounds_toArray, List.set_cons_zero, List.set_cons_succ]
    refine wpAnyH_take (i := 5) (v := undef) rfl (by kernel_rfl) (by kernel_rfl) (by kernel_rfl) (fun _ _ _ h => h) (Or.inr ⟨by rfl, rfl⟩) hHeld ?_
    try simp only [Act.put, List.getElem_toArray, List.getElem_cons_succ, List.getElem_cons_zero, List.setIfInBounds_toArray, List.set_cons_zero, List.set_cons_succ]
    refine wpAnyH_take (i := 6) (v := .bool false) rfl (by kernel_rfl) (by kernel_rfl) (by kernel_rfl) (fun _ _ _ h => h) (Or.inl ⟨by rfl, fun w hSw => ?_⟩) hHeld ?_
    · clear hSw; go_simp; all_goals (try first | rfl | omega)
    try simp only [Act.put, List.getElem_toArray, List.getElem_cons_succ, List.getElem_cons_zero, List.setIfInBounds_toArray, List.set_cons_zero, List.set_cons_succ]
    refine wpAnyH_take (i := 7) (v := .bool false) rfl (by kernel_rfl) (by kernel_rfl) (by kernel_rfl) (fun _ _ _ h => h) (Or.inl ⟨by rfl, fun w hSw => ?_⟩) hHeld ?_
    · clear hSw; go_simp; all_goals (try first | rfl | omega)
    try simp only [Act.put, List.getElem_toArray, List.getElem_cons_succ, List.getElem_cons_zero, List.setIfInBounds_toArray, List.set_cons_zero, List.set_cons_succ]
    refine wpAnyH_take (i := 8) (v := undef) rfl (by kernel_rfl) (by kernel_rfl) (by kernel_rfl) (fun _ _ _ h => h) (Or.inr ⟨by rfl, rfl⟩) hHeld ?_
    try simp only [Act.put, List.getElem_toArray, List.getElem_cons_succ, List.getElem_cons_zero, List.setIfInBounds_toArray, List.set_cons_zero, List.set_cons_succ]
    refine wpAnyH_take (i := 9) (v := undef) rfl (by kernel_rfl) (by kernel_rfl) (by kernel_rfl) (fun _ _ _ h => h) (Or.inr ⟨by rfl, rfl⟩) hHeld ?_
    try simp only [Act.put, List.getElem_toArray, List.getElem_cons_succ, List.getElem_cons_zero, List.setIfInBounds_toArray, List.set_cons_zero, List.set_cons_succ]
    refine wpAnyH_take (i := 10) (v := undef) rfl (by kernel_rfl) (by kernel_rfl) (by kernel_rfl) (fun _ _ _ h => h) (Or.inr ⟨by rfl, rfl⟩) hHeld ?_
    try simp only [Act.put, List.getElem_toArray, List.getElem_cons_succ, List.getElem_cons_zero, List.setIfInBounds_toArray, List.set_cons_zero, List.set_cons_succ]
    refine wpAnyH_take (i := 11) (v := undef) rfl (by kernel_rfl) (by kernel_rfl) (by kernel_rfl) (fun _ _ _ h => h) (Or.inr ⟨by rfl, rfl⟩) hHeld ?_
    try simp only [Act.put, List.getElem_toArray, List.getElem_cons_succ, List.getElem_cons_zero, List.setIfInBounds_toArray, List.set_cons_zero, List.set_cons_succ]
    refine wpAnyH_take (i := 12) (v := undef) rfl (by kernel_rfl) (by kernel_rfl) (by kernel_rfl) (fun _ _ _ h => h) (Or.inr ⟨by rfl, rfl⟩) hHeld ?_
    try simp only [Act.put, List.getElem_toArray, List.getElem_cons_succ, List.getElem_cons_zero, List.setIfInBounds_toArray, List.set_cons_zero, List.set_cons_succ]
    refine wpAnyH_take (i := 13) (v := undef) rfl (by kernel_rfl) (by kernel_rfl) (by kernel_rfl) (fun _ _ _ h => h) (Or.inr ⟨by rfl, rfl⟩) hHeld ?_
    try simp only [Act.put, List.getElem_toArray, List.getElem_cons_succ, List.getElem_cons_zero, List.setIfInBounds_toArray, List.set_cons_zero, List.set_cons_succ]
    refine wpAnyH_take (i := 14) (v := .bool false) rfl (by kernel_rfl) (by kernel_rfl) (by kernel_rfl) (fun _ _ _ h => h) (Or.inl ⟨by rfl, fun w hSw => ?_⟩) hHeld ?_
    · clear hSw; go_simp; all_goals (try first | rfl | omega)
    try simp only [Act.put, List.getElem_toArray, List.getElem_cons_succ, List.getElem_cons_zero, List.setIfInBounds_toArray, List.set_cons_zero, List.set_cons_succ]
    refine wpAnyH_take (i := 15) (v := .bool false) rfl (by kernel_rfl) (by kernel_rfl) (by kernel_rfl) (fun _ _ _ h => h) (Or.inl ⟨by rfl, fun w hSw => ?_⟩) hHeld ?_
    · clear hSw; go_simp; all_goals (try first | rfl | omega)
    try simp only [Act.put, List.getElem_toArray, List.getElem_cons_succ, List.getElem_cons_zero, List.setIfInBounds_toArray, List.set_cons_zero, List.set_cons_succ]
    refine wpAnyH_take (i := 16) (v := undef) rfl (by kernel_rfl) (by kernel_rfl) (by kernel_rfl) (fun _ _ _ h => h) (Or.inr ⟨by rfl, rfl⟩) hHeld ?_
    try simp only [Act.put, List.getElem_toArray, List.getElem_cons_succ, List.getElem_cons_zero, List.setIfInBounds_toArray, List.set_cons_zero, List.set_cons_succ]
    refine wpAnyH_take (i := 17) (v := undef) rfl (by kernel_rfl) (by kernel_rfl) (by kernel_rfl) (fun _ _ _ h => h) (Or.inr ⟨by rfl, rfl⟩) hHeld ?_
    try simp only [Act.put, List.getElem_toArray, List.getElem_cons_succ, List.getElem_cons_zero, List.setIfInBounds_toArray, List.set_cons_zero, List.set_cons_succ]
    refine wpAnyH_take (i := 18) (v := undef) rfl (by kernel_rfl) (by kernel_rfl) (by kernel_rfl) (fun _ _ _ h => h) (Or.inr ⟨by rfl, rfl⟩) hHeld ?_
    try simp only [Act.put, List.getElem_toArray, List.getElem_cons_succ, List.getElem_cons_zero, List.setIfInBounds_toArray, List.set_cons_zero, List.set_cons_succ]
    refine wpAnyH_take (i := 19) (v := undef) rfl (by kernel_rfl) (by kernel_rfl) (by kernel_rfl) (fun _ _ _ h => h) (Or.inr ⟨by rfl, rfl⟩) hHeld ?_
    try simp only [Act.put, List.getElem_toArray, List.getElem_cons_succ, List.getElem_cons_zero, List.setIfInBounds_toArray, List.set_cons_zero, List.set_cons_succ]
    refine wpAnyH_take (i := 20) (v := undef) rfl (by kernel_rfl) (by kernel_rfl) (by kernel_rfl) (fun _ _ _ h => h) (Or.inr ⟨by rfl, rfl⟩) hHeld ?_
    try simp only [Act.put, List.getElem_toArray, List.getElem_cons_succ, List.getElem_cons_zero, List.setIfInBounds_toArray, List.set_cons_zero, List.set_cons_succ]
    refine wpAnyH_take (i := 21) (v := undef) rfl (by kernel_rfl) (by kernel_rfl) (by kernel_rfl) (fun _ _ _ h => h) (Or.inr ⟨by rfl, rfl⟩) hHeld ?_
    try simp only [Act.put, List.getElem_toArray, List.getElem_cons_succ, List.getElem_cons_zero, List.setIfInBounds_toArray, List.set_cons_zero, List.set_cons_succ]
    refine wpAnyH_take (i := 22) (v := .bool false) rfl (by kernel_rfl) (by kernel_rfl) (by kernel_rfl) (fun _ _ _ h => h) (Or.inl ⟨by rfl, fun w hSw => ?_⟩) hHeld ?_
    · clear hSw; go_simp; all_goals (try first | rfl | omega)
    try simp only [Act.put, List.getElem_toArray, List.getElem_cons_succ, List.getElem_cons_zero, List.setIfInBounds_toArray, List.set_cons_zero, List.set_cons_succ]
    refine wpAnyH_take (i := 23) (v := .bool false) rfl (by kernel_rfl) (by kernel_rfl) (by kernel_rfl) (fun _ _ _ h => h) (Or.inl ⟨by rfl, fun w hSw => ?_⟩) hHeld ?_
    · clear hSw; go_simp; all_goals (try first | rfl | omega)
    try simp only [Act.put, List.getElem_toArray, List.getElem_cons_succ, List.getElem_cons_zero, List.setIfInBounds_toArray, List.set_cons_zero, List.set_cons_succ]
    refine wpAnyH_done (by kernel_rfl) ?_ _
    have HBE := Lib.hid (HB.out.trans (HBd.out.mono HB.out.size))
    go_wp2
    go_ret
    exact ⟨false, rfl, fun hn => (HNO.out hn).elim, HBE.out⟩
end Go.Proofs.YtlailhhffejbbaaDoor

/- MissingSome: the walk. -/
set_option linter.unusedVariables false
set_option linter.unusedSimpArgs false
attribute [local go_sem ↓] Go.wp_at_zero Go.wp_at_succ
namespace Go.Proofs.YtlailhhffejbbaaDoor
open Go Go.RowKit

theorem gsum_nodup {l : List Stp} (h : gsumB l = false) : (crtSums (grownL l)).Nodup := clear_of (grown_ok l) h
set_option maxRecDepth 100000 in
set_option maxHeartbeats 8000000 in
theorem missingSome_walk (v : Value) (l : List Stp) (n : Int) (w : World) (hv : RdS RStp (fun _ => True) w v l) (hz : l.length * 24 ≤ reachBytes) (n1 : -9223372036854775808 ≤ n) (n2 : n ≤ 9223372036854775807) (ht : Tabs w) :
    Calls Tryd.prog 8 #[v, .int .i64 n] w fun e w' => e = .returned (.bool true) ∧ Below w.heap.size w w' := by
  go_enter Tryd.func8, Tryd.ntmps8
  go_wp2_with fail
  refine (missingSome_any _ l n _ hv hz n1 n2 ht).mono ?_
  rintro e w1 ⟨b, rfl, hn, hb1⟩
  have HN := Lib.hid hn
  clear hn
  cases b with
  | true =>
    go_wp2
    go_ret
    exact ⟨rfl, hb1⟩
  | false =>
    have hg : gsumB l = true := by
      by_cases q : gsumB l = true
      · exact q
      · have := HN.out (gsum_nodup (by simpa using q)); cases this
    go_wp2_with fail
    refine (grownSum_any _ _ (hv.below hb1 (fun _ h => h)) hz (ht.belowS hb1)).mono ?_
    rintro e w2 ⟨rfl, hb2⟩
    rw [hg]
    go_wp2
    go_ret
    exact ⟨rfl, hb1.trans (hb2.mono hb1.size)⟩
end Go.Proofs.YtlailhhffejbbaaDoor
