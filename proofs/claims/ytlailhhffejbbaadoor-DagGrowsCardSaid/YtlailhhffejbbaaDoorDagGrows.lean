import Derived.Test.YtlailhhffejbbaaDoorDag10
import Derived.Test.YtlailhhffejbbaaDoorOneSum
import Derived.Test.YtlailhhffejbbaaDoorGrown
import Derived.Test.YtlailhhffejbbaaDoorBas
import Derived.Test.YtlailhhffejbbaaDoorInsLaw
import Derived.Test.YtlailhhffejbbaaDoorDOf
import Derived.Test.YtlailhhffejbbaaDoorDag11
import Derived.Test.YtlailhhffejbbaaDoorNoneLaw
import Derived.Test.YtlailhhffejbbaaDoorSameL
/- sheaveskeep.headers: what it makes. -/
set_option linter.unusedVariables false
set_option linter.unusedSimpArgs false
attribute [local go_sem ↓] Go.wp_at_zero Go.wp_at_succ
namespace Go.Proofs.YtlailhhffejbbaaDoor
open Go Go.RowKit

theorem elemHdrD : ElemOk Tryd.prog 54 36 4 64 := elemOk_of (z := .agg #[.int .i64 0, .int .i64 0, .slice none 0 0, .slice none 0 0]) (by kernel_rfl) (by kernel_rfl) rfl (by decide)
def hdrsOf (l : List Crt) : List Hdr := l.map (·.h)
theorem hdrsOf_len (l : List Crt) : (hdrsOf l).length = l.length := by simp [hdrsOf]
theorem hdrsOf_succ {l : List Crt} {k : Nat} (h : k < l.length) : hdrsOf (l.take (k + 1)) = hdrsOf (l.take k) ++ [l[k].h] := by
  unfold hdrsOf; rw [List.take_succ_eq_append_getElem h, List.map_append]; rfl
set_option maxRecDepth 100000 in
set_option maxHeartbeats 8000000 in
theorem headers_any {G : Nat → Prop} {l : List Crt} (v : Value) (w : World) (h : RdS RCert G w v l) (hl : l.length ≤ 1000) :
    Calls Tryd.prog 37 #[.agg #[v]] w fun e w' => ∃ (ado : Option Addr) (capo : Nat), e = .returned (.slice ado l.length capo) ∧ LstO RHdr (fun b => G b ∧ b < w.heap.size) (w.heap.size + 1) 36 w' (.slice ado l.length capo) (hdrsOf l) ∧ Below w.heap.size w w' := by
  obtain ⟨ad, cap, rfl, hcap, hm⟩ := h.form
  unfold maxLen at hm
  have hb0 := (Below.refl w.heap.size w).alloc (Nat.le_refl _) (.cells #[.slice ad l.length cap] 27)
  have HV := Lib.hid ((h.low (by decide)).below hb0 (fun _ h => h))
  have HB := Lib.hid hb0
  have HX := Lib.hid (BoxAt.new w [.slice ad l.length cap] 27)
  clear h hb0
  go_enter Tryd.func37, Tryd.ntmps37
  go_upto_region 1 with fail
  obtain ⟨w0, hw0⟩ : ∃ w0, w0 = w.alloc (.cells #[.slice ad l.length cap] 27) := ⟨_, rfl⟩
  rw [← hw0] at HV HX HB ⊢
  have hz0 := HX.out.lt
  have hz1 : w0.heap.size = w.heap.size + 1 := by rw [hw0]; simp
  have hz2 : w0.heap.size ≤ w.heap.size + 1 := by omega
  have hz3 : w.heap.size + 1 ≤ w0.heap.size := by omega
  clear hw0 hz1
  go_wp2_with fail
  go_loopw [3, 4] (fun o i wr => ∃ (k : Nat) (ado : Option Addr) (capo : Nat), k ≤ l.length ∧ i = .int .i64 k ∧ o = .slice ado k capo ∧ LstO RHdr (fun b => G b ∧ b < w.heap.size) (w.heap.size + 1) 36 wr (.slice ado k capo) (hdrsOf (l.take k)) ∧ Below w0.heap.size w0 wr) (fun _ i _ => l.length - (intOf i).toNat)
  case atStart => exact ⟨0, none, 0, Nat.zero_le _, rfl, rfl, LstO.nil _ _ _ _ _, Below.refl _ _⟩
  case round =>
    obtain ⟨k, ado, capo, hk, rfl, rfl, hL, hB⟩ := hrel
    have hz := hB.size
    have HBr := Lib.hid hB
    have x0 := (HX.out.belowS hB).cell 0 rfl
    have hzx := (HX.out.belowS hB).lt
    by_cases hlt : k < l.length
    · have i0 : (0 : Int) ≤ (k : Int) := by omega
      have i1 : (k : Int) < (l.length : Int) := by omega
      have wk : IntKind.i64.wrap ((k : Int) + 1) = (k : Int) + 1 := IntWalk.i64_in _ (by omega)
      obtain ⟨vals, hv⟩ := hL.valsOf
      have hvlt := hv.lt
      have HLr := Lib.hid hv
      have HKL := Lib.hid (show (hdrsOf (l.take k)).length = k by rw [hdrsOf_len, List.length_take]; omega)
      have HMS := Lib.hid (hdrsOf_succ hlt)
      obtain ⟨b, o, ub, up, uv, rfl, -, e0, e1, e2, e3, e4, hb', hp', -⟩ := (HV.out.below hB (fun _ h => h)).crt k hlt
      generalize l[k] = c at *
      obtain ⟨adb, capb, rfl, -, -⟩ := hb'.form
      obtain ⟨adp, capp, rfl, -, -⟩ := hp'.form
      have H1 := Lib.hid hb'
      have H2 := Lib.hid hp'
      clear hb' hp' hv hL hB
      go_wp2_with (at_builtin; refine wpList_append_one rfl _ _ 54 rfl elemHdrD (w.heap.size + 1) _ k vals rfl (by have h := (HLr.out.alloc (.cells #[.int .i64 c.h.a, .int .i64 c.h.r, .slice adb c.h.bs.length capb, .slice adp c.h.ps.length capp] 36)).own; rw [HKL.out] at h; exact h) wr.heap.size 36 [.int .i64 c.h.a, .int .i64 c.h.r, .slice adb c.h.bs.length capb, .slice adp c.h.ps.length capp] rfl (BoxAt.new wr [_, _, _, _] _) rfl (by simp [Value.oneCell']) (by unfold maxLen; omega) (by omega) (by simp; omega) ?_; intro g cap6 w6 hown6 hgr6 hat6 hlt6)
      have hx : RHdr.rd (fun b => (G b ∧ b < w.heap.size) ∧ b < (wr.alloc (.cells #[.int .i64 c.h.a, .int .i64 c.h.r, .slice adb c.h.bs.length capb, .slice adp c.h.ps.length capp] 36)).heap.size ∧ (Value.slice ado k capo).ownBlock ≠ some b) (wr.alloc (.cells #[.int .i64 c.h.a, .int .i64 c.h.r, .slice adb c.h.bs.length capb, .slice adp c.h.ps.length capp] 36)) [.int .i64 c.h.a, .int .i64 c.h.r, .slice adb c.h.bs.length capb, .slice adp c.h.ps.length capp] c.h :=
        ⟨_, _, rfl, H1.out.keep (Keep.alloc _ _ _) (fun b hb => ⟨hb, by have := hb.2; simp; omega, fun e => by have h1 := hb.2; have := (hvlt _ e).1; omega⟩), H2.out.keep (Keep.alloc _ _ _) (fun b hb => ⟨hb, by have := hb.2; simp; omega, fun e => by have h1 := hb.2; have := (hvlt _ e).1; omega⟩)⟩
      have hP := (HLr.out.alloc (.cells #[.int .i64 c.h.a, .int .i64 c.h.r, .slice adb c.h.bs.length capb, .slice adp c.h.ps.length capp] 36)).push hx (by rw [HKL.out]; exact hown6) hgr6 hat6
      rw [HKL.out, ← HMS.out] at hP
      have HP := Lib.hid hP
      have HB6 := Lib.hid (show Below w0.heap.size w0 w6 from ((HBr.out).alloc (by omega) (.cells #[.int .i64 c.h.a, .int .i64 c.h.r, .slice adb c.h.bs.length capb, .slice adp c.h.ps.length capp] 36)).grown hgr6 (by simp; omega) (fun k hk => by have := (hvlt _ hk).1; omega))
      clear hP hx hown6 e0 e1 e2 e3 e4 x0
      go_wp2
      go_roundw
      case rel => exact ⟨k + 1, some ⟨g, 0, none⟩, cap6, by omega, by go_num, rfl, HP.out, HB6.out⟩
      case measure => simp [intOf]; omega
    · obtain rfl : k = l.length := by omega
      rw [List.take_length] at hL
      have HM := Lib.hid hL
      have HBE := Lib.hid (HB.out.trans (HBr.out.mono HB.out.size))
      clear hL hB
      have t1 : ¬ (l.length : Int) < (l.length : Int) := by omega
      go_wp2
      go_ret
      exact ⟨_, _, rfl, HM.out, HBE.out⟩
end Go.Proofs.YtlailhhffejbbaaDoor

/- A dag whose headers have no two unlike ones of one sum: its digests are all different. -/
set_option linter.unusedVariables false
set_option linter.unusedSimpArgs false
attribute [local go_sem ↓] Go.wp_at_zero Go.wp_at_succ
namespace Go.Proofs.YtlailhhffejbbaaDoor
open Go Go.RowKit

theorem anyPair_down {α : Type} {p : α → α → Bool} {l : List α} : ∀ m : Nat, m ≤ l.length → anyPair p (l.take m) (l.drop m) = true → anyPair p [] l = true
  | 0, _, h => by simpa using h
  | m + 1, hm, h => anyPair_down m (by omega) (by
      rw [List.drop_eq_getElem_cons (show m < l.length by omega), anyPair, ← List.take_succ_eq_append_getElem (show m < l.length by omega), h, Bool.or_true])
theorem anyPair_at {α : Type} {p : α → α → Bool} {l : List α} {k j : Nat} (hk : k < l.length) (hj : j < k) (h : p l[k] (l[j]'(by omega)) = true) : anyPair p [] l = true :=
  anyPair_down k (by omega) (anyPair_hit hk hj h)
/-- The digests of a dag are all different, or two unlike headers have one sum. -/
theorem clear_of {l : List Crt} (hok : dagOk l = true) {X : List Hdr} {B : List Bat} (h : oneSumL (hdrsOf l ++ X) B = false) : (crtSums l).Nodup := by
  have hS := dagOk_solo hok
  have hH : ∀ c ∈ l, hdrCode c.h = 0 := fun c hc => (crt_partsP ((dagOk_iff.1 hok).2.1 c hc)).1
  rw [List.nodup_iff_pairwise_ne, List.pairwise_iff_getElem]
  intro i j hi hj hij he
  have hi' : i < l.length := by rw [crtSums_len] at hi; exact hi
  have hj' : j < l.length := by rw [crtSums_len] at hj; exact hj
  have e1 : (crtSums l)[i] = hdrSum l[i].h := by simp [crtSums, crtSum]
  have e2 : (crtSums l)[j] = hdrSum l[j].h := by simp [crtSums, crtSum]
  rw [e1, e2] at he
  have hkey : ¬ (l[i].h.a = l[j].h.a ∧ l[i].h.r = l[j].h.r) := (List.pairwise_iff_getElem.1 hS.2) i j hi' hj' hij
  have g1 : (hdrsOf l ++ X)[j]'(by simp [hdrsOf]; omega) = l[j].h := by rw [List.getElem_append_left (by simp [hdrsOf]; omega)]; simp [hdrsOf]
  have g2 : (hdrsOf l ++ X)[i]'(by simp [hdrsOf]; omega) = l[i].h := by rw [List.getElem_append_left (by simp [hdrsOf]; omega)]; simp [hdrsOf]
  have hp : pairH ((hdrsOf l ++ X)[j]'(by simp [hdrsOf]; omega)) ((hdrsOf l ++ X)[i]'(by simp [hdrsOf]; omega)) = true := by
    rw [g1, g2]
    unfold pairH
    refine decide_eq_true ⟨hH _ (List.getElem_mem hj'), hH _ (List.getElem_mem hi'), he.symm, ?_⟩
    unfold sameH
    exact decide_eq_false (fun q => hkey ⟨q.1.symm, q.2.1.symm⟩)
  have ht := anyPair_at (p := pairH) (l := hdrsOf l ++ X) (by simp [hdrsOf]; omega) hij hp
  unfold oneSumL at h
  rw [ht] at h
  simp at h
/-- Where digests are all different, a digest is found at its own place. -/
theorem idx_clear {l : List Crt} (hn : (crtSums l).Nodup) {k : Nat} (hk : k < l.length) : idxP (isB (crtSum l[k])) (crtSums l) = k := by
  have hkS : k < (crtSums l).length := by rw [crtSums_len]; exact hk
  have e : (crtSums l)[k] = crtSum l[k] := by simp [crtSums]
  refine idxP_hit hkS (fun j hj x hx => ?_) (by unfold isB; exact decide_eq_true e)
  unfold isB
  refine decide_eq_false (fun q => ?_)
  have hjS : j < (crtSums l).length := by omega
  rw [List.getElem?_eq_getElem hjS] at hx
  have hx' := Option.some.inj hx
  rw [List.nodup_iff_pairwise_ne, List.pairwise_iff_getElem] at hn
  exact hn j k hjS hkS hj (by rw [hx', q, e])
theorem find_clear {l : List Crt} (hn : (crtSums l).Nodup) {k : Nat} (hk : k < l.length) : idxP (isB (crtSum l[k])) (crtSums l) = k := idx_clear hn hk
end Go.Proofs.YtlailhhffejbbaaDoor

/- sheaveskeep.grownSum: what it computes. -/
set_option linter.unusedVariables false
set_option linter.unusedSimpArgs false
attribute [local go_sem ↓] Go.wp_at_zero Go.wp_at_succ
namespace Go.Proofs.YtlailhhffejbbaaDoor
open Go Go.RowKit

/-- Two lists one behind the other. -/
theorem RdS.ofAppend2 {α : Type} {R : Rel α} {w : World} {base e : Nat} {v : Value} {l1 l2 : List α} {vals news : List Value} (hs : 0 < R.size) (h0 : vals.length = l1.length * R.size)
    (hown : w.ownsRow base e R.size v (l1.length + l2.length) (vals ++ news)) (h1 : ∀ j x, l1[j]? = some x → R.rd (fun _ => True) w ((vals.drop (j * R.size)).take R.size) x) (h2 : ∀ j x, l2[j]? = some x → R.rd (fun _ => True) w ((news.drop (j * R.size)).take R.size) x) :
    RdS R (fun _ => True) w v (l1 ++ l2) := by
  obtain ⟨hl, hown'⟩ := hown
  rcases hown' with ⟨rfl, h0'⟩ | ⟨g, cap, cur, rfl, hbg, hg, k1, k2, k3, k4⟩
  · have e1 : l1 = [] := List.eq_nil_of_length_eq_zero (by omega)
    have e2 : l2 = [] := List.eq_nil_of_length_eq_zero (by omega)
    subst e1 e2; exact RdS.nil _ _ _
  · refine ⟨some ⟨g, 0, none⟩, cap, by rw [List.length_append], by rw [List.length_append]; exact k1, k2, fun h => by simp at h, fun j x hx => ?_⟩
    have hj : j < l1.length + l2.length := by
      rcases Nat.lt_or_ge j (l1 ++ l2).length with h | h
      · simpa using h
      · rw [List.getElem?_eq_none h] at hx; simp at hx
    have hle : (j + 1) * R.size ≤ (l1.length + l2.length) * R.size := Nat.mul_le_mul_right _ hj
    rw [Nat.add_mul, Nat.one_mul] at hle
    have hr : R.rd (fun _ => True) w (((vals ++ news).drop (j * R.size)).take R.size) x := by
      rcases Nat.lt_or_ge j l1.length with h | h
      · rw [List.getElem?_append_left h] at hx
        have hle2 : (j + 1) * R.size ≤ l1.length * R.size := Nat.mul_le_mul_right _ h
        rw [Nat.add_mul, Nat.one_mul] at hle2
        rw [List.drop_append_of_le_length (by omega), List.take_append_of_le_length (by simp; omega)]
        exact h1 j x hx
      · rw [List.getElem?_append_right h] at hx
        have e : j * R.size = vals.length + (j - l1.length) * R.size := by rw [h0, ← Nat.add_mul]; congr 1; omega
        rw [e, ← List.drop_drop, List.drop_left' rfl]
        exact h2 _ x hx
    refine ⟨g, 0, _, rfl, trivial, fun t c ht => ?_, hr⟩
    have hlen := R.len hr
    have ht' : t < R.size := by
      rcases Nat.lt_or_ge t R.size with h | h
      · exact h
      · rw [List.getElem?_eq_none (by omega)] at ht; simp at ht
    rw [List.getElem?_take_of_lt ht', List.getElem?_drop, ← k4, List.getElem?_take_of_lt (by omega)] at ht
    simp [World.cell?, hg]
    simpa using ht
theorem LstO.baseMono {α : Type} {R : Rel α} {G : Nat → Prop} {base base' e : Nat} {w : World} {v : Value} {l : List α} (h : LstO R G base e w v l) (hb : base' ≤ base) : LstO R G base' e w v l := by
  obtain ⟨vals, h1, h2⟩ := h
  exact ⟨vals, ownsRow_mono h1 hb, h2⟩
def gsumB (l : List Stp) : Bool := oneSumL (hdrsOf (grownL l) ++ hdrsOf (grownL (l.take 12))) (grownBs l ++ grownBs (l.take 12))
theorem batTo_mono (l : List Stp) (n : Nat) : ∀ m, n ≤ m → (batTo l n).length ≤ (batTo l m).length
  | 0, h => by obtain rfl : n = 0 := by omega
               exact Nat.le_refl _
  | m + 1, h => by
    rcases Nat.lt_or_ge m n with q | q
    · obtain rfl : n = m + 1 := by omega
      exact Nat.le_refl _
    · have h1 := batTo_mono l n m q
      have h2 : (batTo l m).length ≤ (batTo l (m + 1)).length := by simp [batTo]
      omega
theorem own_zero {w : World} {base e k a b : Nat} {v : Value} {l m : List Value} (h : w.ownsRow base e k v (0 + a + b) ([] ++ l ++ m)) : w.ownsRow base e k v (a + b) (l ++ m) := by
  rw [Nat.zero_add] at h; exact h
theorem take_min12 {α : Type} (l : List α) : l.take (min l.length 12) = l.take 12 := by
  rcases Nat.le_total l.length 12 with q | q
  · rw [Nat.min_eq_left q, List.take_length, List.take_of_length_le q]
  · rw [Nat.min_eq_right q]
theorem grownBs_pos (l : List Stp) : 0 < (grownBs l).length := by
  have h1 : (batTo (stp1 :: l) 1).length = 1 := by
    show (batTo (stp1 :: l) 0 ++ stpBs 0 stp1 (stpN stp1)).length = 1
    rw [List.length_append, stpBs_len]
    show 0 + stpN stp1 = 1
    decide
  have h2 := batTo_mono (stp1 :: l) 1 (stpMany (stp1 :: l)) (by unfold stpMany; simp; omega)
  show 0 < (batTo (stp1 :: l) (stpMany (stp1 :: l))).length
  omega
theorem grownBs_len (l : List Stp) : (grownBs l).length ≤ 48 := by
  have := batTo_len (stp1 :: l) (stpMany (stp1 :: l))
  have h : stpMany (stp1 :: l) ≤ 24 := by unfold stpMany; omega
  show (batTo (stp1 :: l) (stpMany (stp1 :: l))).length ≤ 48
  omega
theorem lst_steps {w w' : World} {base e : Nat} {v : Value} {l : List Stp} {news : List Value} (hown : w.ownsRow base e 3 v l.length news) (h : ∀ j x, l[j]? = some x → RStp.rd (fun _ => True) w' ((news.drop (j * 3)).take 3) x) :
    LstO RStp (fun _ => True) base e w v l := ⟨news, hown, fun j x hx => h j x hx⟩
set_option maxRecDepth 100000 in
set_option maxHeartbeats 8000000 in
theorem grownSum_any {l : List Stp} (v : Value) (w : World) (hv : RdS RStp (fun _ => True) w v l) (hz : l.length * 24 ≤ reachBytes) (ht : Tabs w) :
    Calls Tryd.prog 17 #[v, .slice none 0 0] w fun e w' => e = .returned (.bool (gsumB l)) ∧ Below w.heap.size w w' := by
  have HT := Lib.hid ht
  have hlz : l.length * 24 ≤ 140737488351232 := hz
  obtain ⟨adl, capl, rfl, hcl, hml⟩ := hv.form
  unfold maxLen at hml
  have HV := Lib.hid hv
  obtain ⟨m, hm⟩ : ∃ m, m = min l.length 12 := ⟨_, rfl⟩
  have hm1 : m ≤ l.length := by omega
  have hm2 : m ≤ 12 := by omega
  have hm3 : ((l.length : Int) ≤ 12 ∧ (m : Int) = (l.length : Int)) ∨ (¬ (l.length : Int) ≤ 12 ∧ (m : Int) = 12) := by omega
  have HM3 := Lib.hid hm3
  have HTK := Lib.hid (show l.take m = l.take 12 by rw [hm]; exact take_min12 l)
  have htl : (l.take m).length = m := by rw [List.length_take]; omega
  have HTL := Lib.hid htl
  have HZ2 := Lib.hid (show (l.take m).length * 24 ≤ reachBytes by rw [htl]; exact Nat.le_trans (Nat.mul_le_mul_right _ hm1) hz)
  clear hv ht hm hm3 htl
  go_enter Tryd.func17, Tryd.ntmps17
  go_wp2_with fail
  refine (grown_any _ _ HV.out hz HT.out).mono ?_
  rintro e w1 ⟨vd, vb, rfl, hd, hb, hb1⟩
  obtain ⟨add, capd, rfl, -, -⟩ := hd.form
  obtain ⟨adb, capb, rfl, -, -⟩ := hb.form
  have HD1 := Lib.hid ((hd.mono (G' := fun _ => True) (fun _ _ => trivial)))
  have HS1 := Lib.hid ((hb.mono (G' := fun _ => True) (fun _ _ => trivial)))
  have HB1 := Lib.hid hb1
  have HV1 := Lib.hid (HV.out.below hb1 (fun _ h => h))
  clear hd hb hb1 HV
  have hg4 := grown_len l
  have hgp := grown_pos l
  have hb4 := grownBs_len l
  have hbp := grownBs_pos l
  obtain ⟨D1, hD1⟩ : ∃ D1, D1 = grownL l := ⟨_, rfl⟩
  obtain ⟨S1, hS1⟩ : ∃ S1, S1 = grownBs l := ⟨_, rfl⟩
  rw [← hD1] at HD1 hg4 hgp ⊢
  rw [← hS1] at HS1 hb4 hbp ⊢
  have HDE1 := Lib.hid hD1
  have HSE1 := Lib.hid hS1
  clear hD1 hS1
  go_upto_region 2 with fail
  obtain ⟨w2, hwl⟩ : ∃ w2, w2 = w1.alloc (.cells #[.slice add D1.length capd] 27) := ⟨_, rfl⟩
  have hBl : Below w1.heap.size w1 w2 := by rw [hwl]; exact (Below.refl _ _).alloc (Nat.le_refl _) _
  have HX := Lib.hid (show BoxAt w2 w1.heap.size [.slice add D1.length capd] 27 by rw [hwl]; exact BoxAt.new w1 [_] _)
  rw [← hwl]
  replace HD1 := Lib.hid (HD1.out.below hBl (fun _ h => h))
  replace HS1 := Lib.hid (HS1.out.below hBl (fun _ h => h))
  replace HB1 := Lib.hid (HB1.out.trans (hBl.mono HB1.out.size))
  replace HV1 := Lib.hid (HV1.out.below hBl (fun _ h => h))
  clear hwl hBl
  obtain ⟨news, hsl, hrd, hone⟩ := (HV1.out.take m hm1).flatOf (by decide) (fun h => RStp_one h)
  rw [HTL.out] at hsl
  have HSL := Lib.hid hsl
  have HRD := Lib.hid hrd
  have HON := Lib.hid hone
  clear hsl hrd hone
  have k1 : (m : Int) ≤ (capl : Int) := by omega
  have k0 : (0 : Int) ≤ (m : Int) := by omega
  have kmin : min (l.length : Int) 12 = (m : Int) := by have q := HM3.out; omega
  go_wp2_with (first
    | (refine wpList_min rfl (.tmp 17) (.const (.int .i64 12)) 3 3 rfl (l.length : Int) 12 (m : Int) rfl rfl HM3.out ?_)
    | (at_builtin; refine wpList_append_sl rfl (.const (.slice none 0 0)) (.tmp 19) 22 rfl elemStp w2.heap.size (.slice none 0 0) rfl 0 [] (World.ownsRow_nil _ _ _ _) _ rfl m news HSL.out HON.out (by unfold maxLen; omega) (by omega) (Nat.le_refl _) ?_; intro v20 w20 hown20 hgr20)
    | (at_builtin; refine wpList_append_sl rfl (.tmp 20) (.tmp 21) 22 rfl elemStp w2.heap.size v20 rfl (0 + m) ([] ++ news) hown20 (.slice none 0 0) rfl 0 [] ⟨none, 0, rfl, fun _ => ⟨rfl, rfl⟩, rfl, fun j u h => by simp at h⟩ (by simp) (by unfold maxLen; omega) (by omega) hgr20.size ?_; intro v22 w22 hown22 hgr22))
  have hlt20 := hown20.lt
  have hown22' : w22.ownsRow w2.heap.size 59 3 v22 (l.take m).length news := by
    rw [HTL.out]; simpa using hown22
  have HL22 := Lib.hid (lst_steps (w' := w2) hown22' HRD.out)
  have hB22 : Below w2.heap.size w2 w22 := ((Below.refl _ _).grown hgr20 (Nat.le_refl _) (fun k hk => by simp [Value.ownBlock] at hk)).grown hgr22 hgr20.size (fun k hk => (hlt20 k hk).1)
  replace HD1 := Lib.hid (HD1.out.below hB22 (fun _ h => h))
  replace HS1 := Lib.hid (HS1.out.below hB22 (fun _ h => h))
  replace HX := Lib.hid (HX.out.belowS hB22)
  replace HB1 := Lib.hid (HB1.out.trans (hB22.mono HB1.out.size))
  clear hown20 hgr20 hown22 hown22' hgr22 hB22 hlt20 HSL HRD HON HV1
  refine (grown_any _ _ (HL22.out.rd (G' := fun _ => True) (by decide) (fun _ _ _ => trivial) (fun _ _ _ => trivial)) HZ2.out (HT.out.belowS HB1.out)).mono ?_
  rintro e w3 ⟨ve, vf, rfl, hd, hb, hb3⟩
  obtain ⟨ade, cape, rfl, -, -⟩ := hd.form
  obtain ⟨adf, capf, rfl, -, -⟩ := hb.form
  have HD2 := Lib.hid ((hd.mono (G' := fun _ => True) (fun _ _ => trivial)))
  have HS2 := Lib.hid ((hb.mono (G' := fun _ => True) (fun _ _ => trivial)))
  replace HD1 := Lib.hid (HD1.out.below hb3 (fun _ h => h))
  replace HS1 := Lib.hid (HS1.out.below hb3 (fun _ h => h))
  replace HX := Lib.hid (HX.out.belowS hb3)
  replace HB1 := Lib.hid (HB1.out.trans (hb3.mono HB1.out.size))
  rw [HTK.out] at HD2 HS2 ⊢
  clear hd hb hb3 HL22
  have hg4' := grown_len (l.take 12)
  have hgp' := grown_pos (l.take 12)
  have hb4' := grownBs_len (l.take 12)
  have hbp' := grownBs_pos (l.take 12)
  have HG := Lib.hid (show gsumB l = oneSumL (hdrsOf (grownL l) ++ hdrsOf (grownL (l.take 12))) (grownBs l ++ grownBs (l.take 12)) from rfl)
  rw [← HDE1.out, ← HSE1.out] at HG
  generalize grownL (l.take 12) = D2 at *
  generalize grownBs (l.take 12) = S2 at *
  go_upto_region 3 with fail
  obtain ⟨w5, hwl⟩ : ∃ w5, w5 = w3.alloc (.cells #[.slice ade D2.length cape] 27) := ⟨_, rfl⟩
  have hBl : Below w3.heap.size w3 w5 := by rw [hwl]; exact (Below.refl _ _).alloc (Nat.le_refl _) _
  have HY := Lib.hid (show BoxAt w5 w3.heap.size [.slice ade D2.length cape] 27 by rw [hwl]; exact BoxAt.new w3 [_] _)
  rw [← hwl]
  replace HD1 := Lib.hid (((HD1.out.low (by decide)).mono (G' := fun b => b < w3.heap.size) (fun b hb => hb.2)).below hBl (fun _ h => h))
  replace HS1 := Lib.hid (((HS1.out.low (by decide)).mono (G' := fun b => b < w3.heap.size) (fun b hb => hb.2)).below hBl (fun _ h => h))
  replace HD2 := Lib.hid (((HD2.out.low (by decide)).mono (G' := fun b => b < w3.heap.size) (fun b hb => hb.2)).below hBl (fun _ h => h))
  replace HS2 := Lib.hid (((HS2.out.low (by decide)).mono (G' := fun b => b < w3.heap.size) (fun b hb => hb.2)).below hBl (fun _ h => h))
  replace HX := Lib.hid (HX.out.belowS hBl)
  replace HB1 := Lib.hid (HB1.out.trans (hBl.mono HB1.out.size))
  clear hwl hBl
  have zx := HX.out.lt
  have zy := HY.out.lt
  have hzw := HB1.out.size
  refine wp_region_held_drew (S := fun w' => Below w5.heap.size w5 w') (by kernel_rfl) (by exact (Below.refl _ _).drew) (fun hHeld => ?_)
  obtain ⟨wd, hwd⟩ : ∃ wd, wd = w5.drew := ⟨_, rfl⟩
  have HBd := Lib.hid (show Below w5.heap.size w5 wd by rw [hwd]; exact (Below.refl _ _).drew)
  rw [← hwd] at hHeld ⊢
  clear hwd
  refine wpAnyH_take (i := 0) (v := .agg #[.slice add D1.length capd]) rfl (by kernel_rfl) (by kernel_rfl) (by kernel_rfl) (fun _ _ _ h => h) (Or.inl ⟨by rfl, fun w hSw => ?_⟩) hHeld ?_
  · have q0 := (HX.out.belowS hSw).cell 0 rfl; clear hSw; go_simp
  try simp only [Act.put, List.getElem_toArray, List.getElem_cons_succ, List.getElem_cons_zero, List.setIfInBounds_toArray, List.set_cons_zero, List.set_cons_succ]
  refine wpAnyH_take (i := 2) (v := .agg #[.slice ade D2.length cape]) rfl (by kernel_rfl) (by kernel_rfl) (by kernel_rfl) (fun _ _ _ h => h) (Or.inl ⟨by rfl, fun w hSw => ?_⟩) hHeld ?_
  · have q0 := (HY.out.belowS hSw).cell 0 rfl; clear hSw; go_simp
  try simp only [Act.put, List.getElem_toArray, List.getElem_cons_succ, List.getElem_cons_zero, List.setIfInBounds_toArray, List.set_cons_zero, List.set_cons_succ]
  refine wpAnyH_take (i := 5) (v := .slice adb S1.length capb) rfl (by kernel_rfl) (by kernel_rfl) (by kernel_rfl) (fun _ _ _ h => h) (Or.inl ⟨by rfl, fun w hSw => ?_⟩) hHeld ?_
  · clear hSw; go_simp; all_goals (try first | rfl | omega)
  try simp only [Act.put, List.getElem_toArray, List.getElem_cons_succ, List.getElem_cons_zero, List.setIfInBounds_toArray, List.set_cons_zero, List.set_cons_succ]
  refine wpAnyH_take (i := 7) (v := .slice adf S2.length capf) rfl (by kernel_rfl) (by kernel_rfl) (by kernel_rfl) (fun _ _ _ h => h) (Or.inl ⟨by rfl, fun w hSw => ?_⟩) hHeld ?_
  · clear hSw; go_simp; all_goals (try first | rfl | omega)
  try simp only [Act.put, List.getElem_toArray, List.getElem_cons_succ, List.getElem_cons_zero, List.setIfInBounds_toArray, List.set_cons_zero, List.set_cons_succ]
  refine wpAnyH_ready (rs := [1]) (by kernel_rfl) (by simp) ?_
  refine AllReadyH.cons rfl (fun K hK => ?_) ?_
  · rw [if_pos (by rfl)]
    go_simp
    go_at_call 37
    refine (headers_any _ _ (HD1.out.below HBd.out (fun _ h => h)) (by omega)).mono ?_
    rintro e wh ⟨ah, ch, rfl, hL, hbh⟩
    have hBh : Below w5.heap.size w5 wh := HBd.out.trans (hbh.mono (Below.size HBd.out))
    have HBh := Lib.hid hBh
    have zh := hBh.size
    have HL1 := Lib.hid (show LstO RHdr (fun b => b < w3.heap.size) w5.heap.size 36 wh (.slice ah D1.length ch) (hdrsOf D1) from (hL.mono (G' := fun b => b < w3.heap.size) (fun b hb => hb.1)).baseMono (by have := Below.size HBd.out; omega))
    have hL1up := HL1.out.lt
    clear hL hbh hBh
    show K _ _
    refine hK.out _ _ (by exact HBh.out) (fun hHeld => ?_)
    clear hK K
    try simp only [Act.put, List.getElem_toArray, List.getElem_cons_succ, List.getElem_cons_zero, List.setIfInBounds_toArray, List.set_cons_zero, List.set_cons_succ]
    refine wpAnyH_ready (rs := [3]) (by kernel_rfl) (by simp) ?_
    refine AllReadyH.cons rfl (fun K hK => ?_) ?_
    · rw [if_pos (by rfl)]
      go_simp
      go_at_call 37
      refine (headers_any _ _ (HD2.out.below HBh.out (fun _ h => h)) (by omega)).mono ?_
      rintro e wi ⟨ai, ci, rfl, hL, hbi⟩
      have hBi : Below w5.heap.size w5 wi := HBh.out.trans (hbi.mono (Below.size HBh.out))
      have HBi := Lib.hid hBi
      have zi := hbi.size
      replace HL1 := Lib.hid (HL1.out.below hbi)
      have hL2 := (hL.mono (G' := fun b => b < w3.heap.size) (fun b hb => hb.1)).rd (G' := fun b => b < w3.heap.size ∨ wh.heap.size ≤ b) (by decide) (fun b h1 h2 => .inr (by omega)) (fun b h1 h2 => .inl h1)
      obtain ⟨newsh, hslh, hrdh, honeh⟩ := hL2.flatOf (by decide) (fun h => RHdr_one h)
      rw [hdrsOf_len] at hslh
      have HSLH := Lib.hid hslh
      have HRDH := Lib.hid hrdh
      have HONH := Lib.hid honeh
      obtain ⟨valsh, hVh⟩ := HL1.out.valsOf
      have HVH := Lib.hid hVh
      have hvlt := hVh.lt
      have HL1n := Lib.hid (hdrsOf_len D1)
      have HL2n := Lib.hid (hdrsOf_len D2)
      clear hL hbi hBi hL2 hslh hrdh honeh hVh
      show K _ _
      refine hK.out _ _ (by exact HBi.out) (fun hHeld => ?_)
      clear hK K
      try simp only [Act.put, List.getElem_toArray, List.getElem_cons_succ, List.getElem_cons_zero, List.setIfInBounds_toArray, List.set_cons_zero, List.set_cons_succ]
      refine wpAnyH_ready (rs := [4]) (by kernel_rfl) (by simp) ?_
      refine AllReadyH.cons rfl (fun K hK => ?_) ?_
      · rw [if_pos (by rfl)]
        have hownH : wi.ownsRow w5.heap.size 36 4 (.slice ah D1.length ch) D1.length valsh := by have q := HVH.out.own; rw [HL1n.out] at q; exact q
        refine wp_append_at1 _ _ _ (by rfl) elemHdrD w5.heap.size (.slice ah D1.length ch) D1.length valsh (by rfl) hownH (.slice ai D2.length ci) D2.length newsh (by rfl) HSLH.out HONH.out hgp' (by unfold maxLen; omega) (by omega) (by omega) ?_
        intro gj cj wj hownj hgrj hatj hltj
        have HHJ := Lib.hid (show RdS RHdr (fun b => b < wj.heap.size) wj (.slice (some ⟨gj, 0, none⟩) (D1.length + D2.length) cj) (hdrsOf D1 ++ hdrsOf D2) from ((RdS.ofAppend2 (by decide) (by rw [HL1n.out]; exact hownH.1) (by rw [HL1n.out, HL2n.out]; exact hownj) (fun j x hx => RHdr.keep (HVH.out.2 j x hx) (Keep.grown hgrj (fun k hk h => h.2.2 hk)) (fun _ _ => trivial)) (fun j x hx => RHdr.keep (HRDH.out j x hx) (Keep.grown hgrj (fun k hk h => by have q1 := (hL1up k hk).1; have q2 := (hL1up k hk).2; omega)) (fun _ _ => trivial))).low (by decide)).mono (fun b hb => hb.2))
        have HBj := Lib.hid (show Below w5.heap.size w5 wj from HBi.out.grown hgrj (Below.size HBi.out) (fun k hk => (hL1up k hk).1))
        have zj := hgrj.size
        clear hownH hownj hgrj hatj
        show K _ _
        refine hK.out _ _ (by exact HBj.out) (fun hHeld => ?_)
        clear hK K
        try simp only [Act.put, List.getElem_toArray, List.getElem_cons_succ, List.getElem_cons_zero, List.setIfInBounds_toArray, List.set_cons_zero, List.set_cons_succ]
        refine wpAnyH_ready (rs := [6]) (by kernel_rfl) (by simp) ?_
        refine AllReadyH.cons rfl (fun K hK => ?_) ?_
        · rw [if_pos (by rfl)]
          obtain ⟨newsb, hslb, hrdb, honeb⟩ := (HS1.out.below HBj.out (fun _ h => h)).flatOf (by decide) (fun h => RBat_one h)
          refine wp_append_at1 _ _ _ (by rfl) elemBatD wj.heap.size (.slice none 0 0) 0 [] (by rfl) (World.ownsRow_nil _ _ _ _) (.slice adb S1.length capb) S1.length newsb (by rfl) hslb honeb hbp (by unfold maxLen; omega) (by omega) (Nat.le_refl _) ?_
          intro gk ck wk hownk hgrk hatk hltk
          have HOK := Lib.hid (show wk.ownsRow wj.heap.size 82 3 (.slice (some ⟨gk, 0, none⟩) (0 + S1.length) ck) (0 + S1.length) ([] ++ newsb) from hownk)
          have HNB := Lib.hid (show newsb.length = S1.length * 3 by obtain ⟨_, _, _, _, q, _⟩ := hslb; exact q)
          have HRK := Lib.hid (show ∀ j x, S1[j]? = some x → RBat.rd (fun b => b < w3.heap.size) wk ((newsb.drop (j * 3)).take 3) x from fun j x hx => RBat.keep (hrdb j x hx) (Keep.grown hgrk (fun k hk h => by simp [Value.ownBlock] at hk)) (fun _ h => h))
          have HBk := Lib.hid (show Below w5.heap.size w5 wk from HBj.out.grown hgrk (Below.size HBj.out) (fun k hk => by simp [Value.ownBlock] at hk))
          have HHK := Lib.hid (HHJ.out.keep (G' := fun b => b < wj.heap.size) (Keep.grown hgrk (fun k hk h => by simp [Value.ownBlock] at hk)) (fun _ h => h))
          have zk := hgrk.size
          clear hslb hrdb honeb hownk hgrk hatk
          show K _ _
          refine hK.out _ _ (by exact HBk.out) (fun hHeld => ?_)
          clear hK K
          try simp only [Act.put, List.getElem_toArray, List.getElem_cons_succ, List.getElem_cons_zero, List.setIfInBounds_toArray, List.set_cons_zero, List.set_cons_succ]
          refine wpAnyH_ready (rs := [8]) (by kernel_rfl) (by simp) ?_
          refine AllReadyH.cons rfl (fun K hK => ?_) ?_
          · rw [if_pos (by rfl)]
            obtain ⟨newsc, hslc, hrdc, honec⟩ := (HS2.out.below HBk.out (fun _ h => h)).flatOf (by decide) (fun h => RBat_one h)
            have hltk2 := HOK.out.lt
            refine wp_append_at1 _ _ _ (by rfl) elemBatD wj.heap.size (.slice (some ⟨gk, 0, none⟩) (0 + S1.length) ck) (0 + S1.length) ([] ++ newsb) (by rfl) HOK.out (.slice adf S2.length capf) S2.length newsc (by rfl) hslc honec hbp' (by unfold maxLen; omega) (by omega) zk ?_
            intro gm cm wm hownm hgrm hatm hltm
            have hgk : wj.heap.size ≤ gk := (hltk2 gk rfl).1
            have HBM := Lib.hid (show RdS RBat (fun _ => True) wm (.slice (some ⟨gm, 0, none⟩) (0 + S1.length + S2.length) cm) (S1 ++ S2) from RdS.ofAppend2 (vals := newsb) (by decide) HNB.out (own_zero hownm) (fun j x hx => RBat.keep (HRK.out j x hx) (Keep.grown hgrm (fun k hk h => by have := (hltk2 k hk).1; omega)) (fun _ _ => trivial)) (fun j x hx => RBat.keep (hrdc j x hx) (Keep.grown hgrm (fun k hk h => by have := (hltk2 k hk).1; omega)) (fun _ _ => trivial)))
            have HHM := Lib.hid (HHK.out.keep (G' := fun _ => True) (Keep.grown hgrm (fun k hk h => by have := (hltk2 k hk).1; have h0 : k < wj.heap.size := h; omega)) (fun _ _ => trivial))
            have HBm := Lib.hid (show Below w5.heap.size w5 wm from HBk.out.grown hgrm (Below.size HBk.out) (fun k hk => by have := (hltk2 k hk).1; omega))
            clear hslc hrdc honec hownm hgrm hatm
            show K _ _
            refine hK.out _ _ (by exact HBm.out) (fun hHeld => ?_)
            clear hK K
            try simp only [Act.put, List.getElem_toArray, List.getElem_cons_succ, List.getElem_cons_zero, List.setIfInBounds_toArray, List.set_cons_zero, List.set_cons_succ]
            refine wpAnyH_ready (rs := [9]) (by kernel_rfl) (by simp) ?_
            refine AllReadyH.cons rfl (fun K hK => ?_) ?_
            · rw [if_pos (by rfl)]
              go_simp
              go_at_call 36
              refine (oneSum_any _ _ _ HHM.out (show RdS RBat (fun _ => True) wm (.slice (some ⟨gm, 0, none⟩) (S1.length + S2.length) cm) (S1 ++ S2) by have q := HBM.out; rw [Nat.zero_add] at q; exact q) (HT.out.belowS (HB1.out.trans (HBm.out.mono HB1.out.size)))).mono ?_
              rintro e wn ⟨rfl, hbn⟩
              have HBn := Lib.hid (HBm.out.trans (hbn.mono (Below.size HBm.out)))
              rw [← HG.out]
              clear hbn
              show K _ _
              refine hK.out _ _ (by exact HBn.out) (fun hHeld => ?_)
              clear hK K
              try simp only [Act.put, List.getElem_toArray, List.getElem_cons_succ, List.getElem_cons_zero, List.setIfInBounds_toArray, List.set_cons_zero, List.set_cons_succ]
              refine wpAnyH_take (i := 10) (v := .bool (gsumB l)) rfl (by kernel_rfl) (by kernel_rfl) (by kernel_rfl) (fun _ _ _ h => h) (Or.inl ⟨by rfl, fun w hSw => ?_⟩) hHeld ?_
              · clear hSw; go_simp; all_goals (try first | rfl | omega)
              try simp only [Act.put, List.getElem_toArray, List.getElem_cons_succ, List.getElem_cons_zero, List.setIfInBounds_toArray, List.set_cons_zero, List.set_cons_succ]
              refine wpAnyH_done (by kernel_rfl) ?_ _
              go_wp2
              go_ret
              exact ⟨rfl, HB1.out.trans (HBn.out.mono HB1.out.size)⟩
            exact AllReadyH.nil
          exact AllReadyH.nil
        exact AllReadyH.nil
      exact AllReadyH.nil
    exact AllReadyH.nil
  exact AllReadyH.nil
end Go.Proofs.YtlailhhffejbbaaDoor

/- growSum: what it computes. -/
set_option linter.unusedVariables false
set_option linter.unusedSimpArgs false
attribute [local go_sem ↓] Go.wp_at_zero Go.wp_at_succ
namespace Go.Proofs.YtlailhhffejbbaaDoor
open Go Go.RowKit

def growH (l : List Stp) (n : Int) : Hdr := ⟨pickedZ n 4, roundL (grownL l), [], digsL (grownL l) (roundL (grownL l) - 1)⟩
def growB (l : List Stp) (n : Int) : Bool := oneSumL (hdrsOf (grownL l) ++ [growH l n]) (grownBs l)
set_option maxRecDepth 100000 in
set_option maxHeartbeats 8000000 in
theorem growSum_any {l : List Stp} (v : Value) (n : Int) (w : World) (hv : RdS RStp (fun _ => True) w v l) (hz : l.length * 24 ≤ reachBytes) (n1 : -9223372036854775808 ≤ n) (n2 : n ≤ 9223372036854775807) (ht : Tabs w) :
    Calls Tryd.prog 15 #[v, .int .i64 n] w fun e w' => e = .returned (.bool (growB l n)) ∧ Below w.heap.size w w' := by
  have HT := Lib.hid ht
  go_enter Tryd.func15, Tryd.ntmps15
  go_wp2_with fail
  refine (grown_any _ _ hv hz ht).mono ?_
  rintro e w1 ⟨vd, vb, rfl, hd, hbb, hb1⟩
  obtain ⟨add, capd, rfl, -, -⟩ := hd.form
  obtain ⟨adb, capb, rfl, -, -⟩ := hbb.form
  have HBT1 := Lib.hid hbb
  clear hbb
  have HD1 := Lib.hid hd
  have HB1 := Lib.hid hb1
  clear hd hb1 ht hv
  go_upto_region 2 with fail
  obtain ⟨w2, hw2⟩ : ∃ w2, w2 = w1.alloc (.cells #[.slice add (grownL l).length capd] 27) := ⟨_, rfl⟩
  have HX := Lib.hid (show BoxAt w2 w1.heap.size [.slice add (grownL l).length capd] 27 by rw [hw2]; exact BoxAt.new w1 [_] _)
  have hB2 : Below w1.heap.size w1 w2 := by rw [hw2]; exact (Below.refl _ _).alloc (Nat.le_refl _) _
  rw [← hw2]
  have HD := Lib.hid ((HD1.out.mono (G' := fun _ => True) (fun _ _ => trivial)).below hB2 (fun _ h => h))
  have HBT := Lib.hid ((HBT1.out.mono (G' := fun _ => True) (fun _ _ => trivial)).below hB2 (fun _ h => h))
  clear HBT1
  have HB := Lib.hid (HB1.out.trans (hB2.mono HB1.out.size))
  have HOK := Lib.hid (grown_ok l)
  have hz2 := HX.out.lt
  have hzw2 := HB.out.size
  clear hw2 hB2 HD1 HB1
  have hg4 := grown_len l
  have hgp := grown_pos l
  have hb4 := grownBs_len l
  have HG := Lib.hid (show growB l n = oneSumL (hdrsOf (grownL l) ++ [⟨pickedZ n 4, roundL (grownL l), [], digsL (grownL l) (roundL (grownL l) - 1)⟩]) (grownBs l) from rfl)
  generalize grownL l = L at *
  generalize grownBs l = S1 at *
  have x0 := HX.out.cell 0 rfl
  go_wp2_with fail
  refine (dagRound_any _ _ HD.out (HT.out.belowS HB.out) HOK.out).mono ?_
  rintro e w3 ⟨rfl, hb3⟩
  have hr1 := roundL_pos L
  have hr2 := roundL_le L
  generalize roundL L = r at *
  replace HX := Lib.hid (HX.out.belowS hb3)
  replace HD := Lib.hid (HD.out.below hb3 (fun _ h => h))
  replace HBT := Lib.hid (HBT.out.below hb3 (fun _ h => h))
  replace HB := Lib.hid (HB.out.trans (hb3.mono HB.out.size))
  clear hb3 x0
  have x0 := HX.out.cell 0 rfl
  have wr1 : IntKind.i64.wrap (r - 1) = r - 1 := IntWalk.i64_in _ (by omega)
  go_wp2_with fail
  refine (dagDigests_any (r - 1) _ _ HD.out (HT.out.belowS HB.out) HOK.out).mono ?_
  rintro e w4 ⟨vP, rfl, hP, hb4'⟩
  obtain ⟨adp, capp, rfl, -, hmp⟩ := hP.form
  unfold maxLen at hmp
  have HP := Lib.hid (hP.mono (G' := fun _ => True) (fun _ _ => trivial))
  replace HX := Lib.hid (HX.out.belowS hb4')
  replace HD := Lib.hid (HD.out.below hb4' (fun _ h => h))
  replace HBT := Lib.hid (HBT.out.below hb4' (fun _ h => h))
  replace HB := Lib.hid (HB.out.trans (hb4'.mono HB.out.size))
  generalize digsL L (r - 1) = PS at *
  clear hb4' hP x0
  obtain ⟨a, ha⟩ : ∃ a, a = pickedZ n 4 := ⟨_, rfl⟩
  rw [← ha] at HG
  have HA := Lib.hid ha.symm
  clear ha
  go_upto_region 5 with (go_at_call 19; refine (picked_any n 4 _ n1 n2 (by omega) (by omega)).mono ?_; rintro e w' ⟨rfl, rfl⟩; rw [HA.out])
  obtain ⟨w6, hwl⟩ : ∃ w6, w6 = (w4.alloc (.cells #[.int .i64 a, .int .i64 r, .slice none 0 0, .slice adp PS.length capp] 36)) := ⟨_, rfl⟩
  have hBl : Below w4.heap.size w4 w6 := by rw [hwl]; exact ((Below.refl _ _).alloc (by first | exact Nat.le_refl _ | (simp; done) | (simp; omega)) _)
  have HY := Lib.hid (show BoxAt w6 w4.heap.size [.int .i64 a, .int .i64 r, .slice none 0 0, .slice adp PS.length capp] 36 by rw [hwl]; exact BoxAt.new w4 [.int .i64 a, .int .i64 r, .slice none 0 0, .slice adp PS.length capp] _)
  rw [← hwl]
  replace HX := Lib.hid (HX.out.belowS hBl)
  replace HD := Lib.hid (HD.out.below hBl (fun _ h => h))
  replace HBT := Lib.hid (HBT.out.below hBl (fun _ h => h))
  replace HB := Lib.hid (HB.out.trans (hBl.mono HB.out.size))
  replace HP := Lib.hid (HP.out.below hBl (fun _ h => h))
  clear hwl hBl
  replace HD := Lib.hid ((HD.out.low (by decide)).mono (G' := fun b => b < w6.heap.size) (fun b hb => hb.2))
  replace HP := Lib.hid ((HP.out.low (by decide)).mono (G' := fun b => b < w6.heap.size) (fun b hb => hb.2))
  have zx := HX.out.lt
  have zy := HY.out.lt
  refine wp_region_held_drew (S := fun w' => Below w6.heap.size w6 w') (by kernel_rfl) (by exact (Below.refl _ _).drew) (fun hHeld => ?_)
  obtain ⟨wd, hwd⟩ : ∃ wd, wd = w6.drew := ⟨_, rfl⟩
  rw [← hwd] at hHeld ⊢
  have HBd := Lib.hid (show Below w6.heap.size w6 wd from hHeld)
  have zwd : w6.heap.size ≤ wd.heap.size := by rw [hwd]; exact Nat.le_refl _
  clear hwd
  refine wpAnyH_take (i := 0) (v := .agg #[.slice add L.length capd]) rfl (by kernel_rfl) (by kernel_rfl) (by kernel_rfl) (fun _ _ _ h => h) (Or.inl ⟨by rfl, fun w hSw => ?_⟩) hHeld ?_
  · have q0 := (HX.out.belowS hSw).cell 0 rfl; clear hSw; go_simp
  try simp only [Act.put, List.getElem_toArray, List.getElem_cons_succ, List.getElem_cons_zero, List.setIfInBounds_toArray, List.set_cons_zero, List.set_cons_succ]
  refine wpAnyH_take (i := 2) (v := .agg #[.int .i64 a, .int .i64 r, .slice none 0 0, .slice adp PS.length capp]) rfl (by kernel_rfl) (by kernel_rfl) (by kernel_rfl) (fun _ _ _ h => h) (Or.inl ⟨by rfl, fun w hSw => ?_⟩) hHeld ?_
  · have qb := HY.out.belowS hSw; have q0 := qb.cell 0 rfl; have q1 := qb.cell 1 rfl; have q2 := qb.cell 2 rfl; have q3 := qb.cell 3 rfl; clear hSw qb; go_simp
  try simp only [Act.put, List.getElem_toArray, List.getElem_cons_succ, List.getElem_cons_zero, List.setIfInBounds_toArray, List.set_cons_zero, List.set_cons_succ]
  refine wpAnyH_take (i := 5) (v := .slice adb S1.length capb) rfl (by kernel_rfl) (by kernel_rfl) (by kernel_rfl) (fun _ _ _ h => h) (Or.inl ⟨by rfl, fun w hSw => ?_⟩) hHeld ?_
  · clear hSw; go_simp; all_goals (try first | rfl | omega)
  try simp only [Act.put, List.getElem_toArray, List.getElem_cons_succ, List.getElem_cons_zero, List.setIfInBounds_toArray, List.set_cons_zero, List.set_cons_succ]
  refine wpAnyH_ready (rs := [1, 3]) (by kernel_rfl) (by simp) ?_
  refine AllReadyH.cons rfl (fun K hK => ?_) ?_
  · rw [if_pos (by rfl)]
    go_simp
    go_at_call 37
    refine (headers_any _ _ (HD.out.below HBd.out (fun _ h => h)) (by omega)).mono ?_
    rintro e wh ⟨ah, ch, rfl, hL, hb_wh⟩
    have HBwh := Lib.hid (HBd.out.trans (hb_wh.mono (Below.size HBd.out)))
    have zwh := hb_wh.size
    have HLH := Lib.hid (show LstO RHdr (fun b => b < w6.heap.size) w6.heap.size 36 wh (.slice ah L.length ch) (hdrsOf L) from (hL.mono (G' := fun b => b < w6.heap.size) (fun b hb => hb.1)).baseMono (by have := Below.size HBd.out; omega))
    clear hL hb_wh
    show K _ _
    refine hK.out _ _ (by exact HBwh.out) (fun hHeld => ?_)
    clear hK K
    try simp only [Act.put, List.getElem_toArray, List.getElem_cons_succ, List.getElem_cons_zero, List.setIfInBounds_toArray, List.set_cons_zero, List.set_cons_succ]
    refine wpAnyH_ready (rs := [3]) (by kernel_rfl) (by simp) ?_
    refine AllReadyH.cons rfl (fun K hK => ?_) ?_
    · rw [if_pos (by rfl)]
      go_simp
      show K _ _
      refine hK.out _ _ (by exact (HBwh.out.alloc (Below.size HBwh.out) _)) (fun hHeld => ?_)
      clear hK K
      try simp only [Act.put, List.getElem_toArray, List.getElem_cons_succ, List.getElem_cons_zero, List.setIfInBounds_toArray, List.set_cons_zero, List.set_cons_succ]
      obtain ⟨wa1, hwn⟩ : ∃ wa1, wa1 = wh.alloc (.cells #[.int .i64 a, .int .i64 r, .slice none 0 0, .slice adp PS.length capp] 36) := ⟨_, rfl⟩
      have FA1 := Lib.hid (show BoxAt wa1 (wh.heap.size) [.int .i64 a, .int .i64 r, .slice none 0 0, .slice adp PS.length capp] 36 by rw [hwn]; exact BoxAt.newAt wh [.int .i64 a, .int .i64 r, .slice none 0 0, .slice adp PS.length capp] 36 rfl)
      have HBwa1 := Lib.hid (show Below w6.heap.size w6 wa1 by rw [hwn]; exact HBwh.out.alloc (Below.size HBwh.out) _)
      replace HLH := Lib.hid (show LstO RHdr (fun b => b < w6.heap.size) w6.heap.size 36 wa1 (.slice ah L.length ch) (hdrsOf L) by rw [hwn]; exact HLH.out.alloc _)
      rw [← hwn] at hHeld ⊢
      clear hwn
      have zwa1 := FA1.out.lt
      refine wpAnyH_ready (rs := [4]) (by kernel_rfl) (by simp) ?_
      refine AllReadyH.cons rfl (fun K hK => ?_) ?_
      · rw [if_pos (by rfl)]
        obtain ⟨vals, hLV⟩ := HLH.out.valsOf
        have hlen := hdrsOf_len L
        have hown0 := hLV.own
        rw [hlen] at hown0
        refine wp_append_one _ _ 54 rfl elemHdrD w6.heap.size _ L.length vals rfl hown0 (wh.heap.size) 36 [.int .i64 a, .int .i64 r, .slice none 0 0, .slice adp PS.length capp] rfl FA1.out rfl (by simp [Value.oneCell']) (by unfold maxLen; omega) (by omega) (Below.size HBwa1.out) ?_
        intro gq capq wq hownq hgrq hatq hltq
        have hPx : RHdr.rd (fun b => b < w6.heap.size ∧ b < (wa1).heap.size ∧ (Value.slice ah L.length ch).ownBlock ≠ some b) (wa1) [.int .i64 a, .int .i64 r, .slice none 0 0, .slice adp PS.length capp] ⟨a, r, [], PS⟩ := ⟨_, _, rfl, RdS.nil _ _ _, (HP.out.below HBwa1.out (fun _ h => h)).mono (fun b hb => ⟨hb, Nat.lt_of_lt_of_le hb (Below.size HBwa1.out), fun q => by have h0 : b < w6.heap.size := hb; have := (hLV.lt _ q).1; omega⟩)⟩
        have hPu := hLV.push (x := ⟨a, r, [], PS⟩) hPx (by rw [hlen]; exact hownq) hgrq hatq
        have HBwq := Lib.hid (HBwa1.out.grown hgrq (Below.size HBwa1.out) (fun k hk => (hLV.lt k hk).1))
        rw [hlen] at hPu
        have HLQ := Lib.hid hPu
        clear hPu hPx hownq hgrq hatq hLV hlen hown0
        refine hK.out _ _ (by exact HBwq.out) (fun hHeld => ?_)
        clear hK K
        try simp only [Act.put, List.getElem_toArray, List.getElem_cons_succ, List.getElem_cons_zero, List.setIfInBounds_toArray, List.set_cons_zero, List.set_cons_succ]
        refine wpAnyH_ready (rs := [6]) (by kernel_rfl) (by simp) ?_
        refine AllReadyH.cons rfl (fun K hK => ?_) ?_
        · rw [if_pos (by rfl)]
          go_simp
          go_at_call 36
          refine (oneSum_any _ _ _ (HLQ.out.rd (G' := fun _ => True) (by decide) (fun _ _ _ => trivial) (fun _ _ _ => trivial)) (HBT.out.below HBwq.out (fun _ h => h)) (HT.out.belowS (HB.out.trans (HBwq.out.mono HB.out.size)))).mono ?_
          rintro e wo ⟨rfl, hb_wo⟩
          rw [← HG.out]
          have HBwo := Lib.hid (HBwq.out.trans (hb_wo.mono (Below.size HBwq.out)))
          have zwo := hb_wo.size
          clear hb_wo
          show K _ _
          refine hK.out _ _ (by exact HBwo.out) (fun hHeld => ?_)
          clear hK K
          try simp only [Act.put, List.getElem_toArray, List.getElem_cons_succ, List.getElem_cons_zero, List.setIfInBounds_toArray, List.set_cons_zero, List.set_cons_succ]
          refine wpAnyH_take (i := 7) (v := .bool (growB l n)) rfl (by kernel_rfl) (by kernel_rfl) (by kernel_rfl) (fun _ _ _ h => h) (Or.inl ⟨by rfl, fun w hSw => ?_⟩) hHeld ?_
          · clear hSw; go_simp; all_goals (try first | rfl | omega)
          try simp only [Act.put, List.getElem_toArray, List.getElem_cons_succ, List.getElem_cons_zero, List.setIfInBounds_toArray, List.set_cons_zero, List.set_cons_succ]
          refine wpAnyH_done (by kernel_rfl) ?_ _
          have HBE := Lib.hid (HB.out.trans (HBwo.out.mono HB.out.size))
          go_wp2
          go_ret
          exact ⟨rfl, HBE.out⟩
        exact AllReadyH.nil
      exact AllReadyH.nil
    exact AllReadyH.nil
  refine AllReadyH.cons rfl (fun K hK => ?_) ?_
  · rw [if_pos (by rfl)]
    go_simp
    show K _ _
    refine hK.out _ _ (by exact (HBd.out.alloc (Below.size HBd.out) _)) (fun hHeld => ?_)
    clear hK K
    try simp only [Act.put, List.getElem_toArray, List.getElem_cons_succ, List.getElem_cons_zero, List.setIfInBounds_toArray, List.set_cons_zero, List.set_cons_succ]
    obtain ⟨wa1, hwn⟩ : ∃ wa1, wa1 = wd.alloc (.cells #[.int .i64 a, .int .i64 r, .slice none 0 0, .slice adp PS.length capp] 36) := ⟨_, rfl⟩
    have FA1 := Lib.hid (show BoxAt wa1 (wd.heap.size) [.int .i64 a, .int .i64 r, .slice none 0 0, .slice adp PS.length capp] 36 by rw [hwn]; exact BoxAt.newAt wd [.int .i64 a, .int .i64 r, .slice none 0 0, .slice adp PS.length capp] 36 rfl)
    have HBwa1 := Lib.hid (show Below w6.heap.size w6 wa1 by rw [hwn]; exact HBd.out.alloc (Below.size HBd.out) _)
    rw [← hwn] at hHeld ⊢
    clear hwn
    have zwa1 := FA1.out.lt
    refine wpAnyH_ready (rs := [1]) (by kernel_rfl) (by simp) ?_
    refine AllReadyH.cons rfl (fun K hK => ?_) ?_
    · rw [if_pos (by rfl)]
      go_simp
      go_at_call 37
      refine (headers_any _ _ (HD.out.below HBwa1.out (fun _ h => h)) (by omega)).mono ?_
      rintro e wh ⟨ah, ch, rfl, hL, hb_wh⟩
      have HBwh := Lib.hid (HBwa1.out.trans (hb_wh.mono (Below.size HBwa1.out)))
      replace FA1 := Lib.hid (FA1.out.belowS hb_wh)
      have zwh := hb_wh.size
      have HLH := Lib.hid (show LstO RHdr (fun b => b < w6.heap.size) w6.heap.size 36 wh (.slice ah L.length ch) (hdrsOf L) from (hL.mono (G' := fun b => b < w6.heap.size) (fun b hb => hb.1)).baseMono (by have := Below.size HBwa1.out; omega))
      clear hL hb_wh
      show K _ _
      refine hK.out _ _ (by exact HBwh.out) (fun hHeld => ?_)
      clear hK K
      try simp only [Act.put, List.getElem_toArray, List.getElem_cons_succ, List.getElem_cons_zero, List.setIfInBounds_toArray, List.set_cons_zero, List.set_cons_succ]
      refine wpAnyH_ready (rs := [4]) (by kernel_rfl) (by simp) ?_
      refine AllReadyH.cons rfl (fun K hK => ?_) ?_
      · rw [if_pos (by rfl)]
        obtain ⟨vals, hLV⟩ := HLH.out.valsOf
        have hlen := hdrsOf_len L
        have hown0 := hLV.own
        rw [hlen] at hown0
        refine wp_append_one _ _ 54 rfl elemHdrD w6.heap.size _ L.length vals rfl hown0 (wd.heap.size) 36 [.int .i64 a, .int .i64 r, .slice none 0 0, .slice adp PS.length capp] rfl FA1.out rfl (by simp [Value.oneCell']) (by unfold maxLen; omega) (by omega) (Below.size HBwh.out) ?_
        intro gq capq wq hownq hgrq hatq hltq
        have hPx : RHdr.rd (fun b => b < w6.heap.size ∧ b < (wh).heap.size ∧ (Value.slice ah L.length ch).ownBlock ≠ some b) (wh) [.int .i64 a, .int .i64 r, .slice none 0 0, .slice adp PS.length capp] ⟨a, r, [], PS⟩ := ⟨_, _, rfl, RdS.nil _ _ _, (HP.out.below HBwh.out (fun _ h => h)).mono (fun b hb => ⟨hb, Nat.lt_of_lt_of_le hb (Below.size HBwh.out), fun q => by have h0 : b < w6.heap.size := hb; have := (hLV.lt _ q).1; omega⟩)⟩
        have hPu := hLV.push (x := ⟨a, r, [], PS⟩) hPx (by rw [hlen]; exact hownq) hgrq hatq
        have HBwq := Lib.hid (HBwh.out.grown hgrq (Below.size HBwh.out) (fun k hk => (hLV.lt k hk).1))
        rw [hlen] at hPu
        have HLQ := Lib.hid hPu
        clear hPu hPx hownq hgrq hatq hLV hlen hown0
        refine hK.out _ _ (by exact HBwq.out) (fun hHeld => ?_)
        clear hK K
        try simp only [Act.put, List.getElem_toArray, List.getElem_cons_succ, List.getElem_cons_zero, List.setIfInBounds_toArray, List.set_cons_zero, List.set_cons_succ]
        refine wpAnyH_ready (rs := [6]) (by kernel_rfl) (by simp) ?_
        refine AllReadyH.cons rfl (fun K hK => ?_) ?_
        · rw [if_pos (by rfl)]
          go_simp
          go_at_call 36
          refine (oneSum_any _ _ _ (HLQ.out.rd (G' := fun _ => True) (by decide) (fun _ _ _ => trivial) (fun _ _ _ => trivial)) (HBT.out.below HBwq.out (fun _ h => h)) (HT.out.belowS (HB.out.trans (HBwq.out.mono HB.out.size)))).mono ?_
          rintro e wo ⟨rfl, hb_wo⟩
          rw [← HG.out]
          have HBwo := Lib.hid (HBwq.out.trans (hb_wo.mono (Below.size HBwq.out)))
          have zwo := hb_wo.size
          clear hb_wo
          show K _ _
          refine hK.out _ _ (by exact HBwo.out) (fun hHeld => ?_)
          clear hK K
          try simp only [Act.put, List.getElem_toArray, List.getElem_cons_succ, List.getElem_cons_zero, List.setIfInBounds_toArray, List.set_cons_zero, List.set_cons_succ]
          refine wpAnyH_take (i := 7) (v := .bool (growB l n)) rfl (by kernel_rfl) (by kernel_rfl) (by kernel_rfl) (fun _ _ _ h => h) (Or.inl ⟨by rfl, fun w hSw => ?_⟩) hHeld ?_
          · clear hSw; go_simp; all_goals (try first | rfl | omega)
          try simp only [Act.put, List.getElem_toArray, List.getElem_cons_succ, List.getElem_cons_zero, List.setIfInBounds_toArray, List.set_cons_zero, List.set_cons_succ]
          refine wpAnyH_done (by kernel_rfl) ?_ _
          have HBE := Lib.hid (HB.out.trans (HBwo.out.mono HB.out.size))
          go_wp2
          go_ret
          exact ⟨rfl, HBE.out⟩
        exact AllReadyH.nil
      exact AllReadyH.nil
    exact AllReadyH.nil
  exact AllReadyH.nil
end Go.Proofs.YtlailhhffejbbaaDoor

/- missingSome: plain laws. -/
set_option linter.unusedVariables false
set_option linter.unusedSimpArgs false
namespace Go.Proofs.YtlailhhffejbbaaDoor
open Go Go.RowKit

/-- The first two digests of a round: where they stand. -/
theorem digs_place {l : List Crt} (hok : dagOk l = true) {r : Int} {i : Nat} (hi : i < (digsL l r).length) :
    ∃ m : Nat, ∃ hm : m < l.length, (digsL l r)[i] = crtSum l[m] ∧ l[m].h.r = r ∧ l[m] = (ofL l r)[i]'(by rwa [digsL_len] at hi) := by
  have hS := dagOk_solo hok
  have hi' : i < (ofL l r).length := by rwa [digsL_len] at hi
  have e : (digsL l r)[i] = crtSum (ofL l r)[i] := by simp [digsL]
  have hm := (mem_ofL hS).1 (List.getElem_mem hi')
  obtain ⟨m, hml, hme⟩ := List.getElem_of_mem hm.1
  exact ⟨m, hml, by rw [e, hme], by rw [hme]; exact hm.2, hme⟩
/-- A digest of the round before is not wrong. -/
theorem digs_right {l : List Crt} (hok : dagOk l = true) (hn : (crtSums l).Nodup) {r : Int} {i : Nat} (hi : i < (digsL l (r - 1)).length) :
    wrong1 l (crtSums l) r (digsL l (r - 1))[i] = false ∧ 0 ≤ idxP (isB (digsL l (r - 1))[i]) (crtSums l) := by
  obtain ⟨m, hm, e, hr, -⟩ := digs_place hok hi
  have hx := idx_clear hn hm
  rw [e, hx]
  refine ⟨?_, by omega⟩
  unfold wrong1
  rw [hx]
  have e2 : (l.getD (Int.toNat (m : Int)) crtZ).h.r = r - 1 := by simp [hm, hr]
  rw [e2]
  simp
/-- Two digests of one round are unlike. -/
theorem digs_ne {l : List Crt} (hok : dagOk l = true) (hn : (crtSums l).Nodup) {r : Int} {i j : Nat} (hj : j < (digsL l r).length) (hij : i < j) :
    (digsL l r)[i] ≠ (digsL l r)[j] := by
  intro q
  obtain ⟨m, hm, e, -, h1⟩ := digs_place hok (show i < (digsL l r).length by omega)
  obtain ⟨k, hk, e', -, h2⟩ := digs_place hok hj
  have hx := idx_clear hn hm
  have hy := idx_clear hn hk
  rw [← e, q, e', hy] at hx
  have : k = m := by omega
  subst this
  have ha := (List.pairwise_iff_getElem.1 (ofL_sorted l r)) i j (by rw [digsL_len] at hj; omega) (by rwa [digsL_len] at hj) hij
  rw [← h1, ← h2] at ha
  omega
/-- A header that has two parents that are there, and two that are not. -/
def missH (n r : Int) (d0 d1 : Bytes) : Hdr := ⟨0, r, [], [someL n 1, d0, someL n 2, d1]⟩
theorem missH_ok {n r : Int} {d0 d1 : Bytes} (hr1 : 1 < r) (hr2 : r ≤ 1000) (h0 : d0.length = 32) (h1 : d1.length = 32) (h01 : d0 ≠ d1) (a0 : d0 ≠ someL n 1) (a1 : d1 ≠ someL n 1) (b0 : d0 ≠ someL n 2) (b1 : d1 ≠ someL n 2) : hdrCode (missH n r d0 d1) = 0 := by
  have hd : digCode [someL n 1, d0, someL n 2, d1] = 0 := (digCode_zero _).2 ⟨fun x hx => by
    simp only [List.mem_cons, List.not_mem_nil, or_false] at hx
    rcases hx with rfl | rfl | rfl | rfl
    · exact someL_length _ _
    · exact h0
    · exact someL_length _ _
    · exact h1, by
    have h4 : someL n 1 ≠ someL n 2 := someL_ne (by decide)
    simp [h4, h01, a0.symm, a1.symm, b0, b1.symm]⟩
  have hrn : countOk r = true := by unfold countOk; exact decide_eq_true (by omega)
  unfold hdrCode missH
  rw [if_neg (by simp [hrn, nodeOk]), if_neg (by simp), if_neg (by simp [digCode, digGo]), if_neg (by simp [hd]), if_neg (by simp; omega)]
theorem miss_some {L : List Crt} (hok : dagOk L = true) (hn : (crtSums L).Nodup) {n r : Int} (hr1 : 1 < r) (hr2 : r ≤ 1000) (h2 : 2 ≤ (digsL L (r - 1)).length) (i1 : idxP (isB (someL n 1)) (crtSums L) < 0) (i2 : idxP (isB (someL n 2)) (crtSums L) < 0) :
    misCode L (missH n r ((digsL L (r - 1))[0]'(by omega)) ((digsL L (r - 1))[1]'(by omega))) = 0 ∧ misL L (missH n r ((digsL L (r - 1))[0]'(by omega)) ((digsL L (r - 1))[1]'(by omega))) = [someL n 1, someL n 2] := by
  obtain ⟨w0, g0⟩ := digs_right hok hn (r := r) (i := 0) (by omega)
  obtain ⟨w1, g1⟩ := digs_right hok hn (r := r) (i := 1) (by omega)
  have h01 := digs_ne hok hn (r := r - 1) (i := 0) (j := 1) (by omega) (by omega)
  have l0 : ((digsL L (r - 1))[0]'(by omega)).length = 32 := digsL_32 (List.getElem_mem _)
  have l1 : ((digsL L (r - 1))[1]'(by omega)).length = 32 := digsL_32 (List.getElem_mem _)
  generalize (digsL L (r - 1))[0]'(by omega) = d0 at *
  generalize (digsL L (r - 1))[1]'(by omega) = d1 at *
  have ne : ∀ {d s : Bytes}, 0 ≤ idxP (isB d) (crtSums L) → idxP (isB s) (crtSums L) < 0 → d ≠ s := fun hd hs e => by subst e; omega
  have hc := missH_ok hr1 hr2 l0 l1 h01 (ne g0 i1) (ne g1 i1) (ne g0 i2) (ne g1 i2)
  have hw : wrongB L (crtSums L) (missH n r d0 d1).r (missH n r d0 d1).ps = false := by
    unfold wrongB
    rw [List.any_eq_false]
    intro d hd q
    have hd' : d = someL n 1 ∨ d = d0 ∨ d = someL n 2 ∨ d = d1 := by simpa [missH] using hd
    rcases hd' with rfl | rfl | rfl | rfl
    · unfold wrong1 at q; simp only [Bool.and_eq_true, decide_eq_true_eq] at q; omega
    · have q' : wrong1 L (crtSums L) r d = true := q; rw [w0] at q'; cases q'
    · unfold wrong1 at q; simp only [Bool.and_eq_true, decide_eq_true_eq] at q; omega
    · have q' : wrong1 L (crtSums L) r d = true := q; rw [w1] at q'; cases q'
  obtain ⟨m1, m2⟩ := mis_3 hc hw
  refine ⟨m1, ?_⟩
  rw [m2]
  unfold noneL missH
  have x0 : ¬ idxP (isB d0) (crtSums L) < 0 := by omega
  have x1 : ¬ idxP (isB d1) (crtSums L) < 0 := by omega
  simp [i1, i2, x0, x1]
end Go.Proofs.YtlailhhffejbbaaDoor

/- dagClosed: plain laws. -/
set_option linter.unusedVariables false
set_option linter.unusedSimpArgs false
namespace Go.Proofs.YtlailhhffejbbaaDoor
open Go Go.RowKit

/-- Each parent of a certificate of a dag stands ahead of it, and on the round before. -/
theorem closed_par {l : List Crt} (hok : dagOk l = true) {i : Nat} (hi : i < l.length) {p : Bytes} (hp : p ∈ l[i].h.ps) :
    ∃ n : Nat, n < i ∧ idxP (isB p) (crtSums (l.take i)) = n ∧ idxP (isB p) (crtSums l) = n ∧ (l.getD n crtZ).h.r = l[i].h.r - 1 := by
  have hf := (dagOk_iff.1 hok).2.2 i hi
  unfold fits at hf
  simp only [Bool.and_eq_true, Bool.not_eq_true', decide_eq_true_eq] at hf
  obtain ⟨h1, h2, -⟩ := hf
  have h0 : 0 ≤ idxP (isB p) (crtSums (l.take i)) := by
    by_cases q : 0 ≤ idxP (isB p) (crtSums (l.take i))
    · exact q
    · have hm : p ∈ noneL (crtSums (l.take i)) l[i].h.ps := List.mem_filter.2 ⟨hp, decide_eq_true (by omega)⟩
      rw [h1] at hm; simp at hm
  obtain ⟨n, hn, hin, hpn, hno⟩ := idxP_at h0
  have hni : n < i := by rw [crtSums_len, List.length_take] at hn; omega
  have et : crtSums (l.take i) = (crtSums l).take i := by simp [crtSums]
  have hnl : n < (crtSums l).length := by rw [crtSums_len]; omega
  refine ⟨n, hni, hin, idxP_hit hnl (fun j hj x hx => hno j hj x (by rw [et, List.getElem?_take_of_lt (by omega)]; exact hx)) (by
    have e : (crtSums (l.take i))[n] = (crtSums l)[n] := by simp [et]
    rw [← e]; exact hpn), ?_⟩
  unfold wrongB at h2
  rw [List.any_eq_false] at h2
  have hw := h2 p hp
  unfold wrong1 at hw
  rw [hin] at hw
  have e2 : (l.take i).getD n crtZ = l.getD n crtZ := by simp [List.getElem?_take_of_lt hni]
  simp only [Int.toNat_natCast, e2, Bool.and_eq_true, decide_eq_true_eq, not_and, Decidable.not_not] at hw
  exact hw (by omega)
/-- Nothing is missing for a certificate of a dag. -/
theorem closed_mis {l : List Crt} (hok : dagOk l = true) {i : Nat} (hi : i < l.length) : misCode l l[i].h = 0 ∧ (misL l l[i].h).length = 0 := by
  have hh : hdrCode l[i].h = 0 := (crt_partsP ((dagOk_iff.1 hok).2.1 _ (List.getElem_mem hi))).1
  have hw : wrongB l (crtSums l) l[i].h.r l[i].h.ps = false := by
    unfold wrongB
    rw [List.any_eq_false]
    intro p hp q
    obtain ⟨n, -, -, h3, h4⟩ := closed_par hok hi hp
    unfold wrong1 at q
    rw [h3] at q
    simp only [Int.toNat_natCast, Bool.and_eq_true, decide_eq_true_eq] at q
    exact q.2 h4
  have hm := mis_3 hh hw
  refine ⟨hm.1, ?_⟩
  rw [hm.2]
  have : noneL (crtSums l) l[i].h.ps = [] := List.filter_eq_nil_iff.2 fun p hp q => by
    obtain ⟨n, -, -, h3, -⟩ := closed_par hok hi hp
    simp only [decide_eq_true_eq] at q
    omega
  rw [this]; rfl
/-- Nothing has a digest of one byte. -/
theorem closed_one (l : List Crt) : findCode l [1] = 8 ∧ findCrt l [1] = crtZ := find_no (by
  by_cases q : 0 ≤ idxP (isB [1]) (crtSums l)
  · obtain ⟨x, hx, hb⟩ := idxP_ge.1 q
    obtain ⟨c, -, rfl⟩ := List.mem_map.1 hx
    have e : crtSum c = [1] := by unfold isB at hb; exact of_decide_eq_true hb
    have h := hdrSum_length c.h
    have e' : hdrSum c.h = [1] := e
    rw [e'] at h; simp at h
  · omega)
end Go.Proofs.YtlailhhffejbbaaDoor

/- dagGrows: plain laws. -/
set_option linter.unusedVariables false
set_option linter.unusedSimpArgs false
namespace Go.Proofs.YtlailhhffejbbaaDoor
open Go Go.RowKit

theorem nodup_sub_len {α : Type} [DecidableEq α] : ∀ {l m : List α}, l.Nodup → (∀ x ∈ l, x ∈ m) → l.length ≤ m.length
  | [], _, _, _ => Nat.zero_le _
  | a :: l, m, hn, hs => by
    have ha := hs a (by simp)
    obtain ⟨h1, h2⟩ := List.nodup_cons.1 hn
    have ih := nodup_sub_len (m := m.erase a) h2 (fun x hx => (List.mem_erase_of_ne (by rintro rfl; exact h1 hx)).2 (hs x (by simp [hx])))
    rw [List.length_erase_of_mem ha] at ih
    have : 0 < m.length := List.length_pos_of_mem ha
    rw [List.length_cons]; omega
/-- A certificate of a later round stands on three of the round ahead. -/
theorem round_ahead {l : List Crt} (hok : dagOk l = true) {c : Crt} (hc : c ∈ l) (h1 : 1 < c.h.r) : 3 ≤ (roundOf l (c.h.r - 1)).length := by
  obtain ⟨i, hi, rfl⟩ := List.getElem_of_mem hc
  have hh : hdrCode l[i].h = 0 := (crt_partsP ((dagOk_iff.1 hok).2.1 _ (List.getElem_mem hi))).1
  have hn : l[i].h.ps.Nodup := by
    obtain ⟨-, -, -, -, -, h6⟩ := hdr_partsD hh
    exact ((digCode_zero _).1 h6).2
  have h3 : 3 ≤ l[i].h.ps.length := by
    rcases Nat.lt_or_ge l[i].h.ps.length 3 with q | q
    · exfalso
      unfold hdrCode at hh
      split at hh
      · simp at hh
      · split at hh
        · simp at hh
        · split at hh
          · rename_i q1; exact q1 hh
          · split at hh
            · rename_i q1; exact q1 hh
            · split at hh
              · simp at hh
              · rename_i q1; exact q1 (.inr ⟨h1, q⟩)
    · exact q
  have := nodup_sub_len (m := (roundOf l (l[i].h.r - 1)).map crtSum) hn (fun p hp => by
    obtain ⟨n, hni, -, hin, hr⟩ := closed_par hok hi hp
    have hnl : n < l.length := by omega
    have h0 : 0 ≤ idxP (isB p) (crtSums l) := by omega
    obtain ⟨j, hj, hij, hpj, -⟩ := idxP_at h0
    have e : j = n := by omega
    subst e
    unfold isB at hpj
    have hpj' := of_decide_eq_true hpj
    refine List.mem_map.2 ⟨l[j], List.mem_filter.2 ⟨List.getElem_mem hnl, ?_⟩, ?_⟩
    · rw [List.getD_eq_getElem?_getD, List.getElem?_eq_getElem hnl] at hr
      exact decide_eq_true hr
    · rw [← hpj']; simp [crtSums])
  rw [List.length_map] at this
  omega
theorem roundOf_one (l : List Crt) (c : Crt) (r : Int) : (roundOf (l ++ [c]) r).length = (roundOf l r).length + (if c.h.r = r then 1 else 0) := by
  unfold roundOf
  rw [List.filter_append, List.length_append]
  by_cases h : c.h.r = r <;> simp [h]
/-- One certificate more of the round that is open: the round stays, or is over. -/
theorem grow_round {l : List Crt} {c : Crt} (hok : dagOk l = true) (hok2 : dagOk (l ++ [c]) = true) (hr : c.h.r = roundL l) : roundL l ≤ roundL (l ++ [c]) ∧ roundL (l ++ [c]) ≤ roundL l + 1 := by
  constructor
  · by_cases q : roundL (l ++ [c]) < roundL l
    · have h1 := (roundL_over l).2 _ (roundL_pos (l ++ [c])) q
      have h2 := roundL_stop (l ++ [c])
      rw [roundOf_one] at h2
      omega
    · omega
  · by_cases q : roundL l + 1 < roundL (l ++ [c])
    · have hp := roundL_pos l
      have h1 := (roundL_over (l ++ [c])).2 (roundL l + 1) (by omega) q
      rw [roundOf_one, if_neg (by omega)] at h1
      have hne : 0 < (roundOf l (roundL l + 1)).length := by omega
      have hm := List.getElem_mem hne
      obtain ⟨hm1, hm2⟩ := List.mem_filter.1 hm
      have hm3 := of_decide_eq_true hm2
      have h3 := round_ahead hok hm1 (by omega)
      have h4 := roundL_stop l
      rw [hm3] at h3
      have e : roundL l + 1 - 1 = roundL l := by omega
      rw [e] at h3
      omega
    · omega
/-- The parents that a new certificate names. -/
def growPs (l : List Crt) : List Bytes := if roundL l = 1 then [] else digsL l (roundL l - 1)
def growC (l : List Crt) (n : Int) : Crt := ⟨⟨pickedZ n 4, roundL l, [], growPs l⟩, [1, 2, 3]⟩
theorem growPs_in {l : List Crt} {p : Bytes} (hp : p ∈ growPs l) : p ∈ digsL l (roundL l - 1) := by
  unfold growPs at hp
  split at hp
  · simp at hp
  · exact hp
theorem digs_nodup {l : List Crt} (hok : dagOk l = true) (hn : (crtSums l).Nodup) (r : Int) : (digsL l r).Nodup := by
  rw [List.nodup_iff_pairwise_ne, List.pairwise_iff_getElem]
  intro i j hi hj hij
  exact digs_ne hok hn hj hij
theorem grow_ins {l : List Crt} (hok : dagOk l = true) (hn : (crtSums l).Nodup) (hlen : l.length ≤ 24) (n : Int) (h7 : insCode l (growC l n) ≠ 7) : insCode l (growC l n) = 0 := by
  have hp1 := roundL_pos l
  have hp2 := roundL_le l
  obtain ⟨p1, p2⟩ := pickedZ_range n 4 (by omega)
  have hno : nodeOk (pickedZ n 4) = true := by unfold nodeOk; exact decide_eq_true ⟨p1, p2⟩
  have hco : countOk (roundL l) = true := by unfold countOk; exact decide_eq_true (by omega)
  have hl4 : (growPs l).length ≤ 4 := by unfold growPs; split <;> first | (simp; done) | exact digsL_le _ _
  have hdc : digCode (growPs l) = 0 := (digCode_zero _).2 ⟨fun d hd => digsL_32 (growPs_in hd), by unfold growPs; split <;> first | (simp; done) | exact digs_nodup hok hn _⟩
  have hl3 : 1 < roundL l → 3 ≤ (growPs l).length := fun h => by
    unfold growPs
    rw [if_neg (by omega), digsL_len, ofL_len (dagOk_solo hok)]
    exact (roundL_over l).2 _ (by omega) (by omega)
  have hl0 : roundL l = 1 → (growPs l).length = 0 := fun h => by unfold growPs; rw [if_pos h]; rfl
  have hh : hdrCode (growC l n).h = 0 := by
    unfold hdrCode growC
    rw [if_neg (by simp [hno, hco]), if_neg (by simp; omega), if_neg (by simp [digCode, digGo]), if_neg (by simp [hdc]), if_neg]
    rintro (⟨q1, q2⟩ | ⟨q1, q2⟩)
    · have := hl0 q1; simp only at q2; omega
    · have := hl3 q1; simp only at q2; omega
  have hcr : crtCode (growC l n) = 0 := by
    have : growC l n = ⟨(growC l n).h, [1, 2, 3]⟩ := rfl
    rw [this, crt_of_hdr hh]; decide
  have htk : takenB l (growC l n).h = false := by
    cases q : takenB l (growC l n).h with
    | false => rfl
    | true => exact absurd (ins_3 (dagCode_zero.2 hok) hcr q) h7
  have hw : ∀ p ∈ growPs l, wrong1 l (crtSums l) (roundL l) p = false ∧ 0 ≤ idxP (isB p) (crtSums l) := fun p hp => by
    obtain ⟨i, hi, rfl⟩ := List.getElem_of_mem (growPs_in hp)
    exact digs_right hok hn hi
  refine ins_7 (dagCode_zero.2 hok) hcr htk ?_ ?_ (by omega)
  · show wrongB l (crtSums l) (roundL l) (growPs l) = false
    unfold wrongB
    rw [List.any_eq_false]
    intro p hp
    rw [(hw p hp).1]; decide
  · show (noneL (crtSums l) (growPs l)).length = 0
    rw [List.length_eq_zero_iff]
    unfold noneL
    rw [List.filter_eq_nil_iff]
    intro p hp q
    have := (hw p hp).2
    have := of_decide_eq_true q
    omega
end Go.Proofs.YtlailhhffejbbaaDoor

/- sameSlot, sameInts, sameCert, sameMessage: of what is the same they answer true. -/
set_option linter.unusedVariables false
set_option linter.unusedSimpArgs false
namespace Go.Proofs.YtlailhhffejbbaaDoor
open Go Go.RowKit

set_option maxRecDepth 100000 in
set_option maxHeartbeats 2000000 in
theorem sameInts_eq {G G' : Nat → Prop} (l : List Int) (v v' : Value) (w : World) (hv : RdI G w v l) (hv' : RdI G' w v' l) :
    Calls Tryd.prog 55 #[v, v'] w fun e w' => e = .returned (.bool true) ∧ Below w.heap.size w w' := by
  obtain ⟨ad1, c1, rfl, -, -⟩ := hv.form
  obtain ⟨ad2, c2, rfl, -, -⟩ := hv'.form
  obtain ⟨-, h1, h2, -⟩ := hv.len
  unfold maxLen at h2
  have HV := Lib.hid hv
  have HV' := Lib.hid hv'
  have hln : ((l.length : Int) != (l.length : Int)) = false := by simp
  go_enter Tryd.func55, Tryd.ntmps55
  go_wp2
  go_loopw [5] (fun i wr => ∃ k n : Nat, k ≤ l.length ∧ i = .int .i64 k ∧ wr = w.drewN n) (fun i _ => l.length - (intOf i).toNat)
  case atStart => exact ⟨0, 0, Nat.zero_le _, rfl, rfl⟩
  case round =>
    obtain ⟨k, n, hk, rfl, rfl⟩ := hrel
    by_cases hlt : k < l.length
    · obtain ⟨b, o, rfl, hc⟩ := hv.cell k hlt
      obtain ⟨b', o', rfl, hc'⟩ := hv'.cell k hlt
      have i0 : (0 : Int) ≤ (k : Int) := by omega
      have i1 : (k : Int) < (l.length : Int) := by omega
      have hb : (l[k] != l[k]) = false := by simp
      go_wp2_with fail
      go_quiet (fail)
      go_wp2
      go_roundw
      case rel => exact ⟨k + 1, _, by omega, by go_num, rfl⟩
      case measure => simp [intOf]; omega
    · go_wp2
      go_ret
      exact ⟨rfl, below_drewN (Below.refl _ _) _⟩
set_option maxRecDepth 100000 in
set_option maxHeartbeats 2000000 in
theorem sameCert_eq {G G' : Nat → Prop} (c : Crt) (b p v b' p' v' : Value) (w : World) (hb : RdBB G w b c.h.bs) (hp : RdBB G w p c.h.ps) (hv : RdI G w v c.vs) (hb' : RdBB G' w b' c.h.bs) (hp' : RdBB G' w p' c.h.ps) (hv' : RdI G' w v' c.vs) :
    Calls Tryd.prog 34 #[.agg #[.int .i64 c.h.a, .int .i64 c.h.r, b, p, v], .agg #[.int .i64 c.h.a, .int .i64 c.h.r, b', p', v']] w fun e w' => e = .returned (.bool true) ∧ Below w.heap.size w w' := by
  obtain ⟨⟨a, r, bs, ps⟩, vs⟩ := c
  simp only at *
  obtain ⟨ad1, c1, rfl, -, -⟩ := hb.form
  obtain ⟨ad2, c2, rfl, -, -⟩ := hp.form
  obtain ⟨ad3, c3, rfl, -, -⟩ := hv.form
  obtain ⟨ad4, c4, rfl, -, -⟩ := hb'.form
  obtain ⟨ad5, c5, rfl, -, -⟩ := hp'.form
  obtain ⟨ad6, c6, rfl, -, -⟩ := hv'.form
  obtain ⟨w1, hw1⟩ : ∃ w1, w1 = (w.alloc (.cells #[.int .i64 a, .int .i64 r, .slice ad1 bs.length c1, .slice ad2 ps.length c2, .slice ad3 vs.length c3] 38)).alloc (.cells #[.int .i64 a, .int .i64 r, .slice ad4 bs.length c4, .slice ad5 ps.length c5, .slice ad6 vs.length c6] 38) := ⟨_, rfl⟩
  have hR : Below w.heap.size w w1 := by rw [hw1]; exact ((Below.refl _ _).alloc (Nat.le_refl _) _).alloc (by simp) _
  have bX : BoxAt w1 w.heap.size [.int .i64 a, .int .i64 r, .slice ad1 bs.length c1, .slice ad2 ps.length c2, .slice ad3 vs.length c3] 38 := by rw [hw1]; exact (BoxAt.new w [_, _, _, _, _] _).alloc _
  have bY : BoxAt w1 (w.heap.size + 1) [.int .i64 a, .int .i64 r, .slice ad4 bs.length c4, .slice ad5 ps.length c5, .slice ad6 vs.length c6] 38 := by rw [hw1]; exact BoxAt.newAt (w.alloc _) [_, _, _, _, _] _ (by simp)
  have H1 := Lib.hid (hb.below hR (fun _ h => h))
  have H2 := Lib.hid (hp.below hR (fun _ h => h))
  have H3 := Lib.hid (hv.low (by decide) |>.below hR (fun _ h => h))
  have H4 := Lib.hid (hb'.below hR (fun _ h => h))
  have H5 := Lib.hid (hp'.below hR (fun _ h => h))
  have H6 := Lib.hid (hv'.low (by decide) |>.below hR (fun _ h => h))
  have HR := Lib.hid hR
  have x0 := bX.cell 0 rfl
  have x1 := bX.cell 1 rfl
  have x2 := bX.cell 2 rfl
  have x3 := bX.cell 3 rfl
  have x4 := bX.cell 4 rfl
  have y0 := bY.cell 0 rfl
  have y1 := bY.cell 1 rfl
  have y2 := bY.cell 2 rfl
  have y3 := bY.cell 3 rfl
  have y4 := bY.cell 4 rfl
  have hEQ := Lib.hid (show decide (a = a ∧ r = r ∧ bs = bs ∧ ps = ps) = true by simp)
  have HX := Lib.hid bX
  have HY := Lib.hid bY
  go_enter Tryd.func34, Tryd.ntmps34
  go_upto_region 1 with fail
  rw [← hw1]
  clear hw1 hR bX bY hb hp hv hb' hp' hv'
  go_wp2_with fail
  refine (sameHeader_any a r a r bs ps bs ps _ _ _ _ w1 H1.out H2.out H4.out H5.out).mono ?_
  rintro e w2 ⟨rfl, hb2⟩
  rw [decide_eq_true (show a = a ∧ r = r ∧ bs = bs ∧ ps = ps from ⟨rfl, rfl, rfl, rfl⟩)]
  have HB2 := Lib.hid (HR.out.trans (hb2.mono HR.out.size))
  have u4 := (HX.out.belowS hb2).cell 4 rfl
  have t4 := (HY.out.belowS hb2).cell 4 rfl
  have K3 := Lib.hid (H3.out.below hb2 (fun _ h => h))
  have K6 := Lib.hid (H6.out.below hb2 (fun _ h => h))
  clear x0 x1 x2 x3 x4 y0 y1 y2 y3 y4 HX HY hb2
  go_wp2_with fail
  refine (sameInts_eq vs _ _ w2 K3.out K6.out).mono ?_
  rintro e w3 ⟨rfl, hb3⟩
  have HB3 := Lib.hid (HB2.out.trans (hb3.mono HB2.out.size))
  clear hb3
  go_wp2
  go_ret
  exact ⟨rfl, HB3.out⟩
end Go.Proofs.YtlailhhffejbbaaDoor

/- sheaveskeep.sameInts, sameCert: what they compute, of any two. -/
set_option linter.unusedVariables false
set_option linter.unusedSimpArgs false
attribute [local go_sem ↓] Go.wp_at_zero Go.wp_at_succ
namespace Go.Proofs.YtlailhhffejbbaaDoor
open Go Go.RowKit

set_option maxRecDepth 100000 in
set_option maxHeartbeats 2000000 in
theorem sameInts_any {G G' : Nat → Prop} {l m : List Int} (v v' : Value) (w : World) (hv : RdI G w v l) (hv' : RdI G' w v' m) :
    Calls Tryd.prog 55 #[v, v'] w fun e w' => e = .returned (.bool (decide (l = m))) ∧ Below w.heap.size w w' := by
  by_cases he : l = m
  · subst he
    refine (sameInts_eq l v v' w hv hv').mono ?_
    rintro e w' ⟨rfl, hb⟩
    exact ⟨ret_boolH (by simp), hb⟩
  · have HE := Lib.hid (show decide (l = m) = false from decide_eq_false he)
    have HNE := Lib.hid he
    clear he
    obtain ⟨ad1, c1, rfl, -, -⟩ := hv.form
    obtain ⟨ad2, c2, rfl, -, -⟩ := hv'.form
    obtain ⟨-, h1, h2, -⟩ := hv.len
    obtain ⟨-, h1', h2', -⟩ := hv'.len
    unfold maxLen at h2 h2'
    by_cases hl : l.length = m.length
    · have hln : ((l.length : Int) != (m.length : Int)) = false := by simp [hl]
      have HL := Lib.hid hl
      clear hl
      go_enter Tryd.func55, Tryd.ntmps55
      go_wp2
      go_loopw [5] (fun i wr => ∃ k n : Nat, k ≤ l.length ∧ i = .int .i64 k ∧ (∀ j, j < k → l[j]? = m[j]?) ∧ wr = w.drewN n) (fun i _ => l.length - (intOf i).toNat)
      case atStart => exact ⟨0, 0, Nat.zero_le _, rfl, fun j hj => by omega, rfl⟩
      case round =>
        obtain ⟨k, n, hk, rfl, hno, rfl⟩ := hrel
        have HN := Lib.hid hno
        clear hno
        by_cases hlt : k < l.length
        · have hlt' : k < m.length := by have := HL.out; omega
          obtain ⟨b, o, rfl, -, hc⟩ := hv.cell k hlt
          obtain ⟨b', o', rfl, -, hc'⟩ := hv'.cell k hlt'
          have i0 : (0 : Int) ≤ (k : Int) := by omega
          have i1 : (k : Int) < (l.length : Int) := by omega
          have i2 : (k : Int) < (m.length : Int) := by omega
          by_cases hq : l[k] = m[k]
          · have HQ := Lib.hid hq
            have hb : (l[k] != m[k]) = false := by simp [hq]
            clear hq
            go_wp2_with fail
            go_quiet (fail)
            go_wp2
            go_roundw
            case rel => exact ⟨k + 1, _, by omega, by go_num, fun j hj => by
              rcases Nat.lt_or_eq_of_le (Nat.le_of_lt_succ hj) with h' | h'
              · exact HN.out j h'
              · subst h'; rw [List.getElem?_eq_getElem hlt, List.getElem?_eq_getElem hlt', HQ.out], rfl⟩
            case measure => simp [intOf]; omega
          · have hb : (l[k] != m[k]) = true := by simp [hq]
            clear hq
            go_wp2_with fail
            go_quiet (fail)
            go_wp2
            go_ret
            exact ⟨ret_boolH HE.out, below_drewN (below_drewN (Below.refl _ _) _) _⟩
        · exfalso
          refine HNE.out (List.ext_getElem? fun j => ?_)
          rcases Nat.lt_or_ge j l.length with hj | hj
          · exact HN.out j (by omega)
          · rw [List.getElem?_eq_none hj, List.getElem?_eq_none (by have := HL.out; omega)]
    · have hln : ((l.length : Int) != (m.length : Int)) = true := by simp; omega
      clear hl
      go_enter Tryd.func55, Tryd.ntmps55
      go_wp2
      go_ret
      exact ⟨ret_boolH HE.out, Below.refl _ _⟩
/-- Two certificates that read: are they the same? -/
def sameC (x y : Crt) : Bool := sameH x.h y.h && decide (x.vs = y.vs)
theorem sameC_iff {x y : Crt} : sameC x y = true ↔ x = y := by
  obtain ⟨⟨a, r, bs, ps⟩, vs⟩ := x
  obtain ⟨⟨a', r', bs', ps'⟩, vs'⟩ := y
  simp [sameC, sameH]
set_option maxRecDepth 100000 in
set_option maxHeartbeats 2000000 in
theorem sameCert_any {G G' : Nat → Prop} (x y : Crt) (b p v b' p' v' : Value) (w : World) (hb : RdBB G w b x.h.bs) (hp : RdBB G w p x.h.ps) (hv : RdI G w v x.vs) (hb' : RdBB G' w b' y.h.bs) (hp' : RdBB G' w p' y.h.ps) (hv' : RdI G' w v' y.vs) :
    Calls Tryd.prog 34 #[.agg #[.int .i64 x.h.a, .int .i64 x.h.r, b, p, v], .agg #[.int .i64 y.h.a, .int .i64 y.h.r, b', p', v']] w fun e w' => e = .returned (.bool (sameC x y)) ∧ Below w.heap.size w w' := by
  obtain ⟨⟨a, r, bs, ps⟩, vs⟩ := x
  obtain ⟨⟨a', r', bs', ps'⟩, vs'⟩ := y
  simp only at *
  obtain ⟨ad1, c1, rfl, -, -⟩ := hb.form
  obtain ⟨ad2, c2, rfl, -, -⟩ := hp.form
  obtain ⟨ad3, c3, rfl, -, -⟩ := hv.form
  obtain ⟨ad4, c4, rfl, -, -⟩ := hb'.form
  obtain ⟨ad5, c5, rfl, -, -⟩ := hp'.form
  obtain ⟨ad6, c6, rfl, -, -⟩ := hv'.form
  obtain ⟨w1, hw1⟩ : ∃ w1, w1 = (w.alloc (.cells #[.int .i64 a, .int .i64 r, .slice ad1 bs.length c1, .slice ad2 ps.length c2, .slice ad3 vs.length c3] 38)).alloc (.cells #[.int .i64 a', .int .i64 r', .slice ad4 bs'.length c4, .slice ad5 ps'.length c5, .slice ad6 vs'.length c6] 38) := ⟨_, rfl⟩
  have hR : Below w.heap.size w w1 := by rw [hw1]; exact ((Below.refl _ _).alloc (Nat.le_refl _) _).alloc (by simp) _
  have bX : BoxAt w1 w.heap.size [.int .i64 a, .int .i64 r, .slice ad1 bs.length c1, .slice ad2 ps.length c2, .slice ad3 vs.length c3] 38 := by rw [hw1]; exact (BoxAt.new w [_, _, _, _, _] _).alloc _
  have bY : BoxAt w1 (w.heap.size + 1) [.int .i64 a', .int .i64 r', .slice ad4 bs'.length c4, .slice ad5 ps'.length c5, .slice ad6 vs'.length c6] 38 := by rw [hw1]; exact BoxAt.newAt (w.alloc _) [_, _, _, _, _] _ (by simp)
  have H1 := Lib.hid (hb.below hR (fun _ h => h))
  have H2 := Lib.hid (hp.below hR (fun _ h => h))
  have H3 := Lib.hid (hv.low (by decide) |>.below hR (fun _ h => h))
  have H4 := Lib.hid (hb'.below hR (fun _ h => h))
  have H5 := Lib.hid (hp'.below hR (fun _ h => h))
  have H6 := Lib.hid (hv'.low (by decide) |>.below hR (fun _ h => h))
  have HR := Lib.hid hR
  have x0 := bX.cell 0 rfl
  have x1 := bX.cell 1 rfl
  have x2 := bX.cell 2 rfl
  have x3 := bX.cell 3 rfl
  have x4 := bX.cell 4 rfl
  have y0 := bY.cell 0 rfl
  have y1 := bY.cell 1 rfl
  have y2 := bY.cell 2 rfl
  have y3 := bY.cell 3 rfl
  have y4 := bY.cell 4 rfl
  have HX := Lib.hid bX
  have HY := Lib.hid bY
  have HS := Lib.hid (show sameC ⟨⟨a, r, bs, ps⟩, vs⟩ ⟨⟨a', r', bs', ps'⟩, vs'⟩ = (decide (a = a' ∧ r = r' ∧ bs = bs' ∧ ps = ps') && decide (vs = vs')) from rfl)
  go_enter Tryd.func34, Tryd.ntmps34
  go_upto_region 1 with fail
  rw [← hw1]
  clear hw1 hR bX bY hb hp hv hb' hp' hv'
  go_wp2_with fail
  refine (sameHeader_any a r a' r' bs ps bs' ps' _ _ _ _ w1 H1.out H2.out H4.out H5.out).mono ?_
  rintro e w2 ⟨rfl, hb2⟩
  obtain ⟨q, hq⟩ : ∃ q, q = decide (a = a' ∧ r = r' ∧ bs = bs' ∧ ps = ps') := ⟨_, rfl⟩
  rw [← hq]
  have HQ := Lib.hid (show sameC ⟨⟨a, r, bs, ps⟩, vs⟩ ⟨⟨a', r', bs', ps'⟩, vs'⟩ = (q && decide (vs = vs')) by rw [HS.out, hq])
  clear hq HS
  have HB2 := Lib.hid (HR.out.trans (hb2.mono HR.out.size))
  have u4 := (HX.out.belowS hb2).cell 4 rfl
  have t4 := (HY.out.belowS hb2).cell 4 rfl
  have K3 := Lib.hid (H3.out.below hb2 (fun _ h => h))
  have K6 := Lib.hid (H6.out.below hb2 (fun _ h => h))
  clear x0 x1 x2 x3 x4 y0 y1 y2 y3 y4 HX HY hb2
  cases q with
  | false =>
    have HF := Lib.hid (HQ.out.trans (Bool.false_and _))
    go_wp2
    go_ret
    exact ⟨ret_boolH HF.out, HB2.out⟩
  | true =>
    go_wp2_with fail
    refine (sameInts_any _ _ w2 K3.out K6.out).mono ?_
    rintro e w3 ⟨rfl, hb3⟩
    have HB3 := Lib.hid (HB2.out.trans (hb3.mono HB2.out.size))
    clear hb3
    obtain ⟨q2, hq2⟩ : ∃ q2, q2 = decide (vs = vs') := ⟨_, rfl⟩
    rw [← hq2]
    have HF := Lib.hid (show sameC ⟨⟨a, r, bs, ps⟩, vs⟩ ⟨⟨a', r', bs', ps'⟩, vs'⟩ = q2 by rw [HQ.out, hq2]; rfl)
    clear hq2
    go_wp2
    go_ret
    exact ⟨ret_boolH HF.out, HB3.out⟩
end Go.Proofs.YtlailhhffejbbaaDoor

/- dagGrows: the walk. -/
set_option linter.unusedVariables false
set_option linter.unusedSimpArgs false
attribute [local go_sem ↓] Go.wp_at_zero Go.wp_at_succ
namespace Go.Proofs.YtlailhhffejbbaaDoor
open Go Go.RowKit

set_option maxRecDepth 100000 in
set_option maxHeartbeats 8000000 in
theorem dagGrows_any (v : Value) (l : List Stp) (n : Int) (w : World) (hv : RdS RStp (fun _ => True) w v l) (hz : l.length * 24 ≤ reachBytes) (n1 : -9223372036854775808 ≤ n) (n2 : n ≤ 9223372036854775807) (ht : Tabs w) :
    Calls Tryd.prog 14 #[v, .int .i64 n] w fun e w' => ∃ b, e = .returned (.bool b) ∧ ((crtSums (grownL l)).Nodup → b = true) ∧ Below w.heap.size w w' := by
  have HT := Lib.hid ht
  go_enter Tryd.func14, Tryd.ntmps14
  go_wp2_with fail
  refine (grown_any _ _ hv hz ht).mono ?_
  rintro e w1 ⟨vd, vb, rfl, hd, -, hb1⟩
  obtain ⟨add, capd, rfl, -, -⟩ := hd.form
  have HD1 := Lib.hid hd
  have HB1 := Lib.hid hb1
  clear hd hb1 ht hv
  go_upto_region 2 with fail
  obtain ⟨w2, hw2⟩ : ∃ w2, w2 = w1.alloc (.cells #[.slice add (grownL l).length capd] 27) := ⟨_, rfl⟩
  have HX := Lib.hid (show BoxAt w2 w1.heap.size [.slice add (grownL l).length capd] 27 by rw [hw2]; exact BoxAt.new w1 [_] _)
  have hB2 : Below w1.heap.size w1 w2 := by rw [hw2]; exact (Below.refl _ _).alloc (Nat.le_refl _) _
  rw [← hw2]
  have HD := Lib.hid ((HD1.out.mono (G' := fun _ => True) (fun _ _ => trivial)).below hB2 (fun _ h => h))
  have HB := Lib.hid (HB1.out.trans (hB2.mono HB1.out.size))
  have HOK := Lib.hid (grown_ok l)
  have hz2 := HX.out.lt
  have hzw2 := HB.out.size
  clear hw2 hB2 HD1 HB1
  have hg4 := grown_len l
  have hgp := grown_pos l
  have HNN := Lib.hid (show (crtSums (grownL l)).Nodup → (crtSums (grownL l)).Nodup from fun h => h)
  generalize hLL : grownL l = L at *
  have HLL := Lib.hid hLL
  clear hLL
  have HC := Lib.hid (show growC L n = ⟨⟨pickedZ n 4, roundL L, [], growPs L⟩, [1, 2, 3]⟩ from rfl)
  have HPE := Lib.hid (show growPs L = if roundL L = 1 then [] else digsL L (roundL L - 1) from rfl)
  have HI0 := Lib.hid (fun hn h7 => @grow_ins L HOK.out hn (by omega) n h7)
  have HR0 := Lib.hid (fun (h0 : insCode L (growC L n) = 0) => grow_round HOK.out (insCode_zero h0) (show (growC L n).h.r = roundL L from rfl))
  have HK0 := Lib.hid (fun (h0 : insCode L (growC L n) = 0) => insCode_zero h0)
  have x0 := HX.out.cell 0 rfl
  go_wp2_with fail
  refine (dagRound_any _ _ HD.out (HT.out.belowS HB.out) HOK.out).mono ?_
  rintro e w3 ⟨rfl, hb3⟩
  have hr1 := roundL_pos L
  have hr2 := roundL_le L
  obtain ⟨r, hr⟩ : ∃ r, r = roundL L := ⟨_, rfl⟩
  rw [← hr] at HC HPE HR0 hr1 hr2 ⊢
  clear hr
  replace HX := Lib.hid (HX.out.belowS hb3)
  replace HD := Lib.hid (HD.out.below hb3 (fun _ h => h))
  replace HB := Lib.hid (HB.out.trans (hb3.mono HB.out.size))
  clear hb3 x0
  have x0 := HX.out.cell 0 rfl
  have wr1 : IntKind.i64.wrap (r - 1) = r - 1 := IntWalk.i64_in _ (by omega)
  go_wp2_with fail
  refine (dagDigests_any (r - 1) _ _ HD.out (HT.out.belowS HB.out) HOK.out).mono ?_
  rintro e w4 ⟨vP, rfl, hP, hb4⟩
  obtain ⟨adp, capp, rfl, -, hmp⟩ := hP.form
  unfold maxLen at hmp
  have HP := Lib.hid (hP.mono (G' := fun _ => True) (fun _ _ => trivial))
  replace HX := Lib.hid (HX.out.belowS hb4)
  replace HD := Lib.hid (HD.out.below hb4 (fun _ h => h))
  replace HB := Lib.hid (HB.out.trans (hb4.mono HB.out.size))
  generalize digsL L (r - 1) = PS at *
  clear hb4 hP x0
  obtain ⟨a, ha⟩ : ∃ a, a = pickedZ n 4 := ⟨_, rfl⟩
  rw [← ha] at HC
  have HA := Lib.hid ha.symm
  clear ha
  go_upto_region 5 with (go_at_call 19; refine (picked_any n 4 _ n1 n2 (by omega) (by omega)).mono ?_; rintro e w' ⟨rfl, rfl⟩; rw [HA.out])
  have zx4 := HX.out.lt
  have zw4 := HB.out.size
  replace HD := Lib.hid ((HD.out.low (by decide)).mono (G' := fun b => b < w4.heap.size) (fun b hb => hb.2))
  obtain ⟨w6, hwl⟩ : ∃ w6, w6 = (w4.alloc (.cells #[.int .i64 a, .int .i64 r, .slice none 0 0, .slice adp PS.length capp] 36)) := ⟨_, rfl⟩
  have hBl : Below w4.heap.size w4 w6 := by rw [hwl]; exact ((Below.refl _ _).alloc (by first | exact Nat.le_refl _ | (simp; done) | (simp; omega)) _)
  have HY := Lib.hid (show BoxAt w6 w4.heap.size [.int .i64 a, .int .i64 r, .slice none 0 0, .slice adp PS.length capp] 36 by rw [hwl]; exact BoxAt.new w4 [.int .i64 a, .int .i64 r, .slice none 0 0, .slice adp PS.length capp] _)
  rw [← hwl]
  replace HX := Lib.hid (HX.out.belowS hBl)
  replace HD := Lib.hid (HD.out.below hBl (fun _ h => h))
  replace HB := Lib.hid (HB.out.trans (hBl.mono HB.out.size))
  replace HP := Lib.hid (HP.out.below hBl (fun _ h => h))
  clear hwl hBl
  by_cases hq1 : r = 1
  · have HQE := Lib.hid (show growPs L = [] by rw [HPE.out, if_pos hq1])
    rw [HQE.out] at HC
    subst hq1
    have y3 := HY.out.cell 3 rfl
    have yf := HY.out.free 3
    have zy := HY.out.lt
    clear wr1
    go_upto_region 7 with fail
    obtain ⟨w7, hw7⟩ : ∃ w7, w7 = w6.setCell ⟨w4.heap.size, 3, none⟩ (.slice none 0 0) := ⟨_, rfl⟩
    have HZ := Lib.hid (show BoxAt w7 w4.heap.size [.int .i64 a, .int .i64 1, .slice none 0 0, .slice none 0 0] 36 by rw [hw7]; exact HY.out.set 3 _)
    replace HX := Lib.hid (show BoxAt w7 w1.heap.size [.slice add L.length capd] 27 by rw [hw7]; exact HX.out.setOther (by show w1.heap.size ≠ w4.heap.size; omega) _)
    replace HD := Lib.hid ((show RdS RCert (fun b => b < w4.heap.size) w7 (.slice add L.length capd) L by rw [hw7]; exact HD.out.keep (Keep.setCell (by simp) _) (fun _ h => h)).mono (G' := fun _ => True) (fun _ _ => trivial))
    replace HB := Lib.hid (show Below w.heap.size w w7 by rw [hw7]; exact HB.out.setCell zw4 _)
    have HQ := Lib.hid (show RdBB (fun _ => True) w7 (.slice none 0 0) [] from RdS.nil _ _ _)
    rw [← hw7]
    clear hw7 y3 yf zy HY HP HPE
    rw [HC.out] at HI0 HR0 HK0
    have x0 := HX.out.cell 0 rfl
    have y0 := HZ.out.cell 0 rfl
    have y1 := HZ.out.cell 1 rfl
    have y2 := HZ.out.cell 2 rfl
    have y3 := HZ.out.cell 3 rfl
    have zx := HX.out.lt
    have zz := HZ.out.lt
    have hBv : Below w7.heap.size w7 (w7.alloc (.cells #[.int .i64 1, .int .i64 2, .int .i64 3] 3)) := (Below.refl _ _).alloc (Nat.le_refl _) _
    have HVo := Lib.hid (show RdI (fun _ => True) (w7.alloc (.cells #[.int .i64 1, .int .i64 2, .int .i64 3] 3)) (.slice (some ⟨w7.heap.size, 0, none⟩) 3 3) [1, 2, 3] from RdS.of_box (f := Value.int .i64) (l := [1, 2, 3]) (cap := 3) (BoxAt.new w7 [.int .i64 1, .int .i64 2, .int .i64 3] 3) trivial (by simp) (by unfold maxLen; simp))
    have HDo := Lib.hid (HD.out.below hBv (fun _ h => h))
    have HPo := Lib.hid (HQ.out.below hBv (fun _ h => h))
    have HTo := Lib.hid (show Tabs (w7.alloc (.cells #[.int .i64 1, .int .i64 2, .int .i64 3] 3)) from HT.out.belowS (HB.out.trans (hBv.mono HB.out.size)))
    go_wp2_with fail
    refine (dagInsert_any ⟨⟨a, 1, [], []⟩, [1, 2, 3]⟩ _ _ _ _ _ HDo.out (RdS.nil _ (fun _ => True) _) HPo.out HVo.out HTo.out).mono ?_
    rintro e w8 ⟨vI, rfl, hI, hbI⟩
    have hb_s := hBv.trans (hbI.mono hBv.size)
    replace HX := Lib.hid (HX.out.belowS hb_s)
    replace HZ := Lib.hid (HZ.out.belowS hb_s)
    replace HD := Lib.hid (HD.out.below hb_s (fun _ h => h))
    replace HQ := Lib.hid (HQ.out.below hb_s (fun _ h => h))
    replace HB := Lib.hid (HB.out.trans (hb_s.mono HB.out.size))
    obtain ⟨adI, capI, rfl, -, hmI⟩ := hI.form
    unfold maxLen at hmI
    have HIL := Lib.hid (hI.mono (G' := fun _ => True) (fun _ _ => trivial))
    have HIY := Lib.hid (fun h => @insL_yes L ⟨⟨a, 1, [], []⟩, [1, 2, 3]⟩ h)
    have HIN := Lib.hid (fun h => @insL_no L ⟨⟨a, 1, [], []⟩, [1, 2, 3]⟩ h)
    clear hI hbI hb_s hBv HVo HDo HPo HTo x0 y0 y1 y2 y3 zx zz
    generalize insCode L ⟨⟨a, 1, [], []⟩, [1, 2, 3]⟩ = q at *
    generalize insL L ⟨⟨a, 1, [], []⟩, [1, 2, 3]⟩ = IL at *
    go_upto_region 8 with fail
    obtain ⟨w9, hwl⟩ : ∃ w9, w9 = (w8.alloc (.cells #[.slice adI IL.length capI] 27)) := ⟨_, rfl⟩
    have hBl : Below w8.heap.size w8 w9 := by rw [hwl]; exact ((Below.refl _ _).alloc (by first | exact Nat.le_refl _ | (simp; done) | (simp; omega)) _)
    have HW := Lib.hid (show BoxAt w9 w8.heap.size [.slice adI IL.length capI] 27 by rw [hwl]; exact BoxAt.new w8 [_] _)
    rw [← hwl]
    replace HX := Lib.hid (HX.out.belowS hBl)
    replace HZ := Lib.hid (HZ.out.belowS hBl)
    replace HD := Lib.hid (HD.out.below hBl (fun _ h => h))
    replace HQ := Lib.hid (HQ.out.below hBl (fun _ h => h))
    replace HB := Lib.hid (HB.out.trans (hBl.mono HB.out.size))
    replace HIL := Lib.hid (HIL.out.below hBl (fun _ h => h))
    clear hwl hBl
    have x0 := HX.out.cell 0 rfl
    by_cases h7 : q = 7
    · have hq7 : (q == 7) = true := by simp [h7]
      have hL0 : (0 : Int) < (L.length : Int) := by omega
      go_wp2
      go_ret
      exact ⟨true, rfl, fun _ => rfl, HB.out⟩
    have hq7 : (q == 7) = false := by rw [beq_eq_false_iff_ne]; exact h7
    have u0 := HW.out.cell 0 rfl
    have HOI := Lib.hid (show dagOk IL = true by
      by_cases h0 : q = 0
      · rw [HIY.out h0]; exact HK0.out h0
      · rw [HIN.out h0]; exact dagOk_nil)
    go_wp2_with fail
    refine (dagRound_any _ _ HIL.out (HT.out.belowS HB.out) HOI.out).mono ?_
    rintro e w10 ⟨rfl, hb_s⟩
    clear x0 u0 hq7
    replace HX := Lib.hid (HX.out.belowS hb_s)
    replace HZ := Lib.hid (HZ.out.belowS hb_s)
    replace HD := Lib.hid (HD.out.below hb_s (fun _ h => h))
    replace HQ := Lib.hid (HQ.out.below hb_s (fun _ h => h))
    replace HB := Lib.hid (HB.out.trans (hb_s.mono HB.out.size))
    replace HIL := Lib.hid (HIL.out.below hb_s (fun _ h => h))
    replace HW := Lib.hid (HW.out.belowS hb_s)
    clear hb_s
    have x0 := HX.out.cell 0 rfl
    have u0 := HW.out.cell 0 rfl
    by_cases h0 : q = 0
    · have hIL := HIY.out h0
      have hRR := HR0.out h0
      rw [← hIL] at hRR
      have hR1 := hRR.1
      have hR2 := hRR.2
      have hlen : IL.length = L.length + 1 := by rw [hIL]; simp
      have HIA := Lib.hid hIL
      clear hRR hIL
      generalize roundL IL = s at *
      subst h0
      rw [hlen] at HIL HW u0 ⊢
      have hlN := Lib.hid hlen
      clear hlen
      have s1 : ¬ s < 1 := by omega
      have s2 : ¬ 1 + 1 < s := by omega
      have ws : IntKind.i64.wrap (1 + 1) = 1 + 1 := IntWalk.i64_in _ (by omega)
      have wl : IntKind.i64.wrap ((L.length : Int) + 1) = (L.length : Int) + 1 := IntWalk.i64_in _ (by omega)
      go_wp2_with fail
      clear s1 s2 ws wl
      go_loopw [16] (fun i wr => ∃ k : Nat, k ≤ L.length ∧ i = .int .i64 k ∧ Hid (Below w10.heap.size w10 wr)) (fun i _ => L.length - (intOf i).toNat)
      case atStart => exact ⟨0, Nat.zero_le _, rfl, Lib.hid (Below.refl _ _)⟩
      case round =>
        obtain ⟨k, hk, rfl, HBr⟩ := hrel
        have HXr := Lib.hid (HX.out.belowS HBr.out)
        have HWr := Lib.hid (HW.out.belowS HBr.out)
        have HZr := Lib.hid (HZ.out.belowS HBr.out)
        have HDr := Lib.hid (HD.out.below HBr.out (fun _ h => h))
        have HIr := Lib.hid (HIL.out.below HBr.out (fun _ h => h))
        have HQr := Lib.hid (HQ.out.below HBr.out (fun _ h => h))
        clear x0 u0
        have x0 := HXr.out.cell 0 rfl
        by_cases hlt : k < L.length
        · have k0 : (0 : Int) ≤ (k : Int) := by omega
          have k1 : (k : Int) < (L.length : Int) := by omega
          have k2 : (k : Int) < (L.length : Int) + 1 := by omega
          have wk : IntKind.i64.wrap ((k : Int) + 1) = (k : Int) + 1 := IntWalk.i64_in _ (by omega)
          have hkI : k < IL.length := by rw [hlN.out]; omega
          have hIk : IL[k] = L[k] := by simp only [HIA.out]; rw [List.getElem_append_left hlt]
          obtain ⟨bd, od, va, vb1, vc, rfl, -, d0, d1, d2, d3, d4, ha1, ha2, ha3⟩ := HDr.out.crt k hlt
          obtain ⟨bi, oi, wa, wb, wc, rfl, -, i0, i1, i2, i3, i4, hc1, hc2, hc3⟩ := HIr.out.crt k hkI
          rw [hIk] at i0 i1 hc1 hc2 hc3
          clear hIk hkI
          generalize L[k] = c at *
          obtain ⟨p1, p1c, rfl, -, -⟩ := ha1.form
          obtain ⟨p2, p2c, rfl, -, -⟩ := ha2.form
          obtain ⟨p3, p3c, rfl, -, -⟩ := ha3.form
          obtain ⟨g1, g1c, rfl, -, -⟩ := hc1.form
          obtain ⟨g2, g2c, rfl, -, -⟩ := hc2.form
          obtain ⟨g3, g3c, rfl, -, -⟩ := hc3.form
          have A1 := Lib.hid ha1
          have A2 := Lib.hid ha2
          have A3 := Lib.hid ha3
          have C1 := Lib.hid hc1
          have C2 := Lib.hid hc2
          have C3 := Lib.hid hc3
          have E1 := Lib.hid (And.intro d0 (And.intro d1 (And.intro d2 (And.intro d3 d4))))
          have E2 := Lib.hid (And.intro i0 (And.intro i1 (And.intro i2 (And.intro i3 i4))))
          have hbd : bd < wr.heap.size := World.block_lt_of_cell? wr _ d0
          have hbi : bi < wr.heap.size := World.block_lt_of_cell? wr _ i0
          have hsc : sameC c c = true := sameC_iff.2 rfl
          have HSC := Lib.hid hsc
          clear ha1 ha2 ha3 hc1 hc2 hc3 d0 d1 d2 d3 d4 i0 i1 i2 i3 i4 hsc
          go_upto_region 16 with fail
          refine wp_region_held_drew (S := fun w' => Below wr.heap.size wr w') (by kernel_rfl) (by exact (Below.refl _ _).drew) (fun hHeld => ?_)
          obtain ⟨wd, hwd⟩ : ∃ wd, wd = wr.drew := ⟨_, rfl⟩
          rw [← hwd] at hHeld ⊢
          have HBd := Lib.hid (show Below wr.heap.size wr wd from hHeld)
          have zwd : wr.heap.size ≤ wd.heap.size := by rw [hwd]; exact Nat.le_refl _
          clear hwd
          refine wpAnyH_take (i := 0) (v := .pointer (some ⟨w1.heap.size, 0, none⟩)) rfl (by kernel_rfl) (by kernel_rfl) (by kernel_rfl) (fun _ _ _ h => h) (Or.inl ⟨by rfl, fun w hSw => ?_⟩) hHeld ?_
          · clear hSw; go_simp; all_goals (try first | rfl | omega)
          try simp only [Act.put, List.getElem_toArray, List.getElem_cons_succ, List.getElem_cons_zero, List.setIfInBounds_toArray, List.set_cons_zero, List.set_cons_succ]
          refine wpAnyH_take (i := 1) (v := .slice (some ⟨bd, od, none⟩) L.length capd) rfl (by kernel_rfl) (by kernel_rfl) (by kernel_rfl) (fun _ _ _ h => h) (Or.inl ⟨by rfl, fun w hSw => ?_⟩) hHeld ?_
          · have q0 := (HXr.out.belowS hSw).cell 0 rfl; clear hSw; go_simp
          try simp only [Act.put, List.getElem_toArray, List.getElem_cons_succ, List.getElem_cons_zero, List.setIfInBounds_toArray, List.set_cons_zero, List.set_cons_succ]
          refine wpAnyH_take (i := 2) (v := .int .i64 (k : Int)) rfl (by kernel_rfl) (by kernel_rfl) (by kernel_rfl) (fun _ _ _ h => h) (Or.inl ⟨by rfl, fun w hSw => ?_⟩) hHeld ?_
          · clear hSw; go_simp; all_goals (try first | rfl | omega)
          try simp only [Act.put, List.getElem_toArray, List.getElem_cons_succ, List.getElem_cons_zero, List.setIfInBounds_toArray, List.set_cons_zero, List.set_cons_succ]
          refine wpAnyH_take (i := 3) (v := .pointer (some ⟨bd, od + k * 5, none⟩)) rfl (by kernel_rfl) (by kernel_rfl) (by kernel_rfl) (fun _ _ _ h => h) (Or.inl ⟨by rfl, fun w hSw => ?_⟩) hHeld ?_
          · clear hSw; go_simp; all_goals (try first | rfl | omega)
          try simp only [Act.put, List.getElem_toArray, List.getElem_cons_succ, List.getElem_cons_zero, List.setIfInBounds_toArray, List.set_cons_zero, List.set_cons_succ]
          refine wpAnyH_take (i := 4) (v := .agg #[.int .i64 c.h.a, .int .i64 c.h.r, .slice p1 c.h.bs.length p1c, .slice p2 c.h.ps.length p2c, .slice p3 c.vs.length p3c]) rfl (by kernel_rfl) (by kernel_rfl) (by kernel_rfl) (fun _ _ _ h => h) (Or.inl ⟨by rfl, fun w hSw => ?_⟩) hHeld ?_
          · have q0 := (hSw.cell (p := ⟨bd, od + k * 5, none⟩) hbd).trans E1.out.1; have q1 := (hSw.cell (p := ⟨bd, od + k * 5 + 1, none⟩) hbd).trans E1.out.2.1; have q2 := (hSw.cell (p := ⟨bd, od + k * 5 + 2, none⟩) hbd).trans E1.out.2.2.1; have q3 := (hSw.cell (p := ⟨bd, od + k * 5 + 3, none⟩) hbd).trans E1.out.2.2.2.1; have q4 := (hSw.cell (p := ⟨bd, od + k * 5 + 4, none⟩) hbd).trans E1.out.2.2.2.2; clear hSw; go_simp
          try simp only [Act.put, List.getElem_toArray, List.getElem_cons_succ, List.getElem_cons_zero, List.setIfInBounds_toArray, List.set_cons_zero, List.set_cons_succ]
          refine wpAnyH_take (i := 5) (v := .pointer (some ⟨w8.heap.size, 0, none⟩)) rfl (by kernel_rfl) (by kernel_rfl) (by kernel_rfl) (fun _ _ _ h => h) (Or.inl ⟨by rfl, fun w hSw => ?_⟩) hHeld ?_
          · clear hSw; go_simp; all_goals (try first | rfl | omega)
          try simp only [Act.put, List.getElem_toArray, List.getElem_cons_succ, List.getElem_cons_zero, List.setIfInBounds_toArray, List.set_cons_zero, List.set_cons_succ]
          refine wpAnyH_take (i := 6) (v := .slice (some ⟨bi, oi, none⟩) (L.length + 1) capI) rfl (by kernel_rfl) (by kernel_rfl) (by kernel_rfl) (fun _ _ _ h => h) (Or.inl ⟨by rfl, fun w hSw => ?_⟩) hHeld ?_
          · have q0 := (HWr.out.belowS hSw).cell 0 rfl; clear hSw; go_simp
          try simp only [Act.put, List.getElem_toArray, List.getElem_cons_succ, List.getElem_cons_zero, List.setIfInBounds_toArray, List.set_cons_zero, List.set_cons_succ]
          refine wpAnyH_take (i := 7) (v := .int .i64 (k : Int)) rfl (by kernel_rfl) (by kernel_rfl) (by kernel_rfl) (fun _ _ _ h => h) (Or.inl ⟨by rfl, fun w hSw => ?_⟩) hHeld ?_
          · clear hSw; go_simp; all_goals (try first | rfl | omega)
          try simp only [Act.put, List.getElem_toArray, List.getElem_cons_succ, List.getElem_cons_zero, List.setIfInBounds_toArray, List.set_cons_zero, List.set_cons_succ]
          refine wpAnyH_take (i := 8) (v := .pointer (some ⟨bi, oi + k * 5, none⟩)) rfl (by kernel_rfl) (by kernel_rfl) (by kernel_rfl) (fun _ _ _ h => h) (Or.inl ⟨by rfl, fun w hSw => ?_⟩) hHeld ?_
          · clear hSw; go_simp; all_goals (try first | rfl | omega)
          try simp only [Act.put, List.getElem_toArray, List.getElem_cons_succ, List.getElem_cons_zero, List.setIfInBounds_toArray, List.set_cons_zero, List.set_cons_succ]
          refine wpAnyH_take (i := 9) (v := .agg #[.int .i64 c.h.a, .int .i64 c.h.r, .slice g1 c.h.bs.length g1c, .slice g2 c.h.ps.length g2c, .slice g3 c.vs.length g3c]) rfl (by kernel_rfl) (by kernel_rfl) (by kernel_rfl) (fun _ _ _ h => h) (Or.inl ⟨by rfl, fun w hSw => ?_⟩) hHeld ?_
          · have q0 := (hSw.cell (p := ⟨bi, oi + k * 5, none⟩) hbi).trans E2.out.1; have q1 := (hSw.cell (p := ⟨bi, oi + k * 5 + 1, none⟩) hbi).trans E2.out.2.1; have q2 := (hSw.cell (p := ⟨bi, oi + k * 5 + 2, none⟩) hbi).trans E2.out.2.2.1; have q3 := (hSw.cell (p := ⟨bi, oi + k * 5 + 3, none⟩) hbi).trans E2.out.2.2.2.1; have q4 := (hSw.cell (p := ⟨bi, oi + k * 5 + 4, none⟩) hbi).trans E2.out.2.2.2.2; clear hSw; go_simp
          try simp only [Act.put, List.getElem_toArray, List.getElem_cons_succ, List.getElem_cons_zero, List.setIfInBounds_toArray, List.set_cons_zero, List.set_cons_succ]
          refine wpAnyH_ready (rs := [10]) (by kernel_rfl) (by simp) ?_
          refine AllReadyH.cons rfl (fun K hK => ?_) ?_
          · rw [if_pos (by rfl)]
            go_simp
            go_at_call 34
            refine (sameCert_any c c _ _ _ _ _ _ _ ((A1.out.mono (G' := fun _ => True) (fun _ _ => trivial)).below HBd.out (fun _ h => h)) ((A2.out.mono (G' := fun _ => True) (fun _ _ => trivial)).below HBd.out (fun _ h => h)) ((A3.out.mono (G' := fun _ => True) (fun _ _ => trivial)).below HBd.out (fun _ h => h)) ((C1.out.mono (G' := fun _ => True) (fun _ _ => trivial)).below HBd.out (fun _ h => h)) ((C2.out.mono (G' := fun _ => True) (fun _ _ => trivial)).below HBd.out (fun _ h => h)) ((C3.out.mono (G' := fun _ => True) (fun _ _ => trivial)).below HBd.out (fun _ h => h))).mono ?_
            rintro e ws ⟨rfl, hb_ws⟩
            rw [HSC.out]
            have HBws := Lib.hid (HBd.out.trans (hb_ws.mono (Below.size HBd.out)))
            have zws := hb_ws.size
            clear hb_ws
            show K _ _
            refine hK.out _ _ (by exact HBws.out) (fun hHeld => ?_)
            clear hK K
            try simp only [Act.put, List.getElem_toArray, List.getElem_cons_succ, List.getElem_cons_zero, List.setIfInBounds_toArray, List.set_cons_zero, List.set_cons_succ]
            refine wpAnyH_take (i := 11) (v := .bool false) rfl (by kernel_rfl) (by kernel_rfl) (by kernel_rfl) (fun _ _ _ h => h) (Or.inl ⟨by rfl, fun w hSw => ?_⟩) hHeld ?_
            · clear hSw; go_simp; all_goals (try first | rfl | omega)
            try simp only [Act.put, List.getElem_toArray, List.getElem_cons_succ, List.getElem_cons_zero, List.setIfInBounds_toArray, List.set_cons_zero, List.set_cons_succ]
            refine wpAnyH_done (by kernel_rfl) ?_ _
            have HBE := Lib.hid (HBr.out.trans (HBws.out.mono HBr.out.size))
            go_wp2
            go_roundw
            case rel => exact ⟨k + 1, by omega, by go_num, HBE⟩
            case measure => simp [intOf]; omega
          exact AllReadyH.nil
        · obtain rfl : L.length = k := by omega
          have k1 : ¬ (L.length : Int) < (L.length : Int) := by omega
          have hkI : L.length < IL.length := by rw [hlN.out]; omega
          have hIk : IL[L.length] = ⟨⟨a, 1, [], []⟩, [1, 2, 3]⟩ := by simp only [HIA.out]; simp
          obtain ⟨bi, oi, wa, wb, wc, rfl, -, i0, i1, i2, i3, i4, hc1, hc2, hc3⟩ := HIr.out.crt L.length hkI
          rw [hIk] at i0 i1 hc1 hc2 hc3
          clear hIk hkI
          simp only at i0 i1 hc1 hc2 hc3
          obtain ⟨g1, g1c, rfl, -, -⟩ := hc1.form
          obtain ⟨g2, g2c, rfl, -, -⟩ := hc2.form
          have C1 := Lib.hid hc1
          have C2 := Lib.hid hc2
          have E2 := Lib.hid (And.intro i0 (And.intro i1 (And.intro i2 i3)))
          have hbi : bi < wr.heap.size := World.block_lt_of_cell? wr _ i0
          clear hc1 hc2 hc3 i0 i1 i2 i3 i4
          have k2 : (L.length : Int) < (L.length : Int) + 1 := by omega
          have k0 : (0 : Int) ≤ (L.length : Int) := by omega
          go_upto_region 18 with fail
          refine wp_region_held_drew (S := fun w' => Below wr.heap.size wr w') (by kernel_rfl) (by exact (Below.refl _ _).drew) (fun hHeld => ?_)
          obtain ⟨wd, hwd⟩ : ∃ wd, wd = wr.drew := ⟨_, rfl⟩
          rw [← hwd] at hHeld ⊢
          have HBd := Lib.hid (show Below wr.heap.size wr wd from hHeld)
          have zwd : wr.heap.size ≤ wd.heap.size := by rw [hwd]; exact Nat.le_refl _
          clear hwd
          refine wpAnyH_take (i := 0) (v := .pointer (some ⟨w8.heap.size, 0, none⟩)) rfl (by kernel_rfl) (by kernel_rfl) (by kernel_rfl) (fun _ _ _ h => h) (Or.inl ⟨by rfl, fun w hSw => ?_⟩) hHeld ?_
          · clear hSw; go_simp; all_goals (try first | rfl | omega)
          try simp only [Act.put, List.getElem_toArray, List.getElem_cons_succ, List.getElem_cons_zero, List.setIfInBounds_toArray, List.set_cons_zero, List.set_cons_succ]
          refine wpAnyH_take (i := 1) (v := .slice (some ⟨bi, oi, none⟩) (L.length + 1) capI) rfl (by kernel_rfl) (by kernel_rfl) (by kernel_rfl) (fun _ _ _ h => h) (Or.inl ⟨by rfl, fun w hSw => ?_⟩) hHeld ?_
          · have q0 := (HWr.out.belowS hSw).cell 0 rfl; clear hSw; go_simp
          try simp only [Act.put, List.getElem_toArray, List.getElem_cons_succ, List.getElem_cons_zero, List.setIfInBounds_toArray, List.set_cons_zero, List.set_cons_succ]
          refine wpAnyH_take (i := 2) (v := .pointer (some ⟨w1.heap.size, 0, none⟩)) rfl (by kernel_rfl) (by kernel_rfl) (by kernel_rfl) (fun _ _ _ h => h) (Or.inl ⟨by rfl, fun w hSw => ?_⟩) hHeld ?_
          · clear hSw; go_simp; all_goals (try first | rfl | omega)
          try simp only [Act.put, List.getElem_toArray, List.getElem_cons_succ, List.getElem_cons_zero, List.setIfInBounds_toArray, List.set_cons_zero, List.set_cons_succ]
          refine wpAnyH_take (i := 3) (v := .slice add L.length capd) rfl (by kernel_rfl) (by kernel_rfl) (by kernel_rfl) (fun _ _ _ h => h) (Or.inl ⟨by rfl, fun w hSw => ?_⟩) hHeld ?_
          · have q0 := (HXr.out.belowS hSw).cell 0 rfl; clear hSw; go_simp
          try simp only [Act.put, List.getElem_toArray, List.getElem_cons_succ, List.getElem_cons_zero, List.setIfInBounds_toArray, List.set_cons_zero, List.set_cons_succ]
          refine wpAnyH_take (i := 4) (v := .int .i64 (L.length : Int)) rfl (by kernel_rfl) (by kernel_rfl) (by kernel_rfl) (fun _ _ _ h => h) (Or.inl ⟨by rfl, fun w hSw => ?_⟩) hHeld ?_
          · clear hSw; go_simp; all_goals (try first | rfl | omega)
          try simp only [Act.put, List.getElem_toArray, List.getElem_cons_succ, List.getElem_cons_zero, List.setIfInBounds_toArray, List.set_cons_zero, List.set_cons_succ]
          refine wpAnyH_take (i := 5) (v := .pointer (some ⟨bi, oi + L.length * 5, none⟩)) rfl (by kernel_rfl) (by kernel_rfl) (by kernel_rfl) (fun _ _ _ h => h) (Or.inl ⟨by rfl, fun w hSw => ?_⟩) hHeld ?_
          · clear hSw; go_simp; all_goals (try first | rfl | omega)
          try simp only [Act.put, List.getElem_toArray, List.getElem_cons_succ, List.getElem_cons_zero, List.setIfInBounds_toArray, List.set_cons_zero, List.set_cons_succ]
          refine wpAnyH_take (i := 6) (v := .pointer (some ⟨bi, oi + L.length * 5, none⟩)) rfl (by kernel_rfl) (by kernel_rfl) (by kernel_rfl) (fun _ _ _ h => h) (Or.inl ⟨by rfl, fun w hSw => ?_⟩) hHeld ?_
          · clear hSw; go_simp; all_goals (try first | rfl | omega)
          try simp only [Act.put, List.getElem_toArray, List.getElem_cons_succ, List.getElem_cons_zero, List.setIfInBounds_toArray, List.set_cons_zero, List.set_cons_succ]
          refine wpAnyH_take (i := 7) (v := .agg #[.int .i64 a, .int .i64 1, .slice g1 ([] : List Bytes).length g1c, .slice g2 ([] : List Bytes).length g2c]) rfl (by kernel_rfl) (by kernel_rfl) (by kernel_rfl) (fun _ _ _ h => h) (Or.inl ⟨by rfl, fun w hSw => ?_⟩) hHeld ?_
          · have q0 := (hSw.cell (p := ⟨bi, oi + L.length * 5, none⟩) hbi).trans E2.out.1; have q1 := (hSw.cell (p := ⟨bi, oi + L.length * 5 + 1, none⟩) hbi).trans E2.out.2.1; have q2 := (hSw.cell (p := ⟨bi, oi + L.length * 5 + 2, none⟩) hbi).trans E2.out.2.2.1; have q3 := (hSw.cell (p := ⟨bi, oi + L.length * 5 + 3, none⟩) hbi).trans E2.out.2.2.2; clear hSw; go_simp
          try simp only [Act.put, List.getElem_toArray, List.getElem_cons_succ, List.getElem_cons_zero, List.setIfInBounds_toArray, List.set_cons_zero, List.set_cons_succ]
          refine wpAnyH_take (i := 8) (v := .agg #[.int .i64 a, .int .i64 1, .slice none 0 0, .slice none 0 0]) rfl (by kernel_rfl) (by kernel_rfl) (by kernel_rfl) (fun _ _ _ h => h) (Or.inl ⟨by rfl, fun w hSw => ?_⟩) hHeld ?_
          · have qb := HZr.out.belowS hSw; have q0 := qb.cell 0 rfl; have q1 := qb.cell 1 rfl; have q2 := qb.cell 2 rfl; have q3 := qb.cell 3 rfl; clear hSw qb; go_simp
          try simp only [Act.put, List.getElem_toArray, List.getElem_cons_succ, List.getElem_cons_zero, List.setIfInBounds_toArray, List.set_cons_zero, List.set_cons_succ]
          refine wpAnyH_ready (rs := [9]) (by kernel_rfl) (by simp) ?_
          refine AllReadyH.cons rfl (fun K hK => ?_) ?_
          · rw [if_pos (by rfl)]
            go_simp
            go_at_call 35
            refine (sameHeader_any a 1 a 1 [] [] [] [] _ _ _ _ _ ((C1.out.mono (G' := fun _ => True) (fun _ _ => trivial)).below HBd.out (fun _ h => h)) ((C2.out.mono (G' := fun _ => True) (fun _ _ => trivial)).below HBd.out (fun _ h => h)) (RdS.nil _ (fun _ => True) _) (HQr.out.below HBd.out (fun _ h => h))).mono ?_
            rintro e ws ⟨rfl, hb_ws⟩
            rw [decide_eq_true (show a = a ∧ (1 : Int) = 1 ∧ ([] : List Bytes) = [] ∧ ([] : List Bytes) = [] from ⟨rfl, rfl, rfl, rfl⟩)]
            have HBws := Lib.hid (HBd.out.trans (hb_ws.mono (Below.size HBd.out)))
            have zws := hb_ws.size
            clear hb_ws
            show K _ _
            refine hK.out _ _ (by exact HBws.out) (fun hHeld => ?_)
            clear hK K
            try simp only [Act.put, List.getElem_toArray, List.getElem_cons_succ, List.getElem_cons_zero, List.setIfInBounds_toArray, List.set_cons_zero, List.set_cons_succ]
            refine wpAnyH_take (i := 10) (v := .bool true) rfl (by kernel_rfl) (by kernel_rfl) (by kernel_rfl) (fun _ _ _ h => h) (Or.inl ⟨by rfl, fun w hSw => ?_⟩) hHeld ?_
            · clear hSw; go_simp; all_goals (try first | rfl | omega)
            try simp only [Act.put, List.getElem_toArray, List.getElem_cons_succ, List.getElem_cons_zero, List.setIfInBounds_toArray, List.set_cons_zero, List.set_cons_succ]
            refine wpAnyH_done (by kernel_rfl) ?_ _
            have HBE := Lib.hid (HB.out.trans ((HBr.out.trans (HBws.out.mono HBr.out.size)).mono HB.out.size))
            go_wp2
            go_ret
            exact .inr ⟨rfl, HBE.out⟩
          exact AllReadyH.nil
    · have HNO := Lib.hid (fun hn => h0 (HI0.out (HLL.out ▸ hn) h7))
      have hq0 : (q == 0) = false := by rw [beq_eq_false_iff_ne]; exact h0
      have hq0' : (q != 0) = true := by rw [bne_iff_ne]; exact h0
      go_wp2
      go_ret
      exact ⟨false, rfl, fun hn => (HNO.out hn).elim, HB.out⟩
  · have HQE := Lib.hid (show growPs L = PS by rw [HPE.out, if_neg hq1])
    rw [HQE.out] at HC
    have HZ := HY
    have HQ := HP
    replace HD := Lib.hid (HD.out.mono (G' := fun _ => True) (fun _ _ => trivial))
    obtain ⟨w7, rfl⟩ : ∃ w7, w7 = w6 := ⟨_, rfl⟩
    clear HP HY HPE
    go_upto_region 7 with fail
    clear wr1
    rw [HC.out] at HI0 HR0 HK0
    have x0 := HX.out.cell 0 rfl
    have y0 := HZ.out.cell 0 rfl
    have y1 := HZ.out.cell 1 rfl
    have y2 := HZ.out.cell 2 rfl
    have y3 := HZ.out.cell 3 rfl
    have zx := HX.out.lt
    have zz := HZ.out.lt
    have hBv : Below w7.heap.size w7 (w7.alloc (.cells #[.int .i64 1, .int .i64 2, .int .i64 3] 3)) := (Below.refl _ _).alloc (Nat.le_refl _) _
    have HVo := Lib.hid (show RdI (fun _ => True) (w7.alloc (.cells #[.int .i64 1, .int .i64 2, .int .i64 3] 3)) (.slice (some ⟨w7.heap.size, 0, none⟩) 3 3) [1, 2, 3] from RdS.of_box (f := Value.int .i64) (l := [1, 2, 3]) (cap := 3) (BoxAt.new w7 [.int .i64 1, .int .i64 2, .int .i64 3] 3) trivial (by simp) (by unfold maxLen; simp))
    have HDo := Lib.hid (HD.out.below hBv (fun _ h => h))
    have HPo := Lib.hid (HQ.out.below hBv (fun _ h => h))
    have HTo := Lib.hid (show Tabs (w7.alloc (.cells #[.int .i64 1, .int .i64 2, .int .i64 3] 3)) from HT.out.belowS (HB.out.trans (hBv.mono HB.out.size)))
    go_wp2_with fail
    refine (dagInsert_any ⟨⟨a, r, [], PS⟩, [1, 2, 3]⟩ _ _ _ _ _ HDo.out (RdS.nil _ (fun _ => True) _) HPo.out HVo.out HTo.out).mono ?_
    rintro e w8 ⟨vI, rfl, hI, hbI⟩
    have hb_s := hBv.trans (hbI.mono hBv.size)
    replace HX := Lib.hid (HX.out.belowS hb_s)
    replace HZ := Lib.hid (HZ.out.belowS hb_s)
    replace HD := Lib.hid (HD.out.below hb_s (fun _ h => h))
    replace HQ := Lib.hid (HQ.out.below hb_s (fun _ h => h))
    replace HB := Lib.hid (HB.out.trans (hb_s.mono HB.out.size))
    obtain ⟨adI, capI, rfl, -, hmI⟩ := hI.form
    unfold maxLen at hmI
    have HIL := Lib.hid (hI.mono (G' := fun _ => True) (fun _ _ => trivial))
    have HIY := Lib.hid (fun h => @insL_yes L ⟨⟨a, r, [], PS⟩, [1, 2, 3]⟩ h)
    have HIN := Lib.hid (fun h => @insL_no L ⟨⟨a, r, [], PS⟩, [1, 2, 3]⟩ h)
    clear hI hbI hb_s hBv HVo HDo HPo HTo x0 y0 y1 y2 y3 zx zz
    generalize insCode L ⟨⟨a, r, [], PS⟩, [1, 2, 3]⟩ = q at *
    generalize insL L ⟨⟨a, r, [], PS⟩, [1, 2, 3]⟩ = IL at *
    go_upto_region 8 with fail
    obtain ⟨w9, hwl⟩ : ∃ w9, w9 = (w8.alloc (.cells #[.slice adI IL.length capI] 27)) := ⟨_, rfl⟩
    have hBl : Below w8.heap.size w8 w9 := by rw [hwl]; exact ((Below.refl _ _).alloc (by first | exact Nat.le_refl _ | (simp; done) | (simp; omega)) _)
    have HW := Lib.hid (show BoxAt w9 w8.heap.size [.slice adI IL.length capI] 27 by rw [hwl]; exact BoxAt.new w8 [_] _)
    rw [← hwl]
    replace HX := Lib.hid (HX.out.belowS hBl)
    replace HZ := Lib.hid (HZ.out.belowS hBl)
    replace HD := Lib.hid (HD.out.below hBl (fun _ h => h))
    replace HQ := Lib.hid (HQ.out.below hBl (fun _ h => h))
    replace HB := Lib.hid (HB.out.trans (hBl.mono HB.out.size))
    replace HIL := Lib.hid (HIL.out.below hBl (fun _ h => h))
    clear hwl hBl
    have x0 := HX.out.cell 0 rfl
    by_cases h7 : q = 7
    · have hq7 : (q == 7) = true := by simp [h7]
      have hL0 : (0 : Int) < (L.length : Int) := by omega
      go_wp2
      go_ret
      exact ⟨true, rfl, fun _ => rfl, HB.out⟩
    have hq7 : (q == 7) = false := by rw [beq_eq_false_iff_ne]; exact h7
    have u0 := HW.out.cell 0 rfl
    have HOI := Lib.hid (show dagOk IL = true by
      by_cases h0 : q = 0
      · rw [HIY.out h0]; exact HK0.out h0
      · rw [HIN.out h0]; exact dagOk_nil)
    go_wp2_with fail
    refine (dagRound_any _ _ HIL.out (HT.out.belowS HB.out) HOI.out).mono ?_
    rintro e w10 ⟨rfl, hb_s⟩
    clear x0 u0 hq7
    replace HX := Lib.hid (HX.out.belowS hb_s)
    replace HZ := Lib.hid (HZ.out.belowS hb_s)
    replace HD := Lib.hid (HD.out.below hb_s (fun _ h => h))
    replace HQ := Lib.hid (HQ.out.below hb_s (fun _ h => h))
    replace HB := Lib.hid (HB.out.trans (hb_s.mono HB.out.size))
    replace HIL := Lib.hid (HIL.out.below hb_s (fun _ h => h))
    replace HW := Lib.hid (HW.out.belowS hb_s)
    clear hb_s
    have x0 := HX.out.cell 0 rfl
    have u0 := HW.out.cell 0 rfl
    by_cases h0 : q = 0
    · have hIL := HIY.out h0
      have hRR := HR0.out h0
      rw [← hIL] at hRR
      have hR1 := hRR.1
      have hR2 := hRR.2
      have hlen : IL.length = L.length + 1 := by rw [hIL]; simp
      have HIA := Lib.hid hIL
      clear hRR hIL
      generalize roundL IL = s at *
      subst h0
      rw [hlen] at HIL HW u0 ⊢
      have hlN := Lib.hid hlen
      clear hlen
      have s1 : ¬ s < r := by omega
      have s2 : ¬ r + 1 < s := by omega
      have ws : IntKind.i64.wrap (r + 1) = r + 1 := IntWalk.i64_in _ (by omega)
      have wl : IntKind.i64.wrap ((L.length : Int) + 1) = (L.length : Int) + 1 := IntWalk.i64_in _ (by omega)
      go_wp2_with fail
      clear s1 s2 ws wl
      go_loopw [16] (fun i wr => ∃ k : Nat, k ≤ L.length ∧ i = .int .i64 k ∧ Hid (Below w10.heap.size w10 wr)) (fun i _ => L.length - (intOf i).toNat)
      case atStart => exact ⟨0, Nat.zero_le _, rfl, Lib.hid (Below.refl _ _)⟩
      case round =>
        obtain ⟨k, hk, rfl, HBr⟩ := hrel
        have HXr := Lib.hid (HX.out.belowS HBr.out)
        have HWr := Lib.hid (HW.out.belowS HBr.out)
        have HZr := Lib.hid (HZ.out.belowS HBr.out)
        have HDr := Lib.hid (HD.out.below HBr.out (fun _ h => h))
        have HIr := Lib.hid (HIL.out.below HBr.out (fun _ h => h))
        have HQr := Lib.hid (HQ.out.below HBr.out (fun _ h => h))
        clear x0 u0
        have x0 := HXr.out.cell 0 rfl
        by_cases hlt : k < L.length
        · have k0 : (0 : Int) ≤ (k : Int) := by omega
          have k1 : (k : Int) < (L.length : Int) := by omega
          have k2 : (k : Int) < (L.length : Int) + 1 := by omega
          have wk : IntKind.i64.wrap ((k : Int) + 1) = (k : Int) + 1 := IntWalk.i64_in _ (by omega)
          have hkI : k < IL.length := by rw [hlN.out]; omega
          have hIk : IL[k] = L[k] := by simp only [HIA.out]; rw [List.getElem_append_left hlt]
          obtain ⟨bd, od, va, vb1, vc, rfl, -, d0, d1, d2, d3, d4, ha1, ha2, ha3⟩ := HDr.out.crt k hlt
          obtain ⟨bi, oi, wa, wb, wc, rfl, -, i0, i1, i2, i3, i4, hc1, hc2, hc3⟩ := HIr.out.crt k hkI
          rw [hIk] at i0 i1 hc1 hc2 hc3
          clear hIk hkI
          generalize L[k] = c at *
          obtain ⟨p1, p1c, rfl, -, -⟩ := ha1.form
          obtain ⟨p2, p2c, rfl, -, -⟩ := ha2.form
          obtain ⟨p3, p3c, rfl, -, -⟩ := ha3.form
          obtain ⟨g1, g1c, rfl, -, -⟩ := hc1.form
          obtain ⟨g2, g2c, rfl, -, -⟩ := hc2.form
          obtain ⟨g3, g3c, rfl, -, -⟩ := hc3.form
          have A1 := Lib.hid ha1
          have A2 := Lib.hid ha2
          have A3 := Lib.hid ha3
          have C1 := Lib.hid hc1
          have C2 := Lib.hid hc2
          have C3 := Lib.hid hc3
          have E1 := Lib.hid (And.intro d0 (And.intro d1 (And.intro d2 (And.intro d3 d4))))
          have E2 := Lib.hid (And.intro i0 (And.intro i1 (And.intro i2 (And.intro i3 i4))))
          have hbd : bd < wr.heap.size := World.block_lt_of_cell? wr _ d0
          have hbi : bi < wr.heap.size := World.block_lt_of_cell? wr _ i0
          have hsc : sameC c c = true := sameC_iff.2 rfl
          have HSC := Lib.hid hsc
          clear ha1 ha2 ha3 hc1 hc2 hc3 d0 d1 d2 d3 d4 i0 i1 i2 i3 i4 hsc
          go_upto_region 16 with fail
          refine wp_region_held_drew (S := fun w' => Below wr.heap.size wr w') (by kernel_rfl) (by exact (Below.refl _ _).drew) (fun hHeld => ?_)
          obtain ⟨wd, hwd⟩ : ∃ wd, wd = wr.drew := ⟨_, rfl⟩
          rw [← hwd] at hHeld ⊢
          have HBd := Lib.hid (show Below wr.heap.size wr wd from hHeld)
          have zwd : wr.heap.size ≤ wd.heap.size := by rw [hwd]; exact Nat.le_refl _
          clear hwd
          refine wpAnyH_take (i := 0) (v := .pointer (some ⟨w1.heap.size, 0, none⟩)) rfl (by kernel_rfl) (by kernel_rfl) (by kernel_rfl) (fun _ _ _ h => h) (Or.inl ⟨by rfl, fun w hSw => ?_⟩) hHeld ?_
          · clear hSw; go_simp; all_goals (try first | rfl | omega)
          try simp only [Act.put, List.getElem_toArray, List.getElem_cons_succ, List.getElem_cons_zero, List.setIfInBounds_toArray, List.set_cons_zero, List.set_cons_succ]
          refine wpAnyH_take (i := 1) (v := .slice (some ⟨bd, od, none⟩) L.length capd) rfl (by kernel_rfl) (by kernel_rfl) (by kernel_rfl) (fun _ _ _ h => h) (Or.inl ⟨by rfl, fun w hSw => ?_⟩) hHeld ?_
          · have q0 := (HXr.out.belowS hSw).cell 0 rfl; clear hSw; go_simp
          try simp only [Act.put, List.getElem_toArray, List.getElem_cons_succ, List.getElem_cons_zero, List.setIfInBounds_toArray, List.set_cons_zero, List.set_cons_succ]
          refine wpAnyH_take (i := 2) (v := .int .i64 (k : Int)) rfl (by kernel_rfl) (by kernel_rfl) (by kernel_rfl) (fun _ _ _ h => h) (Or.inl ⟨by rfl, fun w hSw => ?_⟩) hHeld ?_
          · clear hSw; go_simp; all_goals (try first | rfl | omega)
          try simp only [Act.put, List.getElem_toArray, List.getElem_cons_succ, List.getElem_cons_zero, List.setIfInBounds_toArray, List.set_cons_zero, List.set_cons_succ]
          refine wpAnyH_take (i := 3) (v := .pointer (some ⟨bd, od + k * 5, none⟩)) rfl (by kernel_rfl) (by kernel_rfl) (by kernel_rfl) (fun _ _ _ h => h) (Or.inl ⟨by rfl, fun w hSw => ?_⟩) hHeld ?_
          · clear hSw; go_simp; all_goals (try first | rfl | omega)
          try simp only [Act.put, List.getElem_toArray, List.getElem_cons_succ, List.getElem_cons_zero, List.setIfInBounds_toArray, List.set_cons_zero, List.set_cons_succ]
          refine wpAnyH_take (i := 4) (v := .agg #[.int .i64 c.h.a, .int .i64 c.h.r, .slice p1 c.h.bs.length p1c, .slice p2 c.h.ps.length p2c, .slice p3 c.vs.length p3c]) rfl (by kernel_rfl) (by kernel_rfl) (by kernel_rfl) (fun _ _ _ h => h) (Or.inl ⟨by rfl, fun w hSw => ?_⟩) hHeld ?_
          · have q0 := (hSw.cell (p := ⟨bd, od + k * 5, none⟩) hbd).trans E1.out.1; have q1 := (hSw.cell (p := ⟨bd, od + k * 5 + 1, none⟩) hbd).trans E1.out.2.1; have q2 := (hSw.cell (p := ⟨bd, od + k * 5 + 2, none⟩) hbd).trans E1.out.2.2.1; have q3 := (hSw.cell (p := ⟨bd, od + k * 5 + 3, none⟩) hbd).trans E1.out.2.2.2.1; have q4 := (hSw.cell (p := ⟨bd, od + k * 5 + 4, none⟩) hbd).trans E1.out.2.2.2.2; clear hSw; go_simp
          try simp only [Act.put, List.getElem_toArray, List.getElem_cons_succ, List.getElem_cons_zero, List.setIfInBounds_toArray, List.set_cons_zero, List.set_cons_succ]
          refine wpAnyH_take (i := 5) (v := .pointer (some ⟨w8.heap.size, 0, none⟩)) rfl (by kernel_rfl) (by kernel_rfl) (by kernel_rfl) (fun _ _ _ h => h) (Or.inl ⟨by rfl, fun w hSw => ?_⟩) hHeld ?_
          · clear hSw; go_simp; all_goals (try first | rfl | omega)
          try simp only [Act.put, List.getElem_toArray, List.getElem_cons_succ, List.getElem_cons_zero, List.setIfInBounds_toArray, List.set_cons_zero, List.set_cons_succ]
          refine wpAnyH_take (i := 6) (v := .slice (some ⟨bi, oi, none⟩) (L.length + 1) capI) rfl (by kernel_rfl) (by kernel_rfl) (by kernel_rfl) (fun _ _ _ h => h) (Or.inl ⟨by rfl, fun w hSw => ?_⟩) hHeld ?_
          · have q0 := (HWr.out.belowS hSw).cell 0 rfl; clear hSw; go_simp
          try simp only [Act.put, List.getElem_toArray, List.getElem_cons_succ, List.getElem_cons_zero, List.setIfInBounds_toArray, List.set_cons_zero, List.set_cons_succ]
          refine wpAnyH_take (i := 7) (v := .int .i64 (k : Int)) rfl (by kernel_rfl) (by kernel_rfl) (by kernel_rfl) (fun _ _ _ h => h) (Or.inl ⟨by rfl, fun w hSw => ?_⟩) hHeld ?_
          · clear hSw; go_simp; all_goals (try first | rfl | omega)
          try simp only [Act.put, List.getElem_toArray, List.getElem_cons_succ, List.getElem_cons_zero, List.setIfInBounds_toArray, List.set_cons_zero, List.set_cons_succ]
          refine wpAnyH_take (i := 8) (v := .pointer (some ⟨bi, oi + k * 5, none⟩)) rfl (by kernel_rfl) (by kernel_rfl) (by kernel_rfl) (fun _ _ _ h => h) (Or.inl ⟨by rfl, fun w hSw => ?_⟩) hHeld ?_
          · clear hSw; go_simp; all_goals (try first | rfl | omega)
          try simp only [Act.put, List.getElem_toArray, List.getElem_cons_succ, List.getElem_cons_zero, List.setIfInBounds_toArray, List.set_cons_zero, List.set_cons_succ]
          refine wpAnyH_take (i := 9) (v := .agg #[.int .i64 c.h.a, .int .i64 c.h.r, .slice g1 c.h.bs.length g1c, .slice g2 c.h.ps.length g2c, .slice g3 c.vs.length g3c]) rfl (by kernel_rfl) (by kernel_rfl) (by kernel_rfl) (fun _ _ _ h => h) (Or.inl ⟨by rfl, fun w hSw => ?_⟩) hHeld ?_
          · have q0 := (hSw.cell (p := ⟨bi, oi + k * 5, none⟩) hbi).trans E2.out.1; have q1 := (hSw.cell (p := ⟨bi, oi + k * 5 + 1, none⟩) hbi).trans E2.out.2.1; have q2 := (hSw.cell (p := ⟨bi, oi + k * 5 + 2, none⟩) hbi).trans E2.out.2.2.1; have q3 := (hSw.cell (p := ⟨bi, oi + k * 5 + 3, none⟩) hbi).trans E2.out.2.2.2.1; have q4 := (hSw.cell (p := ⟨bi, oi + k * 5 + 4, none⟩) hbi).trans E2.out.2.2.2.2; clear hSw; go_simp
          try simp only [Act.put, List.getElem_toArray, List.getElem_cons_succ, List.getElem_cons_zero, List.setIfInBounds_toArray, List.set_cons_zero, List.set_cons_succ]
          refine wpAnyH_ready (rs := [10]) (by kernel_rfl) (by simp) ?_
          refine AllReadyH.cons rfl (fun K hK => ?_) ?_
          · rw [if_pos (by rfl)]
            go_simp
            go_at_call 34
            refine (sameCert_any c c _ _ _ _ _ _ _ ((A1.out.mono (G' := fun _ => True) (fun _ _ => trivial)).below HBd.out (fun _ h => h)) ((A2.out.mono (G' := fun _ => True) (fun _ _ => trivial)).below HBd.out (fun _ h => h)) ((A3.out.mono (G' := fun _ => True) (fun _ _ => trivial)).below HBd.out (fun _ h => h)) ((C1.out.mono (G' := fun _ => True) (fun _ _ => trivial)).below HBd.out (fun _ h => h)) ((C2.out.mono (G' := fun _ => True) (fun _ _ => trivial)).below HBd.out (fun _ h => h)) ((C3.out.mono (G' := fun _ => True) (fun _ _ => trivial)).below HBd.out (fun _ h => h))).mono ?_
            rintro e ws ⟨rfl, hb_ws⟩
            rw [HSC.out]
            have HBws := Lib.hid (HBd.out.trans (hb_ws.mono (Below.size HBd.out)))
            have zws := hb_ws.size
            clear hb_ws
            show K _ _
            refine hK.out _ _ (by exact HBws.out) (fun hHeld => ?_)
            clear hK K
            try simp only [Act.put, List.getElem_toArray, List.getElem_cons_succ, List.getElem_cons_zero, List.setIfInBounds_toArray, List.set_cons_zero, List.set_cons_succ]
            refine wpAnyH_take (i := 11) (v := .bool false) rfl (by kernel_rfl) (by kernel_rfl) (by kernel_rfl) (fun _ _ _ h => h) (Or.inl ⟨by rfl, fun w hSw => ?_⟩) hHeld ?_
            · clear hSw; go_simp; all_goals (try first | rfl | omega)
            try simp only [Act.put, List.getElem_toArray, List.getElem_cons_succ, List.getElem_cons_zero, List.setIfInBounds_toArray, List.set_cons_zero, List.set_cons_succ]
            refine wpAnyH_done (by kernel_rfl) ?_ _
            have HBE := Lib.hid (HBr.out.trans (HBws.out.mono HBr.out.size))
            go_wp2
            go_roundw
            case rel => exact ⟨k + 1, by omega, by go_num, HBE⟩
            case measure => simp [intOf]; omega
          exact AllReadyH.nil
        · obtain rfl : L.length = k := by omega
          have k1 : ¬ (L.length : Int) < (L.length : Int) := by omega
          have hkI : L.length < IL.length := by rw [hlN.out]; omega
          have hIk : IL[L.length] = ⟨⟨a, r, [], PS⟩, [1, 2, 3]⟩ := by simp only [HIA.out]; simp
          obtain ⟨bi, oi, wa, wb, wc, rfl, -, i0, i1, i2, i3, i4, hc1, hc2, hc3⟩ := HIr.out.crt L.length hkI
          rw [hIk] at i0 i1 hc1 hc2 hc3
          clear hIk hkI
          simp only at i0 i1 hc1 hc2 hc3
          obtain ⟨g1, g1c, rfl, -, -⟩ := hc1.form
          obtain ⟨g2, g2c, rfl, -, -⟩ := hc2.form
          have C1 := Lib.hid hc1
          have C2 := Lib.hid hc2
          have E2 := Lib.hid (And.intro i0 (And.intro i1 (And.intro i2 i3)))
          have hbi : bi < wr.heap.size := World.block_lt_of_cell? wr _ i0
          clear hc1 hc2 hc3 i0 i1 i2 i3 i4
          have k2 : (L.length : Int) < (L.length : Int) + 1 := by omega
          have k0 : (0 : Int) ≤ (L.length : Int) := by omega
          go_upto_region 18 with fail
          refine wp_region_held_drew (S := fun w' => Below wr.heap.size wr w') (by kernel_rfl) (by exact (Below.refl _ _).drew) (fun hHeld => ?_)
          obtain ⟨wd, hwd⟩ : ∃ wd, wd = wr.drew := ⟨_, rfl⟩
          rw [← hwd] at hHeld ⊢
          have HBd := Lib.hid (show Below wr.heap.size wr wd from hHeld)
          have zwd : wr.heap.size ≤ wd.heap.size := by rw [hwd]; exact Nat.le_refl _
          clear hwd
          refine wpAnyH_take (i := 0) (v := .pointer (some ⟨w8.heap.size, 0, none⟩)) rfl (by kernel_rfl) (by kernel_rfl) (by kernel_rfl) (fun _ _ _ h => h) (Or.inl ⟨by rfl, fun w hSw => ?_⟩) hHeld ?_
          · clear hSw; go_simp; all_goals (try first | rfl | omega)
          try simp only [Act.put, List.getElem_toArray, List.getElem_cons_succ, List.getElem_cons_zero, List.setIfInBounds_toArray, List.set_cons_zero, List.set_cons_succ]
          refine wpAnyH_take (i := 1) (v := .slice (some ⟨bi, oi, none⟩) (L.length + 1) capI) rfl (by kernel_rfl) (by kernel_rfl) (by kernel_rfl) (fun _ _ _ h => h) (Or.inl ⟨by rfl, fun w hSw => ?_⟩) hHeld ?_
          · have q0 := (HWr.out.belowS hSw).cell 0 rfl; clear hSw; go_simp
          try simp only [Act.put, List.getElem_toArray, List.getElem_cons_succ, List.getElem_cons_zero, List.setIfInBounds_toArray, List.set_cons_zero, List.set_cons_succ]
          refine wpAnyH_take (i := 2) (v := .pointer (some ⟨w1.heap.size, 0, none⟩)) rfl (by kernel_rfl) (by kernel_rfl) (by kernel_rfl) (fun _ _ _ h => h) (Or.inl ⟨by rfl, fun w hSw => ?_⟩) hHeld ?_
          · clear hSw; go_simp; all_goals (try first | rfl | omega)
          try simp only [Act.put, List.getElem_toArray, List.getElem_cons_succ, List.getElem_cons_zero, List.setIfInBounds_toArray, List.set_cons_zero, List.set_cons_succ]
          refine wpAnyH_take (i := 3) (v := .slice add L.length capd) rfl (by kernel_rfl) (by kernel_rfl) (by kernel_rfl) (fun _ _ _ h => h) (Or.inl ⟨by rfl, fun w hSw => ?_⟩) hHeld ?_
          · have q0 := (HXr.out.belowS hSw).cell 0 rfl; clear hSw; go_simp
          try simp only [Act.put, List.getElem_toArray, List.getElem_cons_succ, List.getElem_cons_zero, List.setIfInBounds_toArray, List.set_cons_zero, List.set_cons_succ]
          refine wpAnyH_take (i := 4) (v := .int .i64 (L.length : Int)) rfl (by kernel_rfl) (by kernel_rfl) (by kernel_rfl) (fun _ _ _ h => h) (Or.inl ⟨by rfl, fun w hSw => ?_⟩) hHeld ?_
          · clear hSw; go_simp; all_goals (try first | rfl | omega)
          try simp only [Act.put, List.getElem_toArray, List.getElem_cons_succ, List.getElem_cons_zero, List.setIfInBounds_toArray, List.set_cons_zero, List.set_cons_succ]
          refine wpAnyH_take (i := 5) (v := .pointer (some ⟨bi, oi + L.length * 5, none⟩)) rfl (by kernel_rfl) (by kernel_rfl) (by kernel_rfl) (fun _ _ _ h => h) (Or.inl ⟨by rfl, fun w hSw => ?_⟩) hHeld ?_
          · clear hSw; go_simp; all_goals (try first | rfl | omega)
          try simp only [Act.put, List.getElem_toArray, List.getElem_cons_succ, List.getElem_cons_zero, List.setIfInBounds_toArray, List.set_cons_zero, List.set_cons_succ]
          refine wpAnyH_take (i := 6) (v := .pointer (some ⟨bi, oi + L.length * 5, none⟩)) rfl (by kernel_rfl) (by kernel_rfl) (by kernel_rfl) (fun _ _ _ h => h) (Or.inl ⟨by rfl, fun w hSw => ?_⟩) hHeld ?_
          · clear hSw; go_simp; all_goals (try first | rfl | omega)
          try simp only [Act.put, List.getElem_toArray, List.getElem_cons_succ, List.getElem_cons_zero, List.setIfInBounds_toArray, List.set_cons_zero, List.set_cons_succ]
          refine wpAnyH_take (i := 7) (v := .agg #[.int .i64 a, .int .i64 r, .slice g1 ([] : List Bytes).length g1c, .slice g2 PS.length g2c]) rfl (by kernel_rfl) (by kernel_rfl) (by kernel_rfl) (fun _ _ _ h => h) (Or.inl ⟨by rfl, fun w hSw => ?_⟩) hHeld ?_
          · have q0 := (hSw.cell (p := ⟨bi, oi + L.length * 5, none⟩) hbi).trans E2.out.1; have q1 := (hSw.cell (p := ⟨bi, oi + L.length * 5 + 1, none⟩) hbi).trans E2.out.2.1; have q2 := (hSw.cell (p := ⟨bi, oi + L.length * 5 + 2, none⟩) hbi).trans E2.out.2.2.1; have q3 := (hSw.cell (p := ⟨bi, oi + L.length * 5 + 3, none⟩) hbi).trans E2.out.2.2.2; clear hSw; go_simp
          try simp only [Act.put, List.getElem_toArray, List.getElem_cons_succ, List.getElem_cons_zero, List.setIfInBounds_toArray, List.set_cons_zero, List.set_cons_succ]
          refine wpAnyH_take (i := 8) (v := .agg #[.int .i64 a, .int .i64 r, .slice none 0 0, .slice adp PS.length capp]) rfl (by kernel_rfl) (by kernel_rfl) (by kernel_rfl) (fun _ _ _ h => h) (Or.inl ⟨by rfl, fun w hSw => ?_⟩) hHeld ?_
          · have qb := HZr.out.belowS hSw; have q0 := qb.cell 0 rfl; have q1 := qb.cell 1 rfl; have q2 := qb.cell 2 rfl; have q3 := qb.cell 3 rfl; clear hSw qb; go_simp
          try simp only [Act.put, List.getElem_toArray, List.getElem_cons_succ, List.getElem_cons_zero, List.setIfInBounds_toArray, List.set_cons_zero, List.set_cons_succ]
          refine wpAnyH_ready (rs := [9]) (by kernel_rfl) (by simp) ?_
          refine AllReadyH.cons rfl (fun K hK => ?_) ?_
          · rw [if_pos (by rfl)]
            go_simp
            go_at_call 35
            refine (sameHeader_any a r a r [] PS [] PS _ _ _ _ _ ((C1.out.mono (G' := fun _ => True) (fun _ _ => trivial)).below HBd.out (fun _ h => h)) ((C2.out.mono (G' := fun _ => True) (fun _ _ => trivial)).below HBd.out (fun _ h => h)) (RdS.nil _ (fun _ => True) _) (HQr.out.below HBd.out (fun _ h => h))).mono ?_
            rintro e ws ⟨rfl, hb_ws⟩
            rw [decide_eq_true (show a = a ∧ (r : Int) = r ∧ ([] : List Bytes) = [] ∧ (PS : List Bytes) = PS from ⟨rfl, rfl, rfl, rfl⟩)]
            have HBws := Lib.hid (HBd.out.trans (hb_ws.mono (Below.size HBd.out)))
            have zws := hb_ws.size
            clear hb_ws
            show K _ _
            refine hK.out _ _ (by exact HBws.out) (fun hHeld => ?_)
            clear hK K
            try simp only [Act.put, List.getElem_toArray, List.getElem_cons_succ, List.getElem_cons_zero, List.setIfInBounds_toArray, List.set_cons_zero, List.set_cons_succ]
            refine wpAnyH_take (i := 10) (v := .bool true) rfl (by kernel_rfl) (by kernel_rfl) (by kernel_rfl) (fun _ _ _ h => h) (Or.inl ⟨by rfl, fun w hSw => ?_⟩) hHeld ?_
            · clear hSw; go_simp; all_goals (try first | rfl | omega)
            try simp only [Act.put, List.getElem_toArray, List.getElem_cons_succ, List.getElem_cons_zero, List.setIfInBounds_toArray, List.set_cons_zero, List.set_cons_succ]
            refine wpAnyH_done (by kernel_rfl) ?_ _
            have HBE := Lib.hid (HB.out.trans ((HBr.out.trans (HBws.out.mono HBr.out.size)).mono HB.out.size))
            go_wp2
            go_ret
            exact .inr ⟨rfl, HBE.out⟩
          exact AllReadyH.nil
    · have HNO := Lib.hid (fun hn => h0 (HI0.out (HLL.out ▸ hn) h7))
      have hq0 : (q == 0) = false := by rw [beq_eq_false_iff_ne]; exact h0
      have hq0' : (q != 0) = true := by rw [bne_iff_ne]; exact h0
      go_wp2
      go_ret
      exact ⟨false, rfl, fun hn => (HNO.out hn).elim, HB.out⟩
end Go.Proofs.YtlailhhffejbbaaDoor

/- DagGrows: the walk. -/
set_option linter.unusedVariables false
set_option linter.unusedSimpArgs false
attribute [local go_sem ↓] Go.wp_at_zero Go.wp_at_succ
namespace Go.Proofs.YtlailhhffejbbaaDoor
open Go Go.RowKit

theorem growS_nodup {l : List Stp} {n : Int} (h : growB l n = false) : (crtSums (grownL l)).Nodup := clear_of (grown_ok l) h
set_option maxRecDepth 100000 in
set_option maxHeartbeats 8000000 in
theorem dagGrows_walk (v : Value) (l : List Stp) (n : Int) (w : World) (hv : RdS RStp (fun _ => True) w v l) (hz : l.length * 24 ≤ reachBytes) (n1 : -9223372036854775808 ≤ n) (n2 : n ≤ 9223372036854775807) (ht : Tabs w) :
    Calls Tryd.prog 3 #[v, .int .i64 n] w fun e w' => e = .returned (.bool true) ∧ Below w.heap.size w w' := by
  go_enter Tryd.func3, Tryd.ntmps3
  go_wp2_with fail
  refine (dagGrows_any _ l n _ hv hz n1 n2 ht).mono ?_
  rintro e w1 ⟨b, rfl, hn, hb1⟩
  have HN := Lib.hid hn
  clear hn
  cases b with
  | true =>
    go_wp2
    go_ret
    exact ⟨rfl, hb1⟩
  | false =>
    have hg : growB l n = true := by
      by_cases q : growB l n = true
      · exact q
      · have := HN.out (growS_nodup (by simpa using q)); cases this
    go_wp2_with fail
    refine (growSum_any _ n _ (hv.below hb1 (fun _ h => h)) hz n1 n2 (ht.belowS hb1)).mono ?_
    rintro e w2 ⟨rfl, hb2⟩
    rw [hg]
    go_wp2
    go_ret
    exact ⟨rfl, hb1.trans (hb2.mono hb1.size)⟩
end Go.Proofs.YtlailhhffejbbaaDoor
