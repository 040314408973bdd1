import Derived.Test.YtlailhhffejbbaaDoorDag10
import Derived.Test.YtlailhhffejbbaaDoorOneSum
import Derived.Test.YtlailhhffejbbaaDoorGrown
import Derived.Test.YtlailhhffejbbaaDoorBas
import Derived.Test.YtlailhhffejbbaaDoorInsLaw
import Derived.Test.YtlailhhffejbbaaDoorDag11
import Derived.Test.YtlailhhffejbbaaDoorDOf
import Derived.Test.YtlailhhffejbbaaDoorSameL
/- sheaveskeep.headers: what it makes. -/
set_option linter.unusedVariables false
set_option linter.unusedSimpArgs false
attribute [local go_sem ↓] Go.wp_at_zero Go.wp_at_succ
namespace Go.Proofs.YtlailhhffejbbaaDoor
open Go Go.RowKit

theorem elemHdrD : ElemOk Tryd.prog 54 36 4 64 := elemOk_of (z := .agg #[.int .i64 0, .int .i64 0, .slice none 0 0, .slice none 0 0]) (by kernel_rfl) (by kernel_rfl) rfl (by decide)
def hdrsOf (l : List Crt) : List Hdr := l.map (·.h)
theorem hdrsOf_len (l : List Crt) : (hdrsOf l).length = l.length := by simp [hdrsOf]
theorem hdrsOf_succ {l : List Crt} {k : Nat} (h : k < l.length) : hdrsOf (l.take (k + 1)) = hdrsOf (l.take k) ++ [l[k].h] := by
  unfold hdrsOf; rw [List.take_succ_eq_append_getElem h, List.map_append]; rfl
set_option maxRecDepth 100000 in
set_option maxHeartbeats 8000000 in
theorem headers_any {G : Nat → Prop} {l : List Crt} (v : Value) (w : World) (h : RdS RCert G w v l) (hl : l.length ≤ 1000) :
    Calls Tryd.prog 37 #[.agg #[v]] w fun e w' => ∃ (ado : Option Addr) (capo : Nat), e = .returned (.slice ado l.length capo) ∧ LstO RHdr (fun b => G b ∧ b < w.heap.size) (w.heap.size + 1) 36 w' (.slice ado l.length capo) (hdrsOf l) ∧ Below w.heap.size w w' := by
  obtain ⟨ad, cap, rfl, hcap, hm⟩ := h.form
  unfold maxLen at hm
  have hb0 := (Below.refl w.heap.size w).alloc (Nat.le_refl _) (.cells #[.slice ad l.length cap] 27)
  have HV := Lib.hid ((h.low (by decide)).below hb0 (fun _ h => h))
  have HB := Lib.hid hb0
  have HX := Lib.hid (BoxAt.new w [.slice ad l.length cap] 27)
  clear h hb0
  go_enter Tryd.func37, Tryd.ntmps37
  go_upto_region 1 with fail
  obtain ⟨w0, hw0⟩ : ∃ w0, w0 = w.alloc (.cells #[.slice ad l.length cap] 27) := ⟨_, rfl⟩
  rw [← hw0] at HV HX HB ⊢
  have hz0 := HX.out.lt
  have hz1 : w0.heap.size = w.heap.size + 1 := by rw [hw0]; simp
  have hz2 : w0.heap.size ≤ w.heap.size + 1 := by omega
  have hz3 : w.heap.size + 1 ≤ w0.heap.size := by omega
  clear hw0 hz1
  go_wp2_with fail
  go_loopw [3, 4] (fun o i wr => ∃ (k : Nat) (ado : Option Addr) (capo : Nat), k ≤ l.length ∧ i = .int .i64 k ∧ o = .slice ado k capo ∧ LstO RHdr (fun b => G b ∧ b < w.heap.size) (w.heap.size + 1) 36 wr (.slice ado k capo) (hdrsOf (l.take k)) ∧ Below w0.heap.size w0 wr) (fun _ i _ => l.length - (intOf i).toNat)
  case atStart => exact ⟨0, none, 0, Nat.zero_le _, rfl, rfl, LstO.nil _ _ _ _ _, Below.refl _ _⟩
  case round =>
    obtain ⟨k, ado, capo, hk, rfl, rfl, hL, hB⟩ := hrel
    have hz := hB.size
    have HBr := Lib.hid hB
    have x0 := (HX.out.belowS hB).cell 0 rfl
    have hzx := (HX.out.belowS hB).lt
    by_cases hlt : k < l.length
    · have i0 : (0 : Int) ≤ (k : Int) := by omega
      have i1 : (k : Int) < (l.length : Int) := by omega
      have wk : IntKind.i64.wrap ((k : Int) + 1) = (k : Int) + 1 := IntWalk.i64_in _ (by omega)
      obtain ⟨vals, hv⟩ := hL.valsOf
      have hvlt := hv.lt
      have HLr := Lib.hid hv
      have HKL := Lib.hid (show (hdrsOf (l.take k)).length = k by rw [hdrsOf_len, List.length_take]; omega)
      have HMS := Lib.hid (hdrsOf_succ hlt)
      obtain ⟨b, o, ub, up, uv, rfl, -, e0, e1, e2, e3, e4, hb', hp', -⟩ := (HV.out.below hB (fun _ h => h)).crt k hlt
      generalize l[k] = c at *
      obtain ⟨adb, capb, rfl, -, -⟩ := hb'.form
      obtain ⟨adp, capp, rfl, -, -⟩ := hp'.form
      have H1 := Lib.hid hb'
      have H2 := Lib.hid hp'
      clear hb' hp' hv hL hB
      go_wp2_with (at_builtin; refine wpList_append_one rfl _ _ 54 rfl elemHdrD (w.heap.size + 1) _ k vals rfl (by have h := (HLr.out.alloc (.cells #[.int .i64 c.h.a, .int .i64 c.h.r, .slice adb c.h.bs.length capb, .slice adp c.h.ps.length capp] 36)).own; rw [HKL.out] at h; exact h) wr.heap.size 36 [.int .i64 c.h.a, .int .i64 c.h.r, .slice adb c.h.bs.length capb, .slice adp c.h.ps.length capp] rfl (BoxAt.new wr [_, _, _, _] _) rfl (by simp [Value.oneCell']) (by unfold maxLen; omega) (by omega) (by simp; omega) ?_; intro g cap6 w6 hown6 hgr6 hat6 hlt6)
      have hx : RHdr.rd (fun b => (G b ∧ b < w.heap.size) ∧ b < (wr.alloc (.cells #[.int .i64 c.h.a, .int .i64 c.h.r, .slice adb c.h.bs.length capb, .slice adp c.h.ps.length capp] 36)).heap.size ∧ (Value.slice ado k capo).ownBlock ≠ some b) (wr.alloc (.cells #[.int .i64 c.h.a, .int .i64 c.h.r, .slice adb c.h.bs.length capb, .slice adp c.h.ps.length capp] 36)) [.int .i64 c.h.a, .int .i64 c.h.r, .slice adb c.h.bs.length capb, .slice adp c.h.ps.length capp] c.h :=
        ⟨_, _, rfl, H1.out.keep (Keep.alloc _ _ _) (fun b hb => ⟨hb, by have := hb.2; simp; omega, fun e => by have h1 := hb.2; have := (hvlt _ e).1; omega⟩), H2.out.keep (Keep.alloc _ _ _) (fun b hb => ⟨hb, by have := hb.2; simp; omega, fun e => by have h1 := hb.2; have := (hvlt _ e).1; omega⟩)⟩
      have hP := (HLr.out.alloc (.cells #[.int .i64 c.h.a, .int .i64 c.h.r, .slice adb c.h.bs.length capb, .slice adp c.h.ps.length capp] 36)).push hx (by rw [HKL.out]; exact hown6) hgr6 hat6
      rw [HKL.out, ← HMS.out] at hP
      have HP := Lib.hid hP
      have HB6 := Lib.hid (show Below w0.heap.size w0 w6 from ((HBr.out).alloc (by omega) (.cells #[.int .i64 c.h.a, .int .i64 c.h.r, .slice adb c.h.bs.length capb, .slice adp c.h.ps.length capp] 36)).grown hgr6 (by simp; omega) (fun k hk => by have := (hvlt _ hk).1; omega))
      clear hP hx hown6 e0 e1 e2 e3 e4 x0
      go_wp2
      go_roundw
      case rel => exact ⟨k + 1, some ⟨g, 0, none⟩, cap6, by omega, by go_num, rfl, HP.out, HB6.out⟩
      case measure => simp [intOf]; omega
    · obtain rfl : k = l.length := by omega
      rw [List.take_length] at hL
      have HM := Lib.hid hL
      have HBE := Lib.hid (HB.out.trans (HBr.out.mono HB.out.size))
      clear hL hB
      have t1 : ¬ (l.length : Int) < (l.length : Int) := by omega
      go_wp2
      go_ret
      exact ⟨_, _, rfl, HM.out, HBE.out⟩
end Go.Proofs.YtlailhhffejbbaaDoor

/- A dag whose headers have no two unlike ones of one sum: its digests are all different. -/
set_option linter.unusedVariables false
set_option linter.unusedSimpArgs false
attribute [local go_sem ↓] Go.wp_at_zero Go.wp_at_succ
namespace Go.Proofs.YtlailhhffejbbaaDoor
open Go Go.RowKit

theorem anyPair_down {α : Type} {p : α → α → Bool} {l : List α} : ∀ m : Nat, m ≤ l.length → anyPair p (l.take m) (l.drop m) = true → anyPair p [] l = true
  | 0, _, h => by simpa using h
  | m + 1, hm, h => anyPair_down m (by omega) (by
      rw [List.drop_eq_getElem_cons (show m < l.length by omega), anyPair, ← List.take_succ_eq_append_getElem (show m < l.length by omega), h, Bool.or_true])
theorem anyPair_at {α : Type} {p : α → α → Bool} {l : List α} {k j : Nat} (hk : k < l.length) (hj : j < k) (h : p l[k] (l[j]'(by omega)) = true) : anyPair p [] l = true :=
  anyPair_down k (by omega) (anyPair_hit hk hj h)
/-- The digests of a dag are all different, or two unlike headers have one sum. -/
theorem clear_of {l : List Crt} (hok : dagOk l = true) {X : List Hdr} {B : List Bat} (h : oneSumL (hdrsOf l ++ X) B = false) : (crtSums l).Nodup := by
  have hS := dagOk_solo hok
  have hH : ∀ c ∈ l, hdrCode c.h = 0 := fun c hc => (crt_partsP ((dagOk_iff.1 hok).2.1 c hc)).1
  rw [List.nodup_iff_pairwise_ne, List.pairwise_iff_getElem]
  intro i j hi hj hij he
  have hi' : i < l.length := by rw [crtSums_len] at hi; exact hi
  have hj' : j < l.length := by rw [crtSums_len] at hj; exact hj
  have e1 : (crtSums l)[i] = hdrSum l[i].h := by simp [crtSums, crtSum]
  have e2 : (crtSums l)[j] = hdrSum l[j].h := by simp [crtSums, crtSum]
  rw [e1, e2] at he
  have hkey : ¬ (l[i].h.a = l[j].h.a ∧ l[i].h.r = l[j].h.r) := (List.pairwise_iff_getElem.1 hS.2) i j hi' hj' hij
  have g1 : (hdrsOf l ++ X)[j]'(by simp [hdrsOf]; omega) = l[j].h := by rw [List.getElem_append_left (by simp [hdrsOf]; omega)]; simp [hdrsOf]
  have g2 : (hdrsOf l ++ X)[i]'(by simp [hdrsOf]; omega) = l[i].h := by rw [List.getElem_append_left (by simp [hdrsOf]; omega)]; simp [hdrsOf]
  have hp : pairH ((hdrsOf l ++ X)[j]'(by simp [hdrsOf]; omega)) ((hdrsOf l ++ X)[i]'(by simp [hdrsOf]; omega)) = true := by
    rw [g1, g2]
    unfold pairH
    refine decide_eq_true ⟨hH _ (List.getElem_mem hj'), hH _ (List.getElem_mem hi'), he.symm, ?_⟩
    unfold sameH
    exact decide_eq_false (fun q => hkey ⟨q.1.symm, q.2.1.symm⟩)
  have ht := anyPair_at (p := pairH) (l := hdrsOf l ++ X) (by simp [hdrsOf]; omega) hij hp
  unfold oneSumL at h
  rw [ht] at h
  simp at h
/-- Where digests are all different, a digest is found at its own place. -/
theorem idx_clear {l : List Crt} (hn : (crtSums l).Nodup) {k : Nat} (hk : k < l.length) : idxP (isB (crtSum l[k])) (crtSums l) = k := by
  have hkS : k < (crtSums l).length := by rw [crtSums_len]; exact hk
  have e : (crtSums l)[k] = crtSum l[k] := by simp [crtSums]
  refine idxP_hit hkS (fun j hj x hx => ?_) (by unfold isB; exact decide_eq_true e)
  unfold isB
  refine decide_eq_false (fun q => ?_)
  have hjS : j < (crtSums l).length := by omega
  rw [List.getElem?_eq_getElem hjS] at hx
  have hx' := Option.some.inj hx
  rw [List.nodup_iff_pairwise_ne, List.pairwise_iff_getElem] at hn
  exact hn j k hjS hkS hj (by rw [hx', q, e])
theorem find_clear {l : List Crt} (hn : (crtSums l).Nodup) {k : Nat} (hk : k < l.length) : idxP (isB (crtSum l[k])) (crtSums l) = k := idx_clear hn hk
end Go.Proofs.YtlailhhffejbbaaDoor

/- sheaveskeep.grownSum: what it computes. -/
set_option linter.unusedVariables false
set_option linter.unusedSimpArgs false
attribute [local go_sem ↓] Go.wp_at_zero Go.wp_at_succ
namespace Go.Proofs.YtlailhhffejbbaaDoor
open Go Go.RowKit

/-- Two lists one behind the other. -/
theorem RdS.ofAppend2 {α : Type} {R : Rel α} {w : World} {base e : Nat} {v : Value} {l1 l2 : List α} {vals news : List Value} (hs : 0 < R.size) (h0 : vals.length = l1.length * R.size)
    (hown : w.ownsRow base e R.size v (l1.length + l2.length) (vals ++ news)) (h1 : ∀ j x, l1[j]? = some x → R.rd (fun _ => True) w ((vals.drop (j * R.size)).take R.size) x) (h2 : ∀ j x, l2[j]? = some x → R.rd (fun _ => True) w ((news.drop (j * R.size)).take R.size) x) :
    RdS R (fun _ => True) w v (l1 ++ l2) := by
  obtain ⟨hl, hown'⟩ := hown
  rcases hown' with ⟨rfl, h0'⟩ | ⟨g, cap, cur, rfl, hbg, hg, k1, k2, k3, k4⟩
  · have e1 : l1 = [] := List.eq_nil_of_length_eq_zero (by omega)
    have e2 : l2 = [] := List.eq_nil_of_length_eq_zero (by omega)
    subst e1 e2; exact RdS.nil _ _ _
  · refine ⟨some ⟨g, 0, none⟩, cap, by rw [List.length_append], by rw [List.length_append]; exact k1, k2, fun h => by simp at h, fun j x hx => ?_⟩
    have hj : j < l1.length + l2.length := by
      rcases Nat.lt_or_ge j (l1 ++ l2).length with h | h
      · simpa using h
      · rw [List.getElem?_eq_none h] at hx; simp at hx
    have hle : (j + 1) * R.size ≤ (l1.length + l2.length) * R.size := Nat.mul_le_mul_right _ hj
    rw [Nat.add_mul, Nat.one_mul] at hle
    have hr : R.rd (fun _ => True) w (((vals ++ news).drop (j * R.size)).take R.size) x := by
      rcases Nat.lt_or_ge j l1.length with h | h
      · rw [List.getElem?_append_left h] at hx
        have hle2 : (j + 1) * R.size ≤ l1.length * R.size := Nat.mul_le_mul_right _ h
        rw [Nat.add_mul, Nat.one_mul] at hle2
        rw [List.drop_append_of_le_length (by omega), List.take_append_of_le_length (by simp; omega)]
        exact h1 j x hx
      · rw [List.getElem?_append_right h] at hx
        have e : j * R.size = vals.length + (j - l1.length) * R.size := by rw [h0, ← Nat.add_mul]; congr 1; omega
        rw [e, ← List.drop_drop, List.drop_left' rfl]
        exact h2 _ x hx
    refine ⟨g, 0, _, rfl, trivial, fun t c ht => ?_, hr⟩
    have hlen := R.len hr
    have ht' : t < R.size := by
      rcases Nat.lt_or_ge t R.size with h | h
      · exact h
      · rw [List.getElem?_eq_none (by omega)] at ht; simp at ht
    rw [List.getElem?_take_of_lt ht', List.getElem?_drop, ← k4, List.getElem?_take_of_lt (by omega)] at ht
    simp [World.cell?, hg]
    simpa using ht
theorem LstO.baseMono {α : Type} {R : Rel α} {G : Nat → Prop} {base base' e : Nat} {w : World} {v : Value} {l : List α} (h : LstO R G base e w v l) (hb : base' ≤ base) : LstO R G base' e w v l := by
  obtain ⟨vals, h1, h2⟩ := h
  exact ⟨vals, ownsRow_mono h1 hb, h2⟩
def gsumB (l : List Stp) : Bool := oneSumL (hdrsOf (grownL l) ++ hdrsOf (grownL (l.take 12))) (grownBs l ++ grownBs (l.take 12))
theorem batTo_mono (l : List Stp) (n : Nat) : ∀ m, n ≤ m → (batTo l n).length ≤ (batTo l m).length
  | 0, h => by obtain rfl : n = 0 := by omega
               exact Nat.le_refl _
  | m + 1, h => by
    rcases Nat.lt_or_ge m n with q | q
    · obtain rfl : n = m + 1 := by omega
      exact Nat.le_refl _
    · have h1 := batTo_mono l n m q
      have h2 : (batTo l m).length ≤ (batTo l (m + 1)).length := by simp [batTo]
      omega
theorem own_zero {w : World} {base e k a b : Nat} {v : Value} {l m : List Value} (h : w.ownsRow base e k v (0 + a + b) ([] ++ l ++ m)) : w.ownsRow base e k v (a + b) (l ++ m) := by
  rw [Nat.zero_add] at h; exact h
theorem take_min12 {α : Type} (l : List α) : l.take (min l.length 12) = l.take 12 := by
  rcases Nat.le_total l.length 12 with q | q
  · rw [Nat.min_eq_left q, List.take_length, List.take_of_length_le q]
  · rw [Nat.min_eq_right q]
theorem grownBs_pos (l : List Stp) : 0 < (grownBs l).length := by
  have h1 : (batTo (stp1 :: l) 1).length = 1 := by
    show (batTo (stp1 :: l) 0 ++ stpBs 0 stp1 (stpN stp1)).length = 1
    rw [List.length_append, stpBs_len]
    show 0 + stpN stp1 = 1
    decide
  have h2 := batTo_mono (stp1 :: l) 1 (stpMany (stp1 :: l)) (by unfold stpMany; simp; omega)
  show 0 < (batTo (stp1 :: l) (stpMany (stp1 :: l))).length
  omega
theorem grownBs_len (l : List Stp) : (grownBs l).length ≤ 48 := by
  have := batTo_len (stp1 :: l) (stpMany (stp1 :: l))
  have h : stpMany (stp1 :: l) ≤ 24 := by unfold stpMany; omega
  show (batTo (stp1 :: l) (stpMany (stp1 :: l))).length ≤ 48
  omega
theorem lst_steps {w w' : World} {base e : Nat} {v : Value} {l : List Stp} {news : List Value} (hown : w.ownsRow base e 3 v l.length news) (h : ∀ j x, l[j]? = some x → RStp.rd (fun _ => True) w' ((news.drop (j * 3)).take 3) x) :
    LstO RStp (fun _ => True) base e w v l := ⟨news, hown, fun j x hx => h j x hx⟩
set_option maxRecDepth 100000 in
set_option maxHeartbeats 8000000 in
theorem grownSum_any {l : List Stp} (v : Value) (w : World) (hv : RdS RStp (fun _ => True) w v l) (hz : l.length * 24 ≤ reachBytes) (ht : Tabs w) :
    Calls Tryd.prog 17 #[v, .slice none 0 0] w fun e w' => e = .returned (.bool (gsumB l)) ∧ Below w.heap.size w w' := by
  have HT := Lib.hid ht
  have hlz : l.length * 24 ≤ 140737488351232 := hz
  obtain ⟨adl, capl, rfl, hcl, hml⟩ := hv.form
  unfold maxLen at hml
  have HV := Lib.hid hv
  obtain ⟨m, hm⟩ : ∃ m, m = min l.length 12 := ⟨_, rfl⟩
  have hm1 : m ≤ l.length := by omega
  have hm2 : m ≤ 12 := by omega
  have hm3 : ((l.length : Int) ≤ 12 ∧ (m : Int) = (l.length : Int)) ∨ (¬ (l.length : Int) ≤ 12 ∧ (m : Int) = 12) := by omega
  have HM3 := Lib.hid hm3
  have HTK := Lib.hid (show l.take m = l.take 12 by rw [hm]; exact take_min12 l)
  have htl : (l.take m).length = m := by rw [List.length_take]; omega
  have HTL := Lib.hid htl
  have HZ2 := Lib.hid (show (l.take m).length * 24 ≤ reachBytes by rw [htl]; exact Nat.le_trans (Nat.mul_le_mul_right _ hm1) hz)
  clear hv ht hm hm3 htl
  go_enter Tryd.func17, Tryd.ntmps17
  go_wp2_with fail
  refine (grown_any _ _ HV.out hz HT.out).mono ?_
  rintro e w1 ⟨vd, vb, rfl, hd, hb, hb1⟩
  obtain ⟨add, capd, rfl, -, -⟩ := hd.form
  obtain ⟨adb, capb, rfl, -, -⟩ := hb.form
  have HD1 := Lib.hid ((hd.mono (G' := fun _ => True) (fun _ _ => trivial)))
  have HS1 := Lib.hid ((hb.mono (G' := fun _ => True) (fun _ _ => trivial)))
  have HB1 := Lib.hid hb1
  have HV1 := Lib.hid (HV.out.below hb1 (fun _ h => h))
  clear hd hb hb1 HV
  have hg4 := grown_len l
  have hgp := grown_pos l
  have hb4 := grownBs_len l
  have hbp := grownBs_pos l
  obtain ⟨D1, hD1⟩ : ∃ D1, D1 = grownL l := ⟨_, rfl⟩
  obtain ⟨S1, hS1⟩ : ∃ S1, S1 = grownBs l := ⟨_, rfl⟩
  rw [← hD1] at HD1 hg4 hgp ⊢
  rw [← hS1] at HS1 hb4 hbp ⊢
  have HDE1 := Lib.hid hD1
  have HSE1 := Lib.hid hS1
  clear hD1 hS1
  go_upto_region 2 with fail
  obtain ⟨w2, hwl⟩ : ∃ w2, w2 = w1.alloc (.cells #[.slice add D1.length capd] 27) := ⟨_, rfl⟩
  have hBl : Below w1.heap.size w1 w2 := by rw [hwl]; exact (Below.refl _ _).alloc (Nat.le_refl _) _
  have HX := Lib.hid (show BoxAt w2 w1.heap.size [.slice add D1.length capd] 27 by rw [hwl]; exact BoxAt.new w1 [_] _)
  rw [← hwl]
  replace HD1 := Lib.hid (HD1.out.below hBl (fun _ h => h))
  replace HS1 := Lib.hid (HS1.out.below hBl (fun _ h => h))
  replace HB1 := Lib.hid (HB1.out.trans (hBl.mono HB1.out.size))
  replace HV1 := Lib.hid (HV1.out.below hBl (fun _ h => h))
  clear hwl hBl
  obtain ⟨news, hsl, hrd, hone⟩ := (HV1.out.take m hm1).flatOf (by decide) (fun h => RStp_one h)
  rw [HTL.out] at hsl
  have HSL := Lib.hid hsl
  have HRD := Lib.hid hrd
  have HON := Lib.hid hone
  clear hsl hrd hone
  have k1 : (m : Int) ≤ (capl : Int) := by omega
  have k0 : (0 : Int) ≤ (m : Int) := by omega
  have kmin : min (l.length : Int) 12 = (m : Int) := by have q := HM3.out; omega
  go_wp2_with (first
    | (refine wpList_min rfl (.tmp 17) (.const (.int .i64 12)) 3 3 rfl (l.length : Int) 12 (m : Int) rfl rfl HM3.out ?_)
    | (at_builtin; refine wpList_append_sl rfl (.const (.slice none 0 0)) (.tmp 19) 22 rfl elemStp w2.heap.size (.slice none 0 0) rfl 0 [] (World.ownsRow_nil _ _ _ _) _ rfl m news HSL.out HON.out (by unfold maxLen; omega) (by omega) (Nat.le_refl _) ?_; intro v20 w20 hown20 hgr20)
    | (at_builtin; refine wpList_append_sl rfl (.tmp 20) (.tmp 21) 22 rfl elemStp w2.heap.size v20 rfl (0 + m) ([] ++ news) hown20 (.slice none 0 0) rfl 0 [] ⟨none, 0, rfl, fun _ => ⟨rfl, rfl⟩, rfl, fun j u h => by simp at h⟩ (by simp) (by unfold maxLen; omega) (by omega) hgr20.size ?_; intro v22 w22 hown22 hgr22))
  have hlt20 := hown20.lt
  have hown22' : w22.ownsRow w2.heap.size 59 3 v22 (l.take m).length news := by
    rw [HTL.out]; simpa using hown22
  have HL22 := Lib.hid (lst_steps (w' := w2) hown22' HRD.out)
  have hB22 : Below w2.heap.size w2 w22 := ((Below.refl _ _).grown hgr20 (Nat.le_refl _) (fun k hk => by simp [Value.ownBlock] at hk)).grown hgr22 hgr20.size (fun k hk => (hlt20 k hk).1)
  replace HD1 := Lib.hid (HD1.out.below hB22 (fun _ h => h))
  replace HS1 := Lib.hid (HS1.out.below hB22 (fun _ h => h))
  replace HX := Lib.hid (HX.out.belowS hB22)
  replace HB1 := Lib.hid (HB1.out.trans (hB22.mono HB1.out.size))
  clear hown20 hgr20 hown22 hown22' hgr22 hB22 hlt20 HSL HRD HON HV1
  refine (grown_any _ _ (HL22.out.rd (G' := fun _ => True) (by decide) (fun _ _ _ => trivial) (fun _ _ _ => trivial)) HZ2.out (HT.out.belowS HB1.out)).mono ?_
  rintro e w3 ⟨ve, vf, rfl, hd, hb, hb3⟩
  obtain ⟨ade, cape, rfl, -, -⟩ := hd.form
  obtain ⟨adf, capf, rfl, -, -⟩ := hb.form
  have HD2 := Lib.hid ((hd.mono (G' := fun _ => True) (fun _ _ => trivial)))
  have HS2 := Lib.hid ((hb.mono (G' := fun _ => True) (fun _ _ => trivial)))
  replace HD1 := Lib.hid (HD1.out.below hb3 (fun _ h => h))
  replace HS1 := Lib.hid (HS1.out.below hb3 (fun _ h => h))
  replace HX := Lib.hid (HX.out.belowS hb3)
  replace HB1 := Lib.hid (HB1.out.trans (hb3.mono HB1.out.size))
  rw [HTK.out] at HD2 HS2 ⊢
  clear hd hb hb3 HL22
  have hg4' := grown_len (l.take 12)
  have hgp' := grown_pos (l.take 12)
  have hb4' := grownBs_len (l.take 12)
  have hbp' := grownBs_pos (l.take 12)
  have HG := Lib.hid (show gsumB l = oneSumL (hdrsOf (grownL l) ++ hdrsOf (grownL (l.take 12))) (grownBs l ++ grownBs (l.take 12)) from rfl)
  rw [← HDE1.out, ← HSE1.out] at HG
  generalize grownL (l.take 12) = D2 at *
  generalize grownBs (l.take 12) = S2 at *
  go_upto_region 3 with fail
  obtain ⟨w5, hwl⟩ : ∃ w5, w5 = w3.alloc (.cells #[.slice ade D2.length cape] 27) := ⟨_, rfl⟩
  have hBl : Below w3.heap.size w3 w5 := by rw [hwl]; exact (Below.refl _ _).alloc (Nat.le_refl _) _
  have HY := Lib.hid (show BoxAt w5 w3.heap.size [.slice ade D2.length cape] 27 by rw [hwl]; exact BoxAt.new w3 [_] _)
  rw [← hwl]
  replace HD1 := Lib.hid (((HD1.out.low (by decide)).mono (G' := fun b => b < w3.heap.size) (fun b hb => hb.2)).below hBl (fun _ h => h))
  replace HS1 := Lib.hid (((HS1.out.low (by decide)).mono (G' := fun b => b < w3.heap.size) (fun b hb => hb.2)).below hBl (fun _ h => h))
  replace HD2 := Lib.hid (((HD2.out.low (by decide)).mono (G' := fun b => b < w3.heap.size) (fun b hb => hb.2)).below hBl (fun _ h => h))
  replace HS2 := Lib.hid (((HS2.out.low (by decide)).mono (G' := fun b => b < w3.heap.size) (fun b hb => hb.2)).below hBl (fun _ h => h))
  replace HX := Lib.hid (HX.out.belowS hBl)
  replace HB1 := Lib.hid (HB1.out.trans (hBl.mono HB1.out.size))
  clear hwl hBl
  have zx := HX.out.lt
  have zy := HY.out.lt
  have hzw := HB1.out.size
  refine wp_region_held_drew (S := fun w' => Below w5.heap.size w5 w') (by kernel_rfl) (by exact (Below.refl _ _).drew) (fun hHeld => ?_)
  obtain ⟨wd, hwd⟩ : ∃ wd, wd = w5.drew := ⟨_, rfl⟩
  have HBd := Lib.hid (show Below w5.heap.size w5 wd by rw [hwd]; exact (Below.refl _ _).drew)
  rw [← hwd] at hHeld ⊢
  clear hwd
  refine wpAnyH_take (i := 0) (v := .agg #[.slice add D1.length capd]) rfl (by kernel_rfl) (by kernel_rfl) (by kernel_rfl) (fun _ _ _ h => h) (Or.inl ⟨by rfl, fun w hSw => ?_⟩) hHeld ?_
  · have q0 := (HX.out.belowS hSw).cell 0 rfl; clear hSw; go_simp
  try simp only [Act.put, List.getElem_toArray, List.getElem_cons_succ, List.getElem_cons_zero, List.setIfInBounds_toArray, List.set_cons_zero, List.set_cons_succ]
  refine wpAnyH_take (i := 2) (v := .agg #[.slice ade D2.length cape]) rfl (by kernel_rfl) (by kernel_rfl) (by kernel_rfl) (fun _ _ _ h => h) (Or.inl ⟨by rfl, fun w hSw => ?_⟩) hHeld ?_
  · have q0 := (HY.out.belowS hSw).cell 0 rfl; clear hSw; go_simp
  try simp only [Act.put, List.getElem_toArray, List.getElem_cons_succ, List.getElem_cons_zero, List.setIfInBounds_toArray, List.set_cons_zero, List.set_cons_succ]
  refine wpAnyH_take (i := 5) (v := .slice adb S1.length capb) rfl (by kernel_rfl) (by kernel_rfl) (by kernel_rfl) (fun _ _ _ h => h) (Or.inl ⟨by rfl, fun w hSw => ?_⟩) hHeld ?_
  · clear hSw; go_simp; all_goals (try first | rfl | omega)
  try simp only [Act.put, List.getElem_toArray, List.getElem_cons_succ, List.getElem_cons_zero, List.setIfInBounds_toArray, List.set_cons_zero, List.set_cons_succ]
  refine wpAnyH_take (i := 7) (v := .slice adf S2.length capf) rfl (by kernel_rfl) (by kernel_rfl) (by kernel_rfl) (fun _ _ _ h => h) (Or.inl ⟨by rfl, fun w hSw => ?_⟩) hHeld ?_
  · clear hSw; go_simp; all_goals (try first | rfl | omega)
  try simp only [Act.put, List.getElem_toArray, List.getElem_cons_succ, List.getElem_cons_zero, List.setIfInBounds_toArray, List.set_cons_zero, List.set_cons_succ]
  refine wpAnyH_ready (rs := [1]) (by kernel_rfl) (by simp) ?_
  refine AllReadyH.cons rfl (fun K hK => ?_) ?_
  · rw [if_pos (by rfl)]
    go_simp
    go_at_call 37
    refine (headers_any _ _ (HD1.out.below HBd.out (fun _ h => h)) (by omega)).mono ?_
    rintro e wh ⟨ah, ch, rfl, hL, hbh⟩
    have hBh : Below w5.heap.size w5 wh := HBd.out.trans (hbh.mono (Below.size HBd.out))
    have HBh := Lib.hid hBh
    have zh := hBh.size
    have HL1 := Lib.hid (show LstO RHdr (fun b => b < w3.heap.size) w5.heap.size 36 wh (.slice ah D1.length ch) (hdrsOf D1) from (hL.mono (G' := fun b => b < w3.heap.size) (fun b hb => hb.1)).baseMono (by have := Below.size HBd.out; omega))
    have hL1up := HL1.out.lt
    clear hL hbh hBh
    show K _ _
    refine hK.out _ _ (by exact HBh.out) (fun hHeld => ?_)
    clear hK K
    try simp only [Act.put, List.getElem_toArray, List.getElem_cons_succ, List.getElem_cons_zero, List.setIfInBounds_toArray, List.set_cons_zero, List.set_cons_succ]
    refine wpAnyH_ready (rs := [3]) (by kernel_rfl) (by simp) ?_
    refine AllReadyH.cons rfl (fun K hK => ?_) ?_
    · rw [if_pos (by rfl)]
      go_simp
      go_at_call 37
      refine (headers_any _ _ (HD2.out.below HBh.out (fun _ h => h)) (by omega)).mono ?_
      rintro e wi ⟨ai, ci, rfl, hL, hbi⟩
      have hBi : Below w5.heap.size w5 wi := HBh.out.trans (hbi.mono (Below.size HBh.out))
      have HBi := Lib.hid hBi
      have zi := hbi.size
      replace HL1 := Lib.hid (HL1.out.below hbi)
      have hL2 := (hL.mono (G' := fun b => b < w3.heap.size) (fun b hb => hb.1)).rd (G' := fun b => b < w3.heap.size ∨ wh.heap.size ≤ b) (by decide) (fun b h1 h2 => .inr (by omega)) (fun b h1 h2 => .inl h1)
      obtain ⟨newsh, hslh, hrdh, honeh⟩ := hL2.flatOf (by decide) (fun h => RHdr_one h)
      rw [hdrsOf_len] at hslh
      have HSLH := Lib.hid hslh
      have HRDH := Lib.hid hrdh
      have HONH := Lib.hid honeh
      obtain ⟨valsh, hVh⟩ := HL1.out.valsOf
      have HVH := Lib.hid hVh
      have hvlt := hVh.lt
      have HL1n := Lib.hid (hdrsOf_len D1)
      have HL2n := Lib.hid (hdrsOf_len D2)
      clear hL hbi hBi hL2 hslh hrdh honeh hVh
      show K _ _
      refine hK.out _ _ (by exact HBi.out) (fun hHeld => ?_)
      clear hK K
      try simp only [Act.put, List.getElem_toArray, List.getElem_cons_succ, List.getElem_cons_zero, List.setIfInBounds_toArray, List.set_cons_zero, List.set_cons_succ]
      refine wpAnyH_ready (rs := [4]) (by kernel_rfl) (by simp) ?_
      refine AllReadyH.cons rfl (fun K hK => ?_) ?_
      · rw [if_pos (by rfl)]
        have hownH : wi.ownsRow w5.heap.size 36 4 (.slice ah D1.length ch) D1.length valsh := by have q := HVH.out.own; rw [HL1n.out] at q; exact q
        refine wp_append_at1 _ _ _ (by rfl) elemHdrD w5.heap.size (.slice ah D1.length ch) D1.length valsh (by rfl) hownH (.slice ai D2.length ci) D2.length newsh (by rfl) HSLH.out HONH.out hgp' (by unfold maxLen; omega) (by omega) (by omega) ?_
        intro gj cj wj hownj hgrj hatj hltj
        have HHJ := Lib.hid (show RdS RHdr (fun b => b < wj.heap.size) wj (.slice (some ⟨gj, 0, none⟩) (D1.length + D2.length) cj) (hdrsOf D1 ++ hdrsOf D2) from ((RdS.ofAppend2 (by decide) (by rw [HL1n.out]; exact hownH.1) (by rw [HL1n.out, HL2n.out]; exact hownj) (fun j x hx => RHdr.keep (HVH.out.2 j x hx) (Keep.grown hgrj (fun k hk h => h.2.2 hk)) (fun _ _ => trivial)) (fun j x hx => RHdr.keep (HRDH.out j x hx) (Keep.grown hgrj (fun k hk h => by have q1 := (hL1up k hk).1; have q2 := (hL1up k hk).2; omega)) (fun _ _ => trivial))).low (by decide)).mono (fun b hb => hb.2))
        have HBj := Lib.hid (show Below w5.heap.size w5 wj from HBi.out.grown hgrj (Below.size HBi.out) (fun k hk => (hL1up k hk).1))
        have zj := hgrj.size
        clear hownH hownj hgrj hatj
        show K _ _
        refine hK.out _ _ (by exact HBj.out) (fun hHeld => ?_)
        clear hK K
        try simp only [Act.put, List.getElem_toArray, List.getElem_cons_succ, List.getElem_cons_zero, List.setIfInBounds_toArray, List.set_cons_zero, List.set_cons_succ]
        refine wpAnyH_ready (rs := [6]) (by kernel_rfl) (by simp) ?_
        refine AllReadyH.cons rfl (fun K hK => ?_) ?_
        · rw [if_pos (by rfl)]
          obtain ⟨newsb, hslb, hrdb, honeb⟩ := (HS1.out.below HBj.out (fun _ h => h)).flatOf (by decide) (fun h => RBat_one h)
          refine wp_append_at1 _ _ _ (by rfl) elemBatD wj.heap.size (.slice none 0 0) 0 [] (by rfl) (World.ownsRow_nil _ _ _ _) (.slice adb S1.length capb) S1.length newsb (by rfl) hslb honeb hbp (by unfold maxLen; omega) (by omega) (Nat.le_refl _) ?_
          intro gk ck wk hownk hgrk hatk hltk
          have HOK := Lib.hid (show wk.ownsRow wj.heap.size 82 3 (.slice (some ⟨gk, 0, none⟩) (0 + S1.length) ck) (0 + S1.length) ([] ++ newsb) from hownk)
          have HNB := Lib.hid (show newsb.length = S1.length * 3 by obtain ⟨_, _, _, _, q, _⟩ := hslb; exact q)
          have HRK := Lib.hid (show ∀ j x, S1[j]? = some x → RBat.rd (fun b => b < w3.heap.size) wk ((newsb.drop (j * 3)).take 3) x from fun j x hx => RBat.keep (hrdb j x hx) (Keep.grown hgrk (fun k hk h => by simp [Value.ownBlock] at hk)) (fun _ h => h))
          have HBk := Lib.hid (show Below w5.heap.size w5 wk from HBj.out.grown hgrk (Below.size HBj.out) (fun k hk => by simp [Value.ownBlock] at hk))
          have HHK := Lib.hid (HHJ.out.keep (G' := fun b => b < wj.heap.size) (Keep.grown hgrk (fun k hk h => by simp [Value.ownBlock] at hk)) (fun _ h => h))
          have zk := hgrk.size
          clear hslb hrdb honeb hownk hgrk hatk
          show K _ _
          refine hK.out _ _ (by exact HBk.out) (fun hHeld => ?_)
          clear hK K
          try simp only [Act.put, List.getElem_toArray, List.getElem_cons_succ, List.getElem_cons_zero, List.setIfInBounds_toArray, List.set_cons_zero, List.set_cons_succ]
          refine wpAnyH_ready (rs := [8]) (by kernel_rfl) (by simp) ?_
          refine AllReadyH.cons rfl (fun K hK => ?_) ?_
          · rw [if_pos (by rfl)]
            obtain ⟨newsc, hslc, hrdc, honec⟩ := (HS2.out.below HBk.out (fun _ h => h)).flatOf (by decide) (fun h => RBat_one h)
            have hltk2 := HOK.out.lt
            refine wp_append_at1 _ _ _ (by rfl) elemBatD wj.heap.size (.slice (some ⟨gk, 0, none⟩) (0 + S1.length) ck) (0 + S1.length) ([] ++ newsb) (by rfl) HOK.out (.slice adf S2.length capf) S2.length newsc (by rfl) hslc honec hbp' (by unfold maxLen; omega) (by omega) zk ?_
            intro gm cm wm hownm hgrm hatm hltm
            have hgk : wj.heap.size ≤ gk := (hltk2 gk rfl).1
            have HBM := Lib.hid (show RdS RBat (fun _ => True) wm (.slice (some ⟨gm, 0, none⟩) (0 + S1.length + S2.length) cm) (S1 ++ S2) from RdS.ofAppend2 (vals := newsb) (by decide) HNB.out (own_zero hownm) (fun j x hx => RBat.keep (HRK.out j x hx) (Keep.grown hgrm (fun k hk h => by have := (hltk2 k hk).1; omega)) (fun _ _ => trivial)) (fun j x hx => RBat.keep (hrdc j x hx) (Keep.grown hgrm (fun k hk h => by have := (hltk2 k hk).1; omega)) (fun _ _ => trivial)))
            have HHM := Lib.hid (HHK.out.keep (G' := fun _ => True) (Keep.grown hgrm (fun k hk h => by have := (hltk2 k hk).1; have h0 : k < wj.heap.size := h; omega)) (fun _ _ => trivial))
            have HBm := Lib.hid (show Below w5.heap.size w5 wm from HBk.out.grown hgrm (Below.size HBk.out) (fun k hk => by have := (hltk2 k hk).1; omega))
            clear hslc hrdc honec hownm hgrm hatm
            show K _ _
            refine hK.out _ _ (by exact HBm.out) (fun hHeld => ?_)
            clear hK K
            try simp only [Act.put, List.getElem_toArray, List.getElem_cons_succ, List.getElem_cons_zero, List.setIfInBounds_toArray, List.set_cons_zero, List.set_cons_succ]
            refine wpAnyH_ready (rs := [9]) (by kernel_rfl) (by simp) ?_
            refine AllReadyH.cons rfl (fun K hK => ?_) ?_
            · rw [if_pos (by rfl)]
              go_simp
              go_at_call 36
              refine (oneSum_any _ _ _ HHM.out (show RdS RBat (fun _ => True) wm (.slice (some ⟨gm, 0, none⟩) (S1.length + S2.length) cm) (S1 ++ S2) by have q := HBM.out; rw [Nat.zero_add] at q; exact q) (HT.out.belowS (HB1.out.trans (HBm.out.mono HB1.out.size)))).mono ?_
              rintro e wn ⟨rfl, hbn⟩
              have HBn := Lib.hid (HBm.out.trans (hbn.mono (Below.size HBm.out)))
              rw [← HG.out]
              clear hbn
              show K _ _
              refine hK.out _ _ (by exact HBn.out) (fun hHeld => ?_)
              clear hK K
              try simp only [Act.put, List.getElem_toArray, List.getElem_cons_succ, List.getElem_cons_zero, List.setIfInBounds_toArray, List.set_cons_zero, List.set_cons_succ]
              refine wpAnyH_take (i := 10) (v := .bool (gsumB l)) rfl (by kernel_rfl) (by kernel_rfl) (by kernel_rfl) (fun _ _ _ h => h) (Or.inl ⟨by rfl, fun w hSw => ?_⟩) hHeld ?_
              · clear hSw; go_simp; all_goals (try first | rfl | omega)
              try simp only [Act.put, List.getElem_toArray, List.getElem_cons_succ, List.getElem_cons_zero, List.setIfInBounds_toArray, List.set_cons_zero, List.set_cons_succ]
              refine wpAnyH_done (by kernel_rfl) ?_ _
              go_wp2
              go_ret
              exact ⟨rfl, HB1.out.trans (HBn.out.mono HB1.out.size)⟩
            exact AllReadyH.nil
          exact AllReadyH.nil
        exact AllReadyH.nil
      exact AllReadyH.nil
    exact AllReadyH.nil
  exact AllReadyH.nil
end Go.Proofs.YtlailhhffejbbaaDoor

/- dagClosed: plain laws. -/
set_option linter.unusedVariables false
set_option linter.unusedSimpArgs false
namespace Go.Proofs.YtlailhhffejbbaaDoor
open Go Go.RowKit

/-- Each parent of a certificate of a dag stands ahead of it, and on the round before. -/
theorem closed_par {l : List Crt} (hok : dagOk l = true) {i : Nat} (hi : i < l.length) {p : Bytes} (hp : p ∈ l[i].h.ps) :
    ∃ n : Nat, n < i ∧ idxP (isB p) (crtSums (l.take i)) = n ∧ idxP (isB p) (crtSums l) = n ∧ (l.getD n crtZ).h.r = l[i].h.r - 1 := by
  have hf := (dagOk_iff.1 hok).2.2 i hi
  unfold fits at hf
  simp only [Bool.and_eq_true, Bool.not_eq_true', decide_eq_true_eq] at hf
  obtain ⟨h1, h2, -⟩ := hf
  have h0 : 0 ≤ idxP (isB p) (crtSums (l.take i)) := by
    by_cases q : 0 ≤ idxP (isB p) (crtSums (l.take i))
    · exact q
    · have hm : p ∈ noneL (crtSums (l.take i)) l[i].h.ps := List.mem_filter.2 ⟨hp, decide_eq_true (by omega)⟩
      rw [h1] at hm; simp at hm
  obtain ⟨n, hn, hin, hpn, hno⟩ := idxP_at h0
  have hni : n < i := by rw [crtSums_len, List.length_take] at hn; omega
  have et : crtSums (l.take i) = (crtSums l).take i := by simp [crtSums]
  have hnl : n < (crtSums l).length := by rw [crtSums_len]; omega
  refine ⟨n, hni, hin, idxP_hit hnl (fun j hj x hx => hno j hj x (by rw [et, List.getElem?_take_of_lt (by omega)]; exact hx)) (by
    have e : (crtSums (l.take i))[n] = (crtSums l)[n] := by simp [et]
    rw [← e]; exact hpn), ?_⟩
  unfold wrongB at h2
  rw [List.any_eq_false] at h2
  have hw := h2 p hp
  unfold wrong1 at hw
  rw [hin] at hw
  have e2 : (l.take i).getD n crtZ = l.getD n crtZ := by simp [List.getElem?_take_of_lt hni]
  simp only [Int.toNat_natCast, e2, Bool.and_eq_true, decide_eq_true_eq, not_and, Decidable.not_not] at hw
  exact hw (by omega)
/-- Nothing is missing for a certificate of a dag. -/
theorem closed_mis {l : List Crt} (hok : dagOk l = true) {i : Nat} (hi : i < l.length) : misCode l l[i].h = 0 ∧ (misL l l[i].h).length = 0 := by
  have hh : hdrCode l[i].h = 0 := (crt_partsP ((dagOk_iff.1 hok).2.1 _ (List.getElem_mem hi))).1
  have hw : wrongB l (crtSums l) l[i].h.r l[i].h.ps = false := by
    unfold wrongB
    rw [List.any_eq_false]
    intro p hp q
    obtain ⟨n, -, -, h3, h4⟩ := closed_par hok hi hp
    unfold wrong1 at q
    rw [h3] at q
    simp only [Int.toNat_natCast, Bool.and_eq_true, decide_eq_true_eq] at q
    exact q.2 h4
  have hm := mis_3 hh hw
  refine ⟨hm.1, ?_⟩
  rw [hm.2]
  have : noneL (crtSums l) l[i].h.ps = [] := List.filter_eq_nil_iff.2 fun p hp q => by
    obtain ⟨n, -, -, h3, -⟩ := closed_par hok hi hp
    simp only [decide_eq_true_eq] at q
    omega
  rw [this]; rfl
/-- Nothing has a digest of one byte. -/
theorem closed_one (l : List Crt) : findCode l [1] = 8 ∧ findCrt l [1] = crtZ := find_no (by
  by_cases q : 0 ≤ idxP (isB [1]) (crtSums l)
  · obtain ⟨x, hx, hb⟩ := idxP_ge.1 q
    obtain ⟨c, -, rfl⟩ := List.mem_map.1 hx
    have e : crtSum c = [1] := by unfold isB at hb; exact of_decide_eq_true hb
    have h := hdrSum_length c.h
    have e' : hdrSum c.h = [1] := e
    rw [e'] at h; simp at h
  · omega)
end Go.Proofs.YtlailhhffejbbaaDoor

/- sameSlot, sameInts, sameCert, sameMessage: of what is the same they answer true. -/
set_option linter.unusedVariables false
set_option linter.unusedSimpArgs false
namespace Go.Proofs.YtlailhhffejbbaaDoor
open Go Go.RowKit

set_option maxRecDepth 100000 in
set_option maxHeartbeats 2000000 in
theorem sameInts_eq {G G' : Nat → Prop} (l : List Int) (v v' : Value) (w : World) (hv : RdI G w v l) (hv' : RdI G' w v' l) :
    Calls Tryd.prog 55 #[v, v'] w fun e w' => e = .returned (.bool true) ∧ Below w.heap.size w w' := by
  obtain ⟨ad1, c1, rfl, -, -⟩ := hv.form
  obtain ⟨ad2, c2, rfl, -, -⟩ := hv'.form
  obtain ⟨-, h1, h2, -⟩ := hv.len
  unfold maxLen at h2
  have HV := Lib.hid hv
  have HV' := Lib.hid hv'
  have hln : ((l.length : Int) != (l.length : Int)) = false := by simp
  go_enter Tryd.func55, Tryd.ntmps55
  go_wp2
  go_loopw [5] (fun i wr => ∃ k n : Nat, k ≤ l.length ∧ i = .int .i64 k ∧ wr = w.drewN n) (fun i _ => l.length - (intOf i).toNat)
  case atStart => exact ⟨0, 0, Nat.zero_le _, rfl, rfl⟩
  case round =>
    obtain ⟨k, n, hk, rfl, rfl⟩ := hrel
    by_cases hlt : k < l.length
    · obtain ⟨b, o, rfl, hc⟩ := hv.cell k hlt
      obtain ⟨b', o', rfl, hc'⟩ := hv'.cell k hlt
      have i0 : (0 : Int) ≤ (k : Int) := by omega
      have i1 : (k : Int) < (l.length : Int) := by omega
      have hb : (l[k] != l[k]) = false := by simp
      go_wp2_with fail
      go_quiet (fail)
      go_wp2
      go_roundw
      case rel => exact ⟨k + 1, _, by omega, by go_num, rfl⟩
      case measure => simp [intOf]; omega
    · go_wp2
      go_ret
      exact ⟨rfl, below_drewN (Below.refl _ _) _⟩
set_option maxRecDepth 100000 in
set_option maxHeartbeats 2000000 in
theorem sameCert_eq {G G' : Nat → Prop} (c : Crt) (b p v b' p' v' : Value) (w : World) (hb : RdBB G w b c.h.bs) (hp : RdBB G w p c.h.ps) (hv : RdI G w v c.vs) (hb' : RdBB G' w b' c.h.bs) (hp' : RdBB G' w p' c.h.ps) (hv' : RdI G' w v' c.vs) :
    Calls Tryd.prog 34 #[.agg #[.int .i64 c.h.a, .int .i64 c.h.r, b, p, v], .agg #[.int .i64 c.h.a, .int .i64 c.h.r, b', p', v']] w fun e w' => e = .returned (.bool true) ∧ Below w.heap.size w w' := by
  obtain ⟨⟨a, r, bs, ps⟩, vs⟩ := c
  simp only at *
  obtain ⟨ad1, c1, rfl, -, -⟩ := hb.form
  obtain ⟨ad2, c2, rfl, -, -⟩ := hp.form
  obtain ⟨ad3, c3, rfl, -, -⟩ := hv.form
  obtain ⟨ad4, c4, rfl, -, -⟩ := hb'.form
  obtain ⟨ad5, c5, rfl, -, -⟩ := hp'.form
  obtain ⟨ad6, c6, rfl, -, -⟩ := hv'.form
  obtain ⟨w1, hw1⟩ : ∃ w1, w1 = (w.alloc (.cells #[.int .i64 a, .int .i64 r, .slice ad1 bs.length c1, .slice ad2 ps.length c2, .slice ad3 vs.length c3] 38)).alloc (.cells #[.int .i64 a, .int .i64 r, .slice ad4 bs.length c4, .slice ad5 ps.length c5, .slice ad6 vs.length c6] 38) := ⟨_, rfl⟩
  have hR : Below w.heap.size w w1 := by rw [hw1]; exact ((Below.refl _ _).alloc (Nat.le_refl _) _).alloc (by simp) _
  have bX : BoxAt w1 w.heap.size [.int .i64 a, .int .i64 r, .slice ad1 bs.length c1, .slice ad2 ps.length c2, .slice ad3 vs.length c3] 38 := by rw [hw1]; exact (BoxAt.new w [_, _, _, _, _] _).alloc _
  have bY : BoxAt w1 (w.heap.size + 1) [.int .i64 a, .int .i64 r, .slice ad4 bs.length c4, .slice ad5 ps.length c5, .slice ad6 vs.length c6] 38 := by rw [hw1]; exact BoxAt.newAt (w.alloc _) [_, _, _, _, _] _ (by simp)
  have H1 := Lib.hid (hb.below hR (fun _ h => h))
  have H2 := Lib.hid (hp.below hR (fun _ h => h))
  have H3 := Lib.hid (hv.low (by decide) |>.below hR (fun _ h => h))
  have H4 := Lib.hid (hb'.below hR (fun _ h => h))
  have H5 := Lib.hid (hp'.below hR (fun _ h => h))
  have H6 := Lib.hid (hv'.low (by decide) |>.below hR (fun _ h => h))
  have HR := Lib.hid hR
  have x0 := bX.cell 0 rfl
  have x1 := bX.cell 1 rfl
  have x2 := bX.cell 2 rfl
  have x3 := bX.cell 3 rfl
  have x4 := bX.cell 4 rfl
  have y0 := bY.cell 0 rfl
  have y1 := bY.cell 1 rfl
  have y2 := bY.cell 2 rfl
  have y3 := bY.cell 3 rfl
  have y4 := bY.cell 4 rfl
  have hEQ := Lib.hid (show decide (a = a ∧ r = r ∧ bs = bs ∧ ps = ps) = true by simp)
  have HX := Lib.hid bX
  have HY := Lib.hid bY
  go_enter Tryd.func34, Tryd.ntmps34
  go_upto_region 1 with fail
  rw [← hw1]
  clear hw1 hR bX bY hb hp hv hb' hp' hv'
  go_wp2_with fail
  refine (sameHeader_any a r a r bs ps bs ps _ _ _ _ w1 H1.out H2.out H4.out H5.out).mono ?_
  rintro e w2 ⟨rfl, hb2⟩
  rw [decide_eq_true (show a = a ∧ r = r ∧ bs = bs ∧ ps = ps from ⟨rfl, rfl, rfl, rfl⟩)]
  have HB2 := Lib.hid (HR.out.trans (hb2.mono HR.out.size))
  have u4 := (HX.out.belowS hb2).cell 4 rfl
  have t4 := (HY.out.belowS hb2).cell 4 rfl
  have K3 := Lib.hid (H3.out.below hb2 (fun _ h => h))
  have K6 := Lib.hid (H6.out.below hb2 (fun _ h => h))
  clear x0 x1 x2 x3 x4 y0 y1 y2 y3 y4 HX HY hb2
  go_wp2_with fail
  refine (sameInts_eq vs _ _ w2 K3.out K6.out).mono ?_
  rintro e w3 ⟨rfl, hb3⟩
  have HB3 := Lib.hid (HB2.out.trans (hb3.mono HB2.out.size))
  clear hb3
  go_wp2
  go_ret
  exact ⟨rfl, HB3.out⟩
end Go.Proofs.YtlailhhffejbbaaDoor

/- sheaveskeep.sameInts, sameCert: what they compute, of any two. -/
set_option linter.unusedVariables false
set_option linter.unusedSimpArgs false
attribute [local go_sem ↓] Go.wp_at_zero Go.wp_at_succ
namespace Go.Proofs.YtlailhhffejbbaaDoor
open Go Go.RowKit

set_option maxRecDepth 100000 in
set_option maxHeartbeats 2000000 in
theorem sameInts_any {G G' : Nat → Prop} {l m : List Int} (v v' : Value) (w : World) (hv : RdI G w v l) (hv' : RdI G' w v' m) :
    Calls Tryd.prog 55 #[v, v'] w fun e w' => e = .returned (.bool (decide (l = m))) ∧ Below w.heap.size w w' := by
  by_cases he : l = m
  · subst he
    refine (sameInts_eq l v v' w hv hv').mono ?_
    rintro e w' ⟨rfl, hb⟩
    exact ⟨ret_boolH (by simp), hb⟩
  · have HE := Lib.hid (show decide (l = m) = false from decide_eq_false he)
    have HNE := Lib.hid he
    clear he
    obtain ⟨ad1, c1, rfl, -, -⟩ := hv.form
    obtain ⟨ad2, c2, rfl, -, -⟩ := hv'.form
    obtain ⟨-, h1, h2, -⟩ := hv.len
    obtain ⟨-, h1', h2', -⟩ := hv'.len
    unfold maxLen at h2 h2'
    by_cases hl : l.length = m.length
    · have hln : ((l.length : Int) != (m.length : Int)) = false := by simp [hl]
      have HL := Lib.hid hl
      clear hl
      go_enter Tryd.func55, Tryd.ntmps55
      go_wp2
      go_loopw [5] (fun i wr => ∃ k n : Nat, k ≤ l.length ∧ i = .int .i64 k ∧ (∀ j, j < k → l[j]? = m[j]?) ∧ wr = w.drewN n) (fun i _ => l.length - (intOf i).toNat)
      case atStart => exact ⟨0, 0, Nat.zero_le _, rfl, fun j hj => by omega, rfl⟩
      case round =>
        obtain ⟨k, n, hk, rfl, hno, rfl⟩ := hrel
        have HN := Lib.hid hno
        clear hno
        by_cases hlt : k < l.length
        · have hlt' : k < m.length := by have := HL.out; omega
          obtain ⟨b, o, rfl, -, hc⟩ := hv.cell k hlt
          obtain ⟨b', o', rfl, -, hc'⟩ := hv'.cell k hlt'
          have i0 : (0 : Int) ≤ (k : Int) := by omega
          have i1 : (k : Int) < (l.length : Int) := by omega
          have i2 : (k : Int) < (m.length : Int) := by omega
          by_cases hq : l[k] = m[k]
          · have HQ := Lib.hid hq
            have hb : (l[k] != m[k]) = false := by simp [hq]
            clear hq
            go_wp2_with fail
            go_quiet (fail)
            go_wp2
            go_roundw
            case rel => exact ⟨k + 1, _, by omega, by go_num, fun j hj => by
              rcases Nat.lt_or_eq_of_le (Nat.le_of_lt_succ hj) with h' | h'
              · exact HN.out j h'
              · subst h'; rw [List.getElem?_eq_getElem hlt, List.getElem?_eq_getElem hlt', HQ.out], rfl⟩
            case measure => simp [intOf]; omega
          · have hb : (l[k] != m[k]) = true := by simp [hq]
            clear hq
            go_wp2_with fail
            go_quiet (fail)
            go_wp2
            go_ret
            exact ⟨ret_boolH HE.out, below_drewN (below_drewN (Below.refl _ _) _) _⟩
        · exfalso
          refine HNE.out (List.ext_getElem? fun j => ?_)
          rcases Nat.lt_or_ge j l.length with hj | hj
          · exact HN.out j (by omega)
          · rw [List.getElem?_eq_none hj, List.getElem?_eq_none (by have := HL.out; omega)]
    · have hln : ((l.length : Int) != (m.length : Int)) = true := by simp; omega
      clear hl
      go_enter Tryd.func55, Tryd.ntmps55
      go_wp2
      go_ret
      exact ⟨ret_boolH HE.out, Below.refl _ _⟩
/-- Two certificates that read: are they the same? -/
def sameC (x y : Crt) : Bool := sameH x.h y.h && decide (x.vs = y.vs)
theorem sameC_iff {x y : Crt} : sameC x y = true ↔ x = y := by
  obtain ⟨⟨a, r, bs, ps⟩, vs⟩ := x
  obtain ⟨⟨a', r', bs', ps'⟩, vs'⟩ := y
  simp [sameC, sameH]
set_option maxRecDepth 100000 in
set_option maxHeartbeats 2000000 in
theorem sameCert_any {G G' : Nat → Prop} (x y : Crt) (b p v b' p' v' : Value) (w : World) (hb : RdBB G w b x.h.bs) (hp : RdBB G w p x.h.ps) (hv : RdI G w v x.vs) (hb' : RdBB G' w b' y.h.bs) (hp' : RdBB G' w p' y.h.ps) (hv' : RdI G' w v' y.vs) :
    Calls Tryd.prog 34 #[.agg #[.int .i64 x.h.a, .int .i64 x.h.r, b, p, v], .agg #[.int .i64 y.h.a, .int .i64 y.h.r, b', p', v']] w fun e w' => e = .returned (.bool (sameC x y)) ∧ Below w.heap.size w w' := by
  obtain ⟨⟨a, r, bs, ps⟩, vs⟩ := x
  obtain ⟨⟨a', r', bs', ps'⟩, vs'⟩ := y
  simp only at *
  obtain ⟨ad1, c1, rfl, -, -⟩ := hb.form
  obtain ⟨ad2, c2, rfl, -, -⟩ := hp.form
  obtain ⟨ad3, c3, rfl, -, -⟩ := hv.form
  obtain ⟨ad4, c4, rfl, -, -⟩ := hb'.form
  obtain ⟨ad5, c5, rfl, -, -⟩ := hp'.form
  obtain ⟨ad6, c6, rfl, -, -⟩ := hv'.form
  obtain ⟨w1, hw1⟩ : ∃ w1, w1 = (w.alloc (.cells #[.int .i64 a, .int .i64 r, .slice ad1 bs.length c1, .slice ad2 ps.length c2, .slice ad3 vs.length c3] 38)).alloc (.cells #[.int .i64 a', .int .i64 r', .slice ad4 bs'.length c4, .slice ad5 ps'.length c5, .slice ad6 vs'.length c6] 38) := ⟨_, rfl⟩
  have hR : Below w.heap.size w w1 := by rw [hw1]; exact ((Below.refl _ _).alloc (Nat.le_refl _) _).alloc (by simp) _
  have bX : BoxAt w1 w.heap.size [.int .i64 a, .int .i64 r, .slice ad1 bs.length c1, .slice ad2 ps.length c2, .slice ad3 vs.length c3] 38 := by rw [hw1]; exact (BoxAt.new w [_, _, _, _, _] _).alloc _
  have bY : BoxAt w1 (w.heap.size + 1) [.int .i64 a', .int .i64 r', .slice ad4 bs'.length c4, .slice ad5 ps'.length c5, .slice ad6 vs'.length c6] 38 := by rw [hw1]; exact BoxAt.newAt (w.alloc _) [_, _, _, _, _] _ (by simp)
  have H1 := Lib.hid (hb.below hR (fun _ h => h))
  have H2 := Lib.hid (hp.below hR (fun _ h => h))
  have H3 := Lib.hid (hv.low (by decide) |>.below hR (fun _ h => h))
  have H4 := Lib.hid (hb'.below hR (fun _ h => h))
  have H5 := Lib.hid (hp'.below hR (fun _ h => h))
  have H6 := Lib.hid (hv'.low (by decide) |>.below hR (fun _ h => h))
  have HR := Lib.hid hR
  have x0 := bX.cell 0 rfl
  have x1 := bX.cell 1 rfl
  have x2 := bX.cell 2 rfl
  have x3 := bX.cell 3 rfl
  have x4 := bX.cell 4 rfl
  have y0 := bY.cell 0 rfl
  have y1 := bY.cell 1 rfl
  have y2 := bY.cell 2 rfl
  have y3 := bY.cell 3 rfl
  have y4 := bY.cell 4 rfl
  have HX := Lib.hid bX
  have HY := Lib.hid bY
  have HS := Lib.hid (show sameC ⟨⟨a, r, bs, ps⟩, vs⟩ ⟨⟨a', r', bs', ps'⟩, vs'⟩ = (decide (a = a' ∧ r = r' ∧ bs = bs' ∧ ps = ps') && decide (vs = vs')) from rfl)
  go_enter Tryd.func34, Tryd.ntmps34
  go_upto_region 1 with fail
  rw [← hw1]
  clear hw1 hR bX bY hb hp hv hb' hp' hv'
  go_wp2_with fail
  refine (sameHeader_any a r a' r' bs ps bs' ps' _ _ _ _ w1 H1.out H2.out H4.out H5.out).mono ?_
  rintro e w2 ⟨rfl, hb2⟩
  obtain ⟨q, hq⟩ : ∃ q, q = decide (a = a' ∧ r = r' ∧ bs = bs' ∧ ps = ps') := ⟨_, rfl⟩
  rw [← hq]
  have HQ := Lib.hid (show sameC ⟨⟨a, r, bs, ps⟩, vs⟩ ⟨⟨a', r', bs', ps'⟩, vs'⟩ = (q && decide (vs = vs')) by rw [HS.out, hq])
  clear hq HS
  have HB2 := Lib.hid (HR.out.trans (hb2.mono HR.out.size))
  have u4 := (HX.out.belowS hb2).cell 4 rfl
  have t4 := (HY.out.belowS hb2).cell 4 rfl
  have K3 := Lib.hid (H3.out.below hb2 (fun _ h => h))
  have K6 := Lib.hid (H6.out.below hb2 (fun _ h => h))
  clear x0 x1 x2 x3 x4 y0 y1 y2 y3 y4 HX HY hb2
  cases q with
  | false =>
    have HF := Lib.hid (HQ.out.trans (Bool.false_and _))
    go_wp2
    go_ret
    exact ⟨ret_boolH HF.out, HB2.out⟩
  | true =>
    go_wp2_with fail
    refine (sameInts_any _ _ w2 K3.out K6.out).mono ?_
    rintro e w3 ⟨rfl, hb3⟩
    have HB3 := Lib.hid (HB2.out.trans (hb3.mono HB2.out.size))
    clear hb3
    obtain ⟨q2, hq2⟩ : ∃ q2, q2 = decide (vs = vs') := ⟨_, rfl⟩
    rw [← hq2]
    have HF := Lib.hid (show sameC ⟨⟨a, r, bs, ps⟩, vs⟩ ⟨⟨a', r', bs', ps'⟩, vs'⟩ = q2 by rw [HQ.out, hq2]; rfl)
    clear hq2
    go_wp2
    go_ret
    exact ⟨ret_boolH HF.out, HB3.out⟩
end Go.Proofs.YtlailhhffejbbaaDoor

/- dagClosed: the walk. -/
set_option linter.unusedVariables false
set_option linter.unusedSimpArgs false
attribute [local go_sem ↓] Go.wp_at_zero Go.wp_at_succ
namespace Go.Proofs.YtlailhhffejbbaaDoor
open Go Go.RowKit

/-- What Find hands back of a digest of the dag's own. -/
theorem closed_find {L : List Crt} {k : Nat} (hk : k < L.length) : findCode L (crtSum L[k]) = 0 ∧ ((crtSums L).Nodup → findCrt L (crtSum L[k]) = L[k]) := by
  refine ⟨?_, fun hn => (find_yes hk (find_clear hn hk)).2⟩
  have h0 : 0 ≤ idxP (isB (crtSum L[k])) (crtSums L) := idxP_ge.2 ⟨crtSum L[k], List.mem_map.2 ⟨_, List.getElem_mem hk, rfl⟩, by unfold isB; exact decide_eq_true rfl⟩
  unfold findCode
  rw [if_neg (by omega)]
set_option maxRecDepth 100000 in
set_option maxHeartbeats 8000000 in
theorem dagClosed_any (v : Value) (l : List Stp) (w : World) (hv : RdS RStp (fun _ => True) w v l) (hz : l.length * 24 ≤ reachBytes) (ht : Tabs w) :
    Calls Tryd.prog 28 #[v] w fun e w' => ∃ b, e = .returned (.bool b) ∧ ((crtSums (grownL l)).Nodup → b = true) ∧ Below w.heap.size w w' := by
  have HT := Lib.hid ht
  go_enter Tryd.func28, Tryd.ntmps28
  go_wp2_with fail
  refine (grown_any _ _ hv hz ht).mono ?_
  rintro e w1 ⟨vd, vb, rfl, hd, -, hb1⟩
  obtain ⟨add, capd, rfl, -, -⟩ := hd.form
  have HD1 := Lib.hid hd
  have HB1 := Lib.hid hb1
  clear hd hb1 ht hv
  go_upto_region 2 with fail
  obtain ⟨w2, hw2⟩ : ∃ w2, w2 = w1.alloc (.cells #[.slice add (grownL l).length capd] 27) := ⟨_, rfl⟩
  have HX := Lib.hid (show BoxAt w2 w1.heap.size [.slice add (grownL l).length capd] 27 by rw [hw2]; exact BoxAt.new w1 [_] _)
  have hB2 : Below w1.heap.size w1 w2 := by rw [hw2]; exact (Below.refl _ _).alloc (Nat.le_refl _) _
  rw [← hw2]
  have HD := Lib.hid ((HD1.out.mono (G' := fun _ => True) (fun _ _ => trivial)).below hB2 (fun _ h => h))
  have HB := Lib.hid (HB1.out.trans (hB2.mono HB1.out.size))
  have HOK := Lib.hid (grown_ok l)
  have hz2 := HX.out.lt
  have hzw2 := HB.out.size
  clear hw2 hB2 HD1 HB1
  have hg4 := grown_len l
  have hgp := grown_pos l
  generalize hLL : grownL l = L at *
  have HLL := Lib.hid hLL
  clear hLL
  have HH := Lib.hid (fun c (hc : c ∈ L) => (crt_partsP ((dagOk_iff.1 HOK.out).2.1 c hc)).1)
  replace HD := Lib.hid ((HD.out.low (by decide)).mono (G' := fun b => b < w2.heap.size) (fun b hb => hb.2))
  have x0 := HX.out.cell 0 rfl
  go_wp2_with fail
  refine (digestsOf_any _ _ HD.out HH.out (by omega) (HT.out.belowS HB.out)).mono ?_
  rintro e w3 ⟨vs, rfl, hS, hb3⟩
  obtain ⟨ads, caps, rfl, hcs, hms⟩ := hS.form
  unfold maxLen at hms
  have hSL := crtSums_len L
  have HS := Lib.hid (hS.mono (G' := fun _ => True) (fun _ _ => trivial))
  replace HX := Lib.hid (HX.out.belowS hb3)
  replace HD := Lib.hid (HD.out.below hb3 (fun _ h => h))
  replace HB := Lib.hid (HB.out.trans (hb3.mono HB.out.size))
  clear x0 hS hb3
  obtain ⟨DS, hDS⟩ : ∃ DS, DS = crtSums L := ⟨_, rfl⟩
  rw [← hDS] at HS hSL ⊢
  have HDS := Lib.hid hDS
  have hSL1 : DS.length ≤ L.length := by omega
  have hSL2 : L.length ≤ DS.length := by omega
  clear hDS hSL hcs
  go_wp2_with fail
  go_loopw [6] (fun u wr => ∃ k : Nat, k ≤ L.length ∧ u = .int .i64 k ∧ Below w3.heap.size w3 wr) (fun u _ => L.length - (intOf u).toNat)
  case atStart => exact ⟨0, Nat.zero_le _, rfl, Below.refl _ _⟩
  case round =>
    obtain ⟨wo, rfl⟩ : ∃ wo : World, wo = wr := ⟨_, rfl⟩
    obtain ⟨k, hk, rfl, hBr⟩ := hrel
    have HBr := Lib.hid hBr
    have HXr := Lib.hid (HX.out.belowS hBr)
    have HDr := Lib.hid (HD.out.below hBr (fun _ h => h))
    have HSr := Lib.hid (HS.out.below hBr (fun _ h => h))
    clear hBr
    have x0 := HXr.out.cell 0 rfl
    by_cases hlt : k < L.length
    · have i0 : (0 : Int) ≤ (k : Int) := by omega
      have i1 : (k : Int) < (L.length : Int) := by omega
      have i2 : (k : Int) < (DS.length : Int) := by omega
      have hltS : k < DS.length := by omega
      have wk : IntKind.i64.wrap ((k : Int) + 1) = (k : Int) + 1 := IntWalk.i64_in _ (by omega)
      obtain ⟨bq, oq, vq, rfl, -, es, hs⟩ := HSr.out.cellS k hltS
      have hdk : DS[k] = crtSum L[k] := by have := HDS.out; subst this; simp [crtSums]
      rw [hdk] at hs
      obtain ⟨adk, capk, rfl, -, -⟩ := hs.form
      have HDK := Lib.hid hs
      have hbq := World.block_lt_of_cell? wo _ es
      simp only at hbq
      have HES := Lib.hid es
      have HFi := Lib.hid (closed_find hlt)
      have HMi := Lib.hid (closed_mis HOK.out hlt)
      have HPi := Lib.hid (fun (p : Bytes) (hp : p ∈ L[k].h.ps) => closed_par HOK.out hlt hp)
      have HCi := Lib.hid (show hdrCode L[k].h = 0 from HH.out _ (List.getElem_mem hlt))
      have h4c := (hdr_ps HCi.out).2.1
      have h1c := (hdr_ps HCi.out).2.2.1
      have h2c := (hdr_ps HCi.out).2.2.2
      clear hs es hdk
      obtain ⟨bc, oc, xb, xp, xv, rfl, -, e0c, e1c, e2c, e3c, e4c, hxb, hxp, hxv⟩ := HDr.out.crt k hlt
      generalize L[k] = c at *
      obtain ⟨ub, ubc, rfl, -, -⟩ := hxb.form
      obtain ⟨up, upc, rfl, -, -⟩ := hxp.form
      obtain ⟨uv, uvc, rfl, -, -⟩ := hxv.form
      have H1 := Lib.hid hxb
      have H2 := Lib.hid hxp
      have H3 := Lib.hid hxv
      have HE := Lib.hid (And.intro e0c (And.intro e1c (And.intro e2c (And.intro e3c e4c))))
      clear e0c e1c e2c e3c e4c hxb hxp hxv
      have e0 := HE.out.1
      have e1 := HE.out.2.1
      have e2 := HE.out.2.2.1
      have e3 := HE.out.2.2.2.1
      have hbc : bc < wo.heap.size := World.block_lt_of_cell? wo _ e0
      generalize hdkk : crtSum c = dk at *
      clear hdkk
      have hzr := HBr.out.size
      have hzx := HXr.out.lt
      go_upto_region 7 with fail
      obtain ⟨w4, hwl⟩ : ∃ w4, w4 = (wo.alloc (.cells #[.int .i64 c.h.a, .int .i64 c.h.r, .slice ub c.h.bs.length ubc, .slice up c.h.ps.length upc] 36)) := ⟨_, rfl⟩
      have hBl : Below wo.heap.size wo w4 := by rw [hwl]; exact ((Below.refl _ _).alloc (by first | exact Nat.le_refl _ | (simp; done) | (simp; omega)) _)
      have HY := Lib.hid (show BoxAt w4 wo.heap.size [.int .i64 c.h.a, .int .i64 c.h.r, .slice ub c.h.bs.length ubc, .slice up c.h.ps.length upc] 36 by rw [hwl]; exact BoxAt.new wo [.int .i64 c.h.a, .int .i64 c.h.r, .slice ub c.h.bs.length ubc, .slice up c.h.ps.length upc] _)
      have hes4 := (hBl.cell (p := ⟨bq, oq + k, none⟩) hbq).trans HES.out
      have hee0 := (hBl.cell (p := ⟨bc, oc + k * 5, none⟩) hbc).trans HE.out.1
      have hee1 := (hBl.cell (p := ⟨bc, oc + k * 5 + 1, none⟩) hbc).trans HE.out.2.1
      have hee2 := (hBl.cell (p := ⟨bc, oc + k * 5 + 2, none⟩) hbc).trans HE.out.2.2.1
      have hee3 := (hBl.cell (p := ⟨bc, oc + k * 5 + 3, none⟩) hbc).trans HE.out.2.2.2.1
      have hee4 := (hBl.cell (p := ⟨bc, oc + k * 5 + 4, none⟩) hbc).trans HE.out.2.2.2.2
      rw [← hwl]
      replace HXr := Lib.hid (HXr.out.belowS hBl)
      replace HDr := Lib.hid (HDr.out.below hBl (fun _ h => h))
      replace HSr := Lib.hid (HSr.out.below hBl (fun _ h => h))
      replace HDK := Lib.hid (HDK.out.below hBl (fun _ h => h))
      replace H1 := Lib.hid (H1.out.below hBl (fun _ h => h))
      replace H2 := Lib.hid (H2.out.below hBl (fun _ h => h))
      replace H3 := Lib.hid (H3.out.below hBl (fun _ h => h))
      replace HBr := Lib.hid (HBr.out.trans (hBl.mono HBr.out.size))
      clear hwl hBl
      replace HES := Lib.hid hes4
      replace HE := Lib.hid (And.intro hee0 (And.intro hee1 (And.intro hee2 (And.intro hee3 hee4))))
      clear x0 e0 e1 e2 e3 hes4 hee0 hee1 hee2 hee3 hee4
      have hz4 := HY.out.lt
      have hz4x := HXr.out.lt
      have hbq4 : bq < w4.heap.size := by omega
      have hbc4 : bc < w4.heap.size := by omega
      go_cut [8, 9] (fun p e wx => ∃ (P : Nat) (ab ap av : Option Addr) (cb cp cv : Nat), p = .pointer (some ⟨P, 0, none⟩) ∧ e = .int .i64 0 ∧ BoxAt wx P [.int .i64 (findCrt L dk).h.a, .int .i64 (findCrt L dk).h.r, .slice ab (findCrt L dk).h.bs.length cb, .slice ap (findCrt L dk).h.ps.length cp, .slice av (findCrt L dk).vs.length cv] 38 ∧ RdBB (fun _ => True) wx (.slice ab (findCrt L dk).h.bs.length cb) (findCrt L dk).h.bs ∧ RdBB (fun _ => True) wx (.slice ap (findCrt L dk).h.ps.length cp) (findCrt L dk).h.ps ∧ RdI (fun _ => True) wx (.slice av (findCrt L dk).vs.length cv) (findCrt L dk).vs ∧ Below w4.heap.size w4 wx)
      case first =>
        refine wp_region_held_drew (S := fun w' => Below w4.heap.size w4 w') (by kernel_rfl) (by exact (Below.refl _ _).drew) (fun hHeld => ?_)
        obtain ⟨wd, hwd⟩ : ∃ wd, wd = w4.drew := ⟨_, rfl⟩
        rw [← hwd] at hHeld ⊢
        have HBd := Lib.hid (show Below w4.heap.size w4 wd from hHeld)
        have zwd : w4.heap.size ≤ wd.heap.size := by rw [hwd]; exact Nat.le_refl _
        clear hwd
        refine wpAnyH_take (i := 0) (v := .agg #[.slice (some ⟨bc, oc, none⟩) L.length capd]) rfl (by kernel_rfl) (by kernel_rfl) (by kernel_rfl) (fun _ _ _ h => h) (Or.inl ⟨by rfl, fun w hSw => ?_⟩) hHeld ?_
        · have q0 := (HXr.out.belowS hSw).cell 0 rfl; clear hSw; go_simp
        try simp only [Act.put, List.getElem_toArray, List.getElem_cons_succ, List.getElem_cons_zero, List.setIfInBounds_toArray, List.set_cons_zero, List.set_cons_succ]
        refine wpAnyH_take (i := 1) (v := .slice (some ⟨bq, oq, none⟩) DS.length caps) rfl (by kernel_rfl) (by kernel_rfl) (by kernel_rfl) (fun _ _ _ h => h) (Or.inl ⟨by rfl, fun w hSw => ?_⟩) hHeld ?_
        · clear hSw; go_simp; all_goals (try first | rfl | omega)
        try simp only [Act.put, List.getElem_toArray, List.getElem_cons_succ, List.getElem_cons_zero, List.setIfInBounds_toArray, List.set_cons_zero, List.set_cons_succ]
        refine wpAnyH_take (i := 2) (v := .int .i64 (k : Int)) rfl (by kernel_rfl) (by kernel_rfl) (by kernel_rfl) (fun _ _ _ h => h) (Or.inl ⟨by rfl, fun w hSw => ?_⟩) hHeld ?_
        · clear hSw; go_simp; all_goals (try first | rfl | omega)
        try simp only [Act.put, List.getElem_toArray, List.getElem_cons_succ, List.getElem_cons_zero, List.setIfInBounds_toArray, List.set_cons_zero, List.set_cons_succ]
        refine wpAnyH_take (i := 3) (v := .pointer (some ⟨bq, oq + k, none⟩)) rfl (by kernel_rfl) (by kernel_rfl) (by kernel_rfl) (fun _ _ _ h => h) (Or.inl ⟨by rfl, fun w hSw => ?_⟩) hHeld ?_
        · clear hSw; go_simp; all_goals (try first | rfl | omega)
        try simp only [Act.put, List.getElem_toArray, List.getElem_cons_succ, List.getElem_cons_zero, List.setIfInBounds_toArray, List.set_cons_zero, List.set_cons_succ]
        refine wpAnyH_take (i := 4) (v := .slice adk dk.length capk) rfl (by kernel_rfl) (by kernel_rfl) (by kernel_rfl) (fun _ _ _ h => h) (Or.inl ⟨by rfl, fun w hSw => ?_⟩) hHeld ?_
        · have q3 := (Below.cell hSw (p := ⟨bq, oq + k, none⟩) hbq4).trans HES.out; clear hSw; go_simp
        try simp only [Act.put, List.getElem_toArray, List.getElem_cons_succ, List.getElem_cons_zero, List.setIfInBounds_toArray, List.set_cons_zero, List.set_cons_succ]
        refine wpAnyH_ready (rs := [5, 9]) (by kernel_rfl) (by simp) ?_
        refine AllReadyH.cons rfl (fun K hK => ?_) ?_
        · rw [if_pos (by rfl)]
          go_simp
          go_at_call 49
          refine (dagFind_any _ _ _ (HDr.out.below HBd.out (fun _ h => h)) (HDK.out.below HBd.out (fun _ h => h)) (HT.out.belowS ((HB.out.trans (HBr.out.mono HB.out.size)).trans (HBd.out.mono (Below.size (HB.out.trans (HBr.out.mono HB.out.size)))))) HOK.out).mono ?_
          rintro e wf ⟨vb, vp, vv, rfl, hvb, hvp, hvv, hb_wf⟩
          rw [HFi.out.1]
          obtain ⟨ab, cb, rfl, -, -⟩ := hvb.form
          obtain ⟨ap, cp, rfl, -, -⟩ := hvp.form
          obtain ⟨av, cv, rfl, -, -⟩ := hvv.form
          have HVB := Lib.hid (show RdBB (fun b => w4.heap.size ≤ b ∧ b ≠ wf.heap.size) _ _ (findCrt L dk).h.bs from (hvb.low (by decide)).mono (fun b hb => ⟨by have := hb.1; have := Below.size HBd.out; omega, by have h0 := hb.2; omega⟩))
          have HVP := Lib.hid (show RdBB (fun b => w4.heap.size ≤ b ∧ b ≠ wf.heap.size) _ _ (findCrt L dk).h.ps from (hvp.low (by decide)).mono (fun b hb => ⟨by have := hb.1; have := Below.size HBd.out; omega, by have h0 := hb.2; omega⟩))
          have HVV := Lib.hid (show RdI (fun b => w4.heap.size ≤ b ∧ b ≠ wf.heap.size) _ _ (findCrt L dk).vs from (hvv.low (by decide)).mono (fun b hb => ⟨by have := hb.1; have := Below.size HBd.out; omega, by have h0 := hb.2; omega⟩))
          clear hvb hvp hvv
          have HBwf := Lib.hid (HBd.out.trans (hb_wf.mono (Below.size HBd.out)))
          have zwf := hb_wf.size
          clear hb_wf
          show K _ _
          refine hK.out _ _ (by exact HBwf.out) (fun hHeld => ?_)
          clear hK K
          try simp only [Act.put, List.getElem_toArray, List.getElem_cons_succ, List.getElem_cons_zero, List.setIfInBounds_toArray, List.set_cons_zero, List.set_cons_succ]
          refine wpAnyH_take (i := 6) (v := .tuple #[.agg #[.int .i64 (findCrt L dk).h.a, .int .i64 (findCrt L dk).h.r, .slice ab (findCrt L dk).h.bs.length cb, .slice ap (findCrt L dk).h.ps.length cp, .slice av (findCrt L dk).vs.length cv], .int .i64 0]) rfl (by kernel_rfl) (by kernel_rfl) (by kernel_rfl) (fun _ _ _ h => h) (Or.inl ⟨by rfl, fun w hSw => ?_⟩) hHeld ?_
          · clear hSw; go_simp; all_goals (try first | rfl | omega)
          try simp only [Act.put, List.getElem_toArray, List.getElem_cons_succ, List.getElem_cons_zero, List.setIfInBounds_toArray, List.set_cons_zero, List.set_cons_succ]
          refine wpAnyH_take (i := 7) (v := .agg #[.int .i64 (findCrt L dk).h.a, .int .i64 (findCrt L dk).h.r, .slice ab (findCrt L dk).h.bs.length cb, .slice ap (findCrt L dk).h.ps.length cp, .slice av (findCrt L dk).vs.length cv]) rfl (by kernel_rfl) (by kernel_rfl) (by kernel_rfl) (fun _ _ _ h => h) (Or.inl ⟨by rfl, fun w hSw => ?_⟩) hHeld ?_
          · clear hSw; go_simp; all_goals (try first | rfl | omega)
          try simp only [Act.put, List.getElem_toArray, List.getElem_cons_succ, List.getElem_cons_zero, List.setIfInBounds_toArray, List.set_cons_zero, List.set_cons_succ]
          refine wpAnyH_take (i := 8) (v := .int .i64 0) rfl (by kernel_rfl) (by kernel_rfl) (by kernel_rfl) (fun _ _ _ h => h) (Or.inl ⟨by rfl, fun w hSw => ?_⟩) hHeld ?_
          · clear hSw; go_simp; all_goals (try first | rfl | omega)
          try simp only [Act.put, List.getElem_toArray, List.getElem_cons_succ, List.getElem_cons_zero, List.setIfInBounds_toArray, List.set_cons_zero, List.set_cons_succ]
          refine wpAnyH_ready (rs := [9]) (by kernel_rfl) (by simp) ?_
          refine AllReadyH.cons rfl (fun K hK => ?_) ?_
          · rw [if_pos (by rfl)]
            go_simp
            show K _ _
            refine hK.out _ _ (by exact (HBwf.out.alloc (Below.size HBwf.out) _)) (fun hHeld => ?_)
            clear hK K
            try simp only [Act.put, List.getElem_toArray, List.getElem_cons_succ, List.getElem_cons_zero, List.setIfInBounds_toArray, List.set_cons_zero, List.set_cons_succ]
            obtain ⟨wa1, hwn⟩ : ∃ wa1, wa1 = wf.alloc (.cells #[.int .i64 0, .int .i64 0, .slice none 0 0, .slice none 0 0, .slice none 0 0] 38) := ⟨_, rfl⟩
            have FA1 := Lib.hid (show BoxAt wa1 (wf.heap.size) [.int .i64 0, .int .i64 0, .slice none 0 0, .slice none 0 0, .slice none 0 0] 38 by rw [hwn]; exact BoxAt.newAt wf [.int .i64 0, .int .i64 0, .slice none 0 0, .slice none 0 0, .slice none 0 0] 38 rfl)
            have HBwa1 := Lib.hid (show Below w4.heap.size w4 wa1 by rw [hwn]; exact HBwf.out.alloc (Below.size HBwf.out) _)
            have HKL := Lib.hid (show Keep (fun b => w4.heap.size ≤ b ∧ b ≠ wf.heap.size) wf wa1 by rw [hwn]; exact Keep.alloc _ _ _)
            rw [← hwn] at hHeld ⊢
            clear hwn
            have zwa1 := FA1.out.lt
            refine wpAnyH_ready (rs := [10]) (by kernel_rfl) (by simp) ?_
            refine AllReadyH.cons rfl (fun K hK => ?_) ?_
            · rw [if_pos (by rfl)]
              have q0 := FA1.out.cell 0 rfl
              have q1 := FA1.out.cell 1 rfl
              have q2 := FA1.out.cell 2 rfl
              have q3 := FA1.out.cell 3 rfl
              have q4 := FA1.out.cell 4 rfl
              have qf0 := FA1.out.free 0
              have qf1 := FA1.out.free 1
              have qf2 := FA1.out.free 2
              have qf3 := FA1.out.free 3
              have qf4 := FA1.out.free 4
              have qz := FA1.out.lt
              go_simp
              show K _ _
              refine hK.out _ _ (by exact (((((HBwa1.out.setCell (p := ⟨wf.heap.size, 0, none⟩) (by simp; omega) (.int .i64 (findCrt L dk).h.a)).setCell (p := ⟨wf.heap.size, 1, none⟩) (by simp; omega) (.int .i64 (findCrt L dk).h.r)).setCell (p := ⟨wf.heap.size, 2, none⟩) (by simp; omega) (.slice ab (findCrt L dk).h.bs.length cb)).setCell (p := ⟨wf.heap.size, 3, none⟩) (by simp; omega) (.slice ap (findCrt L dk).h.ps.length cp)).setCell (p := ⟨wf.heap.size, 4, none⟩) (by simp; omega) (.slice av (findCrt L dk).vs.length cv))) (fun hHeld => ?_)
              clear hK K
              try simp only [Act.put, List.getElem_toArray, List.getElem_cons_succ, List.getElem_cons_zero, List.setIfInBounds_toArray, List.set_cons_zero, List.set_cons_succ]
              refine wpAnyH_take (i := 11) (v := .int .i64 0) rfl (by kernel_rfl) (by kernel_rfl) (by kernel_rfl) (fun _ _ _ h => h) (Or.inl ⟨by rfl, fun w hSw => ?_⟩) hHeld ?_
              · clear hSw; go_simp; all_goals (try first | rfl | omega)
              try simp only [Act.put, List.getElem_toArray, List.getElem_cons_succ, List.getElem_cons_zero, List.setIfInBounds_toArray, List.set_cons_zero, List.set_cons_succ]
              refine wpAnyH_done (by kernel_rfl) ?_ _
              obtain ⟨wz, hwz⟩ : ∃ wz, wz = (((((wa1.setCell ⟨wf.heap.size, 0, none⟩ (.int .i64 (findCrt L dk).h.a)).setCell ⟨wf.heap.size, 1, none⟩ (.int .i64 (findCrt L dk).h.r)).setCell ⟨wf.heap.size, 2, none⟩ (.slice ab (findCrt L dk).h.bs.length cb)).setCell ⟨wf.heap.size, 3, none⟩ (.slice ap (findCrt L dk).h.ps.length cp)).setCell ⟨wf.heap.size, 4, none⟩ (.slice av (findCrt L dk).vs.length cv)) := ⟨_, rfl⟩
              have HKz : Keep (fun b => w4.heap.size ≤ b ∧ b ≠ wf.heap.size) wa1 wz := by rw [hwz]; exact ((((Keep.setCell (by simp) _).trans (Keep.setCell (by simp) _)).trans (Keep.setCell (by simp) _)).trans (Keep.setCell (by simp) _)).trans (Keep.setCell (by simp) _)
              have HZ := Lib.hid (show BoxAt wz (wf.heap.size) [.int .i64 (findCrt L dk).h.a, .int .i64 (findCrt L dk).h.r, .slice ab (findCrt L dk).h.bs.length cb, .slice ap (findCrt L dk).h.ps.length cp, .slice av (findCrt L dk).vs.length cv] 38 by rw [hwz]; exact (((((FA1.out.set 0 (.int .i64 (findCrt L dk).h.a)).set 1 (.int .i64 (findCrt L dk).h.r)).set 2 (.slice ab (findCrt L dk).h.bs.length cb)).set 3 (.slice ap (findCrt L dk).h.ps.length cp)).set 4 (.slice av (findCrt L dk).vs.length cv)))
              have HBz := Lib.hid (show Below w4.heap.size w4 wz by rw [hwz]; exact (((((HBwa1.out.setCell (p := ⟨wf.heap.size, 0, none⟩) (by simp; omega) (.int .i64 (findCrt L dk).h.a)).setCell (p := ⟨wf.heap.size, 1, none⟩) (by simp; omega) (.int .i64 (findCrt L dk).h.r)).setCell (p := ⟨wf.heap.size, 2, none⟩) (by simp; omega) (.slice ab (findCrt L dk).h.bs.length cb)).setCell (p := ⟨wf.heap.size, 3, none⟩) (by simp; omega) (.slice ap (findCrt L dk).h.ps.length cp)).setCell (p := ⟨wf.heap.size, 4, none⟩) (by simp; omega) (.slice av (findCrt L dk).vs.length cv)))
              have hq0 : Keep (fun b => w4.heap.size ≤ b ∧ b ≠ wf.heap.size) wf wa1 := HKL.out
              have HVBz := Lib.hid ((HVB.out.keep (hq0.trans HKz) (fun _ h => h)).mono (G' := fun _ => True) (fun _ _ => trivial))
              have HVPz := Lib.hid ((HVP.out.keep (hq0.trans HKz) (fun _ h => h)).mono (G' := fun _ => True) (fun _ _ => trivial))
              have HVVz := Lib.hid ((HVV.out.keep (hq0.trans HKz) (fun _ h => h)).mono (G' := fun _ => True) (fun _ _ => trivial))
              go_wp2
              rw [← hwz]
              clear hwz HKz
              go_meet
              exact ⟨wf.heap.size, ab, ap, av, cb, cp, cv, rfl, rfl, HZ.out, HVBz.out, HVPz.out, HVVz.out, HBz.out⟩
            exact AllReadyH.nil
          exact AllReadyH.nil
        refine AllReadyH.cons rfl (fun K hK => ?_) ?_
        · rw [if_pos (by rfl)]
          go_simp
          show K _ _
          refine hK.out _ _ (by exact (HBd.out.alloc (Below.size HBd.out) _)) (fun hHeld => ?_)
          clear hK K
          try simp only [Act.put, List.getElem_toArray, List.getElem_cons_succ, List.getElem_cons_zero, List.setIfInBounds_toArray, List.set_cons_zero, List.set_cons_succ]
          obtain ⟨wa1, hwn⟩ : ∃ wa1, wa1 = wd.alloc (.cells #[.int .i64 0, .int .i64 0, .slice none 0 0, .slice none 0 0, .slice none 0 0] 38) := ⟨_, rfl⟩
          have FA1 := Lib.hid (show BoxAt wa1 (wd.heap.size) [.int .i64 0, .int .i64 0, .slice none 0 0, .slice none 0 0, .slice none 0 0] 38 by rw [hwn]; exact BoxAt.newAt wd [.int .i64 0, .int .i64 0, .slice none 0 0, .slice none 0 0, .slice none 0 0] 38 rfl)
          have HBwa1 := Lib.hid (show Below w4.heap.size w4 wa1 by rw [hwn]; exact HBd.out.alloc (Below.size HBd.out) _)
          rw [← hwn] at hHeld ⊢
          clear hwn
          have zwa1 := FA1.out.lt
          refine wpAnyH_ready (rs := [5]) (by kernel_rfl) (by simp) ?_
          refine AllReadyH.cons rfl (fun K hK => ?_) ?_
          · rw [if_pos (by rfl)]
            go_simp
            go_at_call 49
            refine (dagFind_any _ _ _ (HDr.out.below HBwa1.out (fun _ h => h)) (HDK.out.below HBwa1.out (fun _ h => h)) (HT.out.belowS ((HB.out.trans (HBr.out.mono HB.out.size)).trans (HBwa1.out.mono (Below.size (HB.out.trans (HBr.out.mono HB.out.size)))))) HOK.out).mono ?_
            rintro e wf ⟨vb, vp, vv, rfl, hvb, hvp, hvv, hb_wf⟩
            rw [HFi.out.1]
            obtain ⟨ab, cb, rfl, -, -⟩ := hvb.form
            obtain ⟨ap, cp, rfl, -, -⟩ := hvp.form
            obtain ⟨av, cv, rfl, -, -⟩ := hvv.form
            have HVB := Lib.hid (show RdBB (fun b => w4.heap.size ≤ b ∧ b ≠ wd.heap.size) _ _ (findCrt L dk).h.bs from (hvb.low (by decide)).mono (fun b hb => ⟨by have := hb.1; have := Below.size HBwa1.out; omega, by have h0 := hb.1; have := FA1.out.lt; omega⟩))
            have HVP := Lib.hid (show RdBB (fun b => w4.heap.size ≤ b ∧ b ≠ wd.heap.size) _ _ (findCrt L dk).h.ps from (hvp.low (by decide)).mono (fun b hb => ⟨by have := hb.1; have := Below.size HBwa1.out; omega, by have h0 := hb.1; have := FA1.out.lt; omega⟩))
            have HVV := Lib.hid (show RdI (fun b => w4.heap.size ≤ b ∧ b ≠ wd.heap.size) _ _ (findCrt L dk).vs from (hvv.low (by decide)).mono (fun b hb => ⟨by have := hb.1; have := Below.size HBwa1.out; omega, by have h0 := hb.1; have := FA1.out.lt; omega⟩))
            clear hvb hvp hvv
            have HBwf := Lib.hid (HBwa1.out.trans (hb_wf.mono (Below.size HBwa1.out)))
            replace FA1 := Lib.hid (FA1.out.belowS hb_wf)
            have zwf := hb_wf.size
            clear hb_wf
            show K _ _
            refine hK.out _ _ (by exact HBwf.out) (fun hHeld => ?_)
            clear hK K
            try simp only [Act.put, List.getElem_toArray, List.getElem_cons_succ, List.getElem_cons_zero, List.setIfInBounds_toArray, List.set_cons_zero, List.set_cons_succ]
            refine wpAnyH_take (i := 6) (v := .tuple #[.agg #[.int .i64 (findCrt L dk).h.a, .int .i64 (findCrt L dk).h.r, .slice ab (findCrt L dk).h.bs.length cb, .slice ap (findCrt L dk).h.ps.length cp, .slice av (findCrt L dk).vs.length cv], .int .i64 0]) rfl (by kernel_rfl) (by kernel_rfl) (by kernel_rfl) (fun _ _ _ h => h) (Or.inl ⟨by rfl, fun w hSw => ?_⟩) hHeld ?_
            · clear hSw; go_simp; all_goals (try first | rfl | omega)
            try simp only [Act.put, List.getElem_toArray, List.getElem_cons_succ, List.getElem_cons_zero, List.setIfInBounds_toArray, List.set_cons_zero, List.set_cons_succ]
            refine wpAnyH_take (i := 7) (v := .agg #[.int .i64 (findCrt L dk).h.a, .int .i64 (findCrt L dk).h.r, .slice ab (findCrt L dk).h.bs.length cb, .slice ap (findCrt L dk).h.ps.length cp, .slice av (findCrt L dk).vs.length cv]) rfl (by kernel_rfl) (by kernel_rfl) (by kernel_rfl) (fun _ _ _ h => h) (Or.inl ⟨by rfl, fun w hSw => ?_⟩) hHeld ?_
            · clear hSw; go_simp; all_goals (try first | rfl | omega)
            try simp only [Act.put, List.getElem_toArray, List.getElem_cons_succ, List.getElem_cons_zero, List.setIfInBounds_toArray, List.set_cons_zero, List.set_cons_succ]
            refine wpAnyH_take (i := 8) (v := .int .i64 0) rfl (by kernel_rfl) (by kernel_rfl) (by kernel_rfl) (fun _ _ _ h => h) (Or.inl ⟨by rfl, fun w hSw => ?_⟩) hHeld ?_
            · clear hSw; go_simp; all_goals (try first | rfl | omega)
            try simp only [Act.put, List.getElem_toArray, List.getElem_cons_succ, List.getElem_cons_zero, List.setIfInBounds_toArray, List.set_cons_zero, List.set_cons_succ]
            refine wpAnyH_ready (rs := [10]) (by kernel_rfl) (by simp) ?_
            refine AllReadyH.cons rfl (fun K hK => ?_) ?_
            · rw [if_pos (by rfl)]
              have q0 := FA1.out.cell 0 rfl
              have q1 := FA1.out.cell 1 rfl
              have q2 := FA1.out.cell 2 rfl
              have q3 := FA1.out.cell 3 rfl
              have q4 := FA1.out.cell 4 rfl
              have qf0 := FA1.out.free 0
              have qf1 := FA1.out.free 1
              have qf2 := FA1.out.free 2
              have qf3 := FA1.out.free 3
              have qf4 := FA1.out.free 4
              have qz := FA1.out.lt
              go_simp
              show K _ _
              refine hK.out _ _ (by exact (((((HBwf.out.setCell (p := ⟨wd.heap.size, 0, none⟩) (by simp; omega) (.int .i64 (findCrt L dk).h.a)).setCell (p := ⟨wd.heap.size, 1, none⟩) (by simp; omega) (.int .i64 (findCrt L dk).h.r)).setCell (p := ⟨wd.heap.size, 2, none⟩) (by simp; omega) (.slice ab (findCrt L dk).h.bs.length cb)).setCell (p := ⟨wd.heap.size, 3, none⟩) (by simp; omega) (.slice ap (findCrt L dk).h.ps.length cp)).setCell (p := ⟨wd.heap.size, 4, none⟩) (by simp; omega) (.slice av (findCrt L dk).vs.length cv))) (fun hHeld => ?_)
              clear hK K
              try simp only [Act.put, List.getElem_toArray, List.getElem_cons_succ, List.getElem_cons_zero, List.setIfInBounds_toArray, List.set_cons_zero, List.set_cons_succ]
              refine wpAnyH_take (i := 11) (v := .int .i64 0) rfl (by kernel_rfl) (by kernel_rfl) (by kernel_rfl) (fun _ _ _ h => h) (Or.inl ⟨by rfl, fun w hSw => ?_⟩) hHeld ?_
              · clear hSw; go_simp; all_goals (try first | rfl | omega)
              try simp only [Act.put, List.getElem_toArray, List.getElem_cons_succ, List.getElem_cons_zero, List.setIfInBounds_toArray, List.set_cons_zero, List.set_cons_succ]
              refine wpAnyH_done (by kernel_rfl) ?_ _
              obtain ⟨wz, hwz⟩ : ∃ wz, wz = (((((wf.setCell ⟨wd.heap.size, 0, none⟩ (.int .i64 (findCrt L dk).h.a)).setCell ⟨wd.heap.size, 1, none⟩ (.int .i64 (findCrt L dk).h.r)).setCell ⟨wd.heap.size, 2, none⟩ (.slice ab (findCrt L dk).h.bs.length cb)).setCell ⟨wd.heap.size, 3, none⟩ (.slice ap (findCrt L dk).h.ps.length cp)).setCell ⟨wd.heap.size, 4, none⟩ (.slice av (findCrt L dk).vs.length cv)) := ⟨_, rfl⟩
              have HKz : Keep (fun b => w4.heap.size ≤ b ∧ b ≠ wd.heap.size) wf wz := by rw [hwz]; exact ((((Keep.setCell (by simp) _).trans (Keep.setCell (by simp) _)).trans (Keep.setCell (by simp) _)).trans (Keep.setCell (by simp) _)).trans (Keep.setCell (by simp) _)
              have HZ := Lib.hid (show BoxAt wz (wd.heap.size) [.int .i64 (findCrt L dk).h.a, .int .i64 (findCrt L dk).h.r, .slice ab (findCrt L dk).h.bs.length cb, .slice ap (findCrt L dk).h.ps.length cp, .slice av (findCrt L dk).vs.length cv] 38 by rw [hwz]; exact (((((FA1.out.set 0 (.int .i64 (findCrt L dk).h.a)).set 1 (.int .i64 (findCrt L dk).h.r)).set 2 (.slice ab (findCrt L dk).h.bs.length cb)).set 3 (.slice ap (findCrt L dk).h.ps.length cp)).set 4 (.slice av (findCrt L dk).vs.length cv)))
              have HBz := Lib.hid (show Below w4.heap.size w4 wz by rw [hwz]; exact (((((HBwf.out.setCell (p := ⟨wd.heap.size, 0, none⟩) (by simp; omega) (.int .i64 (findCrt L dk).h.a)).setCell (p := ⟨wd.heap.size, 1, none⟩) (by simp; omega) (.int .i64 (findCrt L dk).h.r)).setCell (p := ⟨wd.heap.size, 2, none⟩) (by simp; omega) (.slice ab (findCrt L dk).h.bs.length cb)).setCell (p := ⟨wd.heap.size, 3, none⟩) (by simp; omega) (.slice ap (findCrt L dk).h.ps.length cp)).setCell (p := ⟨wd.heap.size, 4, none⟩) (by simp; omega) (.slice av (findCrt L dk).vs.length cv)))
              have HVBz := Lib.hid ((HVB.out.keep HKz (fun _ h => h)).mono (G' := fun _ => True) (fun _ _ => trivial))
              have HVPz := Lib.hid ((HVP.out.keep HKz (fun _ h => h)).mono (G' := fun _ => True) (fun _ _ => trivial))
              have HVVz := Lib.hid ((HVV.out.keep HKz (fun _ h => h)).mono (G' := fun _ => True) (fun _ _ => trivial))
              go_wp2
              rw [← hwz]
              clear hwz HKz
              go_meet
              exact ⟨wd.heap.size, ab, ap, av, cb, cp, cv, rfl, rfl, HZ.out, HVBz.out, HVPz.out, HVVz.out, HBz.out⟩
            exact AllReadyH.nil
          exact AllReadyH.nil
        exact AllReadyH.nil
      case rest =>
      obtain ⟨P, ab, ap, av, cb, cp, cv, rfl, rfl, hBP, hvb, hvp, hvv, hB5⟩ := hcut
      rename World => w5
      have HP := Lib.hid hBP
      have K1 := Lib.hid hvb
      have K2 := Lib.hid hvp
      have K3 := Lib.hid hvv
      replace HXr := Lib.hid (HXr.out.belowS hB5)
      replace HDr := Lib.hid (HDr.out.below hB5 (fun _ h => h))
      replace HSr := Lib.hid (HSr.out.below hB5 (fun _ h => h))
      replace H1 := Lib.hid (H1.out.below hB5 (fun _ h => h))
      replace H2 := Lib.hid (H2.out.below hB5 (fun _ h => h))
      replace H3 := Lib.hid (H3.out.below hB5 (fun _ h => h))
      replace HBr := Lib.hid (HBr.out.trans (hB5.mono HBr.out.size))
      replace HY := Lib.hid (HY.out.belowS hB5)
      have hee0 := (hB5.cell (p := ⟨bc, oc + k * 5, none⟩) hbc4).trans HE.out.1
      have hee1 := (hB5.cell (p := ⟨bc, oc + k * 5 + 1, none⟩) hbc4).trans HE.out.2.1
      have hee2 := (hB5.cell (p := ⟨bc, oc + k * 5 + 2, none⟩) hbc4).trans HE.out.2.2.1
      have hee3 := (hB5.cell (p := ⟨bc, oc + k * 5 + 3, none⟩) hbc4).trans HE.out.2.2.2.1
      have hee4 := (hB5.cell (p := ⟨bc, oc + k * 5 + 4, none⟩) hbc4).trans HE.out.2.2.2.2
      replace HE := Lib.hid (And.intro hee0 (And.intro hee1 (And.intro hee2 (And.intro hee3 hee4))))
      clear hee0 hee1 hee2 hee3 hee4 hBP hvb hvp hvv hB5 HES HDK
      have hz5 := HP.out.lt
      have hz5y := HY.out.lt
      have hbc5 : bc < w5.heap.size := World.block_lt_of_cell? w5 _ HE.out.1
      have HFF := Lib.hid (fun hn => sameC_iff.2 (HFi.out.2 hn))
      generalize findCrt L dk = F at *
      go_upto_region 8 with fail
      refine wp_region_held_drew (S := fun w' => Below w5.heap.size w5 w') (by kernel_rfl) (by exact (Below.refl _ _).drew) (fun hHeld => ?_)
      obtain ⟨wd, hwd⟩ : ∃ wd, wd = w5.drew := ⟨_, rfl⟩
      rw [← hwd] at hHeld ⊢
      have HBd := Lib.hid (show Below w5.heap.size w5 wd from hHeld)
      have zwd : w5.heap.size ≤ wd.heap.size := by rw [hwd]; exact Nat.le_refl _
      clear hwd
      refine wpAnyH_take (i := 0) (v := .int .i64 0) rfl (by kernel_rfl) (by kernel_rfl) (by kernel_rfl) (fun _ _ _ h => h) (Or.inl ⟨by rfl, fun w hSw => ?_⟩) hHeld ?_
      · clear hSw; go_simp; all_goals (try first | rfl | omega)
      try simp only [Act.put, List.getElem_toArray, List.getElem_cons_succ, List.getElem_cons_zero, List.setIfInBounds_toArray, List.set_cons_zero, List.set_cons_succ]
      refine wpAnyH_take (i := 1) (v := .bool false) rfl (by kernel_rfl) (by kernel_rfl) (by kernel_rfl) (fun _ _ _ h => h) (Or.inl ⟨by rfl, fun w hSw => ?_⟩) hHeld ?_
      · clear hSw; go_simp; all_goals (try first | rfl | omega)
      try simp only [Act.put, List.getElem_toArray, List.getElem_cons_succ, List.getElem_cons_zero, List.setIfInBounds_toArray, List.set_cons_zero, List.set_cons_succ]
      refine wpAnyH_take (i := 2) (v := .bool false) rfl (by kernel_rfl) (by kernel_rfl) (by kernel_rfl) (fun _ _ _ h => h) (Or.inl ⟨by rfl, fun w hSw => ?_⟩) hHeld ?_
      · clear hSw; go_simp; all_goals (try first | rfl | omega)
      try simp only [Act.put, List.getElem_toArray, List.getElem_cons_succ, List.getElem_cons_zero, List.setIfInBounds_toArray, List.set_cons_zero, List.set_cons_succ]
      refine wpAnyH_take (i := 3) (v := .agg #[.int .i64 F.h.a, .int .i64 F.h.r, .slice ab F.h.bs.length cb, .slice ap F.h.ps.length cp, .slice av F.vs.length cv]) rfl (by kernel_rfl) (by kernel_rfl) (by kernel_rfl) (fun _ _ _ h => h) (Or.inl ⟨by rfl, fun w hSw => ?_⟩) hHeld ?_
      · have q0 := (HP.out.belowS hSw).cell 0 rfl; have q1 := (HP.out.belowS hSw).cell 1 rfl; have q2 := (HP.out.belowS hSw).cell 2 rfl; have q3 := (HP.out.belowS hSw).cell 3 rfl; have q4 := (HP.out.belowS hSw).cell 4 rfl; clear hSw; go_simp
      try simp only [Act.put, List.getElem_toArray, List.getElem_cons_succ, List.getElem_cons_zero, List.setIfInBounds_toArray, List.set_cons_zero, List.set_cons_succ]
      refine wpAnyH_take (i := 4) (v := .pointer (some ⟨w1.heap.size, 0, none⟩)) rfl (by kernel_rfl) (by kernel_rfl) (by kernel_rfl) (fun _ _ _ h => h) (Or.inl ⟨by rfl, fun w hSw => ?_⟩) hHeld ?_
      · clear hSw; go_simp; all_goals (try first | rfl | omega)
      try simp only [Act.put, List.getElem_toArray, List.getElem_cons_succ, List.getElem_cons_zero, List.setIfInBounds_toArray, List.set_cons_zero, List.set_cons_succ]
      refine wpAnyH_take (i := 5) (v := .slice (some ⟨bc, oc, none⟩) L.length capd) rfl (by kernel_rfl) (by kernel_rfl) (by kernel_rfl) (fun _ _ _ h => h) (Or.inl ⟨by rfl, fun w hSw => ?_⟩) hHeld ?_
      · have q0 := (HXr.out.belowS hSw).cell 0 rfl; clear hSw; go_simp
      try simp only [Act.put, List.getElem_toArray, List.getElem_cons_succ, List.getElem_cons_zero, List.setIfInBounds_toArray, List.set_cons_zero, List.set_cons_succ]
      refine wpAnyH_take (i := 6) (v := .int .i64 (k : Int)) rfl (by kernel_rfl) (by kernel_rfl) (by kernel_rfl) (fun _ _ _ h => h) (Or.inl ⟨by rfl, fun w hSw => ?_⟩) hHeld ?_
      · clear hSw; go_simp; all_goals (try first | rfl | omega)
      try simp only [Act.put, List.getElem_toArray, List.getElem_cons_succ, List.getElem_cons_zero, List.setIfInBounds_toArray, List.set_cons_zero, List.set_cons_succ]
      refine wpAnyH_take (i := 7) (v := .pointer (some ⟨bc, oc + k * 5, none⟩)) rfl (by kernel_rfl) (by kernel_rfl) (by kernel_rfl) (fun _ _ _ h => h) (Or.inl ⟨by rfl, fun w hSw => ?_⟩) hHeld ?_
      · clear hSw; go_simp; all_goals (try first | rfl | omega)
      try simp only [Act.put, List.getElem_toArray, List.getElem_cons_succ, List.getElem_cons_zero, List.setIfInBounds_toArray, List.set_cons_zero, List.set_cons_succ]
      refine wpAnyH_take (i := 8) (v := .agg #[.int .i64 c.h.a, .int .i64 c.h.r, .slice ub c.h.bs.length ubc, .slice up c.h.ps.length upc, .slice uv c.vs.length uvc]) rfl (by kernel_rfl) (by kernel_rfl) (by kernel_rfl) (fun _ _ _ h => h) (Or.inl ⟨by rfl, fun w hSw => ?_⟩) hHeld ?_
      · have q0 := hSw.cell (p := ⟨bc, oc + k * 5, none⟩) hbc5; have q1 := hSw.cell (p := ⟨bc, oc + k * 5 + 1, none⟩) hbc5; have q2 := hSw.cell (p := ⟨bc, oc + k * 5 + 2, none⟩) hbc5; have q3 := hSw.cell (p := ⟨bc, oc + k * 5 + 3, none⟩) hbc5; have q4 := hSw.cell (p := ⟨bc, oc + k * 5 + 4, none⟩) hbc5; rw [HE.out.1] at q0; rw [HE.out.2.1] at q1; rw [HE.out.2.2.1] at q2; rw [HE.out.2.2.2.1] at q3; rw [HE.out.2.2.2.2] at q4; clear hSw; go_simp
      try simp only [Act.put, List.getElem_toArray, List.getElem_cons_succ, List.getElem_cons_zero, List.setIfInBounds_toArray, List.set_cons_zero, List.set_cons_succ]
      refine wpAnyH_ready (rs := [9]) (by kernel_rfl) (by simp) ?_
      refine AllReadyH.cons rfl (fun K hK => ?_) ?_
      · rw [if_pos (by rfl)]
        go_simp
        go_at_call 34
        refine (sameCert_any F c _ _ _ _ _ _ _ (K1.out.below HBd.out (fun _ h => h)) (K2.out.below HBd.out (fun _ h => h)) (K3.out.below HBd.out (fun _ h => h)) ((H1.out.mono (G' := fun _ => True) (fun _ _ => trivial)).below HBd.out (fun _ h => h)) ((H2.out.mono (G' := fun _ => True) (fun _ _ => trivial)).below HBd.out (fun _ h => h)) ((H3.out.mono (G' := fun _ => True) (fun _ _ => trivial)).below HBd.out (fun _ h => h))).mono ?_
        rintro e w6 ⟨rfl, hb_w6⟩
        have HBw6 := Lib.hid (HBd.out.trans (hb_w6.mono (Below.size HBd.out)))
        have zw6 := hb_w6.size
        clear hb_w6
        show K _ _
        refine hK.out _ _ (by exact HBw6.out) (fun hHeld => ?_)
        clear hK K
        try simp only [Act.put, List.getElem_toArray, List.getElem_cons_succ, List.getElem_cons_zero, List.setIfInBounds_toArray, List.set_cons_zero, List.set_cons_succ]
        refine wpAnyH_take (i := 10) (v := .bool (!sameC F c)) rfl (by kernel_rfl) (by kernel_rfl) (by kernel_rfl) (fun _ _ _ h => h) (Or.inl ⟨by rfl, fun w hSw => ?_⟩) hHeld ?_
        · clear hSw; go_simp; all_goals (try first | rfl | omega)
        try simp only [Act.put, List.getElem_toArray, List.getElem_cons_succ, List.getElem_cons_zero, List.setIfInBounds_toArray, List.set_cons_zero, List.set_cons_succ]
        refine wpAnyH_take (i := 11) (v := .bool (!sameC F c)) rfl (by kernel_rfl) (by kernel_rfl) (by kernel_rfl) (fun _ _ _ h => h) (Or.inl ⟨by rfl, fun w hSw => ?_⟩) hHeld ?_
        · clear hSw; go_simp; all_goals (try first | rfl | omega)
        try simp only [Act.put, List.getElem_toArray, List.getElem_cons_succ, List.getElem_cons_zero, List.setIfInBounds_toArray, List.set_cons_zero, List.set_cons_succ]
        refine wpAnyH_done (by kernel_rfl) ?_ _
        replace HXr := Lib.hid (HXr.out.belowS HBw6.out)
        replace HDr := Lib.hid (HDr.out.below HBw6.out (fun _ h => h))
        replace HSr := Lib.hid (HSr.out.below HBw6.out (fun _ h => h))
        replace H1 := Lib.hid (H1.out.below HBw6.out (fun _ h => h))
        replace H2 := Lib.hid (H2.out.below HBw6.out (fun _ h => h))
        replace H3 := Lib.hid (H3.out.below HBw6.out (fun _ h => h))
        replace HBr := Lib.hid (HBr.out.trans (HBw6.out.mono HBr.out.size))
        replace HY := Lib.hid (HY.out.belowS HBw6.out)
        have hee0 := (HBw6.out.cell (p := ⟨bc, oc + k * 5, none⟩) hbc5).trans HE.out.1
        have hz6y := HY.out.lt
        have HBE := Lib.hid (HB.out.trans (HBr.out.mono HB.out.size))
        clear hHeld HE hee0 K1 K2 K3
        cases hsame : sameC F c with
        | false =>
          clear HPi
          go_wp2
          go_ret
          exact ⟨false, rfl, (fun hn => absurd (HFF.out (HLL.out ▸ hn)) (by rw [hsame]; exact Bool.false_ne_true)), HBE.out⟩
        | true =>
          clear hsame HFF HFi HBE
          have hg5 : c.h.ps.length ≤ 4 := h4c
          have y3 := HY.out.cell 3 rfl
          go_wp2_with fail
          go_loopw [10] (fun u ws => ∃ j : Nat, j ≤ c.h.ps.length ∧ u = .int .i64 j ∧ Below w6.heap.size w6 ws) (fun u _ => c.h.ps.length - (intOf u).toNat)
          case atStart => exact ⟨0, Nat.zero_le _, rfl, Below.refl _ _⟩
          case round =>
            obtain ⟨j, hj, rfl, hBs⟩ := hrel
            have HBs := Lib.hid (HBr.out.trans (hBs.mono HBr.out.size))
            have HBs6 := Lib.hid hBs
            have HXs := Lib.hid (HXr.out.belowS hBs)
            have HDs := Lib.hid (HDr.out.below hBs (fun _ h => h))
            have HSs := Lib.hid (HSr.out.below hBs (fun _ h => h))
            have HYs := Lib.hid (HY.out.belowS hBs)
            have J1 := Lib.hid (H1.out.below hBs (fun _ h => h))
            have J2 := Lib.hid (H2.out.below hBs (fun _ h => h))
            clear hBs
            have y0 := HYs.out.cell 0 rfl
            have y1 := HYs.out.cell 1 rfl
            have y2 := HYs.out.cell 2 rfl
            have y3 := HYs.out.cell 3 rfl
            have x0 := HXs.out.cell 0 rfl
            by_cases hjt : j < c.h.ps.length
            · have j0 : (0 : Int) ≤ (j : Int) := by omega
              have j1 : (j : Int) < (c.h.ps.length : Int) := by omega
              have wj : IntKind.i64.wrap ((j : Int) + 1) = (j : Int) + 1 := IntWalk.i64_in _ (by omega)
              obtain ⟨bp, op, vp, rfl, -, ep, hp⟩ := J2.out.cellS j hjt
              obtain ⟨adp, capp, rfl, -, -⟩ := hp.form
              have HPP := Lib.hid hp
              have HPQ := Lib.hid (HPi.out c.h.ps[j] (List.getElem_mem hjt))
              obtain ⟨n, hn, hin, -, hnr⟩ := HPQ.out
              have HTK := Lib.hid (show DS.take k = crtSums (L.take k) by rw [HDS.out, crtSums_take])
              have HST := Lib.hid (show RdBB (fun _ => True) wr (.slice (some ⟨bq, oq, none⟩) k caps) (DS.take k) from HSs.out.take k (by omega))
              have HIN := Lib.hid (show idxP (isB c.h.ps[j]) (DS.take k) = (n : Int) by rw [HTK.out]; exact hin)
              have hnl : n < L.length := by omega
              have HGD := Lib.hid (show L[n].h.r = c.h.r - 1 by rw [← hnr]; simp [hnl])
              clear hp hin hnr HPQ
              generalize c.h.ps[j] = pj at *
              obtain ⟨bn, on, xb, xp, xv, hbon, -, -, e1n, -, -, -, -, -, -⟩ := HDs.out.crt n hnl
              simp only [Option.some.injEq, Addr.mk.injEq, and_true] at hbon
              obtain ⟨rfl, rfl⟩ := hbon
              rw [HGD.out] at e1n
              have n0 : (0 : Int) ≤ (n : Int) := by omega
              have n1 : (n : Int) < (L.length : Int) := by omega
              have kc : (k : Int) ≤ (caps : Int) := by have := HSs.out.len; omega
              have wr1 : IntKind.i64.wrap (c.h.r - 1) = c.h.r - 1 := IntWalk.i64_in _ (by omega)
              have nlt : ¬ (n : Int) < 0 := by omega
              have HQ := Lib.hid e1n
              clear e1n
              go_upto_region 13 with fail
              have HEP := Lib.hid ep
              have hbp : bp < wr.heap.size := World.block_lt_of_cell? wr _ ep
              have hbn : bc < wr.heap.size := World.block_lt_of_cell? wr _ HQ.out
              clear ep y0 y1 y2 y3 x0
              refine wp_region_held_drew (S := fun w' => Below wr.heap.size wr w') (by kernel_rfl) (by exact (Below.refl _ _).drew) (fun hHeld => ?_)
              obtain ⟨wd, hwd⟩ : ∃ wd, wd = wr.drew := ⟨_, rfl⟩
              rw [← hwd] at hHeld ⊢
              have HBd := Lib.hid (show Below wr.heap.size wr wd from hHeld)
              have zwd : wr.heap.size ≤ wd.heap.size := by rw [hwd]; exact Nat.le_refl _
              clear hwd
              refine wpAnyH_take (i := 0) (v := .slice (some ⟨bq, oq, none⟩) DS.length caps) rfl (by kernel_rfl) (by kernel_rfl) (by kernel_rfl) (fun _ _ _ h => h) (Or.inl ⟨by rfl, fun w hSw => ?_⟩) hHeld ?_
              · clear hSw; go_simp; all_goals (try first | rfl | omega)
              try simp only [Act.put, List.getElem_toArray, List.getElem_cons_succ, List.getElem_cons_zero, List.setIfInBounds_toArray, List.set_cons_zero, List.set_cons_succ]
              refine wpAnyH_take (i := 1) (v := .int .i64 (k : Int)) rfl (by kernel_rfl) (by kernel_rfl) (by kernel_rfl) (fun _ _ _ h => h) (Or.inl ⟨by rfl, fun w hSw => ?_⟩) hHeld ?_
              · clear hSw; go_simp; all_goals (try first | rfl | omega)
              try simp only [Act.put, List.getElem_toArray, List.getElem_cons_succ, List.getElem_cons_zero, List.setIfInBounds_toArray, List.set_cons_zero, List.set_cons_succ]
              refine wpAnyH_take (i := 2) (v := .slice (some ⟨bq, oq, none⟩) k caps) rfl (by kernel_rfl) (by kernel_rfl) (by kernel_rfl) (fun _ _ _ h => h) (Or.inl ⟨by rfl, fun w hSw => ?_⟩) hHeld ?_
              · clear hSw; go_simp; all_goals (try first | rfl | omega)
              try simp only [Act.put, List.getElem_toArray, List.getElem_cons_succ, List.getElem_cons_zero, List.setIfInBounds_toArray, List.set_cons_zero, List.set_cons_succ]
              refine wpAnyH_take (i := 3) (v := .pointer (some ⟨wo.heap.size, 3, none⟩)) rfl (by kernel_rfl) (by kernel_rfl) (by kernel_rfl) (fun _ _ _ h => h) (Or.inl ⟨by rfl, fun w hSw => ?_⟩) hHeld ?_
              · clear hSw; go_simp; all_goals (try first | rfl | omega)
              try simp only [Act.put, List.getElem_toArray, List.getElem_cons_succ, List.getElem_cons_zero, List.setIfInBounds_toArray, List.set_cons_zero, List.set_cons_succ]
              refine wpAnyH_take (i := 4) (v := .slice (some ⟨bp, op, none⟩) c.h.ps.length upc) rfl (by kernel_rfl) (by kernel_rfl) (by kernel_rfl) (fun _ _ _ h => h) (Or.inl ⟨by rfl, fun w hSw => ?_⟩) hHeld ?_
              · have q0 := (HYs.out.belowS hSw).cell 3 rfl; clear hSw; go_simp
              try simp only [Act.put, List.getElem_toArray, List.getElem_cons_succ, List.getElem_cons_zero, List.setIfInBounds_toArray, List.set_cons_zero, List.set_cons_succ]
              refine wpAnyH_take (i := 5) (v := .int .i64 (j : Int)) rfl (by kernel_rfl) (by kernel_rfl) (by kernel_rfl) (fun _ _ _ h => h) (Or.inl ⟨by rfl, fun w hSw => ?_⟩) hHeld ?_
              · clear hSw; go_simp; all_goals (try first | rfl | omega)
              try simp only [Act.put, List.getElem_toArray, List.getElem_cons_succ, List.getElem_cons_zero, List.setIfInBounds_toArray, List.set_cons_zero, List.set_cons_succ]
              refine wpAnyH_take (i := 6) (v := .pointer (some ⟨bp, op + j, none⟩)) rfl (by kernel_rfl) (by kernel_rfl) (by kernel_rfl) (fun _ _ _ h => h) (Or.inl ⟨by rfl, fun w hSw => ?_⟩) hHeld ?_
              · clear hSw; go_simp; all_goals (try first | rfl | omega)
              try simp only [Act.put, List.getElem_toArray, List.getElem_cons_succ, List.getElem_cons_zero, List.setIfInBounds_toArray, List.set_cons_zero, List.set_cons_succ]
              refine wpAnyH_take (i := 7) (v := .slice adp pj.length capp) rfl (by kernel_rfl) (by kernel_rfl) (by kernel_rfl) (fun _ _ _ h => h) (Or.inl ⟨by rfl, fun w hSw => ?_⟩) hHeld ?_
              · have q0 := (hSw.cell (p := ⟨bp, op + j, none⟩) hbp).trans HEP.out; clear hSw; go_simp
              try simp only [Act.put, List.getElem_toArray, List.getElem_cons_succ, List.getElem_cons_zero, List.setIfInBounds_toArray, List.set_cons_zero, List.set_cons_succ]
              refine wpAnyH_ready (rs := [8]) (by kernel_rfl) (by simp) ?_
              refine AllReadyH.cons rfl (fun K hK => ?_) ?_
              · rw [if_pos (by rfl)]
                go_simp
                go_at_call 38
                refine (sat_any _ _ _ (HST.out.below HBd.out (fun _ h => h)) (HPP.out.below HBd.out (fun _ h => h))).mono ?_
                rintro e w' ⟨rfl, rfl⟩
                rw [HIN.out]
                show K _ _
                refine hK.out _ _ (by exact hHeld) (fun hHeld => ?_)
                clear hK K
                try simp only [Act.put, List.getElem_toArray, List.getElem_cons_succ, List.getElem_cons_zero, List.setIfInBounds_toArray, List.set_cons_zero, List.set_cons_succ]
                refine wpAnyH_take (i := 9) (v := .int .i64 (n : Int)) rfl (by kernel_rfl) (by kernel_rfl) (by kernel_rfl) (fun _ _ _ h => h) (Or.inl ⟨by rfl, fun w hSw => ?_⟩) hHeld ?_
                · clear hSw; go_simp; all_goals (try first | rfl | omega)
                try simp only [Act.put, List.getElem_toArray, List.getElem_cons_succ, List.getElem_cons_zero, List.setIfInBounds_toArray, List.set_cons_zero, List.set_cons_succ]
                refine wpAnyH_done (by kernel_rfl) ?_ _
                obtain ⟨wt, hwt⟩ : ∃ wt, wt = wd := ⟨_, rfl⟩
                rw [← hwt] at hHeld HBd ⊢
                clear hwt
                replace HXs := Lib.hid (HXs.out.belowS HBd.out)
                replace HDs := Lib.hid (HDs.out.below HBd.out (fun _ h => h))
                replace HSs := Lib.hid (HSs.out.below HBd.out (fun _ h => h))
                replace HYs := Lib.hid (HYs.out.belowS HBd.out)
                replace J1 := Lib.hid (J1.out.below HBd.out (fun _ h => h))
                replace J2 := Lib.hid (J2.out.below HBd.out (fun _ h => h))
                replace HBs := Lib.hid (HBs.out.trans (HBd.out.mono HBs.out.size))
                replace HBs6 := Lib.hid (HBs6.out.trans (HBd.out.mono HBs6.out.size))
                replace HQ := Lib.hid ((HBd.out.cell (p := ⟨bc, oc + n * 5 + 1, none⟩) hbn).trans HQ.out)
                replace hbn : bc < wt.heap.size := Nat.lt_of_lt_of_le hbn HBd.out.size
                clear hHeld HST HPP HEP HIN HBd zwd
                go_upto_region 14 with fail
                refine wp_region_held_drew (S := fun w' => Below wt.heap.size wt w') (by kernel_rfl) (by exact (Below.refl _ _).drew) (fun hHeld => ?_)
                obtain ⟨wd, hwd⟩ : ∃ wd, wd = wt.drew := ⟨_, rfl⟩
                rw [← hwd] at hHeld ⊢
                have HBd := Lib.hid (show Below wt.heap.size wt wd from hHeld)
                have zwd : wt.heap.size ≤ wd.heap.size := by rw [hwd]; exact Nat.le_refl _
                clear hwd
                refine wpAnyH_take (i := 0) (v := .int .i64 (n : Int)) rfl (by kernel_rfl) (by kernel_rfl) (by kernel_rfl) (fun _ _ _ h => h) (Or.inl ⟨by rfl, fun w hSw => ?_⟩) hHeld ?_
                · clear hSw; go_simp; all_goals (try first | rfl | omega)
                try simp only [Act.put, List.getElem_toArray, List.getElem_cons_succ, List.getElem_cons_zero, List.setIfInBounds_toArray, List.set_cons_zero, List.set_cons_succ]
                refine wpAnyH_take (i := 1) (v := .bool false) rfl (by kernel_rfl) (by kernel_rfl) (by kernel_rfl) (fun _ _ _ h => h) (Or.inl ⟨by rfl, fun w hSw => ?_⟩) hHeld ?_
                · clear hSw; go_simp; all_goals (try first | rfl | omega)
                try simp only [Act.put, List.getElem_toArray, List.getElem_cons_succ, List.getElem_cons_zero, List.setIfInBounds_toArray, List.set_cons_zero, List.set_cons_succ]
                refine wpAnyH_take (i := 2) (v := .bool false) rfl (by kernel_rfl) (by kernel_rfl) (by kernel_rfl) (fun _ _ _ h => h) (Or.inl ⟨by rfl, fun w hSw => ?_⟩) hHeld ?_
                · clear hSw; go_simp; all_goals (try first | rfl | omega)
                try simp only [Act.put, List.getElem_toArray, List.getElem_cons_succ, List.getElem_cons_zero, List.setIfInBounds_toArray, List.set_cons_zero, List.set_cons_succ]
                refine wpAnyH_take (i := 3) (v := .pointer (some ⟨w1.heap.size, 0, none⟩)) rfl (by kernel_rfl) (by kernel_rfl) (by kernel_rfl) (fun _ _ _ h => h) (Or.inl ⟨by rfl, fun w hSw => ?_⟩) hHeld ?_
                · clear hSw; go_simp; all_goals (try first | rfl | omega)
                try simp only [Act.put, List.getElem_toArray, List.getElem_cons_succ, List.getElem_cons_zero, List.setIfInBounds_toArray, List.set_cons_zero, List.set_cons_succ]
                refine wpAnyH_take (i := 4) (v := .slice (some ⟨bc, oc, none⟩) L.length capd) rfl (by kernel_rfl) (by kernel_rfl) (by kernel_rfl) (fun _ _ _ h => h) (Or.inl ⟨by rfl, fun w hSw => ?_⟩) hHeld ?_
                · have q0 := (HXs.out.belowS hSw).cell 0 rfl; clear hSw; go_simp
                try simp only [Act.put, List.getElem_toArray, List.getElem_cons_succ, List.getElem_cons_zero, List.setIfInBounds_toArray, List.set_cons_zero, List.set_cons_succ]
                refine wpAnyH_take (i := 5) (v := .int .i64 (n : Int)) rfl (by kernel_rfl) (by kernel_rfl) (by kernel_rfl) (fun _ _ _ h => h) (Or.inl ⟨by rfl, fun w hSw => ?_⟩) hHeld ?_
                · clear hSw; go_simp; all_goals (try first | rfl | omega)
                try simp only [Act.put, List.getElem_toArray, List.getElem_cons_succ, List.getElem_cons_zero, List.setIfInBounds_toArray, List.set_cons_zero, List.set_cons_succ]
                refine wpAnyH_take (i := 6) (v := .pointer (some ⟨bc, oc + n * 5, none⟩)) rfl (by kernel_rfl) (by kernel_rfl) (by kernel_rfl) (fun _ _ _ h => h) (Or.inl ⟨by rfl, fun w hSw => ?_⟩) hHeld ?_
                · clear hSw; go_simp; all_goals (try first | rfl | omega)
                try simp only [Act.put, List.getElem_toArray, List.getElem_cons_succ, List.getElem_cons_zero, List.setIfInBounds_toArray, List.set_cons_zero, List.set_cons_succ]
                refine wpAnyH_take (i := 7) (v := .pointer (some ⟨bc, oc + n * 5, none⟩)) rfl (by kernel_rfl) (by kernel_rfl) (by kernel_rfl) (fun _ _ _ h => h) (Or.inl ⟨by rfl, fun w hSw => ?_⟩) hHeld ?_
                · clear hSw; go_simp; all_goals (try first | rfl | omega)
                try simp only [Act.put, List.getElem_toArray, List.getElem_cons_succ, List.getElem_cons_zero, List.setIfInBounds_toArray, List.set_cons_zero, List.set_cons_succ]
                refine wpAnyH_take (i := 8) (v := .pointer (some ⟨bc, oc + n * 5 + 1, none⟩)) rfl (by kernel_rfl) (by kernel_rfl) (by kernel_rfl) (fun _ _ _ h => h) (Or.inl ⟨by rfl, fun w hSw => ?_⟩) hHeld ?_
                · clear hSw; go_simp; all_goals (try first | rfl | omega)
                try simp only [Act.put, List.getElem_toArray, List.getElem_cons_succ, List.getElem_cons_zero, List.setIfInBounds_toArray, List.set_cons_zero, List.set_cons_succ]
                refine wpAnyH_take (i := 9) (v := .int .i64 (c.h.r - 1)) rfl (by kernel_rfl) (by kernel_rfl) (by kernel_rfl) (fun _ _ _ h => h) (Or.inl ⟨by rfl, fun w hSw => ?_⟩) hHeld ?_
                · have q0 := (hSw.cell (p := ⟨bc, oc + n * 5 + 1, none⟩) hbn).trans HQ.out; clear hSw; go_simp
                try simp only [Act.put, List.getElem_toArray, List.getElem_cons_succ, List.getElem_cons_zero, List.setIfInBounds_toArray, List.set_cons_zero, List.set_cons_succ]
                refine wpAnyH_take (i := 10) (v := .pointer (some ⟨wo.heap.size, 1, none⟩)) rfl (by kernel_rfl) (by kernel_rfl) (by kernel_rfl) (fun _ _ _ h => h) (Or.inl ⟨by rfl, fun w hSw => ?_⟩) hHeld ?_
                · clear hSw; go_simp; all_goals (try first | rfl | omega)
                try simp only [Act.put, List.getElem_toArray, List.getElem_cons_succ, List.getElem_cons_zero, List.setIfInBounds_toArray, List.set_cons_zero, List.set_cons_succ]
                refine wpAnyH_take (i := 11) (v := .int .i64 c.h.r) rfl (by kernel_rfl) (by kernel_rfl) (by kernel_rfl) (fun _ _ _ h => h) (Or.inl ⟨by rfl, fun w hSw => ?_⟩) hHeld ?_
                · have q0 := (HYs.out.belowS hSw).cell 1 rfl; clear hSw; go_simp
                try simp only [Act.put, List.getElem_toArray, List.getElem_cons_succ, List.getElem_cons_zero, List.setIfInBounds_toArray, List.set_cons_zero, List.set_cons_succ]
                refine wpAnyH_take (i := 12) (v := .int .i64 (c.h.r - 1)) rfl (by kernel_rfl) (by kernel_rfl) (by kernel_rfl) (fun _ _ _ h => h) (Or.inl ⟨by rfl, fun w hSw => ?_⟩) hHeld ?_
                · clear hSw; go_simp; all_goals (try first | rfl | omega)
                try simp only [Act.put, List.getElem_toArray, List.getElem_cons_succ, List.getElem_cons_zero, List.setIfInBounds_toArray, List.set_cons_zero, List.set_cons_succ]
                refine wpAnyH_take (i := 13) (v := .bool false) rfl (by kernel_rfl) (by kernel_rfl) (by kernel_rfl) (fun _ _ _ h => h) (Or.inl ⟨by rfl, fun w hSw => ?_⟩) hHeld ?_
                · clear hSw; go_simp; all_goals (try first | rfl | omega)
                try simp only [Act.put, List.getElem_toArray, List.getElem_cons_succ, List.getElem_cons_zero, List.setIfInBounds_toArray, List.set_cons_zero, List.set_cons_succ]
                refine wpAnyH_take (i := 14) (v := .bool false) rfl (by kernel_rfl) (by kernel_rfl) (by kernel_rfl) (fun _ _ _ h => h) (Or.inl ⟨by rfl, fun w hSw => ?_⟩) hHeld ?_
                · clear hSw; go_simp; all_goals (try first | rfl | omega)
                try simp only [Act.put, List.getElem_toArray, List.getElem_cons_succ, List.getElem_cons_zero, List.setIfInBounds_toArray, List.set_cons_zero, List.set_cons_succ]
                refine wpAnyH_done (by kernel_rfl) ?_ _
                replace HXs := Lib.hid (HXs.out.belowS HBd.out)
                replace HDs := Lib.hid (HDs.out.below HBd.out (fun _ h => h))
                replace HSs := Lib.hid (HSs.out.below HBd.out (fun _ h => h))
                replace HYs := Lib.hid (HYs.out.belowS HBd.out)
                replace J1 := Lib.hid (J1.out.below HBd.out (fun _ h => h))
                replace J2 := Lib.hid (J2.out.below HBd.out (fun _ h => h))
                replace HBs := Lib.hid (HBs.out.trans (HBd.out.mono HBs.out.size))
                replace HBs6 := Lib.hid (HBs6.out.trans (HBd.out.mono HBs6.out.size))
                clear hHeld
                go_wp2
                go_roundw
                case rel => exact ⟨j + 1, by omega, by go_num, HBs6.out⟩
                case measure => simp [intOf]; omega
              exact AllReadyH.nil
            · obtain rfl : j = c.h.ps.length := by omega
              have HBE := Lib.hid HBs6.out
              go_wp2_with fail
              refine (dagMissing_any c.h _ _ _ _ HDs.out (J1.out.mono (G' := fun _ => True) (fun _ _ => trivial)) (J2.out.mono (G' := fun _ => True) (fun _ _ => trivial)) (HT.out.belowS (HB.out.trans (HBs.out.mono HB.out.size))) HOK.out).mono ?_
              rintro e w8 ⟨v8, rfl, h8, hb8⟩
              obtain ⟨ad8, cap8, rfl, -, -⟩ := h8.form
              rw [HMi.out.1, HMi.out.2]
              have HBF := Lib.hid (HBs.out.trans (hb8.mono HBs.out.size))
              clear h8 hb8 y0 y1 y2 y3 x0
              go_wp2
              go_roundw
              case rel => exact ⟨k + 1, by omega, by go_num, HBF.out⟩
              case measure => simp [intOf]; omega
      exact AllReadyH.nil
    · obtain rfl : k = L.length := by omega
      have HF1 := Lib.hid (closed_one L)
      have hB9 : Below wo.heap.size wo (wo.alloc (.cells #[.int .u8 1] 5)) := (Below.refl _ _).alloc (Nat.le_refl _) _
      have H1o := Lib.hid (show RdB (fun _ => True) (wo.alloc (.cells #[.int .u8 1] 5)) (.slice (some ⟨wo.heap.size, 0, none⟩) 1 1) [1] from RdS.of_box (l := [1]) (cap := 1) (BoxAt.new wo [.int .u8 1] _) trivial (by simp) (by unfold maxLen; simp))
      have HDo := Lib.hid (HDr.out.below hB9 (fun _ h => h))
      have HTo := Lib.hid (show Tabs (wo.alloc (.cells #[.int .u8 1] 5)) from HT.out.belowS ((HB.out.trans (HBr.out.mono HB.out.size)).trans (hB9.mono (Below.size (HB.out.trans (HBr.out.mono HB.out.size))))))
      go_wp2_with fail
      refine (dagFind_any _ _ _ HDo.out H1o.out HTo.out HOK.out).mono ?_
      rintro e w8 ⟨vb, vp, vv, rfl, hvb, hvp, hvv, hb8⟩
      rw [HF1.out.1, HF1.out.2] at *
      obtain ⟨ab, cb, rfl, -, -⟩ := hvb.form
      obtain ⟨ap, cp, rfl, -, -⟩ := hvp.form
      obtain ⟨av, cv, rfl, -, -⟩ := hvv.form
      have hB8 := hB9.trans (hb8.mono hB9.size)
      replace HXr := Lib.hid (HXr.out.belowS hB8)
      replace HDr := Lib.hid (HDr.out.below hB8 (fun _ h => h))
      replace HBr := Lib.hid (HBr.out.trans (hB8.mono HBr.out.size))
      clear hvb hvp hvv hb8 hB8 hB9 H1o HDo HTo x0
      go_upto_region 20 with fail
      obtain ⟨w9, hwl⟩ : ∃ w9, w9 = (w8.alloc (.cells #[.int .i64 crtZ.h.a, .int .i64 crtZ.h.r, .slice ab crtZ.h.bs.length cb, .slice ap crtZ.h.ps.length cp, .slice av crtZ.vs.length cv] 38)) := ⟨_, rfl⟩
      have hBl : Below w8.heap.size w8 w9 := by rw [hwl]; exact ((Below.refl _ _).alloc (by first | exact Nat.le_refl _ | (simp; done) | (simp; omega)) _)
      rw [← hwl]
      replace HXr := Lib.hid (HXr.out.belowS hBl)
      replace HDr := Lib.hid (HDr.out.below hBl (fun _ h => h))
      replace HBr := Lib.hid (HBr.out.trans (hBl.mono HBr.out.size))
      clear hwl hBl
      have HC := Lib.hid (dagCode_zero.2 HOK.out)
      have x0 := HXr.out.cell 0 rfl
      have hgp' : (0 : Int) < (L.length : Int) := by omega
      go_wp2_with fail
      refine (dagCheck_any _ _ HDr.out (HT.out.belowS (HB.out.trans (HBr.out.mono HB.out.size)))).mono ?_
      rintro e wa ⟨rfl, hba⟩
      rw [HC.out]
      have x0 := (HXr.out.belowS hba).cell 0 rfl
      have HBE := Lib.hid (HB.out.trans ((HBr.out.trans (hba.mono HBr.out.size)).mono HB.out.size))
      clear hba
      go_wp2
      go_ret
      exact ⟨true, rfl, fun _ => rfl, HBE.out⟩
end Go.Proofs.YtlailhhffejbbaaDoor

/- DagClosed: the walk. -/
set_option linter.unusedVariables false
set_option linter.unusedSimpArgs false
attribute [local go_sem ↓] Go.wp_at_zero Go.wp_at_succ
namespace Go.Proofs.YtlailhhffejbbaaDoor
open Go Go.RowKit

theorem gsum_nodup {l : List Stp} (h : gsumB l = false) : (crtSums (grownL l)).Nodup := clear_of (grown_ok l) h
set_option maxRecDepth 100000 in
set_option maxHeartbeats 8000000 in
theorem dagClosed_walk (v : Value) (l : List Stp) (w : World) (hv : RdS RStp (fun _ => True) w v l) (hz : l.length * 24 ≤ reachBytes) (ht : Tabs w) :
    Calls Tryd.prog 9 #[v] w fun e w' => e = .returned (.bool true) ∧ Below w.heap.size w w' := by
  go_enter Tryd.func9, Tryd.ntmps9
  go_wp2_with fail
  refine (dagClosed_any _ l _ hv hz ht).mono ?_
  rintro e w1 ⟨b, rfl, hn, hb1⟩
  have HN := Lib.hid hn
  clear hn
  cases b with
  | true =>
    go_wp2
    go_ret
    exact ⟨rfl, hb1⟩
  | false =>
    have hg : gsumB l = true := by
      by_cases q : gsumB l = true
      · exact q
      · have := HN.out (gsum_nodup (by simpa using q)); cases this
    go_wp2_with fail
    refine (grownSum_any _ _ (hv.below hb1 (fun _ h => h)) hz (ht.belowS hb1)).mono ?_
    rintro e w2 ⟨rfl, hb2⟩
    rw [hg]
    go_wp2
    go_ret
    exact ⟨rfl, hb1.trans (hb2.mono hb1.size)⟩
end Go.Proofs.YtlailhhffejbbaaDoor
