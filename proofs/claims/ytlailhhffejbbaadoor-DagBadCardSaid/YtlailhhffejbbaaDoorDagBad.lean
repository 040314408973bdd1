import Derived.Test.YtlailhhffejbbaaDoorDag10
import Derived.Test.YtlailhhffejbbaaDoorOneSum
import Derived.Test.YtlailhhffejbbaaDoorGrown
import Derived.Test.YtlailhhffejbbaaDoorBas
import Derived.Test.YtlailhhffejbbaaDoorInsLaw
import Derived.Test.YtlailhhffejbbaaDoorDag11
import Derived.Test.YtlailhhffejbbaaDoorDOf
/- sheaveskeep.headers: what it makes. -/
set_option linter.unusedVariables false
set_option linter.unusedSimpArgs false
attribute [local go_sem ↓] Go.wp_at_zero Go.wp_at_succ
namespace Go.Proofs.YtlailhhffejbbaaDoor
open Go Go.RowKit

theorem elemHdrD : ElemOk Tryd.prog 54 36 4 64 := elemOk_of (z := .agg #[.int .i64 0, .int .i64 0, .slice none 0 0, .slice none 0 0]) (by kernel_rfl) (by kernel_rfl) rfl (by decide)
def hdrsOf (l : List Crt) : List Hdr := l.map (·.h)
theorem hdrsOf_len (l : List Crt) : (hdrsOf l).length = l.length := by simp [hdrsOf]
theorem hdrsOf_succ {l : List Crt} {k : Nat} (h : k < l.length) : hdrsOf (l.take (k + 1)) = hdrsOf (l.take k) ++ [l[k].h] := by
  unfold hdrsOf; rw [List.take_succ_eq_append_getElem h, List.map_append]; rfl
set_option maxRecDepth 100000 in
set_option maxHeartbeats 8000000 in
theorem headers_any {G : Nat → Prop} {l : List Crt} (v : Value) (w : World) (h : RdS RCert G w v l) (hl : l.length ≤ 1000) :
    Calls Tryd.prog 37 #[.agg #[v]] w fun e w' => ∃ (ado : Option Addr) (capo : Nat), e = .returned (.slice ado l.length capo) ∧ LstO RHdr (fun b => G b ∧ b < w.heap.size) (w.heap.size + 1) 36 w' (.slice ado l.length capo) (hdrsOf l) ∧ Below w.heap.size w w' := by
  obtain ⟨ad, cap, rfl, hcap, hm⟩ := h.form
  unfold maxLen at hm
  have hb0 := (Below.refl w.heap.size w).alloc (Nat.le_refl _) (.cells #[.slice ad l.length cap] 27)
  have HV := Lib.hid ((h.low (by decide)).below hb0 (fun _ h => h))
  have HB := Lib.hid hb0
  have HX := Lib.hid (BoxAt.new w [.slice ad l.length cap] 27)
  clear h hb0
  go_enter Tryd.func37, Tryd.ntmps37
  go_upto_region 1 with fail
  obtain ⟨w0, hw0⟩ : ∃ w0, w0 = w.alloc (.cells #[.slice ad l.length cap] 27) := ⟨_, rfl⟩
  rw [← hw0] at HV HX HB ⊢
  have hz0 := HX.out.lt
  have hz1 : w0.heap.size = w.heap.size + 1 := by rw [hw0]; simp
  have hz2 : w0.heap.size ≤ w.heap.size + 1 := by omega
  have hz3 : w.heap.size + 1 ≤ w0.heap.size := by omega
  clear hw0 hz1
  go_wp2_with fail
  go_loopw [3, 4] (fun o i wr => ∃ (k : Nat) (ado : Option Addr) (capo : Nat), k ≤ l.length ∧ i = .int .i64 k ∧ o = .slice ado k capo ∧ LstO RHdr (fun b => G b ∧ b < w.heap.size) (w.heap.size + 1) 36 wr (.slice ado k capo) (hdrsOf (l.take k)) ∧ Below w0.heap.size w0 wr) (fun _ i _ => l.length - (intOf i).toNat)
  case atStart => exact ⟨0, none, 0, Nat.zero_le _, rfl, rfl, LstO.nil _ _ _ _ _, Below.refl _ _⟩
  case round =>
    obtain ⟨k, ado, capo, hk, rfl, rfl, hL, hB⟩ := hrel
    have hz := hB.size
    have HBr := Lib.hid hB
    have x0 := (HX.out.belowS hB).cell 0 rfl
    have hzx := (HX.out.belowS hB).lt
    by_cases hlt : k < l.length
    · have i0 : (0 : Int) ≤ (k : Int) := by omega
      have i1 : (k : Int) < (l.length : Int) := by omega
      have wk : IntKind.i64.wrap ((k : Int) + 1) = (k : Int) + 1 := IntWalk.i64_in _ (by omega)
      obtain ⟨vals, hv⟩ := hL.valsOf
      have hvlt := hv.lt
      have HLr := Lib.hid hv
      have HKL := Lib.hid (show (hdrsOf (l.take k)).length = k by rw [hdrsOf_len, List.length_take]; omega)
      have HMS := Lib.hid (hdrsOf_succ hlt)
      obtain ⟨b, o, ub, up, uv, rfl, -, e0, e1, e2, e3, e4, hb', hp', -⟩ := (HV.out.below hB (fun _ h => h)).crt k hlt
      generalize l[k] = c at *
      obtain ⟨adb, capb, rfl, -, -⟩ := hb'.form
      obtain ⟨adp, capp, rfl, -, -⟩ := hp'.form
      have H1 := Lib.hid hb'
      have H2 := Lib.hid hp'
      clear hb' hp' hv hL hB
      go_wp2_with (at_builtin; refine wpList_append_one rfl _ _ 54 rfl elemHdrD (w.heap.size + 1) _ k vals rfl (by have h := (HLr.out.alloc (.cells #[.int .i64 c.h.a, .int .i64 c.h.r, .slice adb c.h.bs.length capb, .slice adp c.h.ps.length capp] 36)).own; rw [HKL.out] at h; exact h) wr.heap.size 36 [.int .i64 c.h.a, .int .i64 c.h.r, .slice adb c.h.bs.length capb, .slice adp c.h.ps.length capp] rfl (BoxAt.new wr [_, _, _, _] _) rfl (by simp [Value.oneCell']) (by unfold maxLen; omega) (by omega) (by simp; omega) ?_; intro g cap6 w6 hown6 hgr6 hat6 hlt6)
      have hx : RHdr.rd (fun b => (G b ∧ b < w.heap.size) ∧ b < (wr.alloc (.cells #[.int .i64 c.h.a, .int .i64 c.h.r, .slice adb c.h.bs.length capb, .slice adp c.h.ps.length capp] 36)).heap.size ∧ (Value.slice ado k capo).ownBlock ≠ some b) (wr.alloc (.cells #[.int .i64 c.h.a, .int .i64 c.h.r, .slice adb c.h.bs.length capb, .slice adp c.h.ps.length capp] 36)) [.int .i64 c.h.a, .int .i64 c.h.r, .slice adb c.h.bs.length capb, .slice adp c.h.ps.length capp] c.h :=
        ⟨_, _, rfl, H1.out.keep (Keep.alloc _ _ _) (fun b hb => ⟨hb, by have := hb.2; simp; omega, fun e => by have h1 := hb.2; have := (hvlt _ e).1; omega⟩), H2.out.keep (Keep.alloc _ _ _) (fun b hb => ⟨hb, by have := hb.2; simp; omega, fun e => by have h1 := hb.2; have := (hvlt _ e).1; omega⟩)⟩
      have hP := (HLr.out.alloc (.cells #[.int .i64 c.h.a, .int .i64 c.h.r, .slice adb c.h.bs.length capb, .slice adp c.h.ps.length capp] 36)).push hx (by rw [HKL.out]; exact hown6) hgr6 hat6
      rw [HKL.out, ← HMS.out] at hP
      have HP := Lib.hid hP
      have HB6 := Lib.hid (show Below w0.heap.size w0 w6 from ((HBr.out).alloc (by omega) (.cells #[.int .i64 c.h.a, .int .i64 c.h.r, .slice adb c.h.bs.length capb, .slice adp c.h.ps.length capp] 36)).grown hgr6 (by simp; omega) (fun k hk => by have := (hvlt _ hk).1; omega))
      clear hP hx hown6 e0 e1 e2 e3 e4 x0
      go_wp2
      go_roundw
      case rel => exact ⟨k + 1, some ⟨g, 0, none⟩, cap6, by omega, by go_num, rfl, HP.out, HB6.out⟩
      case measure => simp [intOf]; omega
    · obtain rfl : k = l.length := by omega
      rw [List.take_length] at hL
      have HM := Lib.hid hL
      have HBE := Lib.hid (HB.out.trans (HBr.out.mono HB.out.size))
      clear hL hB
      have t1 : ¬ (l.length : Int) < (l.length : Int) := by omega
      go_wp2
      go_ret
      exact ⟨_, _, rfl, HM.out, HBE.out⟩
end Go.Proofs.YtlailhhffejbbaaDoor

/- A dag whose headers have no two unlike ones of one sum: its digests are all different. -/
set_option linter.unusedVariables false
set_option linter.unusedSimpArgs false
attribute [local go_sem ↓] Go.wp_at_zero Go.wp_at_succ
namespace Go.Proofs.YtlailhhffejbbaaDoor
open Go Go.RowKit

theorem anyPair_down {α : Type} {p : α → α → Bool} {l : List α} : ∀ m : Nat, m ≤ l.length → anyPair p (l.take m) (l.drop m) = true → anyPair p [] l = true
  | 0, _, h => by simpa using h
  | m + 1, hm, h => anyPair_down m (by omega) (by
      rw [List.drop_eq_getElem_cons (show m < l.length by omega), anyPair, ← List.take_succ_eq_append_getElem (show m < l.length by omega), h, Bool.or_true])
theorem anyPair_at {α : Type} {p : α → α → Bool} {l : List α} {k j : Nat} (hk : k < l.length) (hj : j < k) (h : p l[k] (l[j]'(by omega)) = true) : anyPair p [] l = true :=
  anyPair_down k (by omega) (anyPair_hit hk hj h)
/-- The digests of a dag are all different, or two unlike headers have one sum. -/
theorem clear_of {l : List Crt} (hok : dagOk l = true) {X : List Hdr} {B : List Bat} (h : oneSumL (hdrsOf l ++ X) B = false) : (crtSums l).Nodup := by
  have hS := dagOk_solo hok
  have hH : ∀ c ∈ l, hdrCode c.h = 0 := fun c hc => (crt_partsP ((dagOk_iff.1 hok).2.1 c hc)).1
  rw [List.nodup_iff_pairwise_ne, List.pairwise_iff_getElem]
  intro i j hi hj hij he
  have hi' : i < l.length := by rw [crtSums_len] at hi; exact hi
  have hj' : j < l.length := by rw [crtSums_len] at hj; exact hj
  have e1 : (crtSums l)[i] = hdrSum l[i].h := by simp [crtSums, crtSum]
  have e2 : (crtSums l)[j] = hdrSum l[j].h := by simp [crtSums, crtSum]
  rw [e1, e2] at he
  have hkey : ¬ (l[i].h.a = l[j].h.a ∧ l[i].h.r = l[j].h.r) := (List.pairwise_iff_getElem.1 hS.2) i j hi' hj' hij
  have g1 : (hdrsOf l ++ X)[j]'(by simp [hdrsOf]; omega) = l[j].h := by rw [List.getElem_append_left (by simp [hdrsOf]; omega)]; simp [hdrsOf]
  have g2 : (hdrsOf l ++ X)[i]'(by simp [hdrsOf]; omega) = l[i].h := by rw [List.getElem_append_left (by simp [hdrsOf]; omega)]; simp [hdrsOf]
  have hp : pairH ((hdrsOf l ++ X)[j]'(by simp [hdrsOf]; omega)) ((hdrsOf l ++ X)[i]'(by simp [hdrsOf]; omega)) = true := by
    rw [g1, g2]
    unfold pairH
    refine decide_eq_true ⟨hH _ (List.getElem_mem hj'), hH _ (List.getElem_mem hi'), he.symm, ?_⟩
    unfold sameH
    exact decide_eq_false (fun q => hkey ⟨q.1.symm, q.2.1.symm⟩)
  have ht := anyPair_at (p := pairH) (l := hdrsOf l ++ X) (by simp [hdrsOf]; omega) hij hp
  unfold oneSumL at h
  rw [ht] at h
  simp at h
/-- Where digests are all different, a digest is found at its own place. -/
theorem idx_clear {l : List Crt} (hn : (crtSums l).Nodup) {k : Nat} (hk : k < l.length) : idxP (isB (crtSum l[k])) (crtSums l) = k := by
  have hkS : k < (crtSums l).length := by rw [crtSums_len]; exact hk
  have e : (crtSums l)[k] = crtSum l[k] := by simp [crtSums]
  refine idxP_hit hkS (fun j hj x hx => ?_) (by unfold isB; exact decide_eq_true e)
  unfold isB
  refine decide_eq_false (fun q => ?_)
  have hjS : j < (crtSums l).length := by omega
  rw [List.getElem?_eq_getElem hjS] at hx
  have hx' := Option.some.inj hx
  rw [List.nodup_iff_pairwise_ne, List.pairwise_iff_getElem] at hn
  exact hn j k hjS hkS hj (by rw [hx', q, e])
theorem find_clear {l : List Crt} (hn : (crtSums l).Nodup) {k : Nat} (hk : k < l.length) : idxP (isB (crtSum l[k])) (crtSums l) = k := idx_clear hn hk
end Go.Proofs.YtlailhhffejbbaaDoor

/- sheaveskeep.grownSum: what it computes. -/
set_option linter.unusedVariables false
set_option linter.unusedSimpArgs false
attribute [local go_sem ↓] Go.wp_at_zero Go.wp_at_succ
namespace Go.Proofs.YtlailhhffejbbaaDoor
open Go Go.RowKit

/-- Two lists one behind the other. -/
theorem RdS.ofAppend2 {α : Type} {R : Rel α} {w : World} {base e : Nat} {v : Value} {l1 l2 : List α} {vals news : List Value} (hs : 0 < R.size) (h0 : vals.length = l1.length * R.size)
    (hown : w.ownsRow base e R.size v (l1.length + l2.length) (vals ++ news)) (h1 : ∀ j x, l1[j]? = some x → R.rd (fun _ => True) w ((vals.drop (j * R.size)).take R.size) x) (h2 : ∀ j x, l2[j]? = some x → R.rd (fun _ => True) w ((news.drop (j * R.size)).take R.size) x) :
    RdS R (fun _ => True) w v (l1 ++ l2) := by
  obtain ⟨hl, hown'⟩ := hown
  rcases hown' with ⟨rfl, h0'⟩ | ⟨g, cap, cur, rfl, hbg, hg, k1, k2, k3, k4⟩
  · have e1 : l1 = [] := List.eq_nil_of_length_eq_zero (by omega)
    have e2 : l2 = [] := List.eq_nil_of_length_eq_zero (by omega)
    subst e1 e2; exact RdS.nil _ _ _
  · refine ⟨some ⟨g, 0, none⟩, cap, by rw [List.length_append], by rw [List.length_append]; exact k1, k2, fun h => by simp at h, fun j x hx => ?_⟩
    have hj : j < l1.length + l2.length := by
      rcases Nat.lt_or_ge j (l1 ++ l2).length with h | h
      · simpa using h
      · rw [List.getElem?_eq_none h] at hx; simp at hx
    have hle : (j + 1) * R.size ≤ (l1.length + l2.length) * R.size := Nat.mul_le_mul_right _ hj
    rw [Nat.add_mul, Nat.one_mul] at hle
    have hr : R.rd (fun _ => True) w (((vals ++ news).drop (j * R.size)).take R.size) x := by
      rcases Nat.lt_or_ge j l1.length with h | h
      · rw [List.getElem?_append_left h] at hx
        have hle2 : (j + 1) * R.size ≤ l1.length * R.size := Nat.mul_le_mul_right _ h
        rw [Nat.add_mul, Nat.one_mul] at hle2
        rw [List.drop_append_of_le_length (by omega), List.take_append_of_le_length (by simp; omega)]
        exact h1 j x hx
      · rw [List.getElem?_append_right h] at hx
        have e : j * R.size = vals.length + (j - l1.length) * R.size := by rw [h0, ← Nat.add_mul]; congr 1; omega
        rw [e, ← List.drop_drop, List.drop_left' rfl]
        exact h2 _ x hx
    refine ⟨g, 0, _, rfl, trivial, fun t c ht => ?_, hr⟩
    have hlen := R.len hr
    have ht' : t < R.size := by
      rcases Nat.lt_or_ge t R.size with h | h
      · exact h
      · rw [List.getElem?_eq_none (by omega)] at ht; simp at ht
    rw [List.getElem?_take_of_lt ht', List.getElem?_drop, ← k4, List.getElem?_take_of_lt (by omega)] at ht
    simp [World.cell?, hg]
    simpa using ht
theorem LstO.baseMono {α : Type} {R : Rel α} {G : Nat → Prop} {base base' e : Nat} {w : World} {v : Value} {l : List α} (h : LstO R G base e w v l) (hb : base' ≤ base) : LstO R G base' e w v l := by
  obtain ⟨vals, h1, h2⟩ := h
  exact ⟨vals, ownsRow_mono h1 hb, h2⟩
def gsumB (l : List Stp) : Bool := oneSumL (hdrsOf (grownL l) ++ hdrsOf (grownL (l.take 12))) (grownBs l ++ grownBs (l.take 12))
theorem batTo_mono (l : List Stp) (n : Nat) : ∀ m, n ≤ m → (batTo l n).length ≤ (batTo l m).length
  | 0, h => by obtain rfl : n = 0 := by omega
               exact Nat.le_refl _
  | m + 1, h => by
    rcases Nat.lt_or_ge m n with q | q
    · obtain rfl : n = m + 1 := by omega
      exact Nat.le_refl _
    · have h1 := batTo_mono l n m q
      have h2 : (batTo l m).length ≤ (batTo l (m + 1)).length := by simp [batTo]
      omega
theorem own_zero {w : World} {base e k a b : Nat} {v : Value} {l m : List Value} (h : w.ownsRow base e k v (0 + a + b) ([] ++ l ++ m)) : w.ownsRow base e k v (a + b) (l ++ m) := by
  rw [Nat.zero_add] at h; exact h
theorem take_min12 {α : Type} (l : List α) : l.take (min l.length 12) = l.take 12 := by
  rcases Nat.le_total l.length 12 with q | q
  · rw [Nat.min_eq_left q, List.take_length, List.take_of_length_le q]
  · rw [Nat.min_eq_right q]
theorem grownBs_pos (l : List Stp) : 0 < (grownBs l).length := by
  have h1 : (batTo (stp1 :: l) 1).length = 1 := by
    show (batTo (stp1 :: l) 0 ++ stpBs 0 stp1 (stpN stp1)).length = 1
    rw [List.length_append, stpBs_len]
    show 0 + stpN stp1 = 1
    decide
  have h2 := batTo_mono (stp1 :: l) 1 (stpMany (stp1 :: l)) (by unfold stpMany; simp; omega)
  show 0 < (batTo (stp1 :: l) (stpMany (stp1 :: l))).length
  omega
theorem grownBs_len (l : List Stp) : (grownBs l).length ≤ 48 := by
  have := batTo_len (stp1 :: l) (stpMany (stp1 :: l))
  have h : stpMany (stp1 :: l) ≤ 24 := by unfold stpMany; omega
  show (batTo (stp1 :: l) (stpMany (stp1 :: l))).length ≤ 48
  omega
theorem lst_steps {w w' : World} {base e : Nat} {v : Value} {l : List Stp} {news : List Value} (hown : w.ownsRow base e 3 v l.length news) (h : ∀ j x, l[j]? = some x → RStp.rd (fun _ => True) w' ((news.drop (j * 3)).take 3) x) :
    LstO RStp (fun _ => True) base e w v l := ⟨news, hown, fun j x hx => h j x hx⟩
set_option maxRecDepth 100000 in
set_option maxHeartbeats 8000000 in
theorem grownSum_any {l : List Stp} (v : Value) (w : World) (hv : RdS RStp (fun _ => True) w v l) (hz : l.length * 24 ≤ reachBytes) (ht : Tabs w) :
    Calls Tryd.prog 17 #[v, .slice none 0 0] w fun e w' => e = .returned (.bool (gsumB l)) ∧ Below w.heap.size w w' := by
  have HT := Lib.hid ht
  have hlz : l.length * 24 ≤ 140737488351232 := hz
  obtain ⟨adl, capl, rfl, hcl, hml⟩ := hv.form
  unfold maxLen at hml
  have HV := Lib.hid hv
  obtain ⟨m, hm⟩ : ∃ m, m = min l.length 12 := ⟨_, rfl⟩
  have hm1 : m ≤ l.length := by omega
  have hm2 : m ≤ 12 := by omega
  have hm3 : ((l.length : Int) ≤ 12 ∧ (m : Int) = (l.length : Int)) ∨ (¬ (l.length : Int) ≤ 12 ∧ (m : Int) = 12) := by omega
  have HM3 := Lib.hid hm3
  have HTK := Lib.hid (show l.take m = l.take 12 by rw [hm]; exact take_min12 l)
  have htl : (l.take m).length = m := by rw [List.length_take]; omega
  have HTL := Lib.hid htl
  have HZ2 := Lib.hid (show (l.take m).length * 24 ≤ reachBytes by rw [htl]; exact Nat.le_trans (Nat.mul_le_mul_right _ hm1) hz)
  clear hv ht hm hm3 htl
  go_enter Tryd.func17, Tryd.ntmps17
  go_wp2_with fail
  refine (grown_any _ _ HV.out hz HT.out).mono ?_
  rintro e w1 ⟨vd, vb, rfl, hd, hb, hb1⟩
  obtain ⟨add, capd, rfl, -, -⟩ := hd.form
  obtain ⟨adb, capb, rfl, -, -⟩ := hb.form
  have HD1 := Lib.hid ((hd.mono (G' := fun _ => True) (fun _ _ => trivial)))
  have HS1 := Lib.hid ((hb.mono (G' := fun _ => True) (fun _ _ => trivial)))
  have HB1 := Lib.hid hb1
  have HV1 := Lib.hid (HV.out.below hb1 (fun _ h => h))
  clear hd hb hb1 HV
  have hg4 := grown_len l
  have hgp := grown_pos l
  have hb4 := grownBs_len l
  have hbp := grownBs_pos l
  obtain ⟨D1, hD1⟩ : ∃ D1, D1 = grownL l := ⟨_, rfl⟩
  obtain ⟨S1, hS1⟩ : ∃ S1, S1 = grownBs l := ⟨_, rfl⟩
  rw [← hD1] at HD1 hg4 hgp ⊢
  rw [← hS1] at HS1 hb4 hbp ⊢
  have HDE1 := Lib.hid hD1
  have HSE1 := Lib.hid hS1
  clear hD1 hS1
  go_upto_region 2 with fail
  obtain ⟨w2, hwl⟩ : ∃ w2, w2 = w1.alloc (.cells #[.slice add D1.length capd] 27) := ⟨_, rfl⟩
  have hBl : Below w1.heap.size w1 w2 := by rw [hwl]; exact (Below.refl _ _).alloc (Nat.le_refl _) _
  have HX := Lib.hid (show BoxAt w2 w1.heap.size [.slice add D1.length capd] 27 by rw [hwl]; exact BoxAt.new w1 [_] _)
  rw [← hwl]
  replace HD1 := Lib.hid (HD1.out.below hBl (fun _ h => h))
  replace HS1 := Lib.hid (HS1.out.below hBl (fun _ h => h))
  replace HB1 := Lib.hid (HB1.out.trans (hBl.mono HB1.out.size))
  replace HV1 := Lib.hid (HV1.out.below hBl (fun _ h => h))
  clear hwl hBl
  obtain ⟨news, hsl, hrd, hone⟩ := (HV1.out.take m hm1).flatOf (by decide) (fun h => RStp_one h)
  rw [HTL.out] at hsl
  have HSL := Lib.hid hsl
  have HRD := Lib.hid hrd
  have HON := Lib.hid hone
  clear hsl hrd hone
  have k1 : (m : Int) ≤ (capl : Int) := by omega
  have k0 : (0 : Int) ≤ (m : Int) := by omega
  have kmin : min (l.length : Int) 12 = (m : Int) := by have q := HM3.out; omega
  go_wp2_with (first
    | (refine wpList_min rfl (.tmp 17) (.const (.int .i64 12)) 3 3 rfl (l.length : Int) 12 (m : Int) rfl rfl HM3.out ?_)
    | (at_builtin; refine wpList_append_sl rfl (.const (.slice none 0 0)) (.tmp 19) 22 rfl elemStp w2.heap.size (.slice none 0 0) rfl 0 [] (World.ownsRow_nil _ _ _ _) _ rfl m news HSL.out HON.out (by unfold maxLen; omega) (by omega) (Nat.le_refl _) ?_; intro v20 w20 hown20 hgr20)
    | (at_builtin; refine wpList_append_sl rfl (.tmp 20) (.tmp 21) 22 rfl elemStp w2.heap.size v20 rfl (0 + m) ([] ++ news) hown20 (.slice none 0 0) rfl 0 [] ⟨none, 0, rfl, fun _ => ⟨rfl, rfl⟩, rfl, fun j u h => by simp at h⟩ (by simp) (by unfold maxLen; omega) (by omega) hgr20.size ?_; intro v22 w22 hown22 hgr22))
  have hlt20 := hown20.lt
  have hown22' : w22.ownsRow w2.heap.size 59 3 v22 (l.take m).length news := by
    rw [HTL.out]; simpa using hown22
  have HL22 := Lib.hid (lst_steps (w' := w2) hown22' HRD.out)
  have hB22 : Below w2.heap.size w2 w22 := ((Below.refl _ _).grown hgr20 (Nat.le_refl _) (fun k hk => by simp [Value.ownBlock] at hk)).grown hgr22 hgr20.size (fun k hk => (hlt20 k hk).1)
  replace HD1 := Lib.hid (HD1.out.below hB22 (fun _ h => h))
  replace HS1 := Lib.hid (HS1.out.below hB22 (fun _ h => h))
  replace HX := Lib.hid (HX.out.belowS hB22)
  replace HB1 := Lib.hid (HB1.out.trans (hB22.mono HB1.out.size))
  clear hown20 hgr20 hown22 hown22' hgr22 hB22 hlt20 HSL HRD HON HV1
  refine (grown_any _ _ (HL22.out.rd (G' := fun _ => True) (by decide) (fun _ _ _ => trivial) (fun _ _ _ => trivial)) HZ2.out (HT.out.belowS HB1.out)).mono ?_
  rintro e w3 ⟨ve, vf, rfl, hd, hb, hb3⟩
  obtain ⟨ade, cape, rfl, -, -⟩ := hd.form
  obtain ⟨adf, capf, rfl, -, -⟩ := hb.form
  have HD2 := Lib.hid ((hd.mono (G' := fun _ => True) (fun _ _ => trivial)))
  have HS2 := Lib.hid ((hb.mono (G' := fun _ => True) (fun _ _ => trivial)))
  replace HD1 := Lib.hid (HD1.out.below hb3 (fun _ h => h))
  replace HS1 := Lib.hid (HS1.out.below hb3 (fun _ h => h))
  replace HX := Lib.hid (HX.out.belowS hb3)
  replace HB1 := Lib.hid (HB1.out.trans (hb3.mono HB1.out.size))
  rw [HTK.out] at HD2 HS2 ⊢
  clear hd hb hb3 HL22
  have hg4' := grown_len (l.take 12)
  have hgp' := grown_pos (l.take 12)
  have hb4' := grownBs_len (l.take 12)
  have hbp' := grownBs_pos (l.take 12)
  have HG := Lib.hid (show gsumB l = oneSumL (hdrsOf (grownL l) ++ hdrsOf (grownL (l.take 12))) (grownBs l ++ grownBs (l.take 12)) from rfl)
  rw [← HDE1.out, ← HSE1.out] at HG
  generalize grownL (l.take 12) = D2 at *
  generalize grownBs (l.take 12) = S2 at *
  go_upto_region 3 with fail
  obtain ⟨w5, hwl⟩ : ∃ w5, w5 = w3.alloc (.cells #[.slice ade D2.length cape] 27) := ⟨_, rfl⟩
  have hBl : Below w3.heap.size w3 w5 := by rw [hwl]; exact (Below.refl _ _).alloc (Nat.le_refl _) _
  have HY := Lib.hid (show BoxAt w5 w3.heap.size [.slice ade D2.length cape] 27 by rw [hwl]; exact BoxAt.new w3 [_] _)
  rw [← hwl]
  replace HD1 := Lib.hid (((HD1.out.low (by decide)).mono (G' := fun b => b < w3.heap.size) (fun b hb => hb.2)).below hBl (fun _ h => h))
  replace HS1 := Lib.hid (((HS1.out.low (by decide)).mono (G' := fun b => b < w3.heap.size) (fun b hb => hb.2)).below hBl (fun _ h => h))
  replace HD2 := Lib.hid (((HD2.out.low (by decide)).mono (G' := fun b => b < w3.heap.size) (fun b hb => hb.2)).below hBl (fun _ h => h))
  replace HS2 := Lib.hid (((HS2.out.low (by decide)).mono (G' := fun b => b < w3.heap.size) (fun b hb => hb.2)).below hBl (fun _ h => h))
  replace HX := Lib.hid (HX.out.belowS hBl)
  replace HB1 := Lib.hid (HB1.out.trans (hBl.mono HB1.out.size))
  clear hwl hBl
  have zx := HX.out.lt
  have zy := HY.out.lt
  have hzw := HB1.out.size
  refine wp_region_held_drew (S := fun w' => Below w5.heap.size w5 w') (by kernel_rfl) (by exact (Below.refl _ _).drew) (fun hHeld => ?_)
  obtain ⟨wd, hwd⟩ : ∃ wd, wd = w5.drew := ⟨_, rfl⟩
  have HBd := Lib.hid (show Below w5.heap.size w5 wd by rw [hwd]; exact (Below.refl _ _).drew)
  rw [← hwd] at hHeld ⊢
  clear hwd
  refine wpAnyH_take (i := 0) (v := .agg #[.slice add D1.length capd]) rfl (by kernel_rfl) (by kernel_rfl) (by kernel_rfl) (fun _ _ _ h => h) (Or.inl ⟨by rfl, fun w hSw => ?_⟩) hHeld ?_
  · have q0 := (HX.out.belowS hSw).cell 0 rfl; clear hSw; go_simp
  try simp only [Act.put, List.getElem_toArray, List.getElem_cons_succ, List.getElem_cons_zero, List.setIfInBounds_toArray, List.set_cons_zero, List.set_cons_succ]
  refine wpAnyH_take (i := 2) (v := .agg #[.slice ade D2.length cape]) rfl (by kernel_rfl) (by kernel_rfl) (by kernel_rfl) (fun _ _ _ h => h) (Or.inl ⟨by rfl, fun w hSw => ?_⟩) hHeld ?_
  · have q0 := (HY.out.belowS hSw).cell 0 rfl; clear hSw; go_simp
  try simp only [Act.put, List.getElem_toArray, List.getElem_cons_succ, List.getElem_cons_zero, List.setIfInBounds_toArray, List.set_cons_zero, List.set_cons_succ]
  refine wpAnyH_take (i := 5) (v := .slice adb S1.length capb) rfl (by kernel_rfl) (by kernel_rfl) (by kernel_rfl) (fun _ _ _ h => h) (Or.inl ⟨by rfl, fun w hSw => ?_⟩) hHeld ?_
  · clear hSw; go_simp; all_goals (try first | rfl | omega)
  try simp only [Act.put, List.getElem_toArray, List.getElem_cons_succ, List.getElem_cons_zero, List.setIfInBounds_toArray, List.set_cons_zero, List.set_cons_succ]
  refine wpAnyH_take (i := 7) (v := .slice adf S2.length capf) rfl (by kernel_rfl) (by kernel_rfl) (by kernel_rfl) (fun _ _ _ h => h) (Or.inl ⟨by rfl, fun w hSw => ?_⟩) hHeld ?_
  · clear hSw; go_simp; all_goals (try first | rfl | omega)
  try simp only [Act.put, List.getElem_toArray, List.getElem_cons_succ, List.getElem_cons_zero, List.setIfInBounds_toArray, List.set_cons_zero, List.set_cons_succ]
  refine wpAnyH_ready (rs := [1]) (by kernel_rfl) (by simp) ?_
  refine AllReadyH.cons rfl (fun K hK => ?_) ?_
  · rw [if_pos (by rfl)]
    go_simp
    go_at_call 37
    refine (headers_any _ _ (HD1.out.below HBd.out (fun _ h => h)) (by omega)).mono ?_
    rintro e wh ⟨ah, ch, rfl, hL, hbh⟩
    have hBh : Below w5.heap.size w5 wh := HBd.out.trans (hbh.mono (Below.size HBd.out))
    have HBh := Lib.hid hBh
    have zh := hBh.size
    have HL1 := Lib.hid (show LstO RHdr (fun b => b < w3.heap.size) w5.heap.size 36 wh (.slice ah D1.length ch) (hdrsOf D1) from (hL.mono (G' := fun b => b < w3.heap.size) (fun b hb => hb.1)).baseMono (by have := Below.size HBd.out; omega))
    have hL1up := HL1.out.lt
    clear hL hbh hBh
    show K _ _
    refine hK.out _ _ (by exact HBh.out) (fun hHeld => ?_)
    clear hK K
    try simp only [Act.put, List.getElem_toArray, List.getElem_cons_succ, List.getElem_cons_zero, List.setIfInBounds_toArray, List.set_cons_zero, List.set_cons_succ]
    refine wpAnyH_ready (rs := [3]) (by kernel_rfl) (by simp) ?_
    refine AllReadyH.cons rfl (fun K hK => ?_) ?_
    · rw [if_pos (by rfl)]
      go_simp
      go_at_call 37
      refine (headers_any _ _ (HD2.out.below HBh.out (fun _ h => h)) (by omega)).mono ?_
      rintro e wi ⟨ai, ci, rfl, hL, hbi⟩
      have hBi : Below w5.heap.size w5 wi := HBh.out.trans (hbi.mono (Below.size HBh.out))
      have HBi := Lib.hid hBi
      have zi := hbi.size
      replace HL1 := Lib.hid (HL1.out.below hbi)
      have hL2 := (hL.mono (G' := fun b => b < w3.heap.size) (fun b hb => hb.1)).rd (G' := fun b => b < w3.heap.size ∨ wh.heap.size ≤ b) (by decide) (fun b h1 h2 => .inr (by omega)) (fun b h1 h2 => .inl h1)
      obtain ⟨newsh, hslh, hrdh, honeh⟩ := hL2.flatOf (by decide) (fun h => RHdr_one h)
      rw [hdrsOf_len] at hslh
      have HSLH := Lib.hid hslh
      have HRDH := Lib.hid hrdh
      have HONH := Lib.hid honeh
      obtain ⟨valsh, hVh⟩ := HL1.out.valsOf
      have HVH := Lib.hid hVh
      have hvlt := hVh.lt
      have HL1n := Lib.hid (hdrsOf_len D1)
      have HL2n := Lib.hid (hdrsOf_len D2)
      clear hL hbi hBi hL2 hslh hrdh honeh hVh
      show K _ _
      refine hK.out _ _ (by exact HBi.out) (fun hHeld => ?_)
      clear hK K
      try simp only [Act.put, List.getElem_toArray, List.getElem_cons_succ, List.getElem_cons_zero, List.setIfInBounds_toArray, List.set_cons_zero, List.set_cons_succ]
      refine wpAnyH_ready (rs := [4]) (by kernel_rfl) (by simp) ?_
      refine AllReadyH.cons rfl (fun K hK => ?_) ?_
      · rw [if_pos (by rfl)]
        have hownH : wi.ownsRow w5.heap.size 36 4 (.slice ah D1.length ch) D1.length valsh := by have q := HVH.out.own; rw [HL1n.out] at q; exact q
        refine wp_append_at1 _ _ _ (by rfl) elemHdrD w5.heap.size (.slice ah D1.length ch) D1.length valsh (by rfl) hownH (.slice ai D2.length ci) D2.length newsh (by rfl) HSLH.out HONH.out hgp' (by unfold maxLen; omega) (by omega) (by omega) ?_
        intro gj cj wj hownj hgrj hatj hltj
        have HHJ := Lib.hid (show RdS RHdr (fun b => b < wj.heap.size) wj (.slice (some ⟨gj, 0, none⟩) (D1.length + D2.length) cj) (hdrsOf D1 ++ hdrsOf D2) from ((RdS.ofAppend2 (by decide) (by rw [HL1n.out]; exact hownH.1) (by rw [HL1n.out, HL2n.out]; exact hownj) (fun j x hx => RHdr.keep (HVH.out.2 j x hx) (Keep.grown hgrj (fun k hk h => h.2.2 hk)) (fun _ _ => trivial)) (fun j x hx => RHdr.keep (HRDH.out j x hx) (Keep.grown hgrj (fun k hk h => by have q1 := (hL1up k hk).1; have q2 := (hL1up k hk).2; omega)) (fun _ _ => trivial))).low (by decide)).mono (fun b hb => hb.2))
        have HBj := Lib.hid (show Below w5.heap.size w5 wj from HBi.out.grown hgrj (Below.size HBi.out) (fun k hk => (hL1up k hk).1))
        have zj := hgrj.size
        clear hownH hownj hgrj hatj
        show K _ _
        refine hK.out _ _ (by exact HBj.out) (fun hHeld => ?_)
        clear hK K
        try simp only [Act.put, List.getElem_toArray, List.getElem_cons_succ, List.getElem_cons_zero, List.setIfInBounds_toArray, List.set_cons_zero, List.set_cons_succ]
        refine wpAnyH_ready (rs := [6]) (by kernel_rfl) (by simp) ?_
        refine AllReadyH.cons rfl (fun K hK => ?_) ?_
        · rw [if_pos (by rfl)]
          obtain ⟨newsb, hslb, hrdb, honeb⟩ := (HS1.out.below HBj.out (fun _ h => h)).flatOf (by decide) (fun h => RBat_one h)
          refine wp_append_at1 _ _ _ (by rfl) elemBatD wj.heap.size (.slice none 0 0) 0 [] (by rfl) (World.ownsRow_nil _ _ _ _) (.slice adb S1.length capb) S1.length newsb (by rfl) hslb honeb hbp (by unfold maxLen; omega) (by omega) (Nat.le_refl _) ?_
          intro gk ck wk hownk hgrk hatk hltk
          have HOK := Lib.hid (show wk.ownsRow wj.heap.size 82 3 (.slice (some ⟨gk, 0, none⟩) (0 + S1.length) ck) (0 + S1.length) ([] ++ newsb) from hownk)
          have HNB := Lib.hid (show newsb.length = S1.length * 3 by obtain ⟨_, _, _, _, q, _⟩ := hslb; exact q)
          have HRK := Lib.hid (show ∀ j x, S1[j]? = some x → RBat.rd (fun b => b < w3.heap.size) wk ((newsb.drop (j * 3)).take 3) x from fun j x hx => RBat.keep (hrdb j x hx) (Keep.grown hgrk (fun k hk h => by simp [Value.ownBlock] at hk)) (fun _ h => h))
          have HBk := Lib.hid (show Below w5.heap.size w5 wk from HBj.out.grown hgrk (Below.size HBj.out) (fun k hk => by simp [Value.ownBlock] at hk))
          have HHK := Lib.hid (HHJ.out.keep (G' := fun b => b < wj.heap.size) (Keep.grown hgrk (fun k hk h => by simp [Value.ownBlock] at hk)) (fun _ h => h))
          have zk := hgrk.size
          clear hslb hrdb honeb hownk hgrk hatk
          show K _ _
          refine hK.out _ _ (by exact HBk.out) (fun hHeld => ?_)
          clear hK K
          try simp only [Act.put, List.getElem_toArray, List.getElem_cons_succ, List.getElem_cons_zero, List.setIfInBounds_toArray, List.set_cons_zero, List.set_cons_succ]
          refine wpAnyH_ready (rs := [8]) (by kernel_rfl) (by simp) ?_
          refine AllReadyH.cons rfl (fun K hK => ?_) ?_
          · rw [if_pos (by rfl)]
            obtain ⟨newsc, hslc, hrdc, honec⟩ := (HS2.out.below HBk.out (fun _ h => h)).flatOf (by decide) (fun h => RBat_one h)
            have hltk2 := HOK.out.lt
            refine wp_append_at1 _ _ _ (by rfl) elemBatD wj.heap.size (.slice (some ⟨gk, 0, none⟩) (0 + S1.length) ck) (0 + S1.length) ([] ++ newsb) (by rfl) HOK.out (.slice adf S2.length capf) S2.length newsc (by rfl) hslc honec hbp' (by unfold maxLen; omega) (by omega) zk ?_
            intro gm cm wm hownm hgrm hatm hltm
            have hgk : wj.heap.size ≤ gk := (hltk2 gk rfl).1
            have HBM := Lib.hid (show RdS RBat (fun _ => True) wm (.slice (some ⟨gm, 0, none⟩) (0 + S1.length + S2.length) cm) (S1 ++ S2) from RdS.ofAppend2 (vals := newsb) (by decide) HNB.out (own_zero hownm) (fun j x hx => RBat.keep (HRK.out j x hx) (Keep.grown hgrm (fun k hk h => by have := (hltk2 k hk).1; omega)) (fun _ _ => trivial)) (fun j x hx => RBat.keep (hrdc j x hx) (Keep.grown hgrm (fun k hk h => by have := (hltk2 k hk).1; omega)) (fun _ _ => trivial)))
            have HHM := Lib.hid (HHK.out.keep (G' := fun _ => True) (Keep.grown hgrm (fun k hk h => by have := (hltk2 k hk).1; have h0 : k < wj.heap.size := h; omega)) (fun _ _ => trivial))
            have HBm := Lib.hid (show Below w5.heap.size w5 wm from HBk.out.grown hgrm (Below.size HBk.out) (fun k hk => by have := (hltk2 k hk).1; omega))
            clear hslc hrdc honec hownm hgrm hatm
            show K _ _
            refine hK.out _ _ (by exact HBm.out) (fun hHeld => ?_)
            clear hK K
            try simp only [Act.put, List.getElem_toArray, List.getElem_cons_succ, List.getElem_cons_zero, List.setIfInBounds_toArray, List.set_cons_zero, List.set_cons_succ]
            refine wpAnyH_ready (rs := [9]) (by kernel_rfl) (by simp) ?_
            refine AllReadyH.cons rfl (fun K hK => ?_) ?_
            · rw [if_pos (by rfl)]
              go_simp
              go_at_call 36
              refine (oneSum_any _ _ _ HHM.out (show RdS RBat (fun _ => True) wm (.slice (some ⟨gm, 0, none⟩) (S1.length + S2.length) cm) (S1 ++ S2) by have q := HBM.out; rw [Nat.zero_add] at q; exact q) (HT.out.belowS (HB1.out.trans (HBm.out.mono HB1.out.size)))).mono ?_
              rintro e wn ⟨rfl, hbn⟩
              have HBn := Lib.hid (HBm.out.trans (hbn.mono (Below.size HBm.out)))
              rw [← HG.out]
              clear hbn
              show K _ _
              refine hK.out _ _ (by exact HBn.out) (fun hHeld => ?_)
              clear hK K
              try simp only [Act.put, List.getElem_toArray, List.getElem_cons_succ, List.getElem_cons_zero, List.setIfInBounds_toArray, List.set_cons_zero, List.set_cons_succ]
              refine wpAnyH_take (i := 10) (v := .bool (gsumB l)) rfl (by kernel_rfl) (by kernel_rfl) (by kernel_rfl) (fun _ _ _ h => h) (Or.inl ⟨by rfl, fun w hSw => ?_⟩) hHeld ?_
              · clear hSw; go_simp; all_goals (try first | rfl | omega)
              try simp only [Act.put, List.getElem_toArray, List.getElem_cons_succ, List.getElem_cons_zero, List.setIfInBounds_toArray, List.set_cons_zero, List.set_cons_succ]
              refine wpAnyH_done (by kernel_rfl) ?_ _
              go_wp2
              go_ret
              exact ⟨rfl, HB1.out.trans (HBn.out.mono HB1.out.size)⟩
            exact AllReadyH.nil
          exact AllReadyH.nil
        exact AllReadyH.nil
      exact AllReadyH.nil
    exact AllReadyH.nil
  exact AllReadyH.nil
end Go.Proofs.YtlailhhffejbbaaDoor

/- dagClosed: plain laws. -/
set_option linter.unusedVariables false
set_option linter.unusedSimpArgs false
namespace Go.Proofs.YtlailhhffejbbaaDoor
open Go Go.RowKit

/-- Each parent of a certificate of a dag stands ahead of it, and on the round before. -/
theorem closed_par {l : List Crt} (hok : dagOk l = true) {i : Nat} (hi : i < l.length) {p : Bytes} (hp : p ∈ l[i].h.ps) :
    ∃ n : Nat, n < i ∧ idxP (isB p) (crtSums (l.take i)) = n ∧ idxP (isB p) (crtSums l) = n ∧ (l.getD n crtZ).h.r = l[i].h.r - 1 := by
  have hf := (dagOk_iff.1 hok).2.2 i hi
  unfold fits at hf
  simp only [Bool.and_eq_true, Bool.not_eq_true', decide_eq_true_eq] at hf
  obtain ⟨h1, h2, -⟩ := hf
  have h0 : 0 ≤ idxP (isB p) (crtSums (l.take i)) := by
    by_cases q : 0 ≤ idxP (isB p) (crtSums (l.take i))
    · exact q
    · have hm : p ∈ noneL (crtSums (l.take i)) l[i].h.ps := List.mem_filter.2 ⟨hp, decide_eq_true (by omega)⟩
      rw [h1] at hm; simp at hm
  obtain ⟨n, hn, hin, hpn, hno⟩ := idxP_at h0
  have hni : n < i := by rw [crtSums_len, List.length_take] at hn; omega
  have et : crtSums (l.take i) = (crtSums l).take i := by simp [crtSums]
  have hnl : n < (crtSums l).length := by rw [crtSums_len]; omega
  refine ⟨n, hni, hin, idxP_hit hnl (fun j hj x hx => hno j hj x (by rw [et, List.getElem?_take_of_lt (by omega)]; exact hx)) (by
    have e : (crtSums (l.take i))[n] = (crtSums l)[n] := by simp [et]
    rw [← e]; exact hpn), ?_⟩
  unfold wrongB at h2
  rw [List.any_eq_false] at h2
  have hw := h2 p hp
  unfold wrong1 at hw
  rw [hin] at hw
  have e2 : (l.take i).getD n crtZ = l.getD n crtZ := by simp [List.getElem?_take_of_lt hni]
  simp only [Int.toNat_natCast, e2, Bool.and_eq_true, decide_eq_true_eq, not_and, Decidable.not_not] at hw
  exact hw (by omega)
/-- Nothing is missing for a certificate of a dag. -/
theorem closed_mis {l : List Crt} (hok : dagOk l = true) {i : Nat} (hi : i < l.length) : misCode l l[i].h = 0 ∧ (misL l l[i].h).length = 0 := by
  have hh : hdrCode l[i].h = 0 := (crt_partsP ((dagOk_iff.1 hok).2.1 _ (List.getElem_mem hi))).1
  have hw : wrongB l (crtSums l) l[i].h.r l[i].h.ps = false := by
    unfold wrongB
    rw [List.any_eq_false]
    intro p hp q
    obtain ⟨n, -, -, h3, h4⟩ := closed_par hok hi hp
    unfold wrong1 at q
    rw [h3] at q
    simp only [Int.toNat_natCast, Bool.and_eq_true, decide_eq_true_eq] at q
    exact q.2 h4
  have hm := mis_3 hh hw
  refine ⟨hm.1, ?_⟩
  rw [hm.2]
  have : noneL (crtSums l) l[i].h.ps = [] := List.filter_eq_nil_iff.2 fun p hp q => by
    obtain ⟨n, -, -, h3, -⟩ := closed_par hok hi hp
    simp only [decide_eq_true_eq] at q
    omega
  rw [this]; rfl
/-- Nothing has a digest of one byte. -/
theorem closed_one (l : List Crt) : findCode l [1] = 8 ∧ findCrt l [1] = crtZ := find_no (by
  by_cases q : 0 ≤ idxP (isB [1]) (crtSums l)
  · obtain ⟨x, hx, hb⟩ := idxP_ge.1 q
    obtain ⟨c, -, rfl⟩ := List.mem_map.1 hx
    have e : crtSum c = [1] := by unfold isB at hb; exact of_decide_eq_true hb
    have h := hdrSum_length c.h
    have e' : hdrSum c.h = [1] := e
    rw [e'] at h; simp at h
  · omega)
end Go.Proofs.YtlailhhffejbbaaDoor

/- dagBad: a dag without a parent is none: plain laws; Round of what is no dag. -/
set_option linter.unusedVariables false
set_option linter.unusedSimpArgs false
attribute [local go_sem ↓] Go.wp_at_zero Go.wp_at_succ
namespace Go.Proofs.YtlailhhffejbbaaDoor
open Go Go.RowKit

theorem map_erase1 {α β : Type} (f : α → β) : ∀ (l : List α) (k : Nat), (l.eraseIdx k).map f = (l.map f).eraseIdx k
  | [], _ => rfl
  | a :: l, 0 => rfl
  | a :: l, k + 1 => by simp [map_erase1 f l k]
/-- Without the certificate that one of them stands on, a dag is none. -/
theorem bad_erase {l : List Crt} (hok : dagOk l = true) (hn : (crtSums l).Nodup) {i k : Nat} (hi : i < l.length) {p : Bytes} (hp : p ∈ l[i].h.ps) (hk : idxP (isB p) (crtSums l) = (k : Int)) : dagOk (l.eraseIdx k) = false := by
  obtain ⟨n, hni, -, hin, -⟩ := closed_par hok hi hp
  have e : n = k := by omega
  subst e
  have hnl : n < l.length := by omega
  obtain ⟨j, hj, hij, hpj, -⟩ := idxP_at (show 0 ≤ idxP (isB p) (crtSums l) by omega)
  have ej : j = n := by omega
  subst ej
  unfold isB at hpj
  have hpj' := of_decide_eq_true hpj
  cases hd : dagOk (l.eraseIdx j) with
  | false => rfl
  | true =>
    exfalso
    have hl : (l.eraseIdx j).length = l.length - 1 := List.length_eraseIdx_of_lt hnl
    have hi' : i - 1 < (l.eraseIdx j).length := by omega
    have he : (l.eraseIdx j)[i - 1] = l[i] := by
      rw [List.getElem_eraseIdx_of_ge (by omega) (by omega)]
      congr 1; omega
    obtain ⟨m, hm, hm1, -, -⟩ := closed_par hd hi' (p := p) (by rw [he]; exact hp)
    obtain ⟨q, hq, hmq, hpq, -⟩ := idxP_at (show 0 ≤ idxP (isB p) (crtSums ((l.eraseIdx j).take (i - 1))) by omega)
    unfold isB at hpq
    have hpq' := of_decide_eq_true hpq
    have hmem : p ∈ crtSums (l.eraseIdx j) := by
      rw [← hpq']
      have : crtSums ((l.eraseIdx j).take (i - 1)) = (crtSums (l.eraseIdx j)).take (i - 1) := by simp [crtSums]
      simp only [this]
      rw [List.getElem_take]
      exact List.getElem_mem _
    have hes : crtSums (l.eraseIdx j) = (crtSums l).eraseIdx j := by unfold crtSums; rw [map_erase1]
    rw [hes] at hmem
    obtain ⟨x, hx, hxe⟩ := List.mem_iff_getElem.1 hmem
    rw [List.getElem_eraseIdx] at hxe
    rw [List.nodup_iff_pairwise_ne, List.pairwise_iff_getElem] at hn
    have hxl : x < (crtSums l).length - 1 := by rw [List.length_eraseIdx_of_lt hj] at hx; exact hx
    split at hxe
    · rename_i h1
      exact hn x j (by omega) hj h1 (by rw [hxe, hpj'])
    · rename_i h1
      exact hn j (x + 1) hj (by omega) (by omega) (by rw [hxe, hpj'])
set_option maxRecDepth 100000 in
set_option maxHeartbeats 8000000 in
theorem dagRound_no {G : Nat → Prop} {l : List Crt} (v : Value) (w : World) (h : RdS RCert G w v l) (ht : Tabs w) (hok : dagOk l = false) :
    Calls Tryd.prog 23 #[.agg #[v]] w fun e w' => ∃ z : Int, e = .returned (.tuple #[.int .i64 z, .int .i64 12]) ∧ Below w.heap.size w w' := by
  have hC := Lib.hid (show dagCode l = 12 by unfold dagCode; rw [hok]; rfl)
  obtain ⟨ad, cap, rfl, hcap, hm⟩ := h.form
  have hb0 := (Below.refl w.heap.size w).alloc (Nat.le_refl _) (.cells #[.slice ad l.length cap] 27)
  have HV := Lib.hid (h.below hb0 (fun _ h => h))
  have HT := Lib.hid (ht.belowS hb0)
  have HB := Lib.hid hb0
  clear h ht hb0
  go_enter Tryd.func23, Tryd.ntmps23
  go_wp2_with fail
  refine (dagCheck_any _ _ HV.out HT.out).mono ?_
  rintro e w1 ⟨rfl, hb1⟩
  rw [hC.out]
  have HB1 := Lib.hid (HB.out.trans (hb1.mono HB.out.size))
  clear hb1
  go_wp2
  refine bodyPost_ret (v := .tuple #[.int .i64 0, .int .i64 12]) (by simp [results, Tryd.results23, go_sem]) rfl ⟨0, rfl, HB1.out⟩
end Go.Proofs.YtlailhhffejbbaaDoor

/- dagBad: the walk. -/
set_option linter.unusedVariables false
set_option linter.unusedSimpArgs false
attribute [local go_sem ↓] Go.wp_at_zero Go.wp_at_succ
namespace Go.Proofs.YtlailhhffejbbaaDoor
open Go Go.RowKit

theorem rd_zero {w : World} {b : Nat} (h : BoxAt w b [.int .i64 0, .int .i64 0, .slice none 0 0, .slice none 0 0, .slice none 0 0] 38) : RdS RCert (fun _ => True) w (.slice (some ⟨b, 0, none⟩) 1 1) [crtZ] := by
  refine ⟨_, 1, rfl, Nat.le_refl _, by unfold maxLen; decide, fun h => by simp at h, fun j x hx => ?_⟩
  match j, hx with
  | 0, hx =>
    obtain rfl : crtZ = x := Option.some.inj hx
    exact ⟨b, 0, [.int .i64 0, .int .i64 0, .slice none 0 0, .slice none 0 0, .slice none 0 0], rfl, trivial, fun t c ht => by simpa using h.cell t ht, _, _, _, rfl, RdS.nil _ _ _, RdS.nil _ _ _, RdS.nil _ _ _⟩
theorem er_skip {α : Type} {l : List α} {k : Nat} (h : k < l.length) : (l.take (k + 1)).eraseIdx k = (l.take k).eraseIdx k := by
  have e2 : (l.take k).eraseIdx k = l.take k := List.eraseIdx_of_length_le (by rw [List.length_take]; omega)
  have e : k - (l.take k).length = 0 := by rw [List.length_take]; omega
  rw [e2, List.take_succ_eq_append_getElem h, List.eraseIdx_append_of_length_le (by rw [List.length_take]; omega), e]
  simp
theorem er_put {α : Type} {l : List α} {j k : Nat} (h : j < l.length) (hk : k < l.length) (hne : j ≠ k) : (l.take (j + 1)).eraseIdx k = (l.take j).eraseIdx k ++ [l[j]] := by
  rw [List.take_succ_eq_append_getElem h]
  rcases Nat.lt_or_ge k j with q | q
  · rw [List.eraseIdx_append_of_lt_length (by rw [List.length_take]; omega)]
  · rw [List.eraseIdx_of_length_le (by rw [List.length_append, List.length_take]; simp; omega), List.eraseIdx_of_length_le (by rw [List.length_take]; omega)]
theorem zero_code : dagCode [crtZ] = 12 := dagCode_crt (c := crtZ) (by simp) (by decide +kernel)
set_option maxRecDepth 100000 in
set_option maxHeartbeats 8000000 in
theorem dagBad_any (v : Value) (l : List Stp) (n : Int) (w : World) (hv : RdS RStp (fun _ => True) w v l) (hz : l.length * 24 ≤ reachBytes) (n1 : -9223372036854775808 ≤ n) (n2 : n ≤ 9223372036854775807) (ht : Tabs w) :
    Calls Tryd.prog 16 #[v, .int .i64 n] w fun e w' => ∃ b, e = .returned (.bool b) ∧ ((crtSums (grownL l)).Nodup → b = true) ∧ Below w.heap.size w w' := by
  have HT := Lib.hid ht
  go_enter Tryd.func16, Tryd.ntmps16
  go_wp2_with fail
  refine (grown_any _ _ hv hz ht).mono ?_
  rintro e w1 ⟨vd, vb, rfl, hd, -, hb1⟩
  obtain ⟨add, capd, rfl, -, -⟩ := hd.form
  have HD1 := Lib.hid hd
  have HB1 := Lib.hid hb1
  clear hd hb1 ht hv
  go_upto_region 2 with fail
  obtain ⟨w2, hw2⟩ : ∃ w2, w2 = w1.alloc (.cells #[.slice add (grownL l).length capd] 27) := ⟨_, rfl⟩
  have HX := Lib.hid (show BoxAt w2 w1.heap.size [.slice add (grownL l).length capd] 27 by rw [hw2]; exact BoxAt.new w1 [_] _)
  have hB2 : Below w1.heap.size w1 w2 := by rw [hw2]; exact (Below.refl _ _).alloc (Nat.le_refl _) _
  rw [← hw2]
  have HD := Lib.hid ((HD1.out.mono (G' := fun _ => True) (fun _ _ => trivial)).below hB2 (fun _ h => h))
  have HB := Lib.hid (HB1.out.trans (hB2.mono HB1.out.size))
  have HOK := Lib.hid (grown_ok l)
  have hz2 := HX.out.lt
  have hzw2 := HB.out.size
  clear hw2 hB2 HD1 HB1
  have hg4 := grown_len l
  have hgp := grown_pos l
  generalize hLL : grownL l = L at *
  have HLL := Lib.hid hLL
  clear hLL
  have HH := Lib.hid (fun c (hc : c ∈ L) => (crt_partsP ((dagOk_iff.1 HOK.out).2.1 c hc)).1)
  replace HD := Lib.hid ((HD.out.low (by decide)).mono (G' := fun b => b < w2.heap.size) (fun b hb => hb.2))
  have hmk : ∀ w : World, (Instr.makeSlice 25 (.int .i64 1) (.int .i64 1)).run Tryd.prog w = .ok (.slice (some ⟨w.heap.size, 0, none⟩) 1 1) (w.alloc (.cells #[.int .i64 0, .int .i64 0, .slice none 0 0, .slice none 0 0, .slice none 0 0] 38)) := fun _ => by kernel_rfl
  have x0 := HX.out.cell 0 rfl
  have e0 : ((L.length : Int) == 0) = false := by rw [beq_eq_false_iff_ne]; omega
  go_wp2_with fail
  clear e0
  go_loop [7] (fun u => ∃ k : Nat, k ≤ L.length ∧ u = .int .i64 k) (fun u => L.length - (intOf u).toNat)
  case atStart => exact ⟨0, Nat.zero_le _, rfl⟩
  case round =>
    obtain ⟨k, hk, rfl⟩ := hrel
    by_cases hlt : k < L.length
    · have i0 : (0 : Int) ≤ (k : Int) := by omega
      have i1 : (k : Int) < (L.length : Int) := by omega
      have wk : IntKind.i64.wrap ((k : Int) + 1) = (k : Int) + 1 := IntWalk.i64_in _ (by omega)
      obtain ⟨bc, oc, xb, xp, xv, rfl, -, c0, c1, c2, c3, c4, hxb, hxp, hxv⟩ := HD.out.crt k hlt
      have HPi := Lib.hid (fun (p : Bytes) (hp : p ∈ L[k].h.ps) => closed_par HOK.out hlt hp)
      have HEr := Lib.hid (fun hn (p : Bytes) (hp : p ∈ L[k].h.ps) (q : Nat) hq => @bad_erase L HOK.out hn k q hlt p hp hq)
      have h4c := (hdr_ps (HH.out _ (List.getElem_mem hlt))).2.1
      generalize L[k] = c at *
      obtain ⟨up, upc, rfl, -, -⟩ := hxp.form
      have H2 := Lib.hid hxp
      clear c0 c1 c2 c4 hxb hxp hxv
      by_cases hps : c.h.ps.length = 0
      · have hps0 : ((c.h.ps.length : Int) == 0) = true := by rw [beq_iff_eq]; omega
        clear hmk
        go_wp2
        exact ⟨⟨k + 1, by omega, by go_num⟩, by simp [intOf]; omega⟩
      · have hps1 : ((c.h.ps.length : Int) == 0) = false := by rw [beq_eq_false_iff_ne]; omega
        clear hmk
        obtain ⟨q1, q2⟩ := pickedZ_range n (c.h.ps.length : Int) (by omega)
        obtain ⟨pp, hpp⟩ : ∃ pp : Nat, (pp : Int) = pickedZ n (c.h.ps.length : Int) := ⟨(pickedZ n (c.h.ps.length : Int)).toNat, by omega⟩
        rw [← hpp] at q1 q2
        have HPK := Lib.hid hpp.symm
        clear hpp q1
        have hjt : pp < c.h.ps.length := by omega
        obtain ⟨bp, op, vp, rfl, -, ep, hp⟩ := H2.out.cellS pp hjt
        obtain ⟨adp, capp, rfl, -, -⟩ := hp.form
        have HPP := Lib.hid hp
        obtain ⟨kk, hkk, -, hin, -⟩ := HPi.out c.h.ps[pp] (List.getElem_mem hjt)
        have HEK := Lib.hid (fun hn => HEr.out hn c.h.ps[pp] (List.getElem_mem hjt) kk hin)
        generalize c.h.ps[pp] = pj at *
        have HIN := Lib.hid hin
        have HC3 := Lib.hid c3
        have HEP := Lib.hid ep
        have hbc : bc < w2.heap.size := World.block_lt_of_cell? w2 _ c3
        have hbp : bp < w2.heap.size := World.block_lt_of_cell? w2 _ ep
        have j0 : (0 : Int) ≤ (pp : Int) := by omega
        have j1 : (pp : Int) < (c.h.ps.length : Int) := by omega
        clear hp hin ep HPi HEr
        go_upto_region 8 with fail
        clear c3
        refine wp_region_held_drew (S := fun w' => Below w2.heap.size w2 w') (by kernel_rfl) (by exact (Below.refl _ _).drew) (fun hHeld => ?_)
        obtain ⟨wd, hwd⟩ : ∃ wd, wd = w2.drew := ⟨_, rfl⟩
        rw [← hwd] at hHeld ⊢
        have HBd := Lib.hid (show Below w2.heap.size w2 wd from hHeld)
        have zwd : w2.heap.size ≤ wd.heap.size := by rw [hwd]; exact Nat.le_refl _
        clear hwd
        refine wpAnyH_take (i := 0) (v := .agg #[.slice (some ⟨bc, oc, none⟩) L.length capd]) rfl (by kernel_rfl) (by kernel_rfl) (by kernel_rfl) (fun _ _ _ h => h) (Or.inl ⟨by rfl, fun w hSw => ?_⟩) hHeld ?_
        · have q0 := (HX.out.belowS hSw).cell 0 rfl; clear hSw; go_simp
        try simp only [Act.put, List.getElem_toArray, List.getElem_cons_succ, List.getElem_cons_zero, List.setIfInBounds_toArray, List.set_cons_zero, List.set_cons_succ]
        refine wpAnyH_take (i := 2) (v := .pointer (some ⟨w1.heap.size, 0, none⟩)) rfl (by kernel_rfl) (by kernel_rfl) (by kernel_rfl) (fun _ _ _ h => h) (Or.inl ⟨by rfl, fun w hSw => ?_⟩) hHeld ?_
        · clear hSw; go_simp; all_goals (try first | rfl | omega)
        try simp only [Act.put, List.getElem_toArray, List.getElem_cons_succ, List.getElem_cons_zero, List.setIfInBounds_toArray, List.set_cons_zero, List.set_cons_succ]
        refine wpAnyH_take (i := 3) (v := .slice (some ⟨bc, oc, none⟩) L.length capd) rfl (by kernel_rfl) (by kernel_rfl) (by kernel_rfl) (fun _ _ _ h => h) (Or.inl ⟨by rfl, fun w hSw => ?_⟩) hHeld ?_
        · have q0 := (HX.out.belowS hSw).cell 0 rfl; clear hSw; go_simp
        try simp only [Act.put, List.getElem_toArray, List.getElem_cons_succ, List.getElem_cons_zero, List.setIfInBounds_toArray, List.set_cons_zero, List.set_cons_succ]
        refine wpAnyH_take (i := 4) (v := .int .i64 (k : Int)) rfl (by kernel_rfl) (by kernel_rfl) (by kernel_rfl) (fun _ _ _ h => h) (Or.inl ⟨by rfl, fun w hSw => ?_⟩) hHeld ?_
        · clear hSw; go_simp; all_goals (try first | rfl | omega)
        try simp only [Act.put, List.getElem_toArray, List.getElem_cons_succ, List.getElem_cons_zero, List.setIfInBounds_toArray, List.set_cons_zero, List.set_cons_succ]
        refine wpAnyH_take (i := 5) (v := .pointer (some ⟨bc, oc + k * 5, none⟩)) rfl (by kernel_rfl) (by kernel_rfl) (by kernel_rfl) (fun _ _ _ h => h) (Or.inl ⟨by rfl, fun w hSw => ?_⟩) hHeld ?_
        · clear hSw; go_simp; all_goals (try first | rfl | omega)
        try simp only [Act.put, List.getElem_toArray, List.getElem_cons_succ, List.getElem_cons_zero, List.setIfInBounds_toArray, List.set_cons_zero, List.set_cons_succ]
        refine wpAnyH_take (i := 6) (v := .pointer (some ⟨bc, oc + k * 5, none⟩)) rfl (by kernel_rfl) (by kernel_rfl) (by kernel_rfl) (fun _ _ _ h => h) (Or.inl ⟨by rfl, fun w hSw => ?_⟩) hHeld ?_
        · clear hSw; go_simp; all_goals (try first | rfl | omega)
        try simp only [Act.put, List.getElem_toArray, List.getElem_cons_succ, List.getElem_cons_zero, List.setIfInBounds_toArray, List.set_cons_zero, List.set_cons_succ]
        refine wpAnyH_take (i := 7) (v := .pointer (some ⟨bc, oc + k * 5 + 3, none⟩)) rfl (by kernel_rfl) (by kernel_rfl) (by kernel_rfl) (fun _ _ _ h => h) (Or.inl ⟨by rfl, fun w hSw => ?_⟩) hHeld ?_
        · clear hSw; go_simp; all_goals (try first | rfl | omega)
        try simp only [Act.put, List.getElem_toArray, List.getElem_cons_succ, List.getElem_cons_zero, List.setIfInBounds_toArray, List.set_cons_zero, List.set_cons_succ]
        refine wpAnyH_take (i := 8) (v := .slice (some ⟨bp, op, none⟩) c.h.ps.length upc) rfl (by kernel_rfl) (by kernel_rfl) (by kernel_rfl) (fun _ _ _ h => h) (Or.inl ⟨by rfl, fun w hSw => ?_⟩) hHeld ?_
        · have q0 := (hSw.cell (p := ⟨bc, oc + k * 5 + 3, none⟩) hbc).trans HC3.out; clear hSw; go_simp
        try simp only [Act.put, List.getElem_toArray, List.getElem_cons_succ, List.getElem_cons_zero, List.setIfInBounds_toArray, List.set_cons_zero, List.set_cons_succ]
        refine wpAnyH_take (i := 9) (v := .int .i64 n) rfl (by kernel_rfl) (by kernel_rfl) (by kernel_rfl) (fun _ _ _ h => h) (Or.inl ⟨by rfl, fun w hSw => ?_⟩) hHeld ?_
        · clear hSw; go_simp; all_goals (try first | rfl | omega)
        try simp only [Act.put, List.getElem_toArray, List.getElem_cons_succ, List.getElem_cons_zero, List.setIfInBounds_toArray, List.set_cons_zero, List.set_cons_succ]
        refine wpAnyH_take (i := 10) (v := .pointer (some ⟨w1.heap.size, 0, none⟩)) rfl (by kernel_rfl) (by kernel_rfl) (by kernel_rfl) (fun _ _ _ h => h) (Or.inl ⟨by rfl, fun w hSw => ?_⟩) hHeld ?_
        · clear hSw; go_simp; all_goals (try first | rfl | omega)
        try simp only [Act.put, List.getElem_toArray, List.getElem_cons_succ, List.getElem_cons_zero, List.setIfInBounds_toArray, List.set_cons_zero, List.set_cons_succ]
        refine wpAnyH_take (i := 11) (v := .slice (some ⟨bc, oc, none⟩) L.length capd) rfl (by kernel_rfl) (by kernel_rfl) (by kernel_rfl) (fun _ _ _ h => h) (Or.inl ⟨by rfl, fun w hSw => ?_⟩) hHeld ?_
        · have q0 := (HX.out.belowS hSw).cell 0 rfl; clear hSw; go_simp
        try simp only [Act.put, List.getElem_toArray, List.getElem_cons_succ, List.getElem_cons_zero, List.setIfInBounds_toArray, List.set_cons_zero, List.set_cons_succ]
        refine wpAnyH_take (i := 12) (v := .int .i64 (k : Int)) rfl (by kernel_rfl) (by kernel_rfl) (by kernel_rfl) (fun _ _ _ h => h) (Or.inl ⟨by rfl, fun w hSw => ?_⟩) hHeld ?_
        · clear hSw; go_simp; all_goals (try first | rfl | omega)
        try simp only [Act.put, List.getElem_toArray, List.getElem_cons_succ, List.getElem_cons_zero, List.setIfInBounds_toArray, List.set_cons_zero, List.set_cons_succ]
        refine wpAnyH_take (i := 13) (v := .pointer (some ⟨bc, oc + k * 5, none⟩)) rfl (by kernel_rfl) (by kernel_rfl) (by kernel_rfl) (fun _ _ _ h => h) (Or.inl ⟨by rfl, fun w hSw => ?_⟩) hHeld ?_
        · clear hSw; go_simp; all_goals (try first | rfl | omega)
        try simp only [Act.put, List.getElem_toArray, List.getElem_cons_succ, List.getElem_cons_zero, List.setIfInBounds_toArray, List.set_cons_zero, List.set_cons_succ]
        refine wpAnyH_take (i := 14) (v := .pointer (some ⟨bc, oc + k * 5, none⟩)) rfl (by kernel_rfl) (by kernel_rfl) (by kernel_rfl) (fun _ _ _ h => h) (Or.inl ⟨by rfl, fun w hSw => ?_⟩) hHeld ?_
        · clear hSw; go_simp; all_goals (try first | rfl | omega)
        try simp only [Act.put, List.getElem_toArray, List.getElem_cons_succ, List.getElem_cons_zero, List.setIfInBounds_toArray, List.set_cons_zero, List.set_cons_succ]
        refine wpAnyH_take (i := 15) (v := .pointer (some ⟨bc, oc + k * 5 + 3, none⟩)) rfl (by kernel_rfl) (by kernel_rfl) (by kernel_rfl) (fun _ _ _ h => h) (Or.inl ⟨by rfl, fun w hSw => ?_⟩) hHeld ?_
        · clear hSw; go_simp; all_goals (try first | rfl | omega)
        try simp only [Act.put, List.getElem_toArray, List.getElem_cons_succ, List.getElem_cons_zero, List.setIfInBounds_toArray, List.set_cons_zero, List.set_cons_succ]
        refine wpAnyH_take (i := 16) (v := .slice (some ⟨bp, op, none⟩) c.h.ps.length upc) rfl (by kernel_rfl) (by kernel_rfl) (by kernel_rfl) (fun _ _ _ h => h) (Or.inl ⟨by rfl, fun w hSw => ?_⟩) hHeld ?_
        · have q0 := (hSw.cell (p := ⟨bc, oc + k * 5 + 3, none⟩) hbc).trans HC3.out; clear hSw; go_simp
        try simp only [Act.put, List.getElem_toArray, List.getElem_cons_succ, List.getElem_cons_zero, List.setIfInBounds_toArray, List.set_cons_zero, List.set_cons_succ]
        refine wpAnyH_take (i := 17) (v := .int .i64 (c.h.ps.length : Int)) rfl (by kernel_rfl) (by kernel_rfl) (by kernel_rfl) (fun _ _ _ h => h) (Or.inl ⟨by rfl, fun w hSw => ?_⟩) hHeld ?_
        · clear hSw; go_simp; all_goals (try first | rfl | omega)
        try simp only [Act.put, List.getElem_toArray, List.getElem_cons_succ, List.getElem_cons_zero, List.setIfInBounds_toArray, List.set_cons_zero, List.set_cons_succ]
        refine wpAnyH_ready (rs := [1]) (by kernel_rfl) (by simp) ?_
        refine AllReadyH.cons rfl (fun K hK => ?_) ?_
        · rw [if_pos (by rfl)]
          go_simp
          go_at_call 21
          refine (digestsOf_any _ _ (HD.out.below HBd.out (fun _ h => h)) HH.out (by omega) (HT.out.belowS (HB.out.trans (HBd.out.mono HB.out.size)))).mono ?_
          rintro e wf ⟨vs, rfl, hS, hb_wf⟩
          obtain ⟨ads, caps, rfl, -, hms⟩ := hS.form
          have HS := Lib.hid (hS.mono (G' := fun _ => True) (fun _ _ => trivial))
          clear hS
          have HBwf := Lib.hid (HBd.out.trans (hb_wf.mono (Below.size HBd.out)))
          have zwf := hb_wf.size
          clear hb_wf
          show K _ _
          refine hK.out _ _ (by exact HBwf.out) (fun hHeld => ?_)
          clear hK K
          try simp only [Act.put, List.getElem_toArray, List.getElem_cons_succ, List.getElem_cons_zero, List.setIfInBounds_toArray, List.set_cons_zero, List.set_cons_succ]
          refine wpAnyH_ready (rs := [18]) (by kernel_rfl) (by simp) ?_
          refine AllReadyH.cons rfl (fun K hK => ?_) ?_
          · rw [if_pos (by rfl)]
            go_simp
            go_at_call 19
            refine (picked_any n (c.h.ps.length : Int) _ n1 n2 (by omega) (by omega)).mono ?_
            rintro e w' ⟨rfl, rfl⟩
            rw [HPK.out]
            show K _ _
            refine hK.out _ _ (by exact hHeld) (fun hHeld => ?_)
            clear hK K
            try simp only [Act.put, List.getElem_toArray, List.getElem_cons_succ, List.getElem_cons_zero, List.setIfInBounds_toArray, List.set_cons_zero, List.set_cons_succ]
            refine wpAnyH_take (i := 19) (v := .pointer (some ⟨bp, op + pp, none⟩)) rfl (by kernel_rfl) (by kernel_rfl) (by kernel_rfl) (fun _ _ _ h => h) (Or.inl ⟨by rfl, fun w hSw => ?_⟩) hHeld ?_
            · clear hSw; go_simp; all_goals (try first | rfl | omega)
            try simp only [Act.put, List.getElem_toArray, List.getElem_cons_succ, List.getElem_cons_zero, List.setIfInBounds_toArray, List.set_cons_zero, List.set_cons_succ]
            refine wpAnyH_take (i := 20) (v := .slice adp pj.length capp) rfl (by kernel_rfl) (by kernel_rfl) (by kernel_rfl) (fun _ _ _ h => h) (Or.inl ⟨by rfl, fun w hSw => ?_⟩) hHeld ?_
            · have q0 := (hSw.cell (p := ⟨bp, op + pp, none⟩) hbp).trans HEP.out; clear hSw; go_simp
            try simp only [Act.put, List.getElem_toArray, List.getElem_cons_succ, List.getElem_cons_zero, List.setIfInBounds_toArray, List.set_cons_zero, List.set_cons_succ]
            refine wpAnyH_ready (rs := [21]) (by kernel_rfl) (by simp) ?_
            refine AllReadyH.cons rfl (fun K hK => ?_) ?_
            · rw [if_pos (by rfl)]
              go_simp
              go_at_call 38
              refine (sat_any _ _ _ HS.out (HPP.out.below HBwf.out (fun _ h => h))).mono ?_
              rintro e w' ⟨rfl, rfl⟩
              rw [HIN.out]
              show K _ _
              refine hK.out _ _ (by exact hHeld) (fun hHeld => ?_)
              clear hK K
              try simp only [Act.put, List.getElem_toArray, List.getElem_cons_succ, List.getElem_cons_zero, List.setIfInBounds_toArray, List.set_cons_zero, List.set_cons_succ]
              refine wpAnyH_take (i := 22) (v := .int .i64 (kk : Int)) rfl (by kernel_rfl) (by kernel_rfl) (by kernel_rfl) (fun _ _ _ h => h) (Or.inl ⟨by rfl, fun w hSw => ?_⟩) hHeld ?_
              · clear hSw; go_simp; all_goals (try first | rfl | omega)
              try simp only [Act.put, List.getElem_toArray, List.getElem_cons_succ, List.getElem_cons_zero, List.setIfInBounds_toArray, List.set_cons_zero, List.set_cons_succ]
              refine wpAnyH_done (by kernel_rfl) ?_ _
              obtain ⟨w5, rfl⟩ : ∃ w5 : World, w5 = wf := ⟨_, rfl⟩
              replace HX := Lib.hid (HX.out.belowS HBwf.out)
              have z25 := HBwf.out.size
              replace HD := Lib.hid (HD.out.below HBwf.out (fun _ h => h))
              replace HB := Lib.hid (HB.out.trans (HBwf.out.mono HB.out.size))
              clear hHeld HBwf HS HPP HC3 HEP hbc hbp
              go_upto_region 10 with fail
              obtain ⟨w6, hwl⟩ : ∃ w6, w6 = (w5.alloc (.cells #[.slice none 0 0] 27)) := ⟨_, rfl⟩
              have hBl : Below w5.heap.size w5 w6 := by rw [hwl]; exact ((Below.refl _ _).alloc (by first | exact Nat.le_refl _ | (simp; done) | (simp; omega)) _)
              have HP := Lib.hid (show BoxAt w6 w5.heap.size [.slice none 0 0] 27 by rw [hwl]; exact BoxAt.new w5 [_] _)
              have HB6 := Lib.hid hBl
              have hz6 : w6.heap.size = w5.heap.size + 1 := by rw [hwl]; simp
              rw [← hwl]
              clear hwl hBl
              have z6 := HP.out.lt
              have zx := HX.out.lt
              have zw5 := HB.out.size
              have hkL : kk < L.length := by omega
              go_wp2_with fail
              go_loopw [10] (fun u wr => ∃ (j : Nat) (ado : Option Addr) (capo : Nat), j ≤ L.length ∧ u = .int .i64 j ∧ Hid (BoxAt wr w5.heap.size [.slice ado ((L.take j).eraseIdx kk).length capo] 27) ∧ Hid (LstO RCert (fun b => b < w2.heap.size) w6.heap.size 38 wr (.slice ado ((L.take j).eraseIdx kk).length capo) ((L.take j).eraseIdx kk)) ∧ Hid (Below w5.heap.size w5 wr)) (fun u _ => L.length - (intOf u).toNat)
              case atStart => exact ⟨0, none, 0, Nat.zero_le _, rfl, by simpa using HP, Lib.hid (by simpa using LstO.nil RCert (fun b => b < w2.heap.size) w6.heap.size 38 w6), HB6⟩
              case round =>
                obtain ⟨j, ado, capo, hj, rfl, HPr, HLr, HBr⟩ := hrel
                have HXr := Lib.hid (HX.out.below HBr.out zx)
                have HDr := Lib.hid (HD.out.keep (Keep.belowB HBr.out (fun b (h : b < w2.heap.size) => Nat.lt_of_lt_of_le h z25)) (fun _ h => h))
                have zPr := HPr.out.lt
                have x1 := HXr.out.cell 0 rfl
                by_cases hjt : j < L.length
                · have m0 : (0 : Int) ≤ (j : Int) := by omega
                  have m1 : (j : Int) < (L.length : Int) := by omega
                  have wj : IntKind.i64.wrap ((j : Int) + 1) = (j : Int) + 1 := IntWalk.i64_in _ (by omega)
                  by_cases hjk : j = kk
                  · subst hjk
                    have hne : ((j : Int) != (j : Int)) = false := by simp
                    have HE2 := Lib.hid (er_skip hjt)
                    go_wp2
                    go_roundw
                    case rel => exact ⟨j + 1, ado, capo, by omega, by go_num, by rw [HE2.out]; exact HPr, by rw [HE2.out]; exact HLr, HBr⟩
                    case measure => simp [intOf]; omega
                  · have hne : ((j : Int) != (kk : Int)) = true := by rw [bne_iff_ne]; omega
                    have HE2 := Lib.hid (er_put hjt hkL hjk)
                    have hel : ((L.take j).eraseIdx kk).length ≤ L.length := by
                      have h1 := List.length_eraseIdx_le (l := L.take j) (i := kk)
                      rw [List.length_take] at h1; omega
                    obtain ⟨bc', oc', va, vb1, vc, hbo, -, d0, d1, d2, d3, d4, ha1, ha2, ha3⟩ := HDr.out.crt j hjt
                    simp only [Option.some.injEq, Addr.mk.injEq, and_true] at hbo
                    obtain ⟨rfl, rfl⟩ := hbo
                    generalize L[j] = cj at *
                    obtain ⟨s1, s1c, rfl, -, -⟩ := ha1.form
                    obtain ⟨s2, s2c, rfl, -, -⟩ := ha2.form
                    obtain ⟨s3, s3c, rfl, -, -⟩ := ha3.form
                    have A1 := Lib.hid ha1
                    have A2 := Lib.hid ha2
                    have A3 := Lib.hid ha3
                    have HE5 := Lib.hid (And.intro d0 (And.intro d1 (And.intro d2 (And.intro d3 d4))))
                    have X1 := Lib.hid x1
                    have P0 := Lib.hid (HPr.out.cell 0 rfl)
                    clear ha1 ha2 ha3 d0 d1 d2 d3 d4
                    go_upto_region 14 with fail
                    clear x1
                    refine wp_region_held_drew (S := fun _ => True) (by kernel_rfl) (by exact trivial) (fun hHeld => ?_)
                    refine wpAnyH_take (i := 0) (v := .pointer (some ⟨w5.heap.size, 0, none⟩)) rfl (by kernel_rfl) (by kernel_rfl) (by kernel_rfl) (fun _ _ _ h => h) (Or.inl ⟨by rfl, fun w hSw => ?_⟩) hHeld ?_
                    · clear hSw; go_simp; all_goals (try first | rfl | omega)
                    try simp only [Act.put, List.getElem_toArray, List.getElem_cons_succ, List.getElem_cons_zero, List.setIfInBounds_toArray, List.set_cons_zero, List.set_cons_succ]
                    refine wpAnyH_take (i := 2) (v := .pointer (some ⟨w1.heap.size, 0, none⟩)) rfl (by kernel_rfl) (by kernel_rfl) (by kernel_rfl) (fun _ _ _ h => h) (Or.inl ⟨by rfl, fun w hSw => ?_⟩) hHeld ?_
                    · clear hSw; go_simp; all_goals (try first | rfl | omega)
                    try simp only [Act.put, List.getElem_toArray, List.getElem_cons_succ, List.getElem_cons_zero, List.setIfInBounds_toArray, List.set_cons_zero, List.set_cons_succ]
                    refine wpAnyH_take (i := 4) (v := .int .i64 (j : Int)) rfl (by kernel_rfl) (by kernel_rfl) (by kernel_rfl) (fun _ _ _ h => h) (Or.inl ⟨by rfl, fun w hSw => ?_⟩) hHeld ?_
                    · clear hSw; go_simp; all_goals (try first | rfl | omega)
                    try simp only [Act.put, List.getElem_toArray, List.getElem_cons_succ, List.getElem_cons_zero, List.setIfInBounds_toArray, List.set_cons_zero, List.set_cons_succ]
                    refine wpAnyH_ready (rs := [1, 3]) (by kernel_rfl) (by simp) ?_
                    refine AllReadyH.cons rfl (fun K hK => ?_) ?_
                    · rw [if_pos (by rfl)]
                      have q0 : (wr.drew).cell? ⟨w5.heap.size, 0, none⟩ = some (.slice ado ((L.take j).eraseIdx kk).length capo) := ((((Below.refl wr.heap.size wr).drew)).cell (p := ⟨w5.heap.size, 0, none⟩) (World.block_lt_of_cell? wr _ P0.out)).trans P0.out
                      go_simp
                      show K _ _
                      refine hK.out _ _ (by exact trivial) (fun hHeld => ?_)
                      clear hK K
                      try simp only [Act.put, List.getElem_toArray, List.getElem_cons_succ, List.getElem_cons_zero, List.setIfInBounds_toArray, List.set_cons_zero, List.set_cons_succ]
                      refine wpAnyH_ready (rs := [3]) (by kernel_rfl) (by simp) ?_
                      refine AllReadyH.cons rfl (fun K hK => ?_) ?_
                      · rw [if_pos (by rfl)]
                        have q0 : (wr.drew).cell? ⟨w1.heap.size, 0, none⟩ = some (.slice (some ⟨bc, oc, none⟩) L.length capd) := ((((Below.refl wr.heap.size wr).drew)).cell (p := ⟨w1.heap.size, 0, none⟩) (World.block_lt_of_cell? wr _ X1.out)).trans X1.out
                        go_simp
                        show K _ _
                        refine hK.out _ _ (by exact trivial) (fun hHeld => ?_)
                        clear hK K
                        try simp only [Act.put, List.getElem_toArray, List.getElem_cons_succ, List.getElem_cons_zero, List.setIfInBounds_toArray, List.set_cons_zero, List.set_cons_succ]
                        refine wpAnyH_take (i := 5) (v := .pointer (some ⟨bc, oc + j * 5, none⟩)) rfl (by kernel_rfl) (by kernel_rfl) (by kernel_rfl) (fun _ _ _ h => h) (Or.inl ⟨by rfl, fun w hSw => ?_⟩) hHeld ?_
                        · clear hSw; go_simp; all_goals (try first | rfl | omega)
                        try simp only [Act.put, List.getElem_toArray, List.getElem_cons_succ, List.getElem_cons_zero, List.setIfInBounds_toArray, List.set_cons_zero, List.set_cons_succ]
                        refine wpAnyH_ready (rs := [6]) (by kernel_rfl) (by simp) ?_
                        refine AllReadyH.cons rfl (fun K hK => ?_) ?_
                        · rw [if_pos (by rfl)]
                          have q0 : (wr.drew).cell? ⟨bc, oc + j * 5, none⟩ = some (.int .i64 cj.h.a) := ((((Below.refl wr.heap.size wr).drew)).cell (p := ⟨bc, oc + j * 5, none⟩) (World.block_lt_of_cell? wr _ HE5.out.1)).trans HE5.out.1
                          have q1 : (wr.drew).cell? ⟨bc, oc + j * 5 + 1, none⟩ = some (.int .i64 cj.h.r) := ((((Below.refl wr.heap.size wr).drew)).cell (p := ⟨bc, oc + j * 5 + 1, none⟩) (World.block_lt_of_cell? wr _ HE5.out.2.1)).trans HE5.out.2.1
                          have q2 : (wr.drew).cell? ⟨bc, oc + j * 5 + 2, none⟩ = some (.slice s1 cj.h.bs.length s1c) := ((((Below.refl wr.heap.size wr).drew)).cell (p := ⟨bc, oc + j * 5 + 2, none⟩) (World.block_lt_of_cell? wr _ HE5.out.2.2.1)).trans HE5.out.2.2.1
                          have q3 : (wr.drew).cell? ⟨bc, oc + j * 5 + 3, none⟩ = some (.slice s2 cj.h.ps.length s2c) := ((((Below.refl wr.heap.size wr).drew)).cell (p := ⟨bc, oc + j * 5 + 3, none⟩) (World.block_lt_of_cell? wr _ HE5.out.2.2.2.1)).trans HE5.out.2.2.2.1
                          have q4 : (wr.drew).cell? ⟨bc, oc + j * 5 + 4, none⟩ = some (.slice s3 cj.vs.length s3c) := ((((Below.refl wr.heap.size wr).drew)).cell (p := ⟨bc, oc + j * 5 + 4, none⟩) (World.block_lt_of_cell? wr _ HE5.out.2.2.2.2)).trans HE5.out.2.2.2.2
                          go_simp
                          show K _ _
                          refine hK.out _ _ (by exact trivial) (fun hHeld => ?_)
                          clear hK K
                          try simp only [Act.put, List.getElem_toArray, List.getElem_cons_succ, List.getElem_cons_zero, List.setIfInBounds_toArray, List.set_cons_zero, List.set_cons_succ]
                          refine wpAnyH_ready (rs := [7]) (by kernel_rfl) (by simp) ?_
                          refine AllReadyH.cons rfl (fun K hK => ?_) ?_
                          · rw [if_pos (by rfl)]
                            go_simp
                            show K _ _
                            refine hK.out _ _ (by exact trivial) (fun hHeld => ?_)
                            clear hK K
                            try simp only [Act.put, List.getElem_toArray, List.getElem_cons_succ, List.getElem_cons_zero, List.setIfInBounds_toArray, List.set_cons_zero, List.set_cons_succ]
                            obtain ⟨wa, hwa⟩ : ∃ wa, wa = (wr.alloc (.cells #[.int .i64 cj.h.a, .int .i64 cj.h.r, .slice s1 cj.h.bs.length s1c, .slice s2 cj.h.ps.length s2c, .slice s3 cj.vs.length s3c] 38)).drew := ⟨_, rfl⟩
                            have HBa := Lib.hid (show Below wr.heap.size wr wa by rw [hwa]; exact ((Below.refl wr.heap.size wr).alloc (Nat.le_refl _) _).drew)
                            have HNb := Lib.hid (show BoxAt wa wr.heap.size [.int .i64 cj.h.a, .int .i64 cj.h.r, .slice s1 cj.h.bs.length s1c, .slice s2 cj.h.ps.length s2c, .slice s3 cj.vs.length s3c] 38 by rw [hwa]; exact (BoxAt.new wr [.int .i64 cj.h.a, .int .i64 cj.h.r, .slice s1 cj.h.bs.length s1c, .slice s2 cj.h.ps.length s2c, .slice s3 cj.vs.length s3c] 38).drew)
                            rw [← hwa]
                            clear hwa
                            refine wpAnyH_ready (rs := [8]) (by kernel_rfl) (by simp) ?_
                            refine AllReadyH.cons rfl (fun K hK => ?_) ?_
                            · rw [if_pos (by rfl)]
                              obtain ⟨vals, hLV⟩ := (HLr.out.below HBa.out).valsOf
                              have hown0 := hLV.own
                              have zwa := HBa.out.size
                              refine wp_append_one _ _ 25 rfl elemCrt w6.heap.size _ ((L.take j).eraseIdx kk).length vals rfl hown0 wr.heap.size 38 [.int .i64 cj.h.a, .int .i64 cj.h.r, .slice s1 cj.h.bs.length s1c, .slice s2 cj.h.ps.length s2c, .slice s3 cj.vs.length s3c] rfl HNb.out rfl (by simp [Value.oneCell']) (by unfold maxLen; omega) (by omega) (by omega) ?_
                              intro gq capq wq hownq hgrq hatq hltq
                              have hPx : RCert.rd (fun b => b < w2.heap.size ∧ b < wa.heap.size ∧ (Value.slice ado ((L.take j).eraseIdx kk).length capo).ownBlock ≠ some b) wa [.int .i64 cj.h.a, .int .i64 cj.h.r, .slice s1 cj.h.bs.length s1c, .slice s2 cj.h.ps.length s2c, .slice s3 cj.vs.length s3c] cj := ⟨_, _, _, rfl, (A1.out.below HBa.out (fun _ h => h)).mono (fun b (hb : b < w2.heap.size) => ⟨hb, by have := HBa.out.size; omega, fun q => by have := (hLV.lt _ q).1; omega⟩), (A2.out.below HBa.out (fun _ h => h)).mono (fun b (hb : b < w2.heap.size) => ⟨hb, by have := HBa.out.size; omega, fun q => by have := (hLV.lt _ q).1; omega⟩), (A3.out.below HBa.out (fun _ h => h)).mono (fun b (hb : b < w2.heap.size) => ⟨hb, by have := HBa.out.size; omega, fun q => by have := (hLV.lt _ q).1; omega⟩)⟩
                              have HLq := Lib.hid (hLV.push hPx hownq hgrq hatq)
                              have HPq := Lib.hid ((HPr.out.belowS HBa.out).grown hgrq (fun e => by have := (hLV.lt _ e).1; omega))
                              have HBq := Lib.hid ((HBr.out.trans (HBa.out.mono HBr.out.size)).grown hgrq (by omega) (fun k hk => by have := (hLV.lt k hk).1; omega))
                              clear hPx hownq hgrq hatq hLV hown0
                              refine hK.out _ _ (by exact trivial) (fun hHeld => ?_)
                              clear hK K
                              try simp only [Act.put, List.getElem_toArray, List.getElem_cons_succ, List.getElem_cons_zero, List.setIfInBounds_toArray, List.set_cons_zero, List.set_cons_succ]
                              refine wpAnyH_take (i := 9) (v := .pointer (some ⟨w5.heap.size, 0, none⟩)) rfl (by kernel_rfl) (by kernel_rfl) (by kernel_rfl) (fun _ _ _ h => h) (Or.inl ⟨by rfl, fun w hSw => ?_⟩) hHeld ?_
                              · clear hSw; go_simp; all_goals (try first | rfl | omega)
                              try simp only [Act.put, List.getElem_toArray, List.getElem_cons_succ, List.getElem_cons_zero, List.setIfInBounds_toArray, List.set_cons_zero, List.set_cons_succ]
                              refine wpAnyH_ready (rs := [10]) (by kernel_rfl) (by simp) ?_
                              refine AllReadyH.cons rfl (fun K hK => ?_) ?_
                              · rw [if_pos (by rfl)]
                                have q0 := HPq.out.cell 0 rfl
                                have qf0 := HPq.out.free 0
                                have qz := HPq.out.lt
                                go_simp
                                show K _ _
                                refine hK.out _ _ (by exact trivial) (fun hHeld => ?_)
                                clear hK K
                                try simp only [Act.put, List.getElem_toArray, List.getElem_cons_succ, List.getElem_cons_zero, List.setIfInBounds_toArray, List.set_cons_zero, List.set_cons_succ]
                                refine wpAnyH_done (by kernel_rfl) ?_ _
                                obtain ⟨wz, hwz⟩ : ∃ wz, wz = wq.setCell ⟨w5.heap.size, 0, none⟩ (.slice (some ⟨gq, 0, none⟩) (((L.take j).eraseIdx kk).length + 1) capq) := ⟨_, rfl⟩
                                have HPz := Lib.hid (show BoxAt wz w5.heap.size [.slice (some ⟨gq, 0, none⟩) (((L.take j).eraseIdx kk).length + 1) capq] 27 by rw [hwz]; exact HPq.out.set 0 _)
                                have HLz := Lib.hid (show LstO RCert (fun b => b < w2.heap.size) w6.heap.size 38 wz (.slice (some ⟨gq, 0, none⟩) (((L.take j).eraseIdx kk).length + 1) capq) (((L.take j).eraseIdx kk) ++ [cj]) by rw [hwz]; exact HLq.out.setCell (by show w5.heap.size < w6.heap.size; omega) (by show ¬ w5.heap.size < w2.heap.size; omega) _)
                                have HBz := Lib.hid (show Below w5.heap.size w5 wz by rw [hwz]; exact HBq.out.setCell (p := ⟨w5.heap.size, 0, none⟩) (Nat.le_refl _) _)
                                rw [← hwz]
                                clear hwz
                                go_wp2
                                go_roundw
                                case rel => exact ⟨j + 1, some ⟨gq, 0, none⟩, capq, by omega, by go_num, by rw [HE2.out, List.length_append]; exact HPz, by rw [HE2.out, List.length_append]; exact HLz, HBz⟩
                                case measure => simp [intOf]; omega
                              exact AllReadyH.nil
                            exact AllReadyH.nil
                          exact AllReadyH.nil
                        exact AllReadyH.nil
                      exact AllReadyH.nil
                    refine AllReadyH.cons rfl (fun K hK => ?_) ?_
                    · rw [if_pos (by rfl)]
                      have q0 : (wr.drew).cell? ⟨w1.heap.size, 0, none⟩ = some (.slice (some ⟨bc, oc, none⟩) L.length capd) := ((((Below.refl wr.heap.size wr).drew)).cell (p := ⟨w1.heap.size, 0, none⟩) (World.block_lt_of_cell? wr _ X1.out)).trans X1.out
                      go_simp
                      show K _ _
                      refine hK.out _ _ (by exact trivial) (fun hHeld => ?_)
                      clear hK K
                      try simp only [Act.put, List.getElem_toArray, List.getElem_cons_succ, List.getElem_cons_zero, List.setIfInBounds_toArray, List.set_cons_zero, List.set_cons_succ]
                      refine wpAnyH_take (i := 5) (v := .pointer (some ⟨bc, oc + j * 5, none⟩)) rfl (by kernel_rfl) (by kernel_rfl) (by kernel_rfl) (fun _ _ _ h => h) (Or.inl ⟨by rfl, fun w hSw => ?_⟩) hHeld ?_
                      · clear hSw; go_simp; all_goals (try first | rfl | omega)
                      try simp only [Act.put, List.getElem_toArray, List.getElem_cons_succ, List.getElem_cons_zero, List.setIfInBounds_toArray, List.set_cons_zero, List.set_cons_succ]
                      refine wpAnyH_ready (rs := [1, 6]) (by kernel_rfl) (by simp) ?_
                      refine AllReadyH.cons rfl (fun K hK => ?_) ?_
                      · rw [if_pos (by rfl)]
                        have q0 : (wr.drew).cell? ⟨w5.heap.size, 0, none⟩ = some (.slice ado ((L.take j).eraseIdx kk).length capo) := ((((Below.refl wr.heap.size wr).drew)).cell (p := ⟨w5.heap.size, 0, none⟩) (World.block_lt_of_cell? wr _ P0.out)).trans P0.out
                        go_simp
                        show K _ _
                        refine hK.out _ _ (by exact trivial) (fun hHeld => ?_)
                        clear hK K
                        try simp only [Act.put, List.getElem_toArray, List.getElem_cons_succ, List.getElem_cons_zero, List.setIfInBounds_toArray, List.set_cons_zero, List.set_cons_succ]
                        refine wpAnyH_ready (rs := [6]) (by kernel_rfl) (by simp) ?_
                        refine AllReadyH.cons rfl (fun K hK => ?_) ?_
                        · rw [if_pos (by rfl)]
                          have q0 : (wr.drew).cell? ⟨bc, oc + j * 5, none⟩ = some (.int .i64 cj.h.a) := ((((Below.refl wr.heap.size wr).drew)).cell (p := ⟨bc, oc + j * 5, none⟩) (World.block_lt_of_cell? wr _ HE5.out.1)).trans HE5.out.1
                          have q1 : (wr.drew).cell? ⟨bc, oc + j * 5 + 1, none⟩ = some (.int .i64 cj.h.r) := ((((Below.refl wr.heap.size wr).drew)).cell (p := ⟨bc, oc + j * 5 + 1, none⟩) (World.block_lt_of_cell? wr _ HE5.out.2.1)).trans HE5.out.2.1
                          have q2 : (wr.drew).cell? ⟨bc, oc + j * 5 + 2, none⟩ = some (.slice s1 cj.h.bs.length s1c) := ((((Below.refl wr.heap.size wr).drew)).cell (p := ⟨bc, oc + j * 5 + 2, none⟩) (World.block_lt_of_cell? wr _ HE5.out.2.2.1)).trans HE5.out.2.2.1
                          have q3 : (wr.drew).cell? ⟨bc, oc + j * 5 + 3, none⟩ = some (.slice s2 cj.h.ps.length s2c) := ((((Below.refl wr.heap.size wr).drew)).cell (p := ⟨bc, oc + j * 5 + 3, none⟩) (World.block_lt_of_cell? wr _ HE5.out.2.2.2.1)).trans HE5.out.2.2.2.1
                          have q4 : (wr.drew).cell? ⟨bc, oc + j * 5 + 4, none⟩ = some (.slice s3 cj.vs.length s3c) := ((((Below.refl wr.heap.size wr).drew)).cell (p := ⟨bc, oc + j * 5 + 4, none⟩) (World.block_lt_of_cell? wr _ HE5.out.2.2.2.2)).trans HE5.out.2.2.2.2
                          go_simp
                          show K _ _
                          refine hK.out _ _ (by exact trivial) (fun hHeld => ?_)
                          clear hK K
                          try simp only [Act.put, List.getElem_toArray, List.getElem_cons_succ, List.getElem_cons_zero, List.setIfInBounds_toArray, List.set_cons_zero, List.set_cons_succ]
                          refine wpAnyH_ready (rs := [7]) (by kernel_rfl) (by simp) ?_
                          refine AllReadyH.cons rfl (fun K hK => ?_) ?_
                          · rw [if_pos (by rfl)]
                            go_simp
                            show K _ _
                            refine hK.out _ _ (by exact trivial) (fun hHeld => ?_)
                            clear hK K
                            try simp only [Act.put, List.getElem_toArray, List.getElem_cons_succ, List.getElem_cons_zero, List.setIfInBounds_toArray, List.set_cons_zero, List.set_cons_succ]
                            obtain ⟨wa, hwa⟩ : ∃ wa, wa = (wr.alloc (.cells #[.int .i64 cj.h.a, .int .i64 cj.h.r, .slice s1 cj.h.bs.length s1c, .slice s2 cj.h.ps.length s2c, .slice s3 cj.vs.length s3c] 38)).drew := ⟨_, rfl⟩
                            have HBa := Lib.hid (show Below wr.heap.size wr wa by rw [hwa]; exact ((Below.refl wr.heap.size wr).alloc (Nat.le_refl _) _).drew)
                            have HNb := Lib.hid (show BoxAt wa wr.heap.size [.int .i64 cj.h.a, .int .i64 cj.h.r, .slice s1 cj.h.bs.length s1c, .slice s2 cj.h.ps.length s2c, .slice s3 cj.vs.length s3c] 38 by rw [hwa]; exact (BoxAt.new wr [.int .i64 cj.h.a, .int .i64 cj.h.r, .slice s1 cj.h.bs.length s1c, .slice s2 cj.h.ps.length s2c, .slice s3 cj.vs.length s3c] 38).drew)
                            rw [← hwa]
                            clear hwa
                            refine wpAnyH_ready (rs := [8]) (by kernel_rfl) (by simp) ?_
                            refine AllReadyH.cons rfl (fun K hK => ?_) ?_
                            · rw [if_pos (by rfl)]
                              obtain ⟨vals, hLV⟩ := (HLr.out.below HBa.out).valsOf
                              have hown0 := hLV.own
                              have zwa := HBa.out.size
                              refine wp_append_one _ _ 25 rfl elemCrt w6.heap.size _ ((L.take j).eraseIdx kk).length vals rfl hown0 wr.heap.size 38 [.int .i64 cj.h.a, .int .i64 cj.h.r, .slice s1 cj.h.bs.length s1c, .slice s2 cj.h.ps.length s2c, .slice s3 cj.vs.length s3c] rfl HNb.out rfl (by simp [Value.oneCell']) (by unfold maxLen; omega) (by omega) (by omega) ?_
                              intro gq capq wq hownq hgrq hatq hltq
                              have hPx : RCert.rd (fun b => b < w2.heap.size ∧ b < wa.heap.size ∧ (Value.slice ado ((L.take j).eraseIdx kk).length capo).ownBlock ≠ some b) wa [.int .i64 cj.h.a, .int .i64 cj.h.r, .slice s1 cj.h.bs.length s1c, .slice s2 cj.h.ps.length s2c, .slice s3 cj.vs.length s3c] cj := ⟨_, _, _, rfl, (A1.out.below HBa.out (fun _ h => h)).mono (fun b (hb : b < w2.heap.size) => ⟨hb, by have := HBa.out.size; omega, fun q => by have := (hLV.lt _ q).1; omega⟩), (A2.out.below HBa.out (fun _ h => h)).mono (fun b (hb : b < w2.heap.size) => ⟨hb, by have := HBa.out.size; omega, fun q => by have := (hLV.lt _ q).1; omega⟩), (A3.out.below HBa.out (fun _ h => h)).mono (fun b (hb : b < w2.heap.size) => ⟨hb, by have := HBa.out.size; omega, fun q => by have := (hLV.lt _ q).1; omega⟩)⟩
                              have HLq := Lib.hid (hLV.push hPx hownq hgrq hatq)
                              have HPq := Lib.hid ((HPr.out.belowS HBa.out).grown hgrq (fun e => by have := (hLV.lt _ e).1; omega))
                              have HBq := Lib.hid ((HBr.out.trans (HBa.out.mono HBr.out.size)).grown hgrq (by omega) (fun k hk => by have := (hLV.lt k hk).1; omega))
                              clear hPx hownq hgrq hatq hLV hown0
                              refine hK.out _ _ (by exact trivial) (fun hHeld => ?_)
                              clear hK K
                              try simp only [Act.put, List.getElem_toArray, List.getElem_cons_succ, List.getElem_cons_zero, List.setIfInBounds_toArray, List.set_cons_zero, List.set_cons_succ]
                              refine wpAnyH_take (i := 9) (v := .pointer (some ⟨w5.heap.size, 0, none⟩)) rfl (by kernel_rfl) (by kernel_rfl) (by kernel_rfl) (fun _ _ _ h => h) (Or.inl ⟨by rfl, fun w hSw => ?_⟩) hHeld ?_
                              · clear hSw; go_simp; all_goals (try first | rfl | omega)
                              try simp only [Act.put, List.getElem_toArray, List.getElem_cons_succ, List.getElem_cons_zero, List.setIfInBounds_toArray, List.set_cons_zero, List.set_cons_succ]
                              refine wpAnyH_ready (rs := [10]) (by kernel_rfl) (by simp) ?_
                              refine AllReadyH.cons rfl (fun K hK => ?_) ?_
                              · rw [if_pos (by rfl)]
                                have q0 := HPq.out.cell 0 rfl
                                have qf0 := HPq.out.free 0
                                have qz := HPq.out.lt
                                go_simp
                                show K _ _
                                refine hK.out _ _ (by exact trivial) (fun hHeld => ?_)
                                clear hK K
                                try simp only [Act.put, List.getElem_toArray, List.getElem_cons_succ, List.getElem_cons_zero, List.setIfInBounds_toArray, List.set_cons_zero, List.set_cons_succ]
                                refine wpAnyH_done (by kernel_rfl) ?_ _
                                obtain ⟨wz, hwz⟩ : ∃ wz, wz = wq.setCell ⟨w5.heap.size, 0, none⟩ (.slice (some ⟨gq, 0, none⟩) (((L.take j).eraseIdx kk).length + 1) capq) := ⟨_, rfl⟩
                                have HPz := Lib.hid (show BoxAt wz w5.heap.size [.slice (some ⟨gq, 0, none⟩) (((L.take j).eraseIdx kk).length + 1) capq] 27 by rw [hwz]; exact HPq.out.set 0 _)
                                have HLz := Lib.hid (show LstO RCert (fun b => b < w2.heap.size) w6.heap.size 38 wz (.slice (some ⟨gq, 0, none⟩) (((L.take j).eraseIdx kk).length + 1) capq) (((L.take j).eraseIdx kk) ++ [cj]) by rw [hwz]; exact HLq.out.setCell (by show w5.heap.size < w6.heap.size; omega) (by show ¬ w5.heap.size < w2.heap.size; omega) _)
                                have HBz := Lib.hid (show Below w5.heap.size w5 wz by rw [hwz]; exact HBq.out.setCell (p := ⟨w5.heap.size, 0, none⟩) (Nat.le_refl _) _)
                                rw [← hwz]
                                clear hwz
                                go_wp2
                                go_roundw
                                case rel => exact ⟨j + 1, some ⟨gq, 0, none⟩, capq, by omega, by go_num, by rw [HE2.out, List.length_append]; exact HPz, by rw [HE2.out, List.length_append]; exact HLz, HBz⟩
                                case measure => simp [intOf]; omega
                              exact AllReadyH.nil
                            exact AllReadyH.nil
                          exact AllReadyH.nil
                        exact AllReadyH.nil
                      refine AllReadyH.cons rfl (fun K hK => ?_) ?_
                      · rw [if_pos (by rfl)]
                        have q0 : (wr.drew).cell? ⟨bc, oc + j * 5, none⟩ = some (.int .i64 cj.h.a) := ((((Below.refl wr.heap.size wr).drew)).cell (p := ⟨bc, oc + j * 5, none⟩) (World.block_lt_of_cell? wr _ HE5.out.1)).trans HE5.out.1
                        have q1 : (wr.drew).cell? ⟨bc, oc + j * 5 + 1, none⟩ = some (.int .i64 cj.h.r) := ((((Below.refl wr.heap.size wr).drew)).cell (p := ⟨bc, oc + j * 5 + 1, none⟩) (World.block_lt_of_cell? wr _ HE5.out.2.1)).trans HE5.out.2.1
                        have q2 : (wr.drew).cell? ⟨bc, oc + j * 5 + 2, none⟩ = some (.slice s1 cj.h.bs.length s1c) := ((((Below.refl wr.heap.size wr).drew)).cell (p := ⟨bc, oc + j * 5 + 2, none⟩) (World.block_lt_of_cell? wr _ HE5.out.2.2.1)).trans HE5.out.2.2.1
                        have q3 : (wr.drew).cell? ⟨bc, oc + j * 5 + 3, none⟩ = some (.slice s2 cj.h.ps.length s2c) := ((((Below.refl wr.heap.size wr).drew)).cell (p := ⟨bc, oc + j * 5 + 3, none⟩) (World.block_lt_of_cell? wr _ HE5.out.2.2.2.1)).trans HE5.out.2.2.2.1
                        have q4 : (wr.drew).cell? ⟨bc, oc + j * 5 + 4, none⟩ = some (.slice s3 cj.vs.length s3c) := ((((Below.refl wr.heap.size wr).drew)).cell (p := ⟨bc, oc + j * 5 + 4, none⟩) (World.block_lt_of_cell? wr _ HE5.out.2.2.2.2)).trans HE5.out.2.2.2.2
                        go_simp
                        show K _ _
                        refine hK.out _ _ (by exact trivial) (fun hHeld => ?_)
                        clear hK K
                        try simp only [Act.put, List.getElem_toArray, List.getElem_cons_succ, List.getElem_cons_zero, List.setIfInBounds_toArray, List.set_cons_zero, List.set_cons_succ]
                        refine wpAnyH_ready (rs := [1, 7]) (by kernel_rfl) (by simp) ?_
                        refine AllReadyH.cons rfl (fun K hK => ?_) ?_
                        · rw [if_pos (by rfl)]
                          have q0 : (wr.drew).cell? ⟨w5.heap.size, 0, none⟩ = some (.slice ado ((L.take j).eraseIdx kk).length capo) := ((((Below.refl wr.heap.size wr).drew)).cell (p := ⟨w5.heap.size, 0, none⟩) (World.block_lt_of_cell? wr _ P0.out)).trans P0.out
                          go_simp
                          show K _ _
                          refine hK.out _ _ (by exact trivial) (fun hHeld => ?_)
                          clear hK K
                          try simp only [Act.put, List.getElem_toArray, List.getElem_cons_succ, List.getElem_cons_zero, List.setIfInBounds_toArray, List.set_cons_zero, List.set_cons_succ]
                          refine wpAnyH_ready (rs := [7]) (by kernel_rfl) (by simp) ?_
                          refine AllReadyH.cons rfl (fun K hK => ?_) ?_
                          · rw [if_pos (by rfl)]
                            go_simp
                            show K _ _
                            refine hK.out _ _ (by exact trivial) (fun hHeld => ?_)
                            clear hK K
                            try simp only [Act.put, List.getElem_toArray, List.getElem_cons_succ, List.getElem_cons_zero, List.setIfInBounds_toArray, List.set_cons_zero, List.set_cons_succ]
                            obtain ⟨wa, hwa⟩ : ∃ wa, wa = (wr.alloc (.cells #[.int .i64 cj.h.a, .int .i64 cj.h.r, .slice s1 cj.h.bs.length s1c, .slice s2 cj.h.ps.length s2c, .slice s3 cj.vs.length s3c] 38)).drew := ⟨_, rfl⟩
                            have HBa := Lib.hid (show Below wr.heap.size wr wa by rw [hwa]; exact ((Below.refl wr.heap.size wr).alloc (Nat.le_refl _) _).drew)
                            have HNb := Lib.hid (show BoxAt wa wr.heap.size [.int .i64 cj.h.a, .int .i64 cj.h.r, .slice s1 cj.h.bs.length s1c, .slice s2 cj.h.ps.length s2c, .slice s3 cj.vs.length s3c] 38 by rw [hwa]; exact (BoxAt.new wr [.int .i64 cj.h.a, .int .i64 cj.h.r, .slice s1 cj.h.bs.length s1c, .slice s2 cj.h.ps.length s2c, .slice s3 cj.vs.length s3c] 38).drew)
                            rw [← hwa]
                            clear hwa
                            refine wpAnyH_ready (rs := [8]) (by kernel_rfl) (by simp) ?_
                            refine AllReadyH.cons rfl (fun K hK => ?_) ?_
                            · rw [if_pos (by rfl)]
                              obtain ⟨vals, hLV⟩ := (HLr.out.below HBa.out).valsOf
                              have hown0 := hLV.own
                              have zwa := HBa.out.size
                              refine wp_append_one _ _ 25 rfl elemCrt w6.heap.size _ ((L.take j).eraseIdx kk).length vals rfl hown0 wr.heap.size 38 [.int .i64 cj.h.a, .int .i64 cj.h.r, .slice s1 cj.h.bs.length s1c, .slice s2 cj.h.ps.length s2c, .slice s3 cj.vs.length s3c] rfl HNb.out rfl (by simp [Value.oneCell']) (by unfold maxLen; omega) (by omega) (by omega) ?_
                              intro gq capq wq hownq hgrq hatq hltq
                              have hPx : RCert.rd (fun b => b < w2.heap.size ∧ b < wa.heap.size ∧ (Value.slice ado ((L.take j).eraseIdx kk).length capo).ownBlock ≠ some b) wa [.int .i64 cj.h.a, .int .i64 cj.h.r, .slice s1 cj.h.bs.length s1c, .slice s2 cj.h.ps.length s2c, .slice s3 cj.vs.length s3c] cj := ⟨_, _, _, rfl, (A1.out.below HBa.out (fun _ h => h)).mono (fun b (hb : b < w2.heap.size) => ⟨hb, by have := HBa.out.size; omega, fun q => by have := (hLV.lt _ q).1; omega⟩), (A2.out.below HBa.out (fun _ h => h)).mono (fun b (hb : b < w2.heap.size) => ⟨hb, by have := HBa.out.size; omega, fun q => by have := (hLV.lt _ q).1; omega⟩), (A3.out.below HBa.out (fun _ h => h)).mono (fun b (hb : b < w2.heap.size) => ⟨hb, by have := HBa.out.size; omega, fun q => by have := (hLV.lt _ q).1; omega⟩)⟩
                              have HLq := Lib.hid (hLV.push hPx hownq hgrq hatq)
                              have HPq := Lib.hid ((HPr.out.belowS HBa.out).grown hgrq (fun e => by have := (hLV.lt _ e).1; omega))
                              have HBq := Lib.hid ((HBr.out.trans (HBa.out.mono HBr.out.size)).grown hgrq (by omega) (fun k hk => by have := (hLV.lt k hk).1; omega))
                              clear hPx hownq hgrq hatq hLV hown0
                              refine hK.out _ _ (by exact trivial) (fun hHeld => ?_)
                              clear hK K
                              try simp only [Act.put, List.getElem_toArray, List.getElem_cons_succ, List.getElem_cons_zero, List.setIfInBounds_toArray, List.set_cons_zero, List.set_cons_succ]
                              refine wpAnyH_take (i := 9) (v := .pointer (some ⟨w5.heap.size, 0, none⟩)) rfl (by kernel_rfl) (by kernel_rfl) (by kernel_rfl) (fun _ _ _ h => h) (Or.inl ⟨by rfl, fun w hSw => ?_⟩) hHeld ?_
                              · clear hSw; go_simp; all_goals (try first | rfl | omega)
                              try simp only [Act.put, List.getElem_toArray, List.getElem_cons_succ, List.getElem_cons_zero, List.setIfInBounds_toArray, List.set_cons_zero, List.set_cons_succ]
                              refine wpAnyH_ready (rs := [10]) (by kernel_rfl) (by simp) ?_
                              refine AllReadyH.cons rfl (fun K hK => ?_) ?_
                              · rw [if_pos (by rfl)]
                                have q0 := HPq.out.cell 0 rfl
                                have qf0 := HPq.out.free 0
                                have qz := HPq.out.lt
                                go_simp
                                show K _ _
                                refine hK.out _ _ (by exact trivial) (fun hHeld => ?_)
                                clear hK K
                                try simp only [Act.put, List.getElem_toArray, List.getElem_cons_succ, List.getElem_cons_zero, List.setIfInBounds_toArray, List.set_cons_zero, List.set_cons_succ]
                                refine wpAnyH_done (by kernel_rfl) ?_ _
                                obtain ⟨wz, hwz⟩ : ∃ wz, wz = wq.setCell ⟨w5.heap.size, 0, none⟩ (.slice (some ⟨gq, 0, none⟩) (((L.take j).eraseIdx kk).length + 1) capq) := ⟨_, rfl⟩
                                have HPz := Lib.hid (show BoxAt wz w5.heap.size [.slice (some ⟨gq, 0, none⟩) (((L.take j).eraseIdx kk).length + 1) capq] 27 by rw [hwz]; exact HPq.out.set 0 _)
                                have HLz := Lib.hid (show LstO RCert (fun b => b < w2.heap.size) w6.heap.size 38 wz (.slice (some ⟨gq, 0, none⟩) (((L.take j).eraseIdx kk).length + 1) capq) (((L.take j).eraseIdx kk) ++ [cj]) by rw [hwz]; exact HLq.out.setCell (by show w5.heap.size < w6.heap.size; omega) (by show ¬ w5.heap.size < w2.heap.size; omega) _)
                                have HBz := Lib.hid (show Below w5.heap.size w5 wz by rw [hwz]; exact HBq.out.setCell (p := ⟨w5.heap.size, 0, none⟩) (Nat.le_refl _) _)
                                rw [← hwz]
                                clear hwz
                                go_wp2
                                go_roundw
                                case rel => exact ⟨j + 1, some ⟨gq, 0, none⟩, capq, by omega, by go_num, by rw [HE2.out, List.length_append]; exact HPz, by rw [HE2.out, List.length_append]; exact HLz, HBz⟩
                                case measure => simp [intOf]; omega
                              exact AllReadyH.nil
                            exact AllReadyH.nil
                          exact AllReadyH.nil
                        refine AllReadyH.cons rfl (fun K hK => ?_) ?_
                        · rw [if_pos (by rfl)]
                          go_simp
                          show K _ _
                          refine hK.out _ _ (by exact trivial) (fun hHeld => ?_)
                          clear hK K
                          try simp only [Act.put, List.getElem_toArray, List.getElem_cons_succ, List.getElem_cons_zero, List.setIfInBounds_toArray, List.set_cons_zero, List.set_cons_succ]
                          obtain ⟨wa, hwa⟩ : ∃ wa, wa = (wr.alloc (.cells #[.int .i64 cj.h.a, .int .i64 cj.h.r, .slice s1 cj.h.bs.length s1c, .slice s2 cj.h.ps.length s2c, .slice s3 cj.vs.length s3c] 38)).drew := ⟨_, rfl⟩
                          have HBa := Lib.hid (show Below wr.heap.size wr wa by rw [hwa]; exact ((Below.refl wr.heap.size wr).alloc (Nat.le_refl _) _).drew)
                          have HNb := Lib.hid (show BoxAt wa wr.heap.size [.int .i64 cj.h.a, .int .i64 cj.h.r, .slice s1 cj.h.bs.length s1c, .slice s2 cj.h.ps.length s2c, .slice s3 cj.vs.length s3c] 38 by rw [hwa]; exact (BoxAt.new wr [.int .i64 cj.h.a, .int .i64 cj.h.r, .slice s1 cj.h.bs.length s1c, .slice s2 cj.h.ps.length s2c, .slice s3 cj.vs.length s3c] 38).drew)
                          rw [← hwa]
                          clear hwa
                          refine wpAnyH_ready (rs := [1]) (by kernel_rfl) (by simp) ?_
                          refine AllReadyH.cons rfl (fun K hK => ?_) ?_
                          · rw [if_pos (by rfl)]
                            have q0 : (wa).cell? ⟨w5.heap.size, 0, none⟩ = some (.slice ado ((L.take j).eraseIdx kk).length capo) := ((HBa.out).cell (p := ⟨w5.heap.size, 0, none⟩) (World.block_lt_of_cell? wr _ P0.out)).trans P0.out
                            go_simp
                            show K _ _
                            refine hK.out _ _ (by exact trivial) (fun hHeld => ?_)
                            clear hK K
                            try simp only [Act.put, List.getElem_toArray, List.getElem_cons_succ, List.getElem_cons_zero, List.setIfInBounds_toArray, List.set_cons_zero, List.set_cons_succ]
                            refine wpAnyH_ready (rs := [8]) (by kernel_rfl) (by simp) ?_
                            refine AllReadyH.cons rfl (fun K hK => ?_) ?_
                            · rw [if_pos (by rfl)]
                              obtain ⟨vals, hLV⟩ := (HLr.out.below HBa.out).valsOf
                              have hown0 := hLV.own
                              have zwa := HBa.out.size
                              refine wp_append_one _ _ 25 rfl elemCrt w6.heap.size _ ((L.take j).eraseIdx kk).length vals rfl hown0 wr.heap.size 38 [.int .i64 cj.h.a, .int .i64 cj.h.r, .slice s1 cj.h.bs.length s1c, .slice s2 cj.h.ps.length s2c, .slice s3 cj.vs.length s3c] rfl HNb.out rfl (by simp [Value.oneCell']) (by unfold maxLen; omega) (by omega) (by omega) ?_
                              intro gq capq wq hownq hgrq hatq hltq
                              have hPx : RCert.rd (fun b => b < w2.heap.size ∧ b < wa.heap.size ∧ (Value.slice ado ((L.take j).eraseIdx kk).length capo).ownBlock ≠ some b) wa [.int .i64 cj.h.a, .int .i64 cj.h.r, .slice s1 cj.h.bs.length s1c, .slice s2 cj.h.ps.length s2c, .slice s3 cj.vs.length s3c] cj := ⟨_, _, _, rfl, (A1.out.below HBa.out (fun _ h => h)).mono (fun b (hb : b < w2.heap.size) => ⟨hb, by have := HBa.out.size; omega, fun q => by have := (hLV.lt _ q).1; omega⟩), (A2.out.below HBa.out (fun _ h => h)).mono (fun b (hb : b < w2.heap.size) => ⟨hb, by have := HBa.out.size; omega, fun q => by have := (hLV.lt _ q).1; omega⟩), (A3.out.below HBa.out (fun _ h => h)).mono (fun b (hb : b < w2.heap.size) => ⟨hb, by have := HBa.out.size; omega, fun q => by have := (hLV.lt _ q).1; omega⟩)⟩
                              have HLq := Lib.hid (hLV.push hPx hownq hgrq hatq)
                              have HPq := Lib.hid ((HPr.out.belowS HBa.out).grown hgrq (fun e => by have := (hLV.lt _ e).1; omega))
                              have HBq := Lib.hid ((HBr.out.trans (HBa.out.mono HBr.out.size)).grown hgrq (by omega) (fun k hk => by have := (hLV.lt k hk).1; omega))
                              clear hPx hownq hgrq hatq hLV hown0
                              refine hK.out _ _ (by exact trivial) (fun hHeld => ?_)
                              clear hK K
                              try simp only [Act.put, List.getElem_toArray, List.getElem_cons_succ, List.getElem_cons_zero, List.setIfInBounds_toArray, List.set_cons_zero, List.set_cons_succ]
                              refine wpAnyH_take (i := 9) (v := .pointer (some ⟨w5.heap.size, 0, none⟩)) rfl (by kernel_rfl) (by kernel_rfl) (by kernel_rfl) (fun _ _ _ h => h) (Or.inl ⟨by rfl, fun w hSw => ?_⟩) hHeld ?_
                              · clear hSw; go_simp; all_goals (try first | rfl | omega)
                              try simp only [Act.put, List.getElem_toArray, List.getElem_cons_succ, List.getElem_cons_zero, List.setIfInBounds_toArray, List.set_cons_zero, List.set_cons_succ]
                              refine wpAnyH_ready (rs := [10]) (by kernel_rfl) (by simp) ?_
                              refine AllReadyH.cons rfl (fun K hK => ?_) ?_
                              · rw [if_pos (by rfl)]
                                have q0 := HPq.out.cell 0 rfl
                                have qf0 := HPq.out.free 0
                                have qz := HPq.out.lt
                                go_simp
                                show K _ _
                                refine hK.out _ _ (by exact trivial) (fun hHeld => ?_)
                                clear hK K
                                try simp only [Act.put, List.getElem_toArray, List.getElem_cons_succ, List.getElem_cons_zero, List.setIfInBounds_toArray, List.set_cons_zero, List.set_cons_succ]
                                refine wpAnyH_done (by kernel_rfl) ?_ _
                                obtain ⟨wz, hwz⟩ : ∃ wz, wz = wq.setCell ⟨w5.heap.size, 0, none⟩ (.slice (some ⟨gq, 0, none⟩) (((L.take j).eraseIdx kk).length + 1) capq) := ⟨_, rfl⟩
                                have HPz := Lib.hid (show BoxAt wz w5.heap.size [.slice (some ⟨gq, 0, none⟩) (((L.take j).eraseIdx kk).length + 1) capq] 27 by rw [hwz]; exact HPq.out.set 0 _)
                                have HLz := Lib.hid (show LstO RCert (fun b => b < w2.heap.size) w6.heap.size 38 wz (.slice (some ⟨gq, 0, none⟩) (((L.take j).eraseIdx kk).length + 1) capq) (((L.take j).eraseIdx kk) ++ [cj]) by rw [hwz]; exact HLq.out.setCell (by show w5.heap.size < w6.heap.size; omega) (by show ¬ w5.heap.size < w2.heap.size; omega) _)
                                have HBz := Lib.hid (show Below w5.heap.size w5 wz by rw [hwz]; exact HBq.out.setCell (p := ⟨w5.heap.size, 0, none⟩) (Nat.le_refl _) _)
                                rw [← hwz]
                                clear hwz
                                go_wp2
                                go_roundw
                                case rel => exact ⟨j + 1, some ⟨gq, 0, none⟩, capq, by omega, by go_num, by rw [HE2.out, List.length_append]; exact HPz, by rw [HE2.out, List.length_append]; exact HLz, HBz⟩
                                case measure => simp [intOf]; omega
                              exact AllReadyH.nil
                            exact AllReadyH.nil
                          exact AllReadyH.nil
                        exact AllReadyH.nil
                      exact AllReadyH.nil
                    exact AllReadyH.nil
                · obtain rfl : L.length = j := by omega
                  have k1 : ¬ (L.length : Int) < (L.length : Int) := by omega
                  have HTL := Lib.hid (show (L.take L.length).eraseIdx kk = L.eraseIdx kk by rw [List.take_length])
                  rw [HTL.out] at HPr HLr
                  obtain ⟨X, hX⟩ : ∃ X, X = L.eraseIdx kk := ⟨_, rfl⟩
                  rw [← hX] at HPr HLr HEK
                  clear hX HTL
                  have p0 := HPr.out.cell 0 rfl
                  have HRX := Lib.hid (HLr.out.rd (G' := fun _ => True) (by decide) (fun _ _ _ => trivial) (fun _ _ _ => trivial))
                  have HBe := Lib.hid (HB.out.trans (HBr.out.mono zw5))
                  have kk0 : (0 : Int) ≤ (kk : Int) := by omega
                  cases hd : dagOk X with
                  | true =>
                    have HNO := Lib.hid (show (crtSums (grownL l)).Nodup → False from fun hn => by
                      have h1 := HEK.out (HLL.out ▸ hn)
                      rw [hd] at h1
                      exact Bool.noConfusion h1)
                    go_wp2_with fail
                    refine (dagRound_any _ _ HRX.out (HT.out.belowS HBe.out) hd).mono ?_
                    rintro e w8 ⟨rfl, hb8⟩
                    have HC0 := Lib.hid (dagCode_zero.2 hd)
                    have p8 := (HPr.out.belowS hb8).cell 0 rfl
                    have HB8 := Lib.hid (HBe.out.trans (hb8.mono HBe.out.size))
                    have HR8 := Lib.hid (HRX.out.below hb8 (fun _ h => h))
                    clear hb8 p0 hd
                    go_wp2_with fail
                    refine (dagCheck_any _ _ HR8.out (HT.out.belowS HB8.out)).mono ?_
                    rintro e w9 ⟨rfl, hb9⟩
                    rw [HC0.out]
                    have HB9 := Lib.hid (HB8.out.trans (hb9.mono HB8.out.size))
                    clear hb9
                    go_wp2
                    go_ret
                    exact ⟨false, rfl, fun hn => (HNO.out hn).elim, HB9.out⟩
                  | false =>
                    go_wp2_with fail
                    refine (dagRound_no _ _ HRX.out (HT.out.belowS HBe.out) hd).mono ?_
                    rintro e w8 ⟨zz, rfl, hb8⟩
                    have HC0 := Lib.hid (show dagCode X = 12 by unfold dagCode; rw [hd]; rfl)
                    have p8 := (HPr.out.belowS hb8).cell 0 rfl
                    have HB8 := Lib.hid (HBe.out.trans (hb8.mono HBe.out.size))
                    have HR8 := Lib.hid (HRX.out.below hb8 (fun _ h => h))
                    clear hb8 p0 hd
                    go_wp2_with fail
                    refine (dagCheck_any _ _ HR8.out (HT.out.belowS HB8.out)).mono ?_
                    rintro e w9 ⟨rfl, hb9⟩
                    rw [HC0.out]
                    have HB9 := Lib.hid (HB8.out.trans (hb9.mono HB8.out.size))
                    clear hb9
                    go_wp2
                    go_ret
                    exact ⟨true, rfl, fun _ => rfl, HB9.out⟩
            exact AllReadyH.nil
          exact AllReadyH.nil
        exact AllReadyH.nil
    · obtain rfl : L.length = k := by omega
      have k1 : ¬ (L.length : Int) < (L.length : Int) := by omega
      have hB9 : Below w2.heap.size w2 (w2.alloc (.cells #[.int .i64 0, .int .i64 0, .slice none 0 0, .slice none 0 0, .slice none 0 0] 38)) := (Below.refl _ _).alloc (Nat.le_refl _) _
      have HZ := Lib.hid (rd_zero (BoxAt.new w2 [.int .i64 0, .int .i64 0, .slice none 0 0, .slice none 0 0, .slice none 0 0] 38))
      go_wp2_with fail
      refine (dagCheck_any _ _ HZ.out (HT.out.belowS (HB.out.trans (hB9.mono HB.out.size)))).mono ?_
      rintro e w9 ⟨rfl, hb9⟩
      rw [zero_code]
      have HBE := Lib.hid (HB.out.trans ((hB9.trans (hb9.mono hB9.size)).mono HB.out.size))
      clear hb9 hB9 HZ
      go_wp2
      go_ret
      exact ⟨true, rfl, fun _ => rfl, HBE.out⟩
end Go.Proofs.YtlailhhffejbbaaDoor

/- DagBad: the walk. -/
set_option linter.unusedVariables false
set_option linter.unusedSimpArgs false
attribute [local go_sem ↓] Go.wp_at_zero Go.wp_at_succ
namespace Go.Proofs.YtlailhhffejbbaaDoor
open Go Go.RowKit

theorem gsum_nodup {l : List Stp} (h : gsumB l = false) : (crtSums (grownL l)).Nodup := clear_of (grown_ok l) h
set_option maxRecDepth 100000 in
set_option maxHeartbeats 8000000 in
theorem dagBad_walk (v : Value) (l : List Stp) (n : Int) (w : World) (hv : RdS RStp (fun _ => True) w v l) (hz : l.length * 24 ≤ reachBytes) (n1 : -9223372036854775808 ≤ n) (n2 : n ≤ 9223372036854775807) (ht : Tabs w) :
    Calls Tryd.prog 4 #[v, .int .i64 n] w fun e w' => e = .returned (.bool true) ∧ Below w.heap.size w w' := by
  go_enter Tryd.func4, Tryd.ntmps4
  go_wp2_with fail
  refine (dagBad_any _ l n _ hv hz n1 n2 ht).mono ?_
  rintro e w1 ⟨b, rfl, hn, hb1⟩
  have HN := Lib.hid hn
  clear hn
  cases b with
  | true =>
    go_wp2
    go_ret
    exact ⟨rfl, hb1⟩
  | false =>
    have hg : gsumB l = true := by
      by_cases q : gsumB l = true
      · exact q
      · have := HN.out (gsum_nodup (by simpa using q)); cases this
    go_wp2_with fail
    refine (grownSum_any _ _ (hv.below hb1 (fun _ h => h)) hz (ht.belowS hb1)).mono ?_
    rintro e w2 ⟨rfl, hb2⟩
    rw [hg]
    go_wp2
    go_ret
    exact ⟨rfl, hb1.trans (hb2.mono hb1.size)⟩
end Go.Proofs.YtlailhhffejbbaaDoor
