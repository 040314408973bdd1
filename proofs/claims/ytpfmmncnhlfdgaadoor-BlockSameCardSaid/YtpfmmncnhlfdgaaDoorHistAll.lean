import Derived.Test.YtpfmmncnhlfdgaaDoorDag10
import Derived.Test.YtpfmmncnhlfdgaaDoorDag11
import Derived.Test.YtpfmmncnhlfdgaaDoorDOf
import Derived.Test.YtpfmmncnhlfdgaaDoorOneSum
import Derived.Test.YtpfmmncnhlfdgaaDoorGrown
import Derived.Test.YtpfmmncnhlfdgaaDoorBas
import Derived.Test.YtpfmmncnhlfdgaaDoorInsLaw
import Derived.Test.YtpfmmncnhlfdgaaDoorRows
import Derived.Shelf.SlLaysF
import Derived.Shelf.SlGeneric
import Derived.Shelf.SlSortCmp.Whole1
import Derived.Test.YtpfmmncnhlfdgaaDoorBats
import Derived.Deep.LoopGhost
/- dagClosed: plain laws. -/
set_option linter.unusedVariables false
set_option linter.unusedSimpArgs false
namespace Go.Proofs.YtpfmmncnhlfdgaaDoor
open Go Go.RowKit

/-- Each parent of a certificate of a dag stands ahead of it, and on the round before. -/
theorem closed_par {l : List Crt} (hok : dagOk l = true) {i : Nat} (hi : i < l.length) {p : Bytes} (hp : p ∈ l[i].h.ps) :
    ∃ n : Nat, n < i ∧ idxP (isB p) (crtSums (l.take i)) = n ∧ idxP (isB p) (crtSums l) = n ∧ (l.getD n crtZ).h.r = l[i].h.r - 1 := by
  have hf := (dagOk_iff.1 hok).2.2 i hi
  unfold fits at hf
  simp only [Bool.and_eq_true, Bool.not_eq_true', decide_eq_true_eq] at hf
  obtain ⟨h1, h2, -⟩ := hf
  have h0 : 0 ≤ idxP (isB p) (crtSums (l.take i)) := by
    by_cases q : 0 ≤ idxP (isB p) (crtSums (l.take i))
    · exact q
    · have hm : p ∈ noneL (crtSums (l.take i)) l[i].h.ps := List.mem_filter.2 ⟨hp, decide_eq_true (by omega)⟩
      rw [h1] at hm; simp at hm
  obtain ⟨n, hn, hin, hpn, hno⟩ := idxP_at h0
  have hni : n < i := by rw [crtSums_len, List.length_take] at hn; omega
  have et : crtSums (l.take i) = (crtSums l).take i := by simp [crtSums]
  have hnl : n < (crtSums l).length := by rw [crtSums_len]; omega
  refine ⟨n, hni, hin, idxP_hit hnl (fun j hj x hx => hno j hj x (by rw [et, List.getElem?_take_of_lt (by omega)]; exact hx)) (by
    have e : (crtSums (l.take i))[n] = (crtSums l)[n] := by simp [et]
    rw [← e]; exact hpn), ?_⟩
  unfold wrongB at h2
  rw [List.any_eq_false] at h2
  have hw := h2 p hp
  unfold wrong1 at hw
  rw [hin] at hw
  have e2 : (l.take i).getD n crtZ = l.getD n crtZ := by simp [List.getElem?_take_of_lt hni]
  simp only [Int.toNat_natCast, e2, Bool.and_eq_true, decide_eq_true_eq, not_and, Decidable.not_not] at hw
  exact hw (by omega)
/-- Nothing is missing for a certificate of a dag. -/
theorem closed_mis {l : List Crt} (hok : dagOk l = true) {i : Nat} (hi : i < l.length) : misCode l l[i].h = 0 ∧ (misL l l[i].h).length = 0 := by
  have hh : hdrCode l[i].h = 0 := (crt_partsP ((dagOk_iff.1 hok).2.1 _ (List.getElem_mem hi))).1
  have hw : wrongB l (crtSums l) l[i].h.r l[i].h.ps = false := by
    unfold wrongB
    rw [List.any_eq_false]
    intro p hp q
    obtain ⟨n, -, -, h3, h4⟩ := closed_par hok hi hp
    unfold wrong1 at q
    rw [h3] at q
    simp only [Int.toNat_natCast, Bool.and_eq_true, decide_eq_true_eq] at q
    exact q.2 h4
  have hm := mis_3 hh hw
  refine ⟨hm.1, ?_⟩
  rw [hm.2]
  have : noneL (crtSums l) l[i].h.ps = [] := List.filter_eq_nil_iff.2 fun p hp q => by
    obtain ⟨n, -, -, h3, -⟩ := closed_par hok hi hp
    simp only [decide_eq_true_eq] at q
    omega
  rw [this]; rfl
/-- Nothing has a digest of one byte. -/
theorem closed_one (l : List Crt) : findCode l [1] = 8 ∧ findCrt l [1] = crtZ := find_no (by
  by_cases q : 0 ≤ idxP (isB [1]) (crtSums l)
  · obtain ⟨x, hx, hb⟩ := idxP_ge.1 q
    obtain ⟨c, -, rfl⟩ := List.mem_map.1 hx
    have e : crtSum c = [1] := by unfold isB at hb; exact of_decide_eq_true hb
    have h := hdrSum_length c.h
    have e' : hdrSum c.h = [1] := e
    rw [e'] at h; simp at h
  · omega)
end Go.Proofs.YtpfmmncnhlfdgaaDoor

/- sheaveskeep.headers: what it makes. -/
set_option linter.unusedVariables false
set_option linter.unusedSimpArgs false
attribute [local go_sem ↓] Go.wp_at_zero Go.wp_at_succ
namespace Go.Proofs.YtpfmmncnhlfdgaaDoor
open Go Go.RowKit

theorem elemHdrD : ElemOk Tryd.prog 52 42 4 64 := elemOk_of (z := .agg #[.int .i64 0, .int .i64 0, .slice none 0 0, .slice none 0 0]) (by kernel_rfl) (by kernel_rfl) rfl (by decide)
def hdrsOf (l : List Crt) : List Hdr := l.map (·.h)
theorem hdrsOf_len (l : List Crt) : (hdrsOf l).length = l.length := by simp [hdrsOf]
theorem hdrsOf_succ {l : List Crt} {k : Nat} (h : k < l.length) : hdrsOf (l.take (k + 1)) = hdrsOf (l.take k) ++ [l[k].h] := by
  unfold hdrsOf; rw [List.take_succ_eq_append_getElem h, List.map_append]; rfl
set_option maxRecDepth 100000 in
set_option maxHeartbeats 8000000 in
theorem headers_any {G : Nat → Prop} {l : List Crt} (v : Value) (w : World) (h : RdS RCert G w v l) (hl : l.length ≤ 1000) :
    Calls Tryd.prog 27 #[.agg #[v]] w fun e w' => ∃ (ado : Option Addr) (capo : Nat), e = .returned (.slice ado l.length capo) ∧ LstO RHdr (fun b => G b ∧ b < w.heap.size) (w.heap.size + 1) 42 w' (.slice ado l.length capo) (hdrsOf l) ∧ Below w.heap.size w w' := by
  obtain ⟨ad, cap, rfl, hcap, hm⟩ := h.form
  unfold maxLen at hm
  have hb0 := (Below.refl w.heap.size w).alloc (Nat.le_refl _) (.cells #[.slice ad l.length cap] 30)
  have HV := Lib.hid ((h.low (by decide)).below hb0 (fun _ h => h))
  have HB := Lib.hid hb0
  have HX := Lib.hid (BoxAt.new w [.slice ad l.length cap] 30)
  clear h hb0
  go_enter Tryd.func27, Tryd.ntmps27
  go_upto_region 1 with fail
  obtain ⟨w0, hw0⟩ : ∃ w0, w0 = w.alloc (.cells #[.slice ad l.length cap] 30) := ⟨_, rfl⟩
  rw [← hw0] at HV HX HB ⊢
  have hz0 := HX.out.lt
  have hz1 : w0.heap.size = w.heap.size + 1 := by rw [hw0]; simp
  have hz2 : w0.heap.size ≤ w.heap.size + 1 := by omega
  have hz3 : w.heap.size + 1 ≤ w0.heap.size := by omega
  clear hw0 hz1
  go_wp2_with fail
  go_loopw [3, 4] (fun o i wr => ∃ (k : Nat) (ado : Option Addr) (capo : Nat), k ≤ l.length ∧ i = .int .i64 k ∧ o = .slice ado k capo ∧ LstO RHdr (fun b => G b ∧ b < w.heap.size) (w.heap.size + 1) 42 wr (.slice ado k capo) (hdrsOf (l.take k)) ∧ Below w0.heap.size w0 wr) (fun _ i _ => l.length - (intOf i).toNat)
  case atStart => exact ⟨0, none, 0, Nat.zero_le _, rfl, rfl, LstO.nil _ _ _ _ _, Below.refl _ _⟩
  case round =>
    obtain ⟨k, ado, capo, hk, rfl, rfl, hL, hB⟩ := hrel
    have hz := hB.size
    have HBr := Lib.hid hB
    have x0 := (HX.out.belowS hB).cell 0 rfl
    have hzx := (HX.out.belowS hB).lt
    by_cases hlt : k < l.length
    · have i0 : (0 : Int) ≤ (k : Int) := by omega
      have i1 : (k : Int) < (l.length : Int) := by omega
      have wk : IntKind.i64.wrap ((k : Int) + 1) = (k : Int) + 1 := IntWalk.i64_in _ (by omega)
      obtain ⟨vals, hv⟩ := hL.valsOf
      have hvlt := hv.lt
      have HLr := Lib.hid hv
      have HKL := Lib.hid (show (hdrsOf (l.take k)).length = k by rw [hdrsOf_len, List.length_take]; omega)
      have HMS := Lib.hid (hdrsOf_succ hlt)
      obtain ⟨b, o, ub, up, uv, rfl, -, e0, e1, e2, e3, e4, hb', hp', -⟩ := (HV.out.below hB (fun _ h => h)).crt k hlt
      generalize l[k] = c at *
      obtain ⟨adb, capb, rfl, -, -⟩ := hb'.form
      obtain ⟨adp, capp, rfl, -, -⟩ := hp'.form
      have H1 := Lib.hid hb'
      have H2 := Lib.hid hp'
      clear hb' hp' hv hL hB
      go_wp2_with (at_builtin; refine wpList_append_one rfl _ _ 52 rfl elemHdrD (w.heap.size + 1) _ k vals rfl (by have h := (HLr.out.alloc (.cells #[.int .i64 c.h.a, .int .i64 c.h.r, .slice adb c.h.bs.length capb, .slice adp c.h.ps.length capp] 42)).own; rw [HKL.out] at h; exact h) wr.heap.size 42 [.int .i64 c.h.a, .int .i64 c.h.r, .slice adb c.h.bs.length capb, .slice adp c.h.ps.length capp] rfl (BoxAt.new wr [_, _, _, _] _) rfl (by simp [Value.oneCell']) (by unfold maxLen; omega) (by omega) (by simp; omega) ?_; intro g cap6 w6 hown6 hgr6 hat6 hlt6)
      have hx : RHdr.rd (fun b => (G b ∧ b < w.heap.size) ∧ b < (wr.alloc (.cells #[.int .i64 c.h.a, .int .i64 c.h.r, .slice adb c.h.bs.length capb, .slice adp c.h.ps.length capp] 42)).heap.size ∧ (Value.slice ado k capo).ownBlock ≠ some b) (wr.alloc (.cells #[.int .i64 c.h.a, .int .i64 c.h.r, .slice adb c.h.bs.length capb, .slice adp c.h.ps.length capp] 42)) [.int .i64 c.h.a, .int .i64 c.h.r, .slice adb c.h.bs.length capb, .slice adp c.h.ps.length capp] c.h :=
        ⟨_, _, rfl, H1.out.keep (Keep.alloc _ _ _) (fun b hb => ⟨hb, by have := hb.2; simp; omega, fun e => by have h1 := hb.2; have := (hvlt _ e).1; omega⟩), H2.out.keep (Keep.alloc _ _ _) (fun b hb => ⟨hb, by have := hb.2; simp; omega, fun e => by have h1 := hb.2; have := (hvlt _ e).1; omega⟩)⟩
      have hP := (HLr.out.alloc (.cells #[.int .i64 c.h.a, .int .i64 c.h.r, .slice adb c.h.bs.length capb, .slice adp c.h.ps.length capp] 42)).push hx (by rw [HKL.out]; exact hown6) hgr6 hat6
      rw [HKL.out, ← HMS.out] at hP
      have HP := Lib.hid hP
      have HB6 := Lib.hid (show Below w0.heap.size w0 w6 from ((HBr.out).alloc (by omega) (.cells #[.int .i64 c.h.a, .int .i64 c.h.r, .slice adb c.h.bs.length capb, .slice adp c.h.ps.length capp] 42)).grown hgr6 (by simp; omega) (fun k hk => by have := (hvlt _ hk).1; omega))
      clear hP hx hown6 e0 e1 e2 e3 e4 x0
      go_wp2
      go_roundw
      case rel => exact ⟨k + 1, some ⟨g, 0, none⟩, cap6, by omega, by go_num, rfl, HP.out, HB6.out⟩
      case measure => simp [intOf]; omega
    · obtain rfl : k = l.length := by omega
      rw [List.take_length] at hL
      have HM := Lib.hid hL
      have HBE := Lib.hid (HB.out.trans (HBr.out.mono HB.out.size))
      clear hL hB
      have t1 : ¬ (l.length : Int) < (l.length : Int) := by omega
      go_wp2
      go_ret
      exact ⟨_, _, rfl, HM.out, HBE.out⟩
end Go.Proofs.YtpfmmncnhlfdgaaDoor

/- A dag whose headers have no two unlike ones of one sum: its digests are all different. -/
set_option linter.unusedVariables false
set_option linter.unusedSimpArgs false
attribute [local go_sem ↓] Go.wp_at_zero Go.wp_at_succ
namespace Go.Proofs.YtpfmmncnhlfdgaaDoor
open Go Go.RowKit

theorem anyPair_down {α : Type} {p : α → α → Bool} {l : List α} : ∀ m : Nat, m ≤ l.length → anyPair p (l.take m) (l.drop m) = true → anyPair p [] l = true
  | 0, _, h => by simpa using h
  | m + 1, hm, h => anyPair_down m (by omega) (by
      rw [List.drop_eq_getElem_cons (show m < l.length by omega), anyPair, ← List.take_succ_eq_append_getElem (show m < l.length by omega), h, Bool.or_true])
theorem anyPair_at {α : Type} {p : α → α → Bool} {l : List α} {k j : Nat} (hk : k < l.length) (hj : j < k) (h : p l[k] (l[j]'(by omega)) = true) : anyPair p [] l = true :=
  anyPair_down k (by omega) (anyPair_hit hk hj h)
/-- The digests of a dag are all different, or two unlike headers have one sum. -/
theorem clear_of {l : List Crt} (hok : dagOk l = true) {X : List Hdr} {B : List Bat} (h : oneSumL (hdrsOf l ++ X) B = false) : (crtSums l).Nodup := by
  have hS := dagOk_solo hok
  have hH : ∀ c ∈ l, hdrCode c.h = 0 := fun c hc => (crt_partsP ((dagOk_iff.1 hok).2.1 c hc)).1
  rw [List.nodup_iff_pairwise_ne, List.pairwise_iff_getElem]
  intro i j hi hj hij he
  have hi' : i < l.length := by rw [crtSums_len] at hi; exact hi
  have hj' : j < l.length := by rw [crtSums_len] at hj; exact hj
  have e1 : (crtSums l)[i] = hdrSum l[i].h := by simp [crtSums, crtSum]
  have e2 : (crtSums l)[j] = hdrSum l[j].h := by simp [crtSums, crtSum]
  rw [e1, e2] at he
  have hkey : ¬ (l[i].h.a = l[j].h.a ∧ l[i].h.r = l[j].h.r) := (List.pairwise_iff_getElem.1 hS.2) i j hi' hj' hij
  have g1 : (hdrsOf l ++ X)[j]'(by simp [hdrsOf]; omega) = l[j].h := by rw [List.getElem_append_left (by simp [hdrsOf]; omega)]; simp [hdrsOf]
  have g2 : (hdrsOf l ++ X)[i]'(by simp [hdrsOf]; omega) = l[i].h := by rw [List.getElem_append_left (by simp [hdrsOf]; omega)]; simp [hdrsOf]
  have hp : pairH ((hdrsOf l ++ X)[j]'(by simp [hdrsOf]; omega)) ((hdrsOf l ++ X)[i]'(by simp [hdrsOf]; omega)) = true := by
    rw [g1, g2]
    unfold pairH
    refine decide_eq_true ⟨hH _ (List.getElem_mem hj'), hH _ (List.getElem_mem hi'), he.symm, ?_⟩
    unfold sameH
    exact decide_eq_false (fun q => hkey ⟨q.1.symm, q.2.1.symm⟩)
  have ht := anyPair_at (p := pairH) (l := hdrsOf l ++ X) (by simp [hdrsOf]; omega) hij hp
  unfold oneSumL at h
  rw [ht] at h
  simp at h
/-- Where digests are all different, a digest is found at its own place. -/
theorem idx_clear {l : List Crt} (hn : (crtSums l).Nodup) {k : Nat} (hk : k < l.length) : idxP (isB (crtSum l[k])) (crtSums l) = k := by
  have hkS : k < (crtSums l).length := by rw [crtSums_len]; exact hk
  have e : (crtSums l)[k] = crtSum l[k] := by simp [crtSums]
  refine idxP_hit hkS (fun j hj x hx => ?_) (by unfold isB; exact decide_eq_true e)
  unfold isB
  refine decide_eq_false (fun q => ?_)
  have hjS : j < (crtSums l).length := by omega
  rw [List.getElem?_eq_getElem hjS] at hx
  have hx' := Option.some.inj hx
  rw [List.nodup_iff_pairwise_ne, List.pairwise_iff_getElem] at hn
  exact hn j k hjS hkS hj (by rw [hx', q, e])
theorem find_clear {l : List Crt} (hn : (crtSums l).Nodup) {k : Nat} (hk : k < l.length) : idxP (isB (crtSum l[k])) (crtSums l) = k := idx_clear hn hk
end Go.Proofs.YtpfmmncnhlfdgaaDoor

/- sheaveskeep.grownSum: what it computes. -/
set_option linter.unusedVariables false
set_option linter.unusedSimpArgs false
attribute [local go_sem ↓] Go.wp_at_zero Go.wp_at_succ
namespace Go.Proofs.YtpfmmncnhlfdgaaDoor
open Go Go.RowKit

/-- Two lists one behind the other. -/
theorem RdS.ofAppend2 {α : Type} {R : Rel α} {w : World} {base e : Nat} {v : Value} {l1 l2 : List α} {vals news : List Value} (hs : 0 < R.size) (h0 : vals.length = l1.length * R.size)
    (hown : w.ownsRow base e R.size v (l1.length + l2.length) (vals ++ news)) (h1 : ∀ j x, l1[j]? = some x → R.rd (fun _ => True) w ((vals.drop (j * R.size)).take R.size) x) (h2 : ∀ j x, l2[j]? = some x → R.rd (fun _ => True) w ((news.drop (j * R.size)).take R.size) x) :
    RdS R (fun _ => True) w v (l1 ++ l2) := by
  obtain ⟨hl, hown'⟩ := hown
  rcases hown' with ⟨rfl, h0'⟩ | ⟨g, cap, cur, rfl, hbg, hg, k1, k2, k3, k4⟩
  · have e1 : l1 = [] := List.eq_nil_of_length_eq_zero (by omega)
    have e2 : l2 = [] := List.eq_nil_of_length_eq_zero (by omega)
    subst e1 e2; exact RdS.nil _ _ _
  · refine ⟨some ⟨g, 0, none⟩, cap, by rw [List.length_append], by rw [List.length_append]; exact k1, k2, fun h => by simp at h, fun j x hx => ?_⟩
    have hj : j < l1.length + l2.length := by
      rcases Nat.lt_or_ge j (l1 ++ l2).length with h | h
      · simpa using h
      · rw [List.getElem?_eq_none h] at hx; simp at hx
    have hle : (j + 1) * R.size ≤ (l1.length + l2.length) * R.size := Nat.mul_le_mul_right _ hj
    rw [Nat.add_mul, Nat.one_mul] at hle
    have hr : R.rd (fun _ => True) w (((vals ++ news).drop (j * R.size)).take R.size) x := by
      rcases Nat.lt_or_ge j l1.length with h | h
      · rw [List.getElem?_append_left h] at hx
        have hle2 : (j + 1) * R.size ≤ l1.length * R.size := Nat.mul_le_mul_right _ h
        rw [Nat.add_mul, Nat.one_mul] at hle2
        rw [List.drop_append_of_le_length (by omega), List.take_append_of_le_length (by simp; omega)]
        exact h1 j x hx
      · rw [List.getElem?_append_right h] at hx
        have e : j * R.size = vals.length + (j - l1.length) * R.size := by rw [h0, ← Nat.add_mul]; congr 1; omega
        rw [e, ← List.drop_drop, List.drop_left' rfl]
        exact h2 _ x hx
    refine ⟨g, 0, _, rfl, trivial, fun t c ht => ?_, hr⟩
    have hlen := R.len hr
    have ht' : t < R.size := by
      rcases Nat.lt_or_ge t R.size with h | h
      · exact h
      · rw [List.getElem?_eq_none (by omega)] at ht; simp at ht
    rw [List.getElem?_take_of_lt ht', List.getElem?_drop, ← k4, List.getElem?_take_of_lt (by omega)] at ht
    simp [World.cell?, hg]
    simpa using ht
theorem LstO.baseMono {α : Type} {R : Rel α} {G : Nat → Prop} {base base' e : Nat} {w : World} {v : Value} {l : List α} (h : LstO R G base e w v l) (hb : base' ≤ base) : LstO R G base' e w v l := by
  obtain ⟨vals, h1, h2⟩ := h
  exact ⟨vals, ownsRow_mono h1 hb, h2⟩
def gsumB (l : List Stp) : Bool := oneSumL (hdrsOf (grownL l) ++ hdrsOf (grownL (l.take 12))) (grownBs l ++ grownBs (l.take 12))
theorem batTo_mono (l : List Stp) (n : Nat) : ∀ m, n ≤ m → (batTo l n).length ≤ (batTo l m).length
  | 0, h => by obtain rfl : n = 0 := by omega
               exact Nat.le_refl _
  | m + 1, h => by
    rcases Nat.lt_or_ge m n with q | q
    · obtain rfl : n = m + 1 := by omega
      exact Nat.le_refl _
    · have h1 := batTo_mono l n m q
      have h2 : (batTo l m).length ≤ (batTo l (m + 1)).length := by simp [batTo]
      omega
theorem own_zero {w : World} {base e k a b : Nat} {v : Value} {l m : List Value} (h : w.ownsRow base e k v (0 + a + b) ([] ++ l ++ m)) : w.ownsRow base e k v (a + b) (l ++ m) := by
  rw [Nat.zero_add] at h; exact h
theorem take_min12 {α : Type} (l : List α) : l.take (min l.length 12) = l.take 12 := by
  rcases Nat.le_total l.length 12 with q | q
  · rw [Nat.min_eq_left q, List.take_length, List.take_of_length_le q]
  · rw [Nat.min_eq_right q]
theorem grownBs_pos (l : List Stp) : 0 < (grownBs l).length := by
  have h1 : (batTo (stp1 :: l) 1).length = 1 := by
    show (batTo (stp1 :: l) 0 ++ stpBs 0 stp1 (stpN stp1)).length = 1
    rw [List.length_append, stpBs_len]
    show 0 + stpN stp1 = 1
    decide
  have h2 := batTo_mono (stp1 :: l) 1 (stpMany (stp1 :: l)) (by unfold stpMany; simp; omega)
  show 0 < (batTo (stp1 :: l) (stpMany (stp1 :: l))).length
  omega
theorem grownBs_len (l : List Stp) : (grownBs l).length ≤ 48 := by
  have := batTo_len (stp1 :: l) (stpMany (stp1 :: l))
  have h : stpMany (stp1 :: l) ≤ 24 := by unfold stpMany; omega
  show (batTo (stp1 :: l) (stpMany (stp1 :: l))).length ≤ 48
  omega
theorem lst_steps {w w' : World} {base e : Nat} {v : Value} {l : List Stp} {news : List Value} (hown : w.ownsRow base e 3 v l.length news) (h : ∀ j x, l[j]? = some x → RStp.rd (fun _ => True) w' ((news.drop (j * 3)).take 3) x) :
    LstO RStp (fun _ => True) base e w v l := ⟨news, hown, fun j x hx => h j x hx⟩
set_option maxRecDepth 100000 in
set_option maxHeartbeats 8000000 in
theorem grownSum_any {l : List Stp} (v : Value) (w : World) (hv : RdS RStp (fun _ => True) w v l) (hz : l.length * 24 ≤ reachBytes) (ht : Tabs w) :
    Calls Tryd.prog 12 #[v, .slice none 0 0] w fun e w' => e = .returned (.bool (gsumB l)) ∧ Below w.heap.size w w' := by
  have HT := Lib.hid ht
  have hlz : l.length * 24 ≤ 140737488351232 := hz
  obtain ⟨adl, capl, rfl, hcl, hml⟩ := hv.form
  unfold maxLen at hml
  have HV := Lib.hid hv
  obtain ⟨m, hm⟩ : ∃ m, m = min l.length 12 := ⟨_, rfl⟩
  have hm1 : m ≤ l.length := by omega
  have hm2 : m ≤ 12 := by omega
  have hm3 : ((l.length : Int) ≤ 12 ∧ (m : Int) = (l.length : Int)) ∨ (¬ (l.length : Int) ≤ 12 ∧ (m : Int) = 12) := by omega
  have HM3 := Lib.hid hm3
  have HTK := Lib.hid (show l.take m = l.take 12 by rw [hm]; exact take_min12 l)
  have htl : (l.take m).length = m := by rw [List.length_take]; omega
  have HTL := Lib.hid htl
  have HZ2 := Lib.hid (show (l.take m).length * 24 ≤ reachBytes by rw [htl]; exact Nat.le_trans (Nat.mul_le_mul_right _ hm1) hz)
  clear hv ht hm hm3 htl
  go_enter Tryd.func12, Tryd.ntmps12
  go_wp2_with fail
  refine (grown_any _ _ HV.out hz HT.out).mono ?_
  rintro e w1 ⟨vd, vb, rfl, hd, hb, hb1⟩
  obtain ⟨add, capd, rfl, -, -⟩ := hd.form
  obtain ⟨adb, capb, rfl, -, -⟩ := hb.form
  have HD1 := Lib.hid ((hd.mono (G' := fun _ => True) (fun _ _ => trivial)))
  have HS1 := Lib.hid ((hb.mono (G' := fun _ => True) (fun _ _ => trivial)))
  have HB1 := Lib.hid hb1
  have HV1 := Lib.hid (HV.out.below hb1 (fun _ h => h))
  clear hd hb hb1 HV
  have hg4 := grown_len l
  have hgp := grown_pos l
  have hb4 := grownBs_len l
  have hbp := grownBs_pos l
  obtain ⟨D1, hD1⟩ : ∃ D1, D1 = grownL l := ⟨_, rfl⟩
  obtain ⟨S1, hS1⟩ : ∃ S1, S1 = grownBs l := ⟨_, rfl⟩
  rw [← hD1] at HD1 hg4 hgp ⊢
  rw [← hS1] at HS1 hb4 hbp ⊢
  have HDE1 := Lib.hid hD1
  have HSE1 := Lib.hid hS1
  clear hD1 hS1
  go_upto_region 2 with fail
  obtain ⟨w2, hwl⟩ : ∃ w2, w2 = w1.alloc (.cells #[.slice add D1.length capd] 30) := ⟨_, rfl⟩
  have hBl : Below w1.heap.size w1 w2 := by rw [hwl]; exact (Below.refl _ _).alloc (Nat.le_refl _) _
  have HX := Lib.hid (show BoxAt w2 w1.heap.size [.slice add D1.length capd] 30 by rw [hwl]; exact BoxAt.new w1 [_] _)
  rw [← hwl]
  replace HD1 := Lib.hid (HD1.out.below hBl (fun _ h => h))
  replace HS1 := Lib.hid (HS1.out.below hBl (fun _ h => h))
  replace HB1 := Lib.hid (HB1.out.trans (hBl.mono HB1.out.size))
  replace HV1 := Lib.hid (HV1.out.below hBl (fun _ h => h))
  clear hwl hBl
  obtain ⟨news, hsl, hrd, hone⟩ := (HV1.out.take m hm1).flatOf (by decide) (fun h => RStp_one h)
  rw [HTL.out] at hsl
  have HSL := Lib.hid hsl
  have HRD := Lib.hid hrd
  have HON := Lib.hid hone
  clear hsl hrd hone
  have k1 : (m : Int) ≤ (capl : Int) := by omega
  have k0 : (0 : Int) ≤ (m : Int) := by omega
  have kmin : min (l.length : Int) 12 = (m : Int) := by have q := HM3.out; omega
  go_wp2_with (first
    | (refine wpList_min rfl (.tmp 17) (.const (.int .i64 12)) 3 3 rfl (l.length : Int) 12 (m : Int) rfl rfl HM3.out ?_)
    | (at_builtin; refine wpList_append_sl rfl (.const (.slice none 0 0)) (.tmp 19) 22 rfl elemStp w2.heap.size (.slice none 0 0) rfl 0 [] (World.ownsRow_nil _ _ _ _) _ rfl m news HSL.out HON.out (by unfold maxLen; omega) (by omega) (Nat.le_refl _) ?_; intro v20 w20 hown20 hgr20)
    | (at_builtin; refine wpList_append_sl rfl (.tmp 20) (.tmp 21) 22 rfl elemStp w2.heap.size v20 rfl (0 + m) ([] ++ news) hown20 (.slice none 0 0) rfl 0 [] ⟨none, 0, rfl, fun _ => ⟨rfl, rfl⟩, rfl, fun j u h => by simp at h⟩ (by simp) (by unfold maxLen; omega) (by omega) hgr20.size ?_; intro v22 w22 hown22 hgr22))
  have hlt20 := hown20.lt
  have hown22' : w22.ownsRow w2.heap.size 66 3 v22 (l.take m).length news := by
    rw [HTL.out]; simpa using hown22
  have HL22 := Lib.hid (lst_steps (w' := w2) hown22' HRD.out)
  have hB22 : Below w2.heap.size w2 w22 := ((Below.refl _ _).grown hgr20 (Nat.le_refl _) (fun k hk => by simp [Value.ownBlock] at hk)).grown hgr22 hgr20.size (fun k hk => (hlt20 k hk).1)
  replace HD1 := Lib.hid (HD1.out.below hB22 (fun _ h => h))
  replace HS1 := Lib.hid (HS1.out.below hB22 (fun _ h => h))
  replace HX := Lib.hid (HX.out.belowS hB22)
  replace HB1 := Lib.hid (HB1.out.trans (hB22.mono HB1.out.size))
  clear hown20 hgr20 hown22 hown22' hgr22 hB22 hlt20 HSL HRD HON HV1
  refine (grown_any _ _ (HL22.out.rd (G' := fun _ => True) (by decide) (fun _ _ _ => trivial) (fun _ _ _ => trivial)) HZ2.out (HT.out.belowS HB1.out)).mono ?_
  rintro e w3 ⟨ve, vf, rfl, hd, hb, hb3⟩
  obtain ⟨ade, cape, rfl, -, -⟩ := hd.form
  obtain ⟨adf, capf, rfl, -, -⟩ := hb.form
  have HD2 := Lib.hid ((hd.mono (G' := fun _ => True) (fun _ _ => trivial)))
  have HS2 := Lib.hid ((hb.mono (G' := fun _ => True) (fun _ _ => trivial)))
  replace HD1 := Lib.hid (HD1.out.below hb3 (fun _ h => h))
  replace HS1 := Lib.hid (HS1.out.below hb3 (fun _ h => h))
  replace HX := Lib.hid (HX.out.belowS hb3)
  replace HB1 := Lib.hid (HB1.out.trans (hb3.mono HB1.out.size))
  rw [HTK.out] at HD2 HS2 ⊢
  clear hd hb hb3 HL22
  have hg4' := grown_len (l.take 12)
  have hgp' := grown_pos (l.take 12)
  have hb4' := grownBs_len (l.take 12)
  have hbp' := grownBs_pos (l.take 12)
  have HG := Lib.hid (show gsumB l = oneSumL (hdrsOf (grownL l) ++ hdrsOf (grownL (l.take 12))) (grownBs l ++ grownBs (l.take 12)) from rfl)
  rw [← HDE1.out, ← HSE1.out] at HG
  generalize grownL (l.take 12) = D2 at *
  generalize grownBs (l.take 12) = S2 at *
  go_upto_region 3 with fail
  obtain ⟨w5, hwl⟩ : ∃ w5, w5 = w3.alloc (.cells #[.slice ade D2.length cape] 30) := ⟨_, rfl⟩
  have hBl : Below w3.heap.size w3 w5 := by rw [hwl]; exact (Below.refl _ _).alloc (Nat.le_refl _) _
  have HY := Lib.hid (show BoxAt w5 w3.heap.size [.slice ade D2.length cape] 30 by rw [hwl]; exact BoxAt.new w3 [_] _)
  rw [← hwl]
  replace HD1 := Lib.hid (((HD1.out.low (by decide)).mono (G' := fun b => b < w3.heap.size) (fun b hb => hb.2)).below hBl (fun _ h => h))
  replace HS1 := Lib.hid (((HS1.out.low (by decide)).mono (G' := fun b => b < w3.heap.size) (fun b hb => hb.2)).below hBl (fun _ h => h))
  replace HD2 := Lib.hid (((HD2.out.low (by decide)).mono (G' := fun b => b < w3.heap.size) (fun b hb => hb.2)).below hBl (fun _ h => h))
  replace HS2 := Lib.hid (((HS2.out.low (by decide)).mono (G' := fun b => b < w3.heap.size) (fun b hb => hb.2)).below hBl (fun _ h => h))
  replace HX := Lib.hid (HX.out.belowS hBl)
  replace HB1 := Lib.hid (HB1.out.trans (hBl.mono HB1.out.size))
  clear hwl hBl
  have zx := HX.out.lt
  have zy := HY.out.lt
  have hzw := HB1.out.size
  refine wp_region_held_drew (S := fun w' => Below w5.heap.size w5 w') (by kernel_rfl) (by exact (Below.refl _ _).drew) (fun hHeld => ?_)
  obtain ⟨wd, hwd⟩ : ∃ wd, wd = w5.drew := ⟨_, rfl⟩
  have HBd := Lib.hid (show Below w5.heap.size w5 wd by rw [hwd]; exact (Below.refl _ _).drew)
  rw [← hwd] at hHeld ⊢
  clear hwd
  refine wpAnyH_take (i := 0) (v := .agg #[.slice add D1.length capd]) rfl (by kernel_rfl) (by kernel_rfl) (by kernel_rfl) (fun _ _ _ h => h) (Or.inl ⟨by rfl, fun w hSw => ?_⟩) hHeld ?_
  · have q0 := (HX.out.belowS hSw).cell 0 rfl; clear hSw; go_simp
  try simp only [Act.put, List.getElem_toArray, List.getElem_cons_succ, List.getElem_cons_zero, List.setIfInBounds_toArray, List.set_cons_zero, List.set_cons_succ]
  refine wpAnyH_take (i := 2) (v := .agg #[.slice ade D2.length cape]) rfl (by kernel_rfl) (by kernel_rfl) (by kernel_rfl) (fun _ _ _ h => h) (Or.inl ⟨by rfl, fun w hSw => ?_⟩) hHeld ?_
  · have q0 := (HY.out.belowS hSw).cell 0 rfl; clear hSw; go_simp
  try simp only [Act.put, List.getElem_toArray, List.getElem_cons_succ, List.getElem_cons_zero, List.setIfInBounds_toArray, List.set_cons_zero, List.set_cons_succ]
  refine wpAnyH_take (i := 5) (v := .slice adb S1.length capb) rfl (by kernel_rfl) (by kernel_rfl) (by kernel_rfl) (fun _ _ _ h => h) (Or.inl ⟨by rfl, fun w hSw => ?_⟩) hHeld ?_
  · clear hSw; go_simp; all_goals (try first | rfl | omega)
  try simp only [Act.put, List.getElem_toArray, List.getElem_cons_succ, List.getElem_cons_zero, List.setIfInBounds_toArray, List.set_cons_zero, List.set_cons_succ]
  refine wpAnyH_take (i := 7) (v := .slice adf S2.length capf) rfl (by kernel_rfl) (by kernel_rfl) (by kernel_rfl) (fun _ _ _ h => h) (Or.inl ⟨by rfl, fun w hSw => ?_⟩) hHeld ?_
  · clear hSw; go_simp; all_goals (try first | rfl | omega)
  try simp only [Act.put, List.getElem_toArray, List.getElem_cons_succ, List.getElem_cons_zero, List.setIfInBounds_toArray, List.set_cons_zero, List.set_cons_succ]
  refine wpAnyH_ready (rs := [1]) (by kernel_rfl) (by simp) ?_
  refine AllReadyH.cons rfl (fun K hK => ?_) ?_
  · rw [if_pos (by rfl)]
    go_simp
    go_at_call 27
    refine (headers_any _ _ (HD1.out.below HBd.out (fun _ h => h)) (by omega)).mono ?_
    rintro e wh ⟨ah, ch, rfl, hL, hbh⟩
    have hBh : Below w5.heap.size w5 wh := HBd.out.trans (hbh.mono (Below.size HBd.out))
    have HBh := Lib.hid hBh
    have zh := hBh.size
    have HL1 := Lib.hid (show LstO RHdr (fun b => b < w3.heap.size) w5.heap.size 42 wh (.slice ah D1.length ch) (hdrsOf D1) from (hL.mono (G' := fun b => b < w3.heap.size) (fun b hb => hb.1)).baseMono (by have := Below.size HBd.out; omega))
    have hL1up := HL1.out.lt
    clear hL hbh hBh
    show K _ _
    refine hK.out _ _ (by exact HBh.out) (fun hHeld => ?_)
    clear hK K
    try simp only [Act.put, List.getElem_toArray, List.getElem_cons_succ, List.getElem_cons_zero, List.setIfInBounds_toArray, List.set_cons_zero, List.set_cons_succ]
    refine wpAnyH_ready (rs := [3]) (by kernel_rfl) (by simp) ?_
    refine AllReadyH.cons rfl (fun K hK => ?_) ?_
    · rw [if_pos (by rfl)]
      go_simp
      go_at_call 27
      refine (headers_any _ _ (HD2.out.below HBh.out (fun _ h => h)) (by omega)).mono ?_
      rintro e wi ⟨ai, ci, rfl, hL, hbi⟩
      have hBi : Below w5.heap.size w5 wi := HBh.out.trans (hbi.mono (Below.size HBh.out))
      have HBi := Lib.hid hBi
      have zi := hbi.size
      replace HL1 := Lib.hid (HL1.out.below hbi)
      have hL2 := (hL.mono (G' := fun b => b < w3.heap.size) (fun b hb => hb.1)).rd (G' := fun b => b < w3.heap.size ∨ wh.heap.size ≤ b) (by decide) (fun b h1 h2 => .inr (by omega)) (fun b h1 h2 => .inl h1)
      obtain ⟨newsh, hslh, hrdh, honeh⟩ := hL2.flatOf (by decide) (fun h => RHdr_one h)
      rw [hdrsOf_len] at hslh
      have HSLH := Lib.hid hslh
      have HRDH := Lib.hid hrdh
      have HONH := Lib.hid honeh
      obtain ⟨valsh, hVh⟩ := HL1.out.valsOf
      have HVH := Lib.hid hVh
      have hvlt := hVh.lt
      have HL1n := Lib.hid (hdrsOf_len D1)
      have HL2n := Lib.hid (hdrsOf_len D2)
      clear hL hbi hBi hL2 hslh hrdh honeh hVh
      show K _ _
      refine hK.out _ _ (by exact HBi.out) (fun hHeld => ?_)
      clear hK K
      try simp only [Act.put, List.getElem_toArray, List.getElem_cons_succ, List.getElem_cons_zero, List.setIfInBounds_toArray, List.set_cons_zero, List.set_cons_succ]
      refine wpAnyH_ready (rs := [4]) (by kernel_rfl) (by simp) ?_
      refine AllReadyH.cons rfl (fun K hK => ?_) ?_
      · rw [if_pos (by rfl)]
        have hownH : wi.ownsRow w5.heap.size 42 4 (.slice ah D1.length ch) D1.length valsh := by have q := HVH.out.own; rw [HL1n.out] at q; exact q
        refine wp_append_at1 _ _ _ (by rfl) elemHdrD w5.heap.size (.slice ah D1.length ch) D1.length valsh (by rfl) hownH (.slice ai D2.length ci) D2.length newsh (by rfl) HSLH.out HONH.out hgp' (by unfold maxLen; omega) (by omega) (by omega) ?_
        intro gj cj wj hownj hgrj hatj hltj
        have HHJ := Lib.hid (show RdS RHdr (fun b => b < wj.heap.size) wj (.slice (some ⟨gj, 0, none⟩) (D1.length + D2.length) cj) (hdrsOf D1 ++ hdrsOf D2) from ((RdS.ofAppend2 (by decide) (by rw [HL1n.out]; exact hownH.1) (by rw [HL1n.out, HL2n.out]; exact hownj) (fun j x hx => RHdr.keep (HVH.out.2 j x hx) (Keep.grown hgrj (fun k hk h => h.2.2 hk)) (fun _ _ => trivial)) (fun j x hx => RHdr.keep (HRDH.out j x hx) (Keep.grown hgrj (fun k hk h => by have q1 := (hL1up k hk).1; have q2 := (hL1up k hk).2; omega)) (fun _ _ => trivial))).low (by decide)).mono (fun b hb => hb.2))
        have HBj := Lib.hid (show Below w5.heap.size w5 wj from HBi.out.grown hgrj (Below.size HBi.out) (fun k hk => (hL1up k hk).1))
        have zj := hgrj.size
        clear hownH hownj hgrj hatj
        show K _ _
        refine hK.out _ _ (by exact HBj.out) (fun hHeld => ?_)
        clear hK K
        try simp only [Act.put, List.getElem_toArray, List.getElem_cons_succ, List.getElem_cons_zero, List.setIfInBounds_toArray, List.set_cons_zero, List.set_cons_succ]
        refine wpAnyH_ready (rs := [6]) (by kernel_rfl) (by simp) ?_
        refine AllReadyH.cons rfl (fun K hK => ?_) ?_
        · rw [if_pos (by rfl)]
          obtain ⟨newsb, hslb, hrdb, honeb⟩ := (HS1.out.below HBj.out (fun _ h => h)).flatOf (by decide) (fun h => RBat_one h)
          refine wp_append_at1 _ _ _ (by rfl) elemBatD wj.heap.size (.slice none 0 0) 0 [] (by rfl) (World.ownsRow_nil _ _ _ _) (.slice adb S1.length capb) S1.length newsb (by rfl) hslb honeb hbp (by unfold maxLen; omega) (by omega) (Nat.le_refl _) ?_
          intro gk ck wk hownk hgrk hatk hltk
          have HOK := Lib.hid (show wk.ownsRow wj.heap.size 58 3 (.slice (some ⟨gk, 0, none⟩) (0 + S1.length) ck) (0 + S1.length) ([] ++ newsb) from hownk)
          have HNB := Lib.hid (show newsb.length = S1.length * 3 by obtain ⟨_, _, _, _, q, _⟩ := hslb; exact q)
          have HRK := Lib.hid (show ∀ j x, S1[j]? = some x → RBat.rd (fun b => b < w3.heap.size) wk ((newsb.drop (j * 3)).take 3) x from fun j x hx => RBat.keep (hrdb j x hx) (Keep.grown hgrk (fun k hk h => by simp [Value.ownBlock] at hk)) (fun _ h => h))
          have HBk := Lib.hid (show Below w5.heap.size w5 wk from HBj.out.grown hgrk (Below.size HBj.out) (fun k hk => by simp [Value.ownBlock] at hk))
          have HHK := Lib.hid (HHJ.out.keep (G' := fun b => b < wj.heap.size) (Keep.grown hgrk (fun k hk h => by simp [Value.ownBlock] at hk)) (fun _ h => h))
          have zk := hgrk.size
          clear hslb hrdb honeb hownk hgrk hatk
          show K _ _
          refine hK.out _ _ (by exact HBk.out) (fun hHeld => ?_)
          clear hK K
          try simp only [Act.put, List.getElem_toArray, List.getElem_cons_succ, List.getElem_cons_zero, List.setIfInBounds_toArray, List.set_cons_zero, List.set_cons_succ]
          refine wpAnyH_ready (rs := [8]) (by kernel_rfl) (by simp) ?_
          refine AllReadyH.cons rfl (fun K hK => ?_) ?_
          · rw [if_pos (by rfl)]
            obtain ⟨newsc, hslc, hrdc, honec⟩ := (HS2.out.below HBk.out (fun _ h => h)).flatOf (by decide) (fun h => RBat_one h)
            have hltk2 := HOK.out.lt
            refine wp_append_at1 _ _ _ (by rfl) elemBatD wj.heap.size (.slice (some ⟨gk, 0, none⟩) (0 + S1.length) ck) (0 + S1.length) ([] ++ newsb) (by rfl) HOK.out (.slice adf S2.length capf) S2.length newsc (by rfl) hslc honec hbp' (by unfold maxLen; omega) (by omega) zk ?_
            intro gm cm wm hownm hgrm hatm hltm
            have hgk : wj.heap.size ≤ gk := (hltk2 gk rfl).1
            have HBM := Lib.hid (show RdS RBat (fun _ => True) wm (.slice (some ⟨gm, 0, none⟩) (0 + S1.length + S2.length) cm) (S1 ++ S2) from RdS.ofAppend2 (vals := newsb) (by decide) HNB.out (own_zero hownm) (fun j x hx => RBat.keep (HRK.out j x hx) (Keep.grown hgrm (fun k hk h => by have := (hltk2 k hk).1; omega)) (fun _ _ => trivial)) (fun j x hx => RBat.keep (hrdc j x hx) (Keep.grown hgrm (fun k hk h => by have := (hltk2 k hk).1; omega)) (fun _ _ => trivial)))
            have HHM := Lib.hid (HHK.out.keep (G' := fun _ => True) (Keep.grown hgrm (fun k hk h => by have := (hltk2 k hk).1; have h0 : k < wj.heap.size := h; omega)) (fun _ _ => trivial))
            have HBm := Lib.hid (show Below w5.heap.size w5 wm from HBk.out.grown hgrm (Below.size HBk.out) (fun k hk => by have := (hltk2 k hk).1; omega))
            clear hslc hrdc honec hownm hgrm hatm
            show K _ _
            refine hK.out _ _ (by exact HBm.out) (fun hHeld => ?_)
            clear hK K
            try simp only [Act.put, List.getElem_toArray, List.getElem_cons_succ, List.getElem_cons_zero, List.setIfInBounds_toArray, List.set_cons_zero, List.set_cons_succ]
            refine wpAnyH_ready (rs := [9]) (by kernel_rfl) (by simp) ?_
            refine AllReadyH.cons rfl (fun K hK => ?_) ?_
            · rw [if_pos (by rfl)]
              go_simp
              go_at_call 26
              refine (oneSum_any _ _ _ HHM.out (show RdS RBat (fun _ => True) wm (.slice (some ⟨gm, 0, none⟩) (S1.length + S2.length) cm) (S1 ++ S2) by have q := HBM.out; rw [Nat.zero_add] at q; exact q) (HT.out.belowS (HB1.out.trans (HBm.out.mono HB1.out.size)))).mono ?_
              rintro e wn ⟨rfl, hbn⟩
              have HBn := Lib.hid (HBm.out.trans (hbn.mono (Below.size HBm.out)))
              rw [← HG.out]
              clear hbn
              show K _ _
              refine hK.out _ _ (by exact HBn.out) (fun hHeld => ?_)
              clear hK K
              try simp only [Act.put, List.getElem_toArray, List.getElem_cons_succ, List.getElem_cons_zero, List.setIfInBounds_toArray, List.set_cons_zero, List.set_cons_succ]
              refine wpAnyH_take (i := 10) (v := .bool (gsumB l)) rfl (by kernel_rfl) (by kernel_rfl) (by kernel_rfl) (fun _ _ _ h => h) (Or.inl ⟨by rfl, fun w hSw => ?_⟩) hHeld ?_
              · clear hSw; go_simp; all_goals (try first | rfl | omega)
              try simp only [Act.put, List.getElem_toArray, List.getElem_cons_succ, List.getElem_cons_zero, List.setIfInBounds_toArray, List.set_cons_zero, List.set_cons_succ]
              refine wpAnyH_done (by kernel_rfl) ?_ _
              go_wp2
              go_ret
              exact ⟨rfl, HB1.out.trans (HBn.out.mono HB1.out.size)⟩
            exact AllReadyH.nil
          exact AllReadyH.nil
        exact AllReadyH.nil
      exact AllReadyH.nil
    exact AllReadyH.nil
  exact AllReadyH.nil
end Go.Proofs.YtpfmmncnhlfdgaaDoor

/- Histories: what a certificate stands on: plain laws. -/
set_option linter.unusedVariables false
set_option linter.unusedSimpArgs false
namespace Go.Proofs.YtpfmmncnhlfdgaaDoor
open Go Go.RowKit

/-- The place of a digest. -/
def placeP (L : List Crt) (p : Bytes) : Nat := (idxP (isB p) (crtSums L)).toNat
/-- What a certificate stands on, by places. -/
inductive Reach (L : List Crt) (i : Nat) : Nat → Prop
  | here : Reach L i i
  | up {j : Nat} {p : Bytes} (h : Reach L i j) (hj : j < L.length) (hp : p ∈ L[j].h.ps) : Reach L i (placeP L p)
def keyC (c : Crt) : Int := 4 * c.h.r + c.h.a
/-- A history, by places. -/
structure IsHist (L : List Crt) (i : Nat) (M : List Nat) : Prop where
  mem : ∀ j, j ∈ M ↔ Reach L i j
  lt : ∀ j ∈ M, j < L.length
  ord : M.Pairwise fun x y => keyC (L.getD x crtZ) < keyC (L.getD y crtZ)
theorem place_par {L : List Crt} (hok : dagOk L = true) {j : Nat} (hj : j < L.length) {p : Bytes} (hp : p ∈ L[j].h.ps) : placeP L p < j ∧ idxP (isB p) (crtSums L) = (placeP L p : Int) ∧ (L.getD (placeP L p) crtZ).h.r = L[j].h.r - 1 := by
  obtain ⟨n, hn, -, hin, hr⟩ := closed_par hok hj hp
  have e : placeP L p = n := by unfold placeP; omega
  rw [e]
  exact ⟨hn, hin, hr⟩
theorem Reach.lt {L : List Crt} (hok : dagOk L = true) {i j : Nat} (hi : i < L.length) (h : Reach L i j) : j < L.length := by
  induction h with
  | here => exact hi
  | up h hj hp ih => have := (place_par hok hj hp).1; omega
theorem Reach.trans {L : List Crt} {i j k : Nat} (h : Reach L i j) (h2 : Reach L j k) : Reach L i k := by
  induction h2 with
  | here => exact h
  | up _ hj hp ih => exact .up ih hj hp
/-- What is reached is the certificate itself, or of an earlier round. -/
theorem Reach.round {L : List Crt} (hok : dagOk L = true) {i j : Nat} (hi : i < L.length) (h : Reach L i j) : j = i ∨ (L.getD j crtZ).h.r < (L.getD i crtZ).h.r := by
  induction h with
  | here => exact .inl rfl
  | up h hj hp ih =>
    right
    have h3 := (place_par hok hj hp).2.2
    have e : ∀ k (hk : k < L.length), L.getD k crtZ = L[k] := fun k hk => by simp [hk]
    rw [e _ hj] at ih
    rcases ih with rfl | ih
    · rw [e _ hj]; omega
    · omega
/-! ### How a history is gathered -/
theorem range_room : ∀ (n : Nat) (M : List Nat), M.Nodup → (∀ j ∈ M, j < n) → M.length ≤ n
  | 0, M, _, h => by
    match M, h with
    | [], _ => simp
    | a :: _, h => exact absurd (h a (List.mem_cons_self ..)) (by omega)
  | n + 1, M, hn, h => by
    by_cases hm : n ∈ M
    · have h1 := range_room n (M.erase n) (hn.erase n) (fun j hj => by
        have h2 := (hn.mem_erase_iff).1 hj
        have := h j h2.2
        omega)
      have h3 := List.length_erase_of_mem hm
      omega
    · exact Nat.le_succ_of_le (range_room n M hn (fun j hj => by
        have := h j hj
        have : j ≠ n := fun e => hm (e ▸ hj)
        omega))
/-- What is met, and what is to be done. -/
structure Trav (L : List Crt) (i : Nat) (M : List Nat) (T : List Bytes) : Prop where
  todo : ∀ x ∈ T, idxP (isB x) (crtSums L) = (placeP L x : Int) ∧ placeP L x < L.length ∧ Reach L i (placeP L x)
  met : ∀ j ∈ M, j < L.length ∧ Reach L i j
  nd : M.Nodup
  closed : ∀ j ∈ M, ∀ (hj : j < L.length), ∀ p ∈ L[j].h.ps, placeP L p ∈ M ∨ p ∈ T
  first : i ∈ M ∨ ∃ x ∈ T, placeP L x = i
theorem Trav.start {L : List Crt} {k : Bytes} {i : Nat} (hi : i < L.length) (hk : idxP (isB k) (crtSums L) = (i : Int)) : Trav L i [] [k] := by
  have e : placeP L k = i := by unfold placeP; omega
  refine ⟨fun x hx => ?_, by simp, by simp, by simp, .inr ⟨k, by simp, e⟩⟩
  rw [List.mem_singleton] at hx; subst hx
  rw [e]; exact ⟨hk, hi, .here⟩
theorem Trav.old {L : List Crt} {i : Nat} {M : List Nat} {T : List Bytes} {x : Bytes} (h : Trav L i M (T ++ [x])) (hx : placeP L x ∈ M) : Trav L i M T := by
  refine ⟨fun y hy => h.todo y (List.mem_append_left _ hy), h.met, h.nd, fun j hj hjl p hp => ?_, ?_⟩
  · rcases h.closed j hj hjl p hp with q | q
    · exact .inl q
    · rcases List.mem_append.1 q with q | q
      · exact .inr q
      · rw [List.mem_singleton] at q; subst q; exact .inl hx
  · rcases h.first with q | ⟨y, hy, q⟩
    · exact .inl q
    · rcases List.mem_append.1 hy with hy | hy
      · exact .inr ⟨y, hy, q⟩
      · rw [List.mem_singleton] at hy; subst hy; exact .inl (q ▸ hx)
theorem Trav.new {L : List Crt} (hok : dagOk L = true) {i : Nat} {M : List Nat} {T : List Bytes} {x : Bytes} {n : Nat} (h : Trav L i M (T ++ [x])) (hn : placeP L x = n) (hx : ¬ n ∈ M) (hl : n < L.length) : Trav L i (M ++ [n]) (T ++ L[n].h.ps) := by
  have hxt := h.todo x (by simp)
  rw [hn] at hxt
  refine ⟨fun y hy => ?_, fun j hj => ?_, ?_, fun j hj hjl p hp => ?_, ?_⟩
  · rcases List.mem_append.1 hy with hy | hy
    · exact h.todo y (List.mem_append_left _ hy)
    · have := place_par hok hl hy
      exact ⟨this.2.1, by have := this.1; omega, .up hxt.2.2 hl hy⟩
  · rcases List.mem_append.1 hj with hj | hj
    · exact h.met j hj
    · rw [List.mem_singleton] at hj; subst hj; exact ⟨hl, hxt.2.2⟩
  · rw [List.nodup_append]
    refine ⟨h.nd, by simp, fun a ha b hb => ?_⟩
    rw [List.mem_singleton] at hb; subst hb
    exact fun e => hx (e ▸ ha)
  · rcases List.mem_append.1 hj with hj | hj
    · rcases h.closed j hj hjl p hp with q | q
      · exact .inl (List.mem_append_left _ q)
      · rcases List.mem_append.1 q with q | q
        · exact .inr (List.mem_append_left _ q)
        · rw [List.mem_singleton] at q; subst q; exact .inl (by rw [hn]; simp)
    · rw [List.mem_singleton] at hj; subst hj
      exact .inr (List.mem_append_right _ hp)
  · rcases h.first with q | ⟨y, hy, q⟩
    · exact .inl (List.mem_append_left _ q)
    · rcases List.mem_append.1 hy with hy | hy
      · exact .inr ⟨y, List.mem_append_left _ hy, q⟩
      · rw [List.mem_singleton] at hy; subst hy; exact .inl (by rw [← q, hn]; simp)
theorem Trav.done {L : List Crt} {i : Nat} {M : List Nat} (h : Trav L i M []) (j : Nat) : j ∈ M ↔ Reach L i j := by
  refine ⟨fun q => (h.met j q).2, fun q => ?_⟩
  induction q with
  | here => rcases h.first with q | ⟨x, hx, _⟩
            · exact q
            · simp at hx
  | up q hj hp ih => rcases h.closed _ ih hj _ hp with r | r
                     · exact r
                     · simp at r
theorem Trav.room {L : List Crt} {i : Nat} {M : List Nat} {T : List Bytes} (h : Trav L i M T) : M.length ≤ L.length := range_room _ _ h.nd (fun j hj => (h.met j hj).1)
/-- The places that are met, rising. -/
def metTo (M : List Nat) (k : Nat) : List Nat := (List.range k).filter fun j => decide (j ∈ M)
theorem metTo_succ (M : List Nat) (k : Nat) : metTo M (k + 1) = if k ∈ M then metTo M k ++ [k] else metTo M k := by
  unfold metTo
  rw [List.range_succ, List.filter_append]
  by_cases h : k ∈ M <;> simp [h]
theorem metTo_len (M : List Nat) (k : Nat) : (metTo M k).length ≤ k := by
  have := List.length_filter_le (fun j => decide (j ∈ M)) (List.range k)
  unfold metTo; simpa using this
theorem metTo_lt {M : List Nat} {k j : Nat} (h : j ∈ metTo M k) : j < k := by
  have := (List.mem_filter.1 h).1; simpa using this
/-- How two places are told apart. -/
def ltR (L : List Crt) (x y : Nat) : Bool := decide (keyC (L.getD x crtZ) < keyC (L.getD y crtZ))
theorem hist_of {L : List Crt} (hok : dagOk L = true) {i : Nat} {M N : List Nat} (h : Trav L i M []) (hp : N.Perm (metTo M L.length)) (hs : N.Pairwise fun x y => keyC (L.getD x crtZ) ≤ keyC (L.getD y crtZ)) : IsHist L i N := by
  have hmem : ∀ j, j ∈ N ↔ j < L.length ∧ j ∈ M := fun j => by rw [hp.mem_iff]; simp [metTo]
  have hnd : N.Nodup := hp.nodup_iff.2 ((List.nodup_range).filter _)
  have hS := dagOk_solo hok
  refine ⟨fun j => ?_, fun j hj => ((hmem j).1 hj).1, ?_⟩
  · rw [hmem, h.done]
    exact ⟨fun q => q.2, fun q => ⟨(h.met j ((h.done j).2 q)).1, q⟩⟩
  · rw [List.pairwise_iff_getElem] at hs ⊢
    rw [List.nodup_iff_pairwise_ne, List.pairwise_iff_getElem] at hnd
    intro a b ha hb hab
    have h1 := hs a b ha hb hab
    have h2 := hnd a b ha hb hab
    have la : N[a] < L.length := ((hmem _).1 (List.getElem_mem ha)).1
    have lb : N[b] < L.length := ((hmem _).1 (List.getElem_mem hb)).1
    have e : ∀ k (hk : k < L.length), L.getD k crtZ = L[k] := fun k hk => by simp [hk]
    rw [e _ la, e _ lb] at h1 ⊢
    have pa := hS.1 _ (List.getElem_mem la)
    have pb := hS.1 _ (List.getElem_mem lb)
    have hne : ¬ (L[N[a]].h.a = L[N[b]].h.a ∧ L[N[a]].h.r = L[N[b]].h.r) := by
      rcases Nat.lt_or_gt_of_ne h2 with q | q
      · exact (List.pairwise_iff_getElem.1 hS.2) _ _ la lb q
      · exact fun r => (List.pairwise_iff_getElem.1 hS.2) _ _ lb la q ⟨r.1.symm, r.2.symm⟩
    unfold keyC at *
    omega
/-! ### What a history is -/
def digP (L : List Crt) (j : Nat) : Bytes := crtSum (L.getD j crtZ)
def histD (L : List Crt) (M : List Nat) : List Bytes := M.map (digP L)
theorem histD_len (L : List Crt) (M : List Nat) : (histD L M).length = M.length := by simp [histD]
theorem getD_at {L : List Crt} {k : Nat} (hk : k < L.length) : L.getD k crtZ = L[k] := by simp [hk]
theorem digP_at {L : List Crt} {k : Nat} (hk : k < L.length) : digP L k = crtSum L[k] := by unfold digP; rw [getD_at hk]
section
variable {L : List Crt} {i : Nat} {M : List Nat}
theorem IsHist.nodup (h : IsHist L i M) : M.Nodup := h.ord.imp (fun {a b} hab e => by subst e; omega)
theorem IsHist.self (h : IsHist L i M) : i ∈ M := (h.mem i).2 .here
theorem IsHist.pos (h : IsHist L i M) : 0 < M.length := List.length_pos_of_mem h.self
theorem IsHist.len (h : IsHist L i M) : M.length ≤ L.length := range_room _ _ h.nodup h.lt
/-- Keys tell places apart. -/
theorem key_lt_of_round {x y : Crt} (hx : 0 ≤ x.h.a ∧ x.h.a < 4) (hy : 0 ≤ y.h.a ∧ y.h.a < 4) (h : x.h.r < y.h.r) : keyC x < keyC y := by unfold keyC; omega
theorem IsHist.key (h : IsHist L i M) {a b : Nat} (ha : a < M.length) (hb : b < M.length) : keyC (L.getD M[a] crtZ) < keyC (L.getD M[b] crtZ) ↔ a < b := by
  constructor
  · intro q
    rcases Nat.lt_trichotomy a b with r | r | r
    · exact r
    · subst r; omega
    · have := (List.pairwise_iff_getElem.1 h.ord) b a hb ha r; omega
  · intro q; exact (List.pairwise_iff_getElem.1 h.ord) a b ha hb q
/-- Its own certificate stands last. -/
theorem IsHist.last (h : IsHist L i M) (hok : dagOk L = true) (hi : i < L.length) : M[M.length - 1]'(by have := h.pos; omega) = i := by
  obtain ⟨a, ha, hai⟩ := List.getElem_of_mem h.self
  have hp := h.pos
  by_cases q : a = M.length - 1
  · subst q; exact hai
  · exfalso
    have hS := dagOk_solo hok
    have hlt : a < M.length - 1 := by omega
    have h1 := (h.key ha (by omega : M.length - 1 < M.length)).2 hlt
    rw [hai] at h1
    generalize hz : M[M.length - 1] = z at h1
    have hzM : z ∈ M := hz ▸ List.getElem_mem _
    have hzl := h.lt z hzM
    rcases Reach.round hok hi ((h.mem z).1 hzM) with r | r
    · subst r; omega
    · rw [getD_at hzl, getD_at hi] at *
      have := key_lt_of_round (hS.1 _ (List.getElem_mem hzl)) (hS.1 _ (List.getElem_mem hi)) r
      omega
/-- The parents of what stands in it stand ahead of that. -/
theorem IsHist.par (h : IsHist L i M) (hok : dagOk L = true) {a : Nat} (ha : a < M.length) (hl : M[a] < L.length) {p : Bytes} (hp : p ∈ L[M[a]].h.ps) : ∃ (b : Nat) (hb : b < M.length), b < a ∧ M[b] = placeP L p ∧ digP L M[b] = p := by
  have hr : Reach L i (placeP L p) := .up ((h.mem _).1 (List.getElem_mem ha)) hl hp
  obtain ⟨b, hb, hbp⟩ := List.getElem_of_mem ((h.mem _).2 hr)
  obtain ⟨h1, h2, h3⟩ := place_par hok hl hp
  have hS := dagOk_solo hok
  have hpl : placeP L p < L.length := by omega
  refine ⟨b, hb, ?_, hbp, ?_⟩
  · refine (h.key hb ha).1 ?_
    rw [hbp, getD_at hpl, getD_at hl]
    rw [getD_at hpl] at h3
    exact key_lt_of_round (hS.1 _ (List.getElem_mem hpl)) (hS.1 _ (List.getElem_mem hl)) (by omega)
  · rw [hbp]
    obtain ⟨n, hn, hin, hpn, -⟩ := idxP_at (by omega : 0 ≤ idxP (isB p) (crtSums L))
    have : placeP L p = n := by omega
    rw [this]
    have hnl : n < L.length := by rw [crtSums_len] at hn; exact hn
    rw [digP_at hnl]
    have e : (crtSums L)[n] = crtSum L[n] := by simp [crtSums]
    rw [← e]
    unfold isB at hpn
    exact of_decide_eq_true hpn
/-- What stands in it, but for its own, is a parent of something that stands behind. -/
theorem IsHist.child (h : IsHist L i M) (hok : dagOk L = true) (hi : i < L.length) {a : Nat} (ha : a + 1 < M.length) : ∃ (b : Nat) (hb : b < M.length) (hl : M[b] < L.length), a < b ∧ digP L M[a] ∈ L[M[b]].h.ps := by
  have hae : M[a] ≠ i := fun e => by
    have hl := h.last hok hi
    have hn := h.nodup
    rw [List.nodup_iff_pairwise_ne, List.pairwise_iff_getElem] at hn
    exact hn a (M.length - 1) (by omega) (by omega) (by omega) (by rw [hl, e])
  have hr := (h.mem _).1 (List.getElem_mem (show a < M.length by omega))
  generalize hz : M[a] = z at *
  cases hr with
  | here => exact absurd rfl hae
  | @up j p hj hjl hp =>
    obtain ⟨b, hb, hbj⟩ := List.getElem_of_mem ((h.mem _).2 hj)
    subst hbj
    obtain ⟨c, hc, hcb, hcp, hd⟩ := h.par hok hb hjl hp
    refine ⟨b, hb, hjl, ?_, ?_⟩
    · have : c = a := by
        have hn := h.nodup
        rw [List.nodup_iff_pairwise_ne, List.pairwise_iff_getElem] at hn
        rcases Nat.lt_trichotomy c a with r | r | r
        · exact absurd (hcp.trans hz.symm) (hn c a hc (by omega) r)
        · exact r
        · exact absurd (hz.trans hcp.symm) (hn a c (by omega) hc r)
      omega
    · rw [hz, ← hcp, hd]; exact hp
/-- The history of what stands in it is a part of it. -/
theorem IsHist.sub (h : IsHist L i M) {j : Nat} {N : List Nat} (hj : j ∈ M) (hN : IsHist L j N) : ∀ k ∈ N, k ∈ M := fun k hk => (h.mem k).2 (((h.mem j).1 hj).trans ((hN.mem k).1 hk))
/-- Of round 1: itself alone. -/
theorem IsHist.one (h : IsHist L i M) (hi : i < L.length) (h0 : L[i].h.ps = []) : M = [i] := by
  have hall : ∀ j ∈ M, j = i := fun j hj => by
    have hr := (h.mem j).1 hj
    clear hj
    induction hr with
    | here => rfl
    | up q hjl hp ih => subst ih; rw [h0] at hp; simp at hp
  have hn := h.nodup
  match M, h.self, hall, hn with
  | [a], hs, _, _ => rw [List.mem_singleton] at hs; rw [hs]
  | a :: b :: t, _, hall, hn =>
    have h1 := hall a (by simp)
    have h2 := hall b (by simp)
    simp [h1, h2] at hn
end
/-- Where digests are all different, places and digests are one. -/
theorem digP_inj {L : List Crt} (hn : (crtSums L).Nodup) {a b : Nat} (ha : a < L.length) (hb : b < L.length) (h : digP L a = digP L b) : a = b := by
  rw [digP_at ha, digP_at hb] at h
  have h1 := idx_clear hn ha
  have h2 := idx_clear hn hb
  rw [h, h2] at h1; omega
theorem placeP_dig {L : List Crt} (hn : (crtSums L).Nodup) {a : Nat} (ha : a < L.length) : placeP L (digP L a) = a := by
  unfold placeP; rw [digP_at ha, idx_clear hn ha]; omega
end Go.Proofs.YtpfmmncnhlfdgaaDoor

/- order.all, cmp.Or, the closures of order.history: what they compute. -/
set_option linter.unusedVariables false
set_option linter.unusedSimpArgs false
attribute [local go_sem ↓] Go.wp_at_zero Go.wp_at_succ
namespace Go.Proofs.YtpfmmncnhlfdgaaDoor
open Go Go.RowKit

set_option maxRecDepth 100000 in
set_option maxHeartbeats 8000000 in
theorem oall_ok {G : Nat → Prop} {l : List Crt} (v : Value) (w : World) (h : RdS RCert G w v l) (hc : ∀ c ∈ l, hdrCode c.h = 0) (hl : l.length ≤ 1000) (ht : Tabs w) :
    Calls Tryd.prog 39 #[.agg #[v]] w fun e w' => ∃ v', e = .returned v' ∧ RdBB (fun b => w.heap.size ≤ b) w' v' (crtSums l) ∧ Below w.heap.size w w' := by
  obtain ⟨adv, capv, rfl, hcv, hcm⟩ := h.form
  unfold maxLen at hcm
  have hb0 := (Below.refl w.heap.size w).alloc (Nat.le_refl _) (.cells #[.slice adv l.length capv] 30)
  have HV := Lib.hid (h.below hb0 (fun _ h => h))
  have HT := Lib.hid (ht.belowS hb0)
  have HB := Lib.hid hb0
  have HX := Lib.hid (BoxAt.new w [.slice adv l.length capv] 30)
  have HC := Lib.hid hc
  clear h hc ht hb0
  go_enter Tryd.func39, Tryd.ntmps39
  go_upto_region 1 with fail
  obtain ⟨w0, hw0⟩ : ∃ w0, w0 = w.alloc (.cells #[.slice adv l.length capv] 30) := ⟨_, rfl⟩
  rw [← hw0] at HV HX HB HT ⊢
  have hz0 := HX.out.lt
  clear hw0
  have x0 := HX.out.cell 0 rfl
  go_wp2_with fail
  clear x0
  go_loopw [3, 11] (fun o i wr => ∃ (k : Nat) (ad : Option Addr) (cap : Nat), k ≤ l.length ∧ i = .int .i64 k ∧ o = .slice ad k cap ∧ LstO RBytes (fun b => w0.heap.size ≤ b) w0.heap.size 39 wr (.slice ad k cap) (crtSums (l.take k)) ∧ Below w0.heap.size w0 wr) (fun _ i _ => l.length - (intOf i).toNat)
  case atStart => exact ⟨0, none, 0, Nat.zero_le _, rfl, rfl, LstO.nil _ _ _ _ _, Below.refl _ _⟩
  case round =>
    obtain ⟨k, ad, cap, hk, rfl, rfl, hL, hB⟩ := hrel
    have HBr := Lib.hid hB
    have hz := hB.size
    by_cases hlt : k < l.length
    · have i0 : (0 : Int) ≤ (k : Int) := by omega
      have i1 : (k : Int) < (l.length : Int) := by omega
      obtain ⟨vals, hv⟩ := hL.valsOf
      have hvlt := hv.lt
      have HLr := Lib.hid hv
      have HKL := Lib.hid (show (crtSums (l.take k)).length = k by rw [crtSums_len, List.length_take]; omega)
      have HMS := Lib.hid (crtSums_succ hlt)
      obtain ⟨b, o, ub, up, uv, rfl, -, e0, e1, e2, e3, e4, hb', hp', hv'⟩ := (HV.out.below hB (fun _ h => h)).crt k hlt
      have hc := HC.out l[k] (List.getElem_mem hlt)
      generalize l[k] = c at *
      obtain ⟨adb, capb, rfl, -, -⟩ := hb'.form
      obtain ⟨adp, capp, rfl, -, -⟩ := hp'.form
      obtain ⟨adw, capw, rfl, -, -⟩ := hv'.form
      have H1 := Lib.hid hb'
      have H2 := Lib.hid hp'
      have HCC := Lib.hid hc
      clear hb' hp' hv' hc hv hL hB
      go_wp2_with fail
      refine (headerDigest_ok c.h _ _ _ (H1.out.below (by repeat (first | with_reducible exact Below.refl _ _ | with_reducible refine Below.drew ?_ | with_reducible refine Below.setCell ?_ (by first | omega | (simp <;> omega)) _ | with_reducible refine Below.alloc ?_ (by first | omega | (simp <;> omega)) _)) (fun _ h => h)) (H2.out.below (by repeat (first | with_reducible exact Below.refl _ _ | with_reducible refine Below.drew ?_ | with_reducible refine Below.setCell ?_ (by first | omega | (simp <;> omega)) _ | with_reducible refine Below.alloc ?_ (by first | omega | (simp <;> omega)) _)) (fun _ h => h)) HCC.out ((HT.out.belowS HBr.out).belowS (by repeat (first | with_reducible exact Below.refl _ _ | with_reducible refine Below.drew ?_ | with_reducible refine Below.setCell ?_ (by first | omega | (simp <;> omega)) _ | with_reducible refine Below.alloc ?_ (by first | omega | (simp <;> omega)) _)))).mono ?_
      rintro e w2 ⟨vd, rfl, hd, hb2⟩
      have hB2 : Below wr.heap.size wr w2 := Below.trans (by repeat (first | with_reducible exact Below.refl _ _ | with_reducible refine Below.drew ?_ | with_reducible refine Below.setCell ?_ (by first | omega | (simp <;> omega)) _ | with_reducible refine Below.alloc ?_ (by first | omega | (simp <;> omega)) _)) (hb2.mono (by simp))
      have HL2 := Lib.hid (HLr.out.below hB2)
      have HD2 := Lib.hid (hd.low (by decide))
      have HB2 := Lib.hid (HBr.out.trans (hB2.mono hz))
      have s2 := hB2.size
      obtain ⟨add, capd, rfl, -, -⟩ := hd.form
      clear hd hb2 hB2 e0 e1 e2 e3 e4
      go_wp2_with (at_builtin; refine wpList_append_one rfl _ _ 34 rfl elemBY w0.heap.size _ k vals rfl (by have h := (HL2.out.alloc (.cells #[.slice add (crtSum c).length capd] 39)).own; rw [HKL.out] at h; exact h) w2.heap.size 39 [.slice add (crtSum c).length capd] rfl (BoxAt.new w2 [_] _) rfl (by simp [Value.oneCell']) (by unfold maxLen; omega) (by omega) (by simp; omega) ?_; intro g cap6 w6 hown6 hgr6 hat6 hlt6)
      have hx : RBytes.rd (fun b => w0.heap.size ≤ b ∧ b < (w2.alloc (.cells #[.slice add (crtSum c).length capd] 39)).heap.size ∧ (Value.slice ad k cap).ownBlock ≠ some b) (w2.alloc (.cells #[.slice add (crtSum c).length capd] 39)) [.slice add (crtSum c).length capd] (crtSum c) :=
        ⟨_, rfl, HD2.out.keep (Keep.alloc _ _ _) (fun b hb => ⟨by have := hb.1; simp at this; omega, by have := hb.2; simp; omega, fun e => by have h1 := hb.1; simp at h1; have := (hvlt _ e).2; omega⟩)⟩
      have hP := (HL2.out.alloc (.cells #[.slice add (crtSum c).length capd] 39)).push hx (by rw [HKL.out]; exact hown6) hgr6 hat6
      rw [HKL.out, ← HMS.out] at hP
      have HP := Lib.hid hP
      have HB6 := Lib.hid ((HB2.out.alloc HB2.out.size (.cells #[.slice add (crtSum c).length capd] 39)).grown hgr6 (by have := HB2.out.size; simp; omega) (fun k hk => (hvlt _ hk).1))
      clear hP hx hown6
      go_wp2
      go_roundw
      case rel => exact ⟨k + 1, some ⟨g, 0, none⟩, cap6, by omega, by go_num, rfl, HP.out, HB6.out⟩
      case measure => simp [intOf]; omega
    · obtain rfl : k = l.length := by omega
      rw [List.take_length] at hL
      have HM := Lib.hid (hL.rd (G' := fun b => w.heap.size ≤ b) (by decide) (fun b h1 h2 => by omega) (fun b h1 h2 => by omega))
      have HBE := Lib.hid (HB.out.trans (HBr.out.mono HB.out.size))
      clear hL hB
      have t1 : ¬ (l.length : Int) < (l.length : Int) := by omega
      go_wp2
      go_ret
      exact ⟨_, rfl, HM.out, HBE.out⟩
def intsOf (l : List Nat) : List Int := l.map fun (j : Nat) => (j : Int)
theorem intsOf_len (l : List Nat) : (intsOf l).length = l.length := by simp [intsOf]
theorem intsOf_snoc (l : List Nat) (x : Nat) : intsOf (l ++ [x]) = intsOf l ++ [(x : Int)] := by simp [intsOf]
/-- cmp.Or of two numbers. -/
def orZ (a b : Int) : Int := if a = 0 then b else a
set_option maxRecDepth 100000 in
set_option maxHeartbeats 8000000 in
theorem cmpOr_any (a b : Int) (p : Nat) (w : World) (c0 : w.cell? ⟨p, 0, none⟩ = some (.int .i64 a)) (c1 : w.cell? ⟨p, 1, none⟩ = some (.int .i64 b)) :
    Calls Tryd.prog 63 #[.slice (some ⟨p, 0, none⟩) 2 2] w fun e w' => e = .returned (.int .i64 (orZ a b)) ∧ w = w' := by
  go_enter Tryd.func63, Tryd.ntmps63
  go_wp2
  go_loop [8] (fun i => i = .int .i64 0 ∨ (i = .int .i64 1 ∧ a = 0) ∨ (i = .int .i64 2 ∧ a = 0 ∧ b = 0)) (fun i => 2 - (intOf i).toNat)
  case atStart => exact .inl rfl
  case round =>
    rcases hrel with rfl | ⟨rfl, ha⟩ | ⟨rfl, ha, hb⟩
    · by_cases ha : a = 0
      · have HR := Lib.hid ha
        subst ha
        go_wp2
        go_round
        case rel => exact .inr (.inl ⟨rfl, by first | rfl | trivial⟩)
        case measure => simp [intOf]
      · have HR := Lib.hid (show orZ a b = a by unfold orZ; rw [if_neg ha])
        have e1 : (a != 0) = true := by simpa using ha
        clear ha
        go_wp2
        go_ret
        exact ⟨ret_intH HR.out, rfl⟩
    · by_cases hb : b = 0
      · subst hb
        have HA := Lib.hid ha
        clear ha
        go_wp2
        go_round
        case rel => exact .inr (.inr ⟨rfl, HA.out, by first | rfl | trivial⟩)
        case measure => simp [intOf]
      · have HR := Lib.hid (show orZ a b = b by unfold orZ; rw [if_pos ha])
        have e1 : (b != 0) = true := by simpa using hb
        clear hb ha
        go_wp2
        go_ret
        exact ⟨ret_intH HR.out, rfl⟩
    · have HR := Lib.hid (show orZ a b = 0 by unfold orZ; rw [if_pos ha, hb])
      clear ha hb
      go_wp2
      go_ret
      exact ⟨ret_intH HR.out, rfl⟩
theorem hClo_any {G G' : Nat → Prop} {x d : Bytes} (vx vd : Value) (b : Nat) (w : World) (hx : RdB G w vx x) (hd : RdB G' w vd d) (hc : w.cell? ⟨b, 0, none⟩ = some vd) :
    Calls Tryd.prog 59 #[vx, .pointer (some ⟨b, 0, none⟩)] w fun e w' => e = .returned (.bool (decide (x = d))) ∧ w = w' := by
  have HQ := Lib.hid (show (decide (x = d) : Bool) = decide (d = x) by rw [Bool.eq_iff_iff]; simp [eq_comm])
  go_enter Tryd.func59, Tryd.ntmps59
  go_wp2_with (go_at_call 60; refine (bytesEqual_any _ _ _ hd hx).mono ?_; rintro e w' ⟨rfl, rfl⟩)
  go_ret
  exact ⟨ret_boolH HQ.out, rfl⟩
set_option maxRecDepth 100000 in
set_option maxHeartbeats 1000000 in
theorem hIndex_any {G G' : Nat → Prop} {l : List Bytes} {d : Bytes} (v vd : Value) (b : Nat) (w : World) (h : RdBB G w v l) (hd : RdB G' w vd d) (hcd : w.cell? ⟨b, 0, none⟩ = some vd) :
    Calls Tryd.prog 58 #[v, .func (.func 59) #[] #[.pointer (some ⟨b, 0, none⟩)]] w fun e w' => e = .returned (.int .i64 (idxP (isB d) l)) ∧ w = w' := by
  obtain ⟨ad, cap, rfl, h1, h2⟩ := h.form
  unfold maxLen at h2
  have HV := Lib.hid h
  have HD := Lib.hid hd
  clear h hd
  go_enter Tryd.func58, Tryd.ntmps58
  go_wp2
  go_loop [8] (fun i => ∃ k : Nat, k ≤ l.length ∧ i = .int .i64 k ∧ (∀ j, j < k → ∀ x, l[j]? = some x → isB d x = false)) (fun i => l.length - (intOf i).toNat)
  case atStart => exact ⟨0, Nat.zero_le _, rfl, fun j hj => (by omega)⟩
  case round =>
    obtain ⟨k, hk, rfl, hno⟩ := hrel
    have HN := Lib.hid hno; clear hno
    by_cases hlt : k < l.length
    · obtain ⟨bb, o, vx, rfl, -, e0, hx⟩ := HV.out.cellS k hlt
      have HX := Lib.hid hx
      have i0 : (0 : Int) ≤ (k : Int) := by omega
      have i1 : (k : Int) < (l.length : Int) := by omega
      clear hx
      by_cases he : isB d l[k] = true
      · have hr := Lib.hid (idxP_hit hlt HN.out he)
        have HE := Lib.hid (show decide (l[k] = d) = true from he)
        clear he
        go_wp2_with fail
        refine (hClo_any vx vd b _ HX.out HD.out hcd).mono ?_
        rintro e w' ⟨rfl, rfl⟩
        rw [HE.out]
        go_wp2
        go_ret
        exact ⟨ret_intH hr.out, rfl⟩
      · have he' : isB d l[k] = false := by simpa using he
        have HE := Lib.hid (show decide (l[k] = d) = false from he')
        have HE' := Lib.hid he'
        clear he he'
        go_wp2_with fail
        refine (hClo_any vx vd b _ HX.out HD.out hcd).mono ?_
        rintro e w' ⟨rfl, rfl⟩
        rw [HE.out]
        go_wp2
        go_round
        case rel =>
          refine ⟨k + 1, by omega, by go_num, fun j hj x hx => ?_⟩
          rcases Nat.lt_or_ge j k with h | h
          · exact HN.out j h x hx
          · obtain rfl : j = k := by omega
            rw [List.getElem?_eq_getElem hlt] at hx
            simp only [Option.some.injEq] at hx
            rw [← hx]; exact HE'.out
        case measure => simp [intOf]; omega
    · obtain rfl : k = l.length := by omega
      have hr := Lib.hid (idxP_miss HN.out)
      go_wp2
      go_ret
      exact ⟨ret_intH hr.out, rfl⟩
/-! ### The comparison -/
structure BelD (w w' : World) : Prop where
  bel : Below w.heap.size w w'
  drawn : w.drawn ≤ w'.drawn
theorem BelD.grow {w w' : World} (h : BelD w w') : ∃ q os', w' = Go.Sort.grow (w.drewN q) os' := by
  refine ⟨w'.drawn - w.drawn, w'.heap.extract w.heap.size w'.heap.size, ?_⟩
  obtain ⟨⟨h1, h2, h3, h4, h5⟩, h6⟩ := h
  cases w with
  | mk heap tape drawn os output =>
  cases w' with
  | mk heap' tape' drawn' os' output' =>
    simp only at h1 h2 h3 h4 h5 h6
    subst h1 h2 h3
    unfold Go.Sort.grow World.drewN
    simp only [World.mk.injEq, true_and, and_true]
    refine ⟨?_, by omega⟩
    apply Array.ext_getElem?
    intro i
    rcases Nat.lt_or_ge i heap.size with q | q
    · rw [Array.getElem?_append_left q]; exact h5 i q
    · rw [Array.getElem?_append_right q, Array.getElem?_extract]
      rcases Nat.lt_or_ge i heap'.size with r | r
      · rw [if_pos (by omega)]; congr 1; omega
      · rw [if_neg (by omega), Array.getElem?_eq_none r]
set_option maxRecDepth 100000 in
set_option maxHeartbeats 8000000 in
theorem hcmp_any {L : List Crt} {G : Nat → Prop} (bd bc oc cap a b : Nat) (w : World) (HX : w.cell? ⟨bd, 0, none⟩ = some (.slice (some ⟨bc, oc, none⟩) L.length cap)) (hL : RdS RCert G w (.slice (some ⟨bc, oc, none⟩) L.length cap) L) (ha : a < L.length) (hb : b < L.length) (hau : ∀ c ∈ L, 0 ≤ c.h.a ∧ c.h.a < 4 ∧ 1 ≤ c.h.r ∧ c.h.r ≤ 1048576) (h400 : L.length ≤ 400) :
    Calls Tryd.prog 62 #[.int .i64 a, .int .i64 b, .pointer (some ⟨bd, 0, none⟩)] w fun e w' => e = .returned (.int .i64 (orZ (L[a].h.r - L[b].h.r) (L[a].h.a - L[b].h.a))) ∧ ∃ q os', w' = Go.Sort.grow (w.drewN q) os' := by
  have hbd : bd < w.heap.size := World.block_lt_of_cell? w _ HX
  obtain ⟨_, _, xb, xp, xv, hq, -, e0, e1, e2, e3, -, hxb, hxp, -⟩ := hL.crt a ha
  simp only [Option.some.injEq, Addr.mk.injEq, and_true] at hq
  obtain ⟨rfl, rfl⟩ := hq
  obtain ⟨_, _, yb, yp, yv, hq, -, f0, f1, f2, f3, -, hyb, hyp, -⟩ := hL.crt b hb
  simp only [Option.some.injEq, Addr.mk.injEq, and_true] at hq
  obtain ⟨rfl, rfl⟩ := hq
  have hbc : bc < w.heap.size := World.block_lt_of_cell? w _ e0
  have ua := hau L[a] (List.getElem_mem ha)
  have ub := hau L[b] (List.getElem_mem hb)
  have i0 : (0 : Int) ≤ (a : Int) := by omega
  have i1 : (a : Int) < (L.length : Int) := by omega
  have j0 : (0 : Int) ≤ (b : Int) := by omega
  have j1 : (b : Int) < (L.length : Int) := by omega
  have w1 : IntKind.i64.wrap (L[a].h.r - L[b].h.r) = L[a].h.r - L[b].h.r := IntWalk.i64_in _ (by omega)
  have w2 : IntKind.i64.wrap (L[a].h.a - L[b].h.a) = L[a].h.a - L[b].h.a := IntWalk.i64_in _ (by omega)
  obtain ⟨xb1, xb2, rfl, -, -⟩ := hxb.form
  obtain ⟨xp1, xp2, rfl, -, -⟩ := hxp.form
  obtain ⟨yb1, yb2, rfl, -, -⟩ := hyb.form
  obtain ⟨yp1, yp2, rfl, -, -⟩ := hyp.form
  clear hxb hxp hyb hyp hau
  go_enter Tryd.func62, Tryd.ntmps62
  go_upto_region 1 with fail
  refine wp_region_held_drew (S := fun w' => BelD w w') (by kernel_rfl) (by exact ⟨(Below.refl _ _).drew, Nat.le_succ _⟩) (fun hHeld => ?_)
  refine wpAnyH_take (i := 0) (v := .pointer (some ⟨bd, 0, none⟩)) rfl (by kernel_rfl) (by kernel_rfl) (by kernel_rfl) (fun _ _ _ h => h) (Or.inl ⟨by rfl, fun w hSw => ?_⟩) hHeld ?_
  · clear hSw; go_simp
  try simp only [Act.put, List.getElem_toArray, List.getElem_cons_succ, List.getElem_cons_zero, List.setIfInBounds_toArray, List.set_cons_zero, List.set_cons_succ]
  refine wpAnyH_take (i := 1) (v := .slice (some ⟨bc, oc, none⟩) L.length cap) rfl (by kernel_rfl) (by kernel_rfl) (by kernel_rfl) (fun _ _ _ h => h) (Or.inl ⟨by rfl, fun w hSw => ?_⟩) hHeld ?_
  · have q := (hSw.bel.cell (p := ⟨bd, 0, none⟩) hbd).trans HX; clear hSw; go_simp
  try simp only [Act.put, List.getElem_toArray, List.getElem_cons_succ, List.getElem_cons_zero, List.setIfInBounds_toArray, List.set_cons_zero, List.set_cons_succ]
  refine wpAnyH_take (i := 2) (v := .int .i64 a) rfl (by kernel_rfl) (by kernel_rfl) (by kernel_rfl) (fun _ _ _ h => h) (Or.inl ⟨by rfl, fun w hSw => ?_⟩) hHeld ?_
  · clear hSw; go_simp
  try simp only [Act.put, List.getElem_toArray, List.getElem_cons_succ, List.getElem_cons_zero, List.setIfInBounds_toArray, List.set_cons_zero, List.set_cons_succ]
  refine wpAnyH_take (i := 3) (v := .pointer (some ⟨bc, oc + a * 5, none⟩)) rfl (by kernel_rfl) (by kernel_rfl) (by kernel_rfl) (fun _ _ _ h => h) (Or.inl ⟨by rfl, fun w hSw => ?_⟩) hHeld ?_
  · clear hSw; go_simp; all_goals (try first | rfl | omega)
  try simp only [Act.put, List.getElem_toArray, List.getElem_cons_succ, List.getElem_cons_zero, List.setIfInBounds_toArray, List.set_cons_zero, List.set_cons_succ]
  refine wpAnyH_take (i := 4) (v := .pointer (some ⟨bc, oc + a * 5, none⟩)) rfl (by kernel_rfl) (by kernel_rfl) (by kernel_rfl) (fun _ _ _ h => h) (Or.inl ⟨by rfl, fun w hSw => ?_⟩) hHeld ?_
  · clear hSw; go_simp
  try simp only [Act.put, List.getElem_toArray, List.getElem_cons_succ, List.getElem_cons_zero, List.setIfInBounds_toArray, List.set_cons_zero, List.set_cons_succ]
  refine wpAnyH_take (i := 5) (v := .agg #[.int .i64 L[a].h.a, .int .i64 L[a].h.r, .slice xb1 L[a].h.bs.length xb2, .slice xp1 L[a].h.ps.length xp2]) rfl (by kernel_rfl) (by kernel_rfl) (by kernel_rfl) (fun _ _ _ h => h) (Or.inl ⟨by rfl, fun w hSw => ?_⟩) hHeld ?_
  · have q0 := (hSw.bel.cell (p := ⟨bc, oc + a * 5, none⟩) hbc).trans e0; have q1 := (hSw.bel.cell (p := ⟨bc, oc + a * 5 + 1, none⟩) hbc).trans e1; have q2 := (hSw.bel.cell (p := ⟨bc, oc + a * 5 + 2, none⟩) hbc).trans e2; have q3 := (hSw.bel.cell (p := ⟨bc, oc + a * 5 + 3, none⟩) hbc).trans e3; clear hSw; go_simp
  try simp only [Act.put, List.getElem_toArray, List.getElem_cons_succ, List.getElem_cons_zero, List.setIfInBounds_toArray, List.set_cons_zero, List.set_cons_succ]
  refine wpAnyH_take (i := 6) (v := .pointer (some ⟨bd, 0, none⟩)) rfl (by kernel_rfl) (by kernel_rfl) (by kernel_rfl) (fun _ _ _ h => h) (Or.inl ⟨by rfl, fun w hSw => ?_⟩) hHeld ?_
  · clear hSw; go_simp
  try simp only [Act.put, List.getElem_toArray, List.getElem_cons_succ, List.getElem_cons_zero, List.setIfInBounds_toArray, List.set_cons_zero, List.set_cons_succ]
  refine wpAnyH_take (i := 7) (v := .slice (some ⟨bc, oc, none⟩) L.length cap) rfl (by kernel_rfl) (by kernel_rfl) (by kernel_rfl) (fun _ _ _ h => h) (Or.inl ⟨by rfl, fun w hSw => ?_⟩) hHeld ?_
  · have q := (hSw.bel.cell (p := ⟨bd, 0, none⟩) hbd).trans HX; clear hSw; go_simp
  try simp only [Act.put, List.getElem_toArray, List.getElem_cons_succ, List.getElem_cons_zero, List.setIfInBounds_toArray, List.set_cons_zero, List.set_cons_succ]
  refine wpAnyH_take (i := 8) (v := .int .i64 b) rfl (by kernel_rfl) (by kernel_rfl) (by kernel_rfl) (fun _ _ _ h => h) (Or.inl ⟨by rfl, fun w hSw => ?_⟩) hHeld ?_
  · clear hSw; go_simp
  try simp only [Act.put, List.getElem_toArray, List.getElem_cons_succ, List.getElem_cons_zero, List.setIfInBounds_toArray, List.set_cons_zero, List.set_cons_succ]
  refine wpAnyH_take (i := 9) (v := .pointer (some ⟨bc, oc + b * 5, none⟩)) rfl (by kernel_rfl) (by kernel_rfl) (by kernel_rfl) (fun _ _ _ h => h) (Or.inl ⟨by rfl, fun w hSw => ?_⟩) hHeld ?_
  · clear hSw; go_simp; all_goals (try first | rfl | omega)
  try simp only [Act.put, List.getElem_toArray, List.getElem_cons_succ, List.getElem_cons_zero, List.setIfInBounds_toArray, List.set_cons_zero, List.set_cons_succ]
  refine wpAnyH_take (i := 10) (v := .pointer (some ⟨bc, oc + b * 5, none⟩)) rfl (by kernel_rfl) (by kernel_rfl) (by kernel_rfl) (fun _ _ _ h => h) (Or.inl ⟨by rfl, fun w hSw => ?_⟩) hHeld ?_
  · clear hSw; go_simp
  try simp only [Act.put, List.getElem_toArray, List.getElem_cons_succ, List.getElem_cons_zero, List.setIfInBounds_toArray, List.set_cons_zero, List.set_cons_succ]
  refine wpAnyH_take (i := 11) (v := .agg #[.int .i64 L[b].h.a, .int .i64 L[b].h.r, .slice yb1 L[b].h.bs.length yb2, .slice yp1 L[b].h.ps.length yp2]) rfl (by kernel_rfl) (by kernel_rfl) (by kernel_rfl) (fun _ _ _ h => h) (Or.inl ⟨by rfl, fun w hSw => ?_⟩) hHeld ?_
  · have q0 := (hSw.bel.cell (p := ⟨bc, oc + b * 5, none⟩) hbc).trans f0; have q1 := (hSw.bel.cell (p := ⟨bc, oc + b * 5 + 1, none⟩) hbc).trans f1; have q2 := (hSw.bel.cell (p := ⟨bc, oc + b * 5 + 2, none⟩) hbc).trans f2; have q3 := (hSw.bel.cell (p := ⟨bc, oc + b * 5 + 3, none⟩) hbc).trans f3; clear hSw; go_simp
  try simp only [Act.put, List.getElem_toArray, List.getElem_cons_succ, List.getElem_cons_zero, List.setIfInBounds_toArray, List.set_cons_zero, List.set_cons_succ]
  refine wpAnyH_ready (rs := [12, 13]) (by kernel_rfl) (by simp) ?_
  refine AllReadyH.cons rfl (fun K hK => ?_) ?_
  · rw [if_pos (by rfl)]
    go_simp
    show K _ _
    refine hK.out _ _ (by exact ⟨hHeld.bel.alloc hHeld.bel.size _, hHeld.drawn⟩) (fun hHeld => ?_)
    clear hK K
    try simp only [Act.put, List.getElem_toArray, List.getElem_cons_succ, List.getElem_cons_zero, List.setIfInBounds_toArray, List.set_cons_zero, List.set_cons_succ]
    refine wpAnyH_ready (rs := [13]) (by kernel_rfl) (by simp) ?_
    refine AllReadyH.cons rfl (fun K hK => ?_) ?_
    · rw [if_pos (by rfl)]
      go_simp
      show K _ _
      refine hK.out _ _ (by exact ⟨hHeld.bel.alloc hHeld.bel.size _, hHeld.drawn⟩) (fun hHeld => ?_)
      clear hK K
      try simp only [Act.put, List.getElem_toArray, List.getElem_cons_succ, List.getElem_cons_zero, List.setIfInBounds_toArray, List.set_cons_zero, List.set_cons_succ]
      refine wpAnyH_ready (rs := [14]) (by kernel_rfl) (by simp) ?_
      refine AllReadyH.cons rfl (fun K hK => ?_) ?_
      · rw [if_pos (by rfl)]
        go_simp
        show K _ _
        refine hK.out _ _ (by exact ⟨(by repeat (first | with_reducible exact hHeld.bel | with_reducible refine Below.setCell ?_ (by first | omega | (simp <;> omega)) _ | with_reducible refine Below.alloc ?_ (by first | omega | (simp <;> omega)) _ | with_reducible exact Below.refl _ _ | with_reducible refine Below.drew ?_)), hHeld.drawn⟩) (fun hHeld => ?_)
        clear hK K
        try simp only [Act.put, List.getElem_toArray, List.getElem_cons_succ, List.getElem_cons_zero, List.setIfInBounds_toArray, List.set_cons_zero, List.set_cons_succ]
        refine wpAnyH_ready (rs := [15]) (by kernel_rfl) (by simp) ?_
        refine AllReadyH.cons rfl (fun K hK => ?_) ?_
        · rw [if_pos (by rfl)]
          go_simp
          show K _ _
          refine hK.out _ _ (by exact ⟨(by repeat (first | with_reducible exact hHeld.bel | with_reducible refine Below.setCell ?_ (by first | omega | (simp <;> omega)) _ | with_reducible refine Below.alloc ?_ (by first | omega | (simp <;> omega)) _ | with_reducible exact Below.refl _ _ | with_reducible refine Below.drew ?_)), hHeld.drawn⟩) (fun hHeld => ?_)
          clear hK K
          try simp only [Act.put, List.getElem_toArray, List.getElem_cons_succ, List.getElem_cons_zero, List.setIfInBounds_toArray, List.set_cons_zero, List.set_cons_succ]
          refine wpAnyH_done (by kernel_rfl) ?_ _
          clear hHeld
          go_wp2_with (go_at_call 63; refine (cmpOr_any (L[a].h.r - L[b].h.r) (L[a].h.a - L[b].h.a) (w.heap.size + 1 + 1) _ (by go_simp) (by go_simp)).mono ?_; rintro e w' ⟨rfl, rfl⟩)
          go_ret
          exact ⟨rfl, BelD.grow ⟨(by repeat (first | with_reducible exact Below.refl _ _ | with_reducible refine Below.drew ?_ | with_reducible refine Below.setCell ?_ (by first | omega | (simp <;> omega)) _ | with_reducible refine Below.alloc ?_ (by first | omega | (simp <;> omega)) _)), (by first | exact Nat.le_succ _ | exact Nat.le_refl _)⟩⟩
        exact AllReadyH.nil
      exact AllReadyH.nil
    exact AllReadyH.nil
  refine AllReadyH.cons rfl (fun K hK => ?_) ?_
  · rw [if_pos (by rfl)]
    go_simp
    show K _ _
    refine hK.out _ _ (by exact ⟨hHeld.bel.alloc hHeld.bel.size _, hHeld.drawn⟩) (fun hHeld => ?_)
    clear hK K
    try simp only [Act.put, List.getElem_toArray, List.getElem_cons_succ, List.getElem_cons_zero, List.setIfInBounds_toArray, List.set_cons_zero, List.set_cons_succ]
    refine wpAnyH_ready (rs := [12]) (by kernel_rfl) (by simp) ?_
    refine AllReadyH.cons rfl (fun K hK => ?_) ?_
    · rw [if_pos (by rfl)]
      go_simp
      show K _ _
      refine hK.out _ _ (by exact ⟨hHeld.bel.alloc hHeld.bel.size _, hHeld.drawn⟩) (fun hHeld => ?_)
      clear hK K
      try simp only [Act.put, List.getElem_toArray, List.getElem_cons_succ, List.getElem_cons_zero, List.setIfInBounds_toArray, List.set_cons_zero, List.set_cons_succ]
      refine wpAnyH_ready (rs := [14]) (by kernel_rfl) (by simp) ?_
      refine AllReadyH.cons rfl (fun K hK => ?_) ?_
      · rw [if_pos (by rfl)]
        go_simp
        show K _ _
        refine hK.out _ _ (by exact ⟨(by repeat (first | with_reducible exact hHeld.bel | with_reducible refine Below.setCell ?_ (by first | omega | (simp <;> omega)) _ | with_reducible refine Below.alloc ?_ (by first | omega | (simp <;> omega)) _ | with_reducible exact Below.refl _ _ | with_reducible refine Below.drew ?_)), hHeld.drawn⟩) (fun hHeld => ?_)
        clear hK K
        try simp only [Act.put, List.getElem_toArray, List.getElem_cons_succ, List.getElem_cons_zero, List.setIfInBounds_toArray, List.set_cons_zero, List.set_cons_succ]
        refine wpAnyH_ready (rs := [15]) (by kernel_rfl) (by simp) ?_
        refine AllReadyH.cons rfl (fun K hK => ?_) ?_
        · rw [if_pos (by rfl)]
          go_simp
          show K _ _
          refine hK.out _ _ (by exact ⟨(by repeat (first | with_reducible exact hHeld.bel | with_reducible refine Below.setCell ?_ (by first | omega | (simp <;> omega)) _ | with_reducible refine Below.alloc ?_ (by first | omega | (simp <;> omega)) _ | with_reducible exact Below.refl _ _ | with_reducible refine Below.drew ?_)), hHeld.drawn⟩) (fun hHeld => ?_)
          clear hK K
          try simp only [Act.put, List.getElem_toArray, List.getElem_cons_succ, List.getElem_cons_zero, List.setIfInBounds_toArray, List.set_cons_zero, List.set_cons_succ]
          refine wpAnyH_done (by kernel_rfl) ?_ _
          clear hHeld
          go_wp2_with (go_at_call 63; refine (cmpOr_any (L[a].h.r - L[b].h.r) (L[a].h.a - L[b].h.a) (w.heap.size + 1 + 1) _ (by go_simp) (by go_simp)).mono ?_; rintro e w' ⟨rfl, rfl⟩)
          go_ret
          exact ⟨rfl, BelD.grow ⟨(by repeat (first | with_reducible exact Below.refl _ _ | with_reducible refine Below.drew ?_ | with_reducible refine Below.setCell ?_ (by first | omega | (simp <;> omega)) _ | with_reducible refine Below.alloc ?_ (by first | omega | (simp <;> omega)) _)), (by first | exact Nat.le_succ _ | exact Nat.le_refl _)⟩⟩
        exact AllReadyH.nil
      exact AllReadyH.nil
    exact AllReadyH.nil
  exact AllReadyH.nil
end Go.Proofs.YtpfmmncnhlfdgaaDoor

/- The shelf's contract of slices.SortFunc at numbers, laid at this program: written by the kit's own tool. -/
set_option linter.unusedVariables false
namespace Go.Proofs.YtpfmmncnhlfdgaaDoor
open Go.Shelf
def histLay_ren : Go.Shelf.Ren := ⟨fun | 6 => 61 | 15 => 78 | 14 => 79 | 28 => 92 | 29 => 93 | 20 => 94 | 21 => 95 | 22 => 96 | 23 => 97 | 24 => 98 | 25 => 99 | 26 => 100 | 27 => 101 | 46 => 108 | 47 => 104 | 48 => 105 | 49 => 109 | 50 => 110 | 57 => 112 | n => n, fun | 22 => 43 | 24 => 3 | 25 => 55 | 3 => 3 | 39 => 105 | 0 => 0 | 53 => 115 | 55 => 130 | 4 => 4 | 46 => 122 | 45 => 121 | 50 => 126 | 5 => 5 | 9 => 9 | 66 => 144 | 70 => 148 | 76 => 152 | 77 => 153 | n => n, fun | n => n⟩
theorem histLay : Go.Proofs.SlLaysF.n6 Tryd.prog histLay_ren := {
  mixed := by kernel_rfl
  f6 := ⟨Tryd.f61.name, by decide, Tryd.func61.trans (congrArg some (by kernel_rfl))⟩
  f14 := ⟨Tryd.f79.name, by decide, Tryd.func79.trans (congrArg some (by kernel_rfl))⟩
  f15 := Tryd.func78.trans (congrArg some (by kernel_rfl))
  f20 := ⟨Tryd.f94.name, by decide, Tryd.func94.trans (congrArg some (by kernel_rfl))⟩
  f21 := ⟨Tryd.f95.name, by decide, Tryd.func95.trans (congrArg some (by kernel_rfl))⟩
  f22 := ⟨Tryd.f96.name, by decide, Tryd.func96.trans (congrArg some (by kernel_rfl))⟩
  f23 := ⟨Tryd.f97.name, by decide, Tryd.func97.trans (congrArg some (by kernel_rfl))⟩
  f24 := ⟨Tryd.f98.name, by decide, Tryd.func98.trans (congrArg some (by kernel_rfl))⟩
  f25 := ⟨Tryd.f99.name, by decide, Tryd.func99.trans (congrArg some (by kernel_rfl))⟩
  f26 := ⟨Tryd.f100.name, by decide, Tryd.func100.trans (congrArg some (by kernel_rfl))⟩
  f27 := ⟨Tryd.f101.name, by decide, Tryd.func101.trans (congrArg some (by kernel_rfl))⟩
  f28 := Tryd.func92.trans (congrArg some (by kernel_rfl))
  f29 := Tryd.func93.trans (congrArg some (by kernel_rfl))
  f46 := ⟨Tryd.f108.name, by decide, Tryd.func108.trans (congrArg some (by kernel_rfl))⟩
  f47 := Tryd.func104.trans (congrArg some (by kernel_rfl))
  f48 := Tryd.func105.trans (congrArg some (by kernel_rfl))
  f49 := ⟨Tryd.f109.name, by decide, Tryd.func109.trans (congrArg some (by kernel_rfl))⟩
  f50 := ⟨Tryd.f110.name, by decide, Tryd.func110.trans (congrArg some (by kernel_rfl))⟩
  f57 := ⟨Tryd.f112.name, by decide, Tryd.func112.trans (congrArg some (by kernel_rfl))⟩
  t0 := Tryd.underlying0
  a0 := Tryd.isAgg0
  z0 := Tryd.sizeOf0
  v0 := Tryd.zeroValue0
  t3 := Tryd.underlying3
  a3 := Tryd.isAgg3
  z3 := Tryd.sizeOf3
  v3 := Tryd.zeroValue3
  t4 := Tryd.underlying4
  a4 := Tryd.isAgg4
  z4 := Tryd.sizeOf4
  v4 := Tryd.zeroValue4
  t5 := Tryd.underlying5
  a5 := Tryd.isAgg5
  z5 := Tryd.sizeOf5
  v5 := Tryd.zeroValue5
  t9 := Tryd.underlying9
  a9 := Tryd.isAgg9
  z9 := Tryd.sizeOf9
  v9 := Tryd.zeroValue9
  t22 := Tryd.underlying43
  a22 := Tryd.isAgg43
  z22 := Tryd.sizeOf43
  v22 := Tryd.zeroValue43
  a24 := Tryd.isAgg3
  z24 := Tryd.sizeOf3
  t25 := Tryd.underlying55
  a25 := Tryd.isAgg55
  z25 := Tryd.sizeOf55
  v25 := Tryd.zeroValue55
  t39 := Tryd.underlying105
  a39 := Tryd.isAgg105
  z39 := Tryd.sizeOf105
  v39 := Tryd.zeroValue105
  t45 := Tryd.underlying121
  a45 := Tryd.isAgg121
  z45 := Tryd.sizeOf121
  v45 := Tryd.zeroValue121
  t46 := Tryd.underlying122
  a46 := Tryd.isAgg122
  z46 := Tryd.sizeOf122
  v46 := Tryd.zeroValue122
  t50 := Tryd.underlying126
  a50 := Tryd.isAgg126
  z50 := Tryd.sizeOf126
  v50 := Tryd.zeroValue126
  t53 := Tryd.underlying115
  a53 := Tryd.isAgg115
  z53 := Tryd.sizeOf115
  v53 := Tryd.zeroValue115
  t55 := Tryd.underlying130
  a55 := Tryd.isAgg130
  z55 := Tryd.sizeOf130
  v55 := Tryd.zeroValue130
  t66 := Tryd.underlying144
  a66 := Tryd.isAgg144
  z66 := Tryd.sizeOf144
  v66 := Tryd.zeroValue144
  t70 := Tryd.underlying148
  a70 := Tryd.isAgg148
  z70 := Tryd.sizeOf148
  v70 := Tryd.zeroValue148
  t76 := Tryd.underlying152
  a76 := Tryd.isAgg152
  z76 := Tryd.sizeOf152
  v76 := Tryd.zeroValue152
  t77 := Tryd.underlying153
  a77 := Tryd.isAgg153
  z77 := Tryd.sizeOf153
  v77 := Tryd.zeroValue153 }
end Go.Proofs.YtpfmmncnhlfdgaaDoor

/- The places of a history are sorted: by the shelf's slices.SortFunc. -/
set_option linter.unusedVariables false
set_option linter.unusedSimpArgs false
namespace Go.Proofs.YtpfmmncnhlfdgaaDoor
open Go Go.RowKit Go.Sort Go.Proofs

theorem holds1_of_owns {α : Type} [Inhabited α] {enc : α → Value} {w : World} {base e n g cap : Nat} {d : Array α}
    (h : w.ownsRow base e 1 (.slice (some ⟨g, 0, none⟩) n cap) n (d.toList.map enc)) : Holds enc w g 0 d := by
  obtain ⟨hl, h⟩ := h
  rcases h with ⟨h, -⟩ | ⟨g', cap', cur, hv, hb, hg, k1, k2, k3, k4⟩
  · simp at h
  · simp only [Value.slice.injEq, Option.some.injEq, Addr.mk.injEq, and_true] at hv
    obtain ⟨rfl, -, rfl⟩ := hv
    have hn : n = d.size := by simpa using hl.symm
    intro j hj
    have e1 : (cur.toList.take (n * 1))[j]? = (d.toList.map enc)[j]? := by rw [k4]
    rw [Nat.mul_one, List.getElem?_take_of_lt (by omega)] at e1
    have e2 : (d.toList.map enc)[j]? = some (enc d[j]!) := by simp [hj]
    rw [e2] at e1
    refine ⟨?_, by simp [World.frozen?, hg]⟩
    simp only [World.cell?, hg, Nat.zero_add]
    simpa using e1
theorem grown_sortWorld {α : Type} [Inhabited α] (enc : α → Value) (w : World) (g m : Nat) (d : Array α) (os : Array Obj) : w.grownBy (sortWorld enc w g 0 m d os) (some g) := by
  refine ⟨rfl, rfl, rfl, by simp [sortWorld], fun k hk hne => ?_⟩
  unfold sortWorld
  rw [heap_grow_old _ _ (by simpa using hk)]
  have : g ≠ k := fun e => hne (by rw [e])
  simp [putRow, mapBlock, Sort.ahead, Array.getElem?_modify, this]
theorem owns_sortWorld {α : Type} [Inhabited α] {enc : α → Value} {w : World} {base e n g cap m : Nat} {d d' : Array α} {os : Array Obj}
    (h : w.ownsRow base e 1 (.slice (some ⟨g, 0, none⟩) n cap) n (d.toList.map enc)) (hs : d'.size = d.size) :
    (sortWorld enc w g 0 m d' os).ownsRow base e 1 (.slice (some ⟨g, 0, none⟩) n cap) n (d'.toList.map enc) := by
  obtain ⟨hl, h⟩ := h
  rcases h with ⟨h, -⟩ | ⟨g', cap', cur, hv, hb, hg, k1, k2, k3, k4⟩
  · simp at h
  · simp only [Value.slice.injEq, Option.some.injEq, Addr.mk.injEq, and_true] at hv
    obtain ⟨rfl, -, rfl⟩ := hv
    have hn : n = d.size := by simpa using hl.symm
    have hgl : g < w.heap.size := lt_of_block hg
    have hblk : (sortWorld enc w g 0 m d' os).heap[g]? = some (.cells (putCells enc 0 d' cur) e (0, 0)) := by
      unfold sortWorld
      rw [heap_grow_old _ _ (by simpa using hgl)]
      simp [putRow, mapBlock, Sort.ahead, Array.getElem?_modify, hg, onCells]
    refine ⟨by simp; omega, .inr ⟨g, cap, _, rfl, hb, hblk, k1, k2, by simp [putCells]; omega, ?_⟩⟩
    apply List.ext_getElem?
    intro j
    rw [Nat.mul_one]
    by_cases hj : j < n
    · rw [List.getElem?_take_of_lt hj]
      have hj' : j < d'.size := by omega
      have hjc : j < cur.size := by omega
      simp [putCells, hj', hjc]
    · rw [List.getElem?_take_eq_none (by omega), List.getElem?_eq_none (by simp; omega)]
theorem orZ_lt {L : List Crt} {a b : Nat} (ha : 0 ≤ (L.getD a crtZ).h.a ∧ (L.getD a crtZ).h.a < 4) (hb : 0 ≤ (L.getD b crtZ).h.a ∧ (L.getD b crtZ).h.a < 4) :
    (orZ ((L.getD a crtZ).h.r - (L.getD b crtZ).h.r) ((L.getD a crtZ).h.a - (L.getD b crtZ).h.a) < 0) ↔ keyC (L.getD a crtZ) < keyC (L.getD b crtZ) := by
  unfold orZ keyC
  split <;> omega
set_option maxRecDepth 100000 in
set_option maxHeartbeats 8000000 in
theorem sortPl_any {G : Nat → Prop} {base : Nat} {L : List Crt} {N : List Nat} (bd bc oc capv g cap : Nat) (w : World) (hN : ∀ j ∈ N, j < L.length) (h0 : 0 < L.length) (hN4 : N.length ≤ 400)
    (hown : w.ownsRow base 3 1 (.slice (some ⟨g, 0, none⟩) N.length cap) N.length ((intsOf N).map (Value.int .i64)))
    (hbd : w.cell? ⟨bd, 0, none⟩ = some (.slice (some ⟨bc, oc, none⟩) L.length capv)) (hne : bd ≠ g) (hL : RdS RCert G w (.slice (some ⟨bc, oc, none⟩) L.length capv) L) (hG : ∀ b, G b → b ≠ g)
    (hau : ∀ c ∈ L, 0 ≤ c.h.a ∧ c.h.a < 4 ∧ 1 ≤ c.h.r ∧ c.h.r ≤ 1048576) (h400 : L.length ≤ 400) :
    Calls Tryd.prog 61 #[.slice (some ⟨g, 0, none⟩) N.length cap, .func (.func 62) #[] #[.pointer (some ⟨bd, 0, none⟩)]] w fun e w' =>
      e = .returned (.tuple #[]) ∧ ∃ M : List Nat, M.Perm N ∧ (M.Pairwise fun x y => keyC (L.getD x crtZ) ≤ keyC (L.getD y crtZ)) ∧ w'.ownsRow base 3 1 (.slice (some ⟨g, 0, none⟩) N.length cap) N.length ((intsOf M).map (Value.int .i64)) ∧ w.grownBy w' (some g) := by
  have hbl : bd < w.heap.size := World.block_lt_of_cell? w _ hbd
  haveI : Inhabited {j : Nat // j < L.length} := ⟨⟨0, h0⟩⟩
  have hgl : g < w.heap.size := (hown.lt g rfl).2
  let enc : {j : Nat // j < L.length} → Value := fun x => .int .i64 (x.1 : Int)
  let cf : {j : Nat // j < L.length} → {j : Nat // j < L.length} → Int := fun x y => orZ ((L.getD x.1 crtZ).h.r - (L.getD y.1 crtZ).h.r) ((L.getD x.1 crtZ).h.a - (L.getD y.1 crtZ).h.a)
  have hat : ∀ x : {j : Nat // j < L.length}, L.getD x.1 crtZ = L[x.1]'x.2 := fun x => getD_at x.2
  have hab : ∀ x : {j : Nat // j < L.length}, 0 ≤ (L.getD x.1 crtZ).h.a ∧ (L.getD x.1 crtZ).h.a < 4 := fun x => by rw [hat]; have := hau _ (List.getElem_mem x.2); omega
  have hlt : ∀ x y, ltOf cf x y = decide (keyC (L.getD x.1 crtZ) < keyC (L.getD y.1 crtZ)) := fun x y => by
    unfold ltOf
    rw [Bool.eq_iff_iff, decide_eq_true_iff, decide_eq_true_iff]
    exact orZ_lt (hab x) (hab y)
  have hO : SWO (ltOf cf) := {
    irrefl := fun x => by rw [hlt]; simp
    trans := fun x y z h1 h2 => by rw [hlt] at *; simp at *; omega
    ntrans := fun x y z h1 h2 => by rw [hlt] at *; simp at *; omega }
  obtain ⟨d, hd⟩ : ∃ d : List {j : Nat // j < L.length}, d.map (·.1) = N := ⟨N.attach.map fun x => ⟨x.1, hN x.1 x.2⟩, by simp⟩
  have hmap : ∀ d : List {j : Nat // j < L.length}, d.map enc = (intsOf (d.map (·.1))).map (Value.int .i64) := fun d => by simp [enc, intsOf]
  have hown' : w.ownsRow base 3 1 (.slice (some ⟨g, 0, none⟩) N.length cap) N.length (d.toArray.toList.map enc) := by rw [List.toList_toArray, hmap, hd]; exact hown
  have hsz : d.toArray.size = N.length := by rw [← hd]; simp
  have eg : ∀ args w, (callFunc 62 args).run Tryd.prog w = .ok (.enter 62 args) w := enters_of Tryd.func62 (by kernel_rfl) rfl
  have hcmp : CmpLays1 Tryd.prog 62 #[.pointer (some ⟨bd, 0, none⟩)] enc cf g 0 d.toArray.size w := fun m os dk hs x y => by
    have hgr := grown_sortWorld enc w g m dk os
    have hq := hcmp_any (L := L) bd bc oc capv x.1 y.1 (sortWorld enc w g 0 m dk os) (hgr.cell hbd (by simpa using hne)) (hL.keep (G' := G) (Keep.grown hgr (fun k hk h => by have := hG k h; simp at hk; omega)) (fun _ h => h)) x.2 y.2 hau h400
    have e : cf x y = orZ (L[x.1].h.r - L[y.1].h.r) (L[x.1].h.a - L[y.1].h.a) := by show orZ _ _ = _; rw [hat, hat]
    rw [e]
    exact hq
  have hcon := Any.slices_SortFunc histLay enc (fun _ => rfl) cf hO 62 #[.pointer (some ⟨bd, 0, none⟩)] g 0 cap d.toArray w eg hcmp (holds1_of_owns hown') hgl (by rw [hsz]; omega)
  change Calls Tryd.prog 61 _ _ _ at hcon
  rw [hsz] at hcon
  refine hcon.mono ?_
  rintro e w' ⟨rfl, d', n, os, hp, hsrt, rfl⟩
  rw [← hsz] at hp hsrt
  have hds : d'.size = d.toArray.size := hp.1
  refine ⟨rfl, d'.toList.map (·.1), ?_, ?_, ?_, grown_sortWorld _ _ _ _ _ _⟩
  · rw [← hd]
    have := permIn_perm hp
    rw [List.toList_toArray] at this
    exact this.map _
  · rw [List.pairwise_map]
    refine (sortedIn_pairwise hds hsrt).imp (fun {a b} hab => ?_)
    rw [hlt] at hab
    simp at hab
    exact hab
  · have := owns_sortWorld (m := n) (os := os) hown' hds
    rw [hmap] at this
    exact this
end Go.Proofs.YtpfmmncnhlfdgaaDoor

/- order.history: what it computes. -/
set_option linter.unusedVariables false
set_option linter.unusedSimpArgs false
attribute [local go_sem ↓] Go.wp_at_zero Go.wp_at_succ
namespace Go.Proofs.YtpfmmncnhlfdgaaDoor
open Go Go.RowKit

open Go.Maps
theorem ownsRow_of_boxH {w : World} {b base size n : Nat} {cs : List Value} {T : TypeId} (h : BoxAt w b cs T) (hb : base ≤ b) (hl : cs.length = n * size) (hm : n ≤ maxLen) : w.ownsRow base T size (.slice (some ⟨b, 0, none⟩) n n) n cs :=
  ⟨hl, .inr ⟨b, n, cs.toArray, rfl, hb, h, Nat.le_refl _, hm, by simp [hl], by simp [← hl]⟩⟩
/-! ### A set of places -/
def litI (j : Nat) : Lit := .int .i64 (j : Int)
theorem litI_key (l : List Nat) : ∀ x ∈ l.map litI, WideAt.IsKeyLit x := fun x hx => by
  obtain ⟨b, _, rfl⟩ := List.mem_map.1 hx; trivial
def setI (l : List Nat) : DataW Unit := setOf (.agg []) (l.map litI)
theorem setI_nil : setI [] = .map [] := rfl
theorem setI_snoc (l : List Nat) (x : Nat) : setI (l ++ [x]) = (setI l).put (litI x) (.agg []) := by unfold setI; rw [List.map_append]; exact setOf_snoc _ _ _
theorem has_setI (l : List Nat) (x : Nat) : has (setI l) (litI x) = decide (x ∈ l) := by
  unfold setI
  rw [has_setOf _ _ _ (litI_key l)]
  rw [Bool.eq_iff_iff]
  simp only [List.any_eq_true, List.mem_map, decide_eq_true_eq]
  constructor
  · rintro ⟨_, ⟨b, hb, rfl⟩, h⟩
    have : b = x := by
      simp only [litI, Lit.sameKey] at h
      have h' : (b : Int) = (x : Int) := by simpa using h
      omega
    exact this ▸ hb
  · intro h; exact ⟨_, ⟨x, h, rfl⟩, by simp [litI, Lit.sameKey]⟩
theorem lawInt : Keyed Tryd.prog 3 := int_keyed Tryd.underlying3
theorem keyInt (j : Nat) (h : j ≤ 9223372036854775807) : keyOf Tryd.prog 3 (.int .i64 (j : Int)) = some (litI j) :=
  keyOf_int_mk Tryd.underlying3 (by simp [Lit.wf, IntKind.min, IntKind.max, IntKind.bits, IntKind.signed]; omega)
/-! ### The last one is taken off -/
theorem LstO.last {G : Nat → Prop} {base e : Nat} {w : World} {v : Value} {l : List Bytes} {x : Bytes} (h : LstO RBytes G base e w v (l ++ [x])) :
    ∃ g cap vx, v = .slice (some ⟨g, 0, none⟩) (l.length + 1) cap ∧ base ≤ g ∧ w.cell? ⟨g, l.length, none⟩ = some vx ∧ RdB (fun b => G b ∧ b < w.heap.size ∧ b ≠ g) w vx x ∧ LstO RBytes G base e w (.slice (some ⟨g, 0, none⟩) l.length cap) l := by
  obtain ⟨vals, ⟨hl, h1⟩, h2⟩ := h
  have hsz : RBytes.size = 1 := rfl
  rw [hsz, List.length_append, List.length_singleton, Nat.mul_one] at hl
  rcases h1 with ⟨-, h0⟩ | ⟨g, cap, cur, rfl, hbg, hg, k1, k2, k3, k4⟩
  · simp at h0
  · rw [List.length_append, List.length_singleton] at k1 k4 h2 ⊢
    have hx := h2 l.length x (by simp)
    rw [hsz, Nat.mul_one] at hx
    obtain ⟨vx, hvx, hr⟩ := hx
    have hcell : vals[l.length]? = some vx := by
      have : ((vals.drop l.length).take 1)[0]? = some vx := by rw [hvx]; rfl
      simpa using this
    refine ⟨g, cap, vx, rfl, hbg, ?_, hr.mono (fun b hb => ⟨hb.1, hb.2.1, fun e => hb.2.2 (by simp [Value.ownBlock, e])⟩), vals.take l.length, ⟨by rw [hsz]; simp; omega, .inr ⟨g, cap, cur, rfl, hbg, hg, by omega, k2, k3, ?_⟩⟩, fun j y hy => ?_⟩
    · rw [← k4, hsz, Nat.mul_one, List.getElem?_take_of_lt (by omega)] at hcell
      simp [World.cell?, hg]
      simpa using hcell
    · rw [← k4, hsz]; simp [List.take_take]
    · have hj : j < l.length := by
        rcases Nat.lt_or_ge j l.length with q | q
        · exact q
        · rw [List.getElem?_eq_none q] at hy; simp at hy
      have hy2 := h2 j y (by rw [List.getElem?_append_left hj]; exact hy)
      rw [hsz, Nat.mul_one] at hy2 ⊢
      have e1 : ((vals.take l.length).drop j).take 1 = (vals.drop j).take 1 := by
        rw [List.drop_take, List.take_take]
        congr 1; omega
      rw [e1]
      exact RBytes.keep hy2 (Keep.refl _ _) (fun b hb => ⟨hb.1, hb.2.1, fun e => hb.2.2 (by simpa [Value.ownBlock] using e)⟩)
theorem LstO.more {α : Type} {R : Rel α} {G : Nat → Prop} {base e : Nat} {w w' : World} {v v' : Value} {l l2 : List α} {vals news : List Value} (h1 : w.ownsRow base e R.size v l.length vals)
    (h2 : ∀ j x, l[j]? = some x → R.rd G w ((vals.drop (j * R.size)).take R.size) x) (h3 : ∀ j x, l2[j]? = some x → R.rd G w ((news.drop (j * R.size)).take R.size) x) (hG : ∀ b, G b → b < base) (hb : base ≤ w.heap.size)
    (hown : w'.ownsRow base e R.size v' (l.length + l2.length) (vals ++ news)) (hgr : w.grownBy w' v.ownBlock) : LstO R G base e w' v' (l ++ l2) := by
  have hvl : vals.length = l.length * R.size := h1.1
  have hk : Keep G w w' := Keep.grown hgr (fun k hk h => by have := hG k h; have := (h1.lt k hk).1; omega)
  have hm : ∀ b, G b → (G b ∧ b < w'.heap.size ∧ v'.ownBlock ≠ some b) := fun b hb' => ⟨hb', by have := hG b hb'; have := hgr.size; omega, fun e => by have := hG b hb'; have := (hown.lt b e).1; omega⟩
  refine ⟨vals ++ news, by rw [List.length_append]; exact hown, fun j x hx => ?_⟩
  rcases Nat.lt_or_ge j l.length with hj | hj
  · rw [List.getElem?_append_left hj] at hx
    have hle : (j + 1) * R.size ≤ l.length * R.size := Nat.mul_le_mul_right _ hj
    rw [Nat.add_mul, Nat.one_mul] at hle
    rw [List.drop_append_of_le_length (by omega), List.take_append_of_le_length (by simp; omega)]
    exact R.keep (h2 j x hx) hk hm
  · rw [List.getElem?_append_right hj] at hx
    have e1 : j * R.size = vals.length + (j - l.length) * R.size := by rw [hvl, ← Nat.add_mul]; congr 1; omega
    rw [e1, ← List.drop_drop, List.drop_left' rfl]
    exact R.keep (h3 _ x hx) hk hm
theorem elemI : ElemOk Tryd.prog 43 3 1 8 := elemOk_of (z := .int .i64 0) (by kernel_rfl) (by kernel_rfl) rfl (by decide)
theorem hdr_aur {h : Hdr} (q : hdrCode h = 0) : 0 ≤ h.a ∧ h.a < 4 ∧ 1 ≤ h.r ∧ h.r ≤ 1048576 := by
  have h0 := (hdr_partsD q).1
  have h1 := (hdr_partsD q).2.1
  unfold nodeOk at h0
  unfold countOk at h1
  simp only [decide_eq_true_eq] at h0 h1
  omega
theorem histL_pos {α : Type} {l : List α} (h : 0 < l.length) : ∃ m x, l = m ++ [x] := by
  have hne : l ≠ [] := by intro e; subst e; simp at h
  exact ⟨l.dropLast, l.getLast hne, (List.dropLast_concat_getLast hne).symm⟩
theorem zeroI (w : World) : (zeroValue 76).run Tryd.prog w = .ok (.agg #[]) w := by kernel_rfl
set_option maxRecDepth 100000 in
set_option maxHeartbeats 8000000 in
theorem history_any {G G2 G3 : Nat → Prop} {L : List Crt} {k : Bytes} {i : Nat} (v vs vk : Value) (w : World) (h : RdS RCert G w v L) (hs : RdBB G2 w vs (crtSums L)) (hk : RdB G3 w vk k) (hok : dagOk L = true) (hi : i < L.length) (hik : idxP (isB k) (crtSums L) = (i : Int)) :
    Calls Tryd.prog 40 #[.agg #[v], vs, vk] w fun e w' => ∃ (v' : Value) (M : List Nat), e = .returned v' ∧ IsHist L i M ∧ RdI (fun b => w.heap.size ≤ b) w' v' (intsOf M) ∧ Below w.heap.size w w' := by
  have hmm := @run_makeMap Tryd.prog
  have hmf : ∀ (fn : Fn) (first cap : Array Value) (w : World), (Instr.makeFunc fn first cap).run Tryd.prog w = .ok (.func fn first cap) w := fun _ _ _ _ => rfl
  have hl4 := (dagOk_iff.1 hok).1
  obtain ⟨adv, capv, rfl, hcv, hcm⟩ := h.form
  obtain ⟨ads, caps, rfl, hcs, hcms⟩ := hs.form
  obtain ⟨adk, capk, rfl, hck, hckm⟩ := hk.form
  unfold maxLen at hcm hcms hckm
  have hb0 := (Below.refl w.heap.size w).alloc (Nat.le_refl _) (.cells #[.slice adv L.length capv] 30)
  have HV := Lib.hid ((h.low (by decide)).below hb0 (fun _ h => h))
  have HS := Lib.hid ((hs.low (by decide)).below hb0 (fun _ h => h))
  have HK := Lib.hid ((hk.low (by decide)).below hb0 (fun _ h => h))
  have HB := Lib.hid hb0
  have HX := Lib.hid (BoxAt.new w [.slice adv L.length capv] 30)
  have HOK := Lib.hid hok
  have HIK := Lib.hid hik
  clear h hs hk hok hik hb0
  go_enter Tryd.func40, Tryd.ntmps40
  go_upto_region 1 with fail
  obtain ⟨w0, hw0⟩ : ∃ w0, w0 = w.alloc (.cells #[.slice adv L.length capv] 30) := ⟨_, rfl⟩
  rw [← hw0] at HV HS HK HX HB ⊢
  have hz0 := HX.out.lt
  have hzz : w0.heap.size = w.heap.size + 1 := by rw [hw0]; simp
  have hz1 : w0.heap.size ≤ w.heap.size + 1 := by omega
  have hz2 : w.heap.size + 1 ≤ w0.heap.size := by omega
  clear hw0 hzz
  replace HV := Lib.hid (HV.out.mono (G' := fun b => b < w.heap.size) (fun b hb => hb.2))
  replace HS := Lib.hid (HS.out.mono (G' := fun b => b < w.heap.size) (fun b hb => hb.2))
  replace HK := Lib.hid (HK.out.mono (G' := fun b => b < w.heap.size) (fun b hb => hb.2))
  go_upto_region 3 with fail
  go_loopg [8] (5 * L.length + 1) (fun q td wr => ∃ (M : List Nat) (T : List Bytes) (ad : Option Addr) (cap : Nat), td = .slice ad T.length cap ∧ q = 5 * (L.length - M.length) + T.length ∧ T.length ≤ 4 * M.length + 1 ∧ Trav L i M T ∧ LstO RBytes (fun b => b < w.heap.size) (w0.heap.size + 1) 39 wr (.slice ad T.length cap) T ∧ wr.ownsMap Tryd.prog 3 (unitElem (H := Unit)) w0.heap.size M.length (setI M) ∧ Below w0.heap.size w0 wr)
  case atStart =>
    have hbx := BoxAt.newAt (w0.alloc (.map #[] 0)) [.slice adk k.length capk] 39 (n := w0.heap.size + 1) (by simp)
    have hbw : Below w0.heap.size w0 ((w0.alloc (.map #[] 0)).alloc (.cells #[.slice adk k.length capk] 39)) := ((Below.refl _ _).alloc (Nat.le_refl _) _).alloc (by simp) _
    refine ⟨[], [k], some ⟨w0.heap.size + 1, 0, none⟩, 1, rfl, by simp, by simp, Trav.start hi HIK.out, ⟨[.slice adk k.length capk], ownsRow_of_boxH hbx (Nat.le_refl _) rfl (by unfold maxLen; simp), fun j x hx => ?_⟩, (World.ownsMap_made w0 Tryd.prog 3 (unitElem (H := Unit))).alloc _, hbw⟩
    match j, hx with
    | 0, hx =>
      simp only [List.getElem?_cons_zero, Option.some.injEq] at hx
      subst hx
      exact ⟨_, rfl, HK.out.keep (Keep.below hbw) (fun b hb => ⟨hb, by simp; omega, by simp [Value.ownBlock]; omega⟩)⟩
  case round =>
    obtain ⟨M, T, ad, cap, rfl, rfl, hT4, hTr, hL, hMp, hB⟩ := hrel
    have HTR := Lib.hid hTr
    have HBr := Lib.hid hB
    have HMr := Lib.hid hMp
    have hz := hB.size
    have hzm := hMp.lt
    have hMl := hTr.room
    clear hTr hMp
    by_cases hlt : 0 < T.length
    · obtain ⟨T', x, rfl⟩ := histL_pos hlt
      obtain ⟨g, cap', vx, hv, hbg, hcx, hrx, hL'⟩ := hL.last
      have hlen : (T' ++ [x]).length = T'.length + 1 := by simp
      simp only [Value.slice.injEq] at hv
      obtain ⟨rfl, -, rfl⟩ := hv
      obtain ⟨vals, hVL⟩ := hL'.valsOf
      have hglt := (hVL.lt g rfl).2
      have HLr := Lib.hid hL'
      have HRX := Lib.hid (hrx.mono (G' := fun b => b < w.heap.size) (fun b hb => hb.1))
      obtain ⟨adx, capx, rfl, -, -⟩ := hrx.form
      have HTD := Lib.hid (HTR.out.todo x (by simp))
      rw [hlen] at hT4 ⊢
      have HLEN := Lib.hid hlen
      have hcapl : T'.length < cap := by
        have := hL.own
        obtain ⟨vals', -, h'⟩ := this
        rcases h' with ⟨h', -⟩ | ⟨g', c', cur', hv', -, -, k1, -, -, -⟩
        · simp at h'
        · simp only [Value.slice.injEq] at hv'
          rw [hlen] at k1; omega
      have hcapm : cap ≤ 9223372036854775807 := by
        have := hL.own
        obtain ⟨vals', -, h'⟩ := this
        rcases h' with ⟨h', -⟩ | ⟨g', c', cur', hv', -, -, -, k2, -, -⟩
        · simp at h'
        · simp only [Value.slice.injEq] at hv'
          unfold maxLen at k2; omega
      have e1 : IntKind.i64.wrap ((T'.length : Int) + 1 - 1) = (T'.length : Int) := by rw [show (T'.length : Int) + 1 - 1 = (T'.length : Int) by omega]; exact IntWalk.i64_in _ (by omega)
      have e2 : IntKind.i64.wrap (T'.length : Int) = (T'.length : Int) := IntWalk.i64_in _ (by omega)
      have i0 : (0 : Int) ≤ (T'.length : Int) := by omega
      have i1 : (T'.length : Int) < (T'.length : Int) + 1 := by omega
      have i2 : (0 : Int) < (T'.length : Int) + 1 := by omega
      have i3 : (T'.length : Int) ≤ (cap : Int) := by omega
      clear hL hL' hrx hVL hlt hlen hB
      go_upto_region 6 with fail
      obtain ⟨wa, hwl⟩ : ∃ wa, wa = (wr.alloc (.cells #[.slice adx x.length capx] 39)) := ⟨_, rfl⟩
      have hBl : Below wr.heap.size wr wa := by rw [hwl]; exact ((Below.refl _ _).alloc (by first | exact Nat.le_refl _ | (simp; done) | (simp; omega)) _)
      have HXX := Lib.hid (show BoxAt wa wr.heap.size [.slice adx x.length capx] 39 by rw [hwl]; exact BoxAt.new wr [_] _)
      replace HLr := Lib.hid (HLr.out.below hBl)
      replace HMr := Lib.hid (ownsMap_below HMr.out hBl)
      replace HRX := Lib.hid (HRX.out.below hBl (fun _ h => h))
      replace HBr := Lib.hid (HBr.out.trans (hBl.mono HBr.out.size))
      have HSa := Lib.hid (HS.out.below HBr.out (fun _ h => h))
      have hza := HXX.out.lt
      rw [← hwl]
      clear hwl hBl
      go_wp2_with fail
      refine (hIndex_any _ _ wr.heap.size wa HSa.out HRX.out (HXX.out.cell 0 rfl)).mono ?_
      rintro e w' ⟨rfl, rfl⟩
      rw [HTD.out.1]
      have hpl := HTD.out.2.1
      obtain ⟨n, hn⟩ : ∃ n, n = placeP L x := ⟨_, rfl⟩
      rw [← hn] at hpl ⊢
      have HN := Lib.hid hn.symm
      clear hn HTD
      have HKEY := Lib.hid (keyInt n (by omega))
      have k0 : (0 : Int) ≤ (n : Int) := by omega
      have k1 : (n : Int) < (L.length : Int) := by omega
      by_cases hin : n ∈ M
      · have HH := Lib.hid (show has (setI M) (litI n) = true by rw [has_setI]; simpa using hin)
        have HTO := Lib.hid (HTR.out.old (by rw [HN.out]; exact hin))
        clear hin
        go_wp2_with (at_lookup; refine wpList_lookup_own_unit _ rfl _ _ 95 rfl 3 76 lawInt Tryd.underlying95 (zeroI _) w0.heap.size M.length _ rfl HMr.out _ _ rfl HKEY.out ?_; rw [HH.out])
        go_roundg (5 * (L.length - M.length) + T'.length)
        case measure => have := HLEN.out; omega
        case rel => exact ⟨M, T', _, cap, rfl, rfl, by omega, HTO.out, by first | exact HLr.out | exact HLr.out.alloc _, by first | exact HMr.out | exact HMr.out.alloc _, by first | exact HBr.out | exact HBr.out.alloc HBr.out.size _⟩
      · have HH := Lib.hid (show has (setI M) (litI n) = false by rw [has_setI]; simpa using hin)
        have HTO := Lib.hid (HTR.out.new HOK.out HN.out hin hpl)
        have hroom := HTO.out.room
        rw [List.length_append, List.length_singleton] at hroom
        have HHD := Lib.hid (crt_partsP ((dagOk_iff.1 HOK.out).2.1 L[n] (List.getElem_mem hpl))).1
        have h4p := (hdr_ps HHD.out).2.1
        clear hin
        go_upto_region 9 with (at_lookup; refine wpList_lookup_own_unit _ rfl _ _ 95 rfl 3 76 lawInt Tryd.underlying95 (zeroI _) w0.heap.size M.length _ rfl HMr.out _ _ rfl HKEY.out ?_; rw [HH.out])
        obtain ⟨wb, hwl⟩ : ∃ wb, wb = (wa.alloc (.cells #[] 76)) := ⟨_, rfl⟩
        have hBl : Below wa.heap.size wa wb := by rw [hwl]; exact ((Below.refl _ _).alloc (by first | exact Nat.le_refl _ | (simp; done) | (simp; omega)) _)
        replace HLr := Lib.hid (HLr.out.below hBl)
        replace HMr := Lib.hid (ownsMap_below HMr.out hBl)
        replace HBr := Lib.hid (HBr.out.trans (hBl.mono HBr.out.size))
        have hzb := hBl.size
        rw [← hwl]
        clear hwl hBl
        go_upto_region 10 with (at_mapUpdate; refine wpList_mapUpdate_own _ rfl _ _ _ 95 rfl 3 76 lawInt Tryd.underlying95 (unitElem (H := Unit)) w0.heap.size M.length _ rfl HMr.out (by unfold maxLen; omega) _ _ _ rfl rfl HKEY.out _ [] unitElem_mk ?_; intro w3 hown3 hgr3)
        have HM3 := Lib.hid (show w3.ownsMap Tryd.prog 3 (unitElem (H := Unit)) w0.heap.size (M.length + 1) (setI (M ++ [n])) by rw [setI_snoc]; exact hown3)
        have HB3 := Lib.hid (HBr.out.grown hgr3 HBr.out.size (fun j hj => by cases hj; exact Nat.le_refl _))
        have hz3 := hgr3.size
        obtain ⟨vals, hown0, hrd0⟩ := HLr.out
        have hown03 : w3.ownsRow (w0.heap.size + 1) 39 1 (.slice (some ⟨g, 0, none⟩) T'.length cap) T'.length vals := by
          obtain ⟨q1, q2⟩ := hown0
          refine ⟨q1, ?_⟩
          rcases q2 with q2 | ⟨g', c', cur', hv', hb', hh', r'⟩
          · exact .inl q2
          · refine .inr ⟨g', c', cur', hv', hb', ?_, r'⟩
            rw [hgr3.block g' (lt_of_block hh') (by simp; omega)]; exact hh'
        have hrd3 : ∀ j y, T'[j]? = some y → RBytes.rd (fun b => b < w.heap.size) w3 ((vals.drop (j * RBytes.size)).take RBytes.size) y := fun j y hy => RBytes.keep (hrd0 j y hy) (Keep.grown hgr3 (fun k hk h => by cases hk; have := h.1; omega)) (fun b hb => hb.1)
        have HOW := Lib.hid hown03
        have HRD := Lib.hid hrd3
        have hX3 := (HX.out.belowS HB3.out).cell 0 rfl
        obtain ⟨bc, oc, xb, xp, xv, rfl, -, e0c, e1c, e2c, e3c, e4c, hxb, hxp, hxv⟩ := (HV.out.below HB3.out (fun _ h => h)).crt n hpl
        generalize hcc : L[n] = c at *
        obtain ⟨up, upc, rfl, -, -⟩ := hxp.form
        obtain ⟨news, hsl, hrdn, hone⟩ := RdS.flatOf hxp (by decide) (fun h u hu => by obtain ⟨v, rfl, hr⟩ := h; obtain ⟨a, c, rfl, -, -⟩ := hr.form; simp at hu; subst hu; rfl)
        have HSL := Lib.hid hsl
        have HRN := Lib.hid hrdn
        have HON := Lib.hid hone
        clear hxb hxp hxv hsl hrdn hone hown03 hrd3 hown0 hrd0 hown3 e0c e1c e2c e4c
        go_wp2_with (at_builtin; refine wpList_append_sl rfl _ _ 34 rfl elemBY (w0.heap.size + 1) _ rfl T'.length vals HOW.out _ rfl c.h.ps.length news HSL.out HON.out (by unfold maxLen; omega) (by omega) (by omega) ?_; intro v5 w5 hown5 hgr5)
        obtain ⟨ad5, cap5, rfl⟩ := ownsRow_form hown5
        have HL5 := Lib.hid (LstO.more (R := RBytes) HOW.out HRD.out HRN.out (fun b hb => by omega) (by omega) hown5 hgr5)
        have HB5 := Lib.hid (HB3.out.grown hgr5 HB3.out.size (fun k hk => by have := (HOW.out.lt k hk).1; omega))
        have HM5 := Lib.hid (HM3.out.kept hgr5 (fun e => by have := (HOW.out.lt _ e.symm).1; omega))
        clear hown5 hgr5 e3c hX3
        go_roundg (5 * (L.length - (M ++ [n]).length) + (T' ++ c.h.ps).length)
        case measure => have := HLEN.out; simp only [List.length_append, List.length_singleton]; omega
        case rel => exact ⟨M ++ [n], T' ++ c.h.ps, ad5, cap5, by rw [List.length_append], rfl, by simp only [List.length_append, List.length_singleton]; omega, HTO.out, by rw [List.length_append]; exact HL5.out, by rw [List.length_append, List.length_singleton]; exact HM5.out, HB5.out⟩
    · have hT0 : T = [] := List.eq_nil_of_length_eq_zero (by omega)
      subst hT0
      simp only [List.length_nil]
      have HX2 := Lib.hid (HX.out.belowS HBr.out)
      have HV2 := Lib.hid (HV.out.below HBr.out (fun _ h => h))
      have x0 := HX2.out.cell 0 rfl
      have HTI := Lib.hid ((HTR.out.done i).2 .here)
      clear hL hB hT4
      go_wp2_with fail
      clear x0
      go_loopw [13, 59] (fun o u ws => ∃ (j : Nat) (ad : Option Addr) (cap : Nat), j ≤ L.length ∧ u = .int .i64 j ∧ o = .slice ad (metTo M j).length cap ∧ ws.ownsRow wr.heap.size 3 1 (.slice ad (metTo M j).length cap) (metTo M j).length ((intsOf (metTo M j)).map (Value.int .i64)) ∧ Below wr.heap.size wr ws) (fun _ u _ => L.length - (intOf u).toNat)
      case atStart => exact ⟨0, none, 0, Nat.zero_le _, rfl, rfl, World.ownsRow_nil _ _ _ _, Below.refl _ _⟩
      case round =>
        rename World => ws
        obtain ⟨j, ad, cap, hj, rfl, rfl, hown, hBs⟩ := hrel
        have HOW := Lib.hid hown
        have HBs := Lib.hid hBs
        have HMs := Lib.hid (ownsMap_below HMr.out hBs)
        have hzs := hBs.size
        have hml := metTo_len M j
        clear hown hBs
        by_cases hlt2 : j < L.length
        · have j0 : (0 : Int) ≤ (j : Int) := by omega
          have j1 : (j : Int) < (L.length : Int) := by omega
          have wj : IntKind.i64.wrap ((j : Int) + 1) = (j : Int) + 1 := IntWalk.i64_in _ (by omega)
          have HKEY := Lib.hid (keyInt j (by omega))
          have HSU := Lib.hid (metTo_succ M j)
          by_cases hin : j ∈ M
          · have HH := Lib.hid (show has (setI M) (litI j) = true by rw [has_setI]; simpa using hin)
            have HS2 := Lib.hid (show metTo M (j + 1) = metTo M j ++ [j] by rw [HSU.out, if_pos hin])
            clear hin HSU
            go_upto_region 17 with (at_lookup; refine wpList_lookup_own_unit _ rfl _ _ 95 rfl 3 76 lawInt Tryd.underlying95 (zeroI _) w0.heap.size M.length _ rfl HMs.out _ _ rfl HKEY.out ?_; rw [HH.out])
            obtain ⟨wt, hwl⟩ : ∃ wt, wt = (ws.alloc (.cells #[] 76)) := ⟨_, rfl⟩
            have hBl : Below ws.heap.size ws wt := by rw [hwl]; exact ((Below.refl _ _).alloc (by first | exact Nat.le_refl _ | (simp; done) | (simp; omega)) _)
            replace HOW := Lib.hid (ownsRow_below HOW.out hBl)
            replace HBs := Lib.hid (HBs.out.trans (hBl.mono HBs.out.size))
            have hzt := hBl.size
            rw [← hwl]
            clear hwl hBl
            have hgl : (metTo M j).length ≤ 400 := by omega
            have HML := Lib.hid (show (metTo M (j + 1)).length = (metTo M j).length + 1 by rw [HS2.out]; simp)
            generalize hmm2 : metTo M j = N at *
            have hovl := HOW.out.lt
            go_wp2_with (at_builtin; refine wpList_append_one rfl _ _ 43 rfl elemI wr.heap.size _ N.length ((intsOf N).map (Value.int .i64)) rfl (ownsRow_below HOW.out ((Below.refl _ _).alloc (Nat.le_refl _) _)) wt.heap.size 3 [.int .i64 (j : Int)] rfl (BoxAt.new wt [_] _) rfl (by simp [Value.oneCell']) (by unfold maxLen; omega) (by omega) (by simp; omega) ?_; intro g6 cap6 w6 hown6 hgr6 hat6 hlt6)
            have HO6 := Lib.hid (show w6.ownsRow wr.heap.size 3 1 (.slice (some ⟨g6, 0, none⟩) (metTo M (j + 1)).length cap6) (metTo M (j + 1)).length ((intsOf (metTo M (j + 1))).map (Value.int .i64)) by rw [HML.out, HS2.out, intsOf_snoc, List.map_append]; exact hown6)
            have HB6 := Lib.hid ((HBs.out.alloc HBs.out.size (.cells #[.int .i64 (j : Int)] 3)).grown hgr6 (by simp; omega) (fun k hk => (hovl k hk).1))
            clear hown6 hgr6 hat6
            go_wp2
            go_roundw
            case rel => exact ⟨j + 1, _, cap6, by omega, by go_num, by rw [HML.out], HO6.out, HB6.out⟩
            case measure => simp [intOf]; omega
          · have HH := Lib.hid (show has (setI M) (litI j) = false by rw [has_setI]; simpa using hin)
            have HS2 := Lib.hid (show metTo M (j + 1) = metTo M j by rw [HSU.out, if_neg hin])
            clear hin HSU
            go_wp2_with (at_lookup; refine wpList_lookup_own_unit _ rfl _ _ 95 rfl 3 76 lawInt Tryd.underlying95 (zeroI _) w0.heap.size M.length _ rfl HMs.out _ _ rfl HKEY.out ?_; rw [HH.out])
            go_roundw
            case rel => exact ⟨j + 1, ad, cap, by omega, by go_num, by rw [HS2.out], by rw [HS2.out]; exact ownsRow_below HOW.out ((Below.refl _ _).alloc (Nat.le_refl _) _), HBs.out.alloc HBs.out.size _⟩
            case measure => simp [intOf]; omega
        · obtain rfl : j = L.length := by omega
          have hmem : i ∈ metTo M L.length := List.mem_filter.2 ⟨List.mem_range.2 hi, decide_eq_true HTI.out⟩
          have hpos : 0 < (metTo M L.length).length := List.length_pos_of_mem hmem
          have HLT := Lib.hid (fun (x : Nat) (hx : x ∈ metTo M L.length) => metTo_lt hx)
          have HHI := Lib.hid (fun N h1 h2 => hist_of (N := N) HOK.out HTR.out h1 h2)
          have HAU := Lib.hid (show ∀ c ∈ L, 0 ≤ c.h.a ∧ c.h.a < 4 ∧ 1 ≤ c.h.r ∧ c.h.r ≤ 1048576 from fun c hc => hdr_aur (crt_partsP ((dagOk_iff.1 HOK.out).2.1 c hc)).1)
          have HX3 := Lib.hid (HX2.out.belowS HBs.out)
          have HV3 := Lib.hid (HV2.out.below HBs.out (fun _ h => h))
          have hlen4 : (metTo M L.length).length ≤ 400 := by omega
          generalize metTo M L.length = N at *
          obtain ⟨bc, oc, rfl⟩ : ∃ bc oc, adv = some ⟨bc, oc, none⟩ := by
            obtain ⟨bc, oc, -, -, -, q, -⟩ := HV3.out.crt i hi
            exact ⟨bc, oc, q⟩
          have hown := HOW.out
          obtain ⟨hvl, hv2⟩ := hown
          rcases hv2 with ⟨-, h0⟩ | ⟨g, cap', cur, hv, hbg, -⟩
          · omega
          simp only [Value.slice.injEq] at hv
          obtain ⟨rfl, -, rfl⟩ := hv
          go_wp2_with fail
          refine (sortPl_any w.heap.size bc oc capv g cap ws HLT.out (by omega) hlen4 HOW.out (HX3.out.cell 0 rfl) (by omega) HV3.out (fun b hb => by omega) HAU.out hl4).mono ?_
          rintro e w7 ⟨rfl, M7, hp7, hs7, hown7, hgr7⟩
          have HI7 := Lib.hid (HHI.out M7 hp7 hs7)
          have HL7 := Lib.hid hp7.length_eq
          have HB7 := Lib.hid (HB.out.trans (((HBr.out.trans (HBs.out.mono HBr.out.size)).mono HB.out.size).grown hgr7 (by have := HB.out.size; omega) (fun k hk => by cases hk; omega)))
          have HR7 := Lib.hid (show RdI (fun b => w.heap.size ≤ b) w7 (.slice (some ⟨g, 0, none⟩) N.length cap) (intsOf M7) from RdS.of_owns hown7 (fun b hb => by omega))
          clear hp7 hs7 hown7 hgr7
          go_wp2
          go_ret
          exact ⟨_, M7, rfl, HI7.out, HR7.out, HB7.out⟩
end Go.Proofs.YtpfmmncnhlfdgaaDoor

/- order.History: what it computes. -/
set_option linter.unusedVariables false
set_option linter.unusedSimpArgs false
attribute [local go_sem ↓] Go.wp_at_zero Go.wp_at_succ
namespace Go.Proofs.YtpfmmncnhlfdgaaDoor
open Go Go.RowKit

theorem histD_take (L : List Crt) (M : List Nat) {k : Nat} (h : k < M.length) : histD L (M.take (k + 1)) = histD L (M.take k) ++ [digP L M[k]] := by
  unfold histD; rw [List.take_succ_eq_append_getElem h, List.map_append]; rfl
theorem findCode_no {L : List Crt} {k : Bytes} (h : idxP (isB k) (crtSums L) < 0) : findCode L k = 8 := (find_no h).1
theorem findCode_yes {L : List Crt} {k : Bytes} (h : 0 ≤ idxP (isB k) (crtSums L)) : findCode L k = 0 ∧ placeP L k < L.length ∧ idxP (isB k) (crtSums L) = (placeP L k : Int) := by
  obtain ⟨j, hj, hij, -, -⟩ := idxP_at h
  have hjl : j < L.length := by rw [crtSums_len] at hj; exact hj
  have : placeP L k = j := by unfold placeP; omega
  exact ⟨(find_yes hjl hij).1, by omega, by omega⟩
set_option maxRecDepth 100000 in
set_option maxHeartbeats 8000000 in
theorem oHistory_any {G G2 : Nat → Prop} {L : List Crt} {k : Bytes} (v vk : Value) (w : World) (h : RdS RCert G w v L) (hk : RdB G2 w vk k) (ht : Tabs w) (hok : dagOk L = true) :
    Calls Tryd.prog 22 #[.agg #[v], vk] w fun e w' => ∃ (v' : Value) (M : List Nat), e = .returned (.tuple #[v', .int .i64 (findCode L k)]) ∧ (0 ≤ idxP (isB k) (crtSums L) → IsHist L (placeP L k) M) ∧ (idxP (isB k) (crtSums L) < 0 → M = []) ∧ RdBB (fun b => w.heap.size ≤ b) w' v' (histD L M) ∧ Below w.heap.size w w' := by
  have hl4 := (dagOk_iff.1 hok).1
  have HH := Lib.hid (fun c (hc : c ∈ L) => (crt_partsP ((dagOk_iff.1 hok).2.1 c hc)).1)
  obtain ⟨adv, capv, rfl, hcv, hcm⟩ := h.form
  obtain ⟨adk, capk, rfl, hck, hckm⟩ := hk.form
  unfold maxLen at hcm hckm
  have hb0 := (Below.refl w.heap.size w).alloc (Nat.le_refl _) (.cells #[.slice adv L.length capv] 30)
  have HV := Lib.hid ((h.mono (G' := fun _ => True) (fun _ _ => trivial)).below hb0 (fun _ h => h))
  have HK := Lib.hid ((hk.mono (G' := fun _ => True) (fun _ _ => trivial)).below hb0 (fun _ h => h))
  have HT := Lib.hid (ht.belowS hb0)
  have HB := Lib.hid hb0
  have HX := Lib.hid (BoxAt.new w [.slice adv L.length capv] 30)
  have HOK := Lib.hid hok
  clear h hk hok hb0 ht
  go_enter Tryd.func22, Tryd.ntmps22
  go_upto_region 1 with fail
  obtain ⟨w0, hw0⟩ : ∃ w0, w0 = w.alloc (.cells #[.slice adv L.length capv] 30) := ⟨_, rfl⟩
  rw [← hw0] at HV HT HK HX HB ⊢
  have hz0 := HX.out.lt
  clear hw0
  have x0 := HX.out.cell 0 rfl
  go_wp2_with fail
  refine (dagFind_any _ _ _ HV.out HK.out HT.out HOK.out).mono ?_
  rintro e w1 ⟨vb, vp, vv, rfl, hvb, hvp, hvv, hb1⟩
  obtain ⟨fb, fbc, rfl, -, -⟩ := hvb.form
  obtain ⟨fp, fpc, rfl, -, -⟩ := hvp.form
  obtain ⟨fv, fvc, rfl, -, -⟩ := hvv.form
  replace HV := Lib.hid (HV.out.below hb1 (fun _ h => h))
  replace HK := Lib.hid (HK.out.below hb1 (fun _ h => h))
  replace HT := Lib.hid (HT.out.belowS hb1)
  replace HX := Lib.hid (HX.out.belowS hb1)
  replace HB := Lib.hid (HB.out.trans (hb1.mono HB.out.size))
  clear hvb hvp hvv hb1 x0
  have HFC := Lib.hid (show findCode L k = if idxP (isB k) (crtSums L) < 0 then 8 else 0 from rfl)
  generalize findCrt L k = F at *
  go_upto_region 2 with fail
  obtain ⟨w2, hwl⟩ : ∃ w2, w2 = (w1.alloc (.cells #[.int .i64 F.h.a, .int .i64 F.h.r, .slice fb F.h.bs.length fbc, .slice fp F.h.ps.length fpc, .slice fv F.vs.length fvc] 45)) := ⟨_, rfl⟩
  have hBl : Below w1.heap.size w1 w2 := by rw [hwl]; exact ((Below.refl _ _).alloc (by first | exact Nat.le_refl _ | (simp; done) | (simp; omega)) _)
  rw [← hwl]
  replace HV := Lib.hid (HV.out.below hBl (fun _ h => h))
  replace HK := Lib.hid (HK.out.below hBl (fun _ h => h))
  replace HT := Lib.hid (HT.out.belowS hBl)
  replace HX := Lib.hid (HX.out.belowS hBl)
  replace HB := Lib.hid (HB.out.trans (hBl.mono HB.out.size))
  clear hwl hBl
  have hz2 := HB.out.size
  by_cases hneg : idxP (isB k) (crtSums L) < 0
  · have HR := Lib.hid (findCode_no hneg)
    have HNG := Lib.hid hneg
    rw [HR.out]
    clear hneg
    go_wp2
    refine bodyPost_ret (v := .tuple #[.slice none 0 0, .int .i64 8]) (by simp [results, Tryd.results22, go_sem]) rfl ⟨_, [], by rw [HR.out], fun h => absurd HNG.out (by omega), fun _ => rfl, RdS.nil _ _ _, HB.out⟩
  have HYS := Lib.hid (findCode_yes (k := k) (L := L) (by omega))
  have HNG := Lib.hid hneg
  rw [HYS.out.1]
  clear hneg
  have hpl := HYS.out.2.1
  have x0 := HX.out.cell 0 rfl
  go_wp2_with fail
  refine (oall_ok _ _ HV.out HH.out (by omega) HT.out).mono ?_
  rintro e w3 ⟨vs, rfl, hS, hb3⟩
  obtain ⟨ads, caps, rfl, hcs, hms⟩ := hS.form
  unfold maxLen at hms
  have HS := Lib.hid (hS.mono (G' := fun b => w.heap.size ≤ b) (fun b hb => by have := HB.out.size; omega))
  replace HV := Lib.hid (HV.out.below hb3 (fun _ h => h))
  replace HK := Lib.hid (HK.out.below hb3 (fun _ h => h))
  replace HT := Lib.hid (HT.out.belowS hb3)
  replace HX := Lib.hid (HX.out.belowS hb3)
  replace HB := Lib.hid (HB.out.trans (hb3.mono HB.out.size))
  clear hS hb3 x0
  have x0 := HX.out.cell 0 rfl
  go_wp2_with fail
  refine (history_any _ _ _ _ HV.out HS.out HK.out HOK.out hpl HYS.out.2.2).mono ?_
  rintro e w4 ⟨vi, M, rfl, hM, hI, hb4⟩
  have hml := hM.len
  have HM := Lib.hid hM
  obtain ⟨adi, capi, rfl, hci, hmi⟩ := hI.form
  rw [intsOf_len] at hci hI ⊢
  have HI := Lib.hid hI
  replace HV := Lib.hid (HV.out.below hb4 (fun _ h => h))
  replace HS := Lib.hid (HS.out.below hb4 (fun _ h => h))
  replace HT := Lib.hid (HT.out.belowS hb4)
  replace HX := Lib.hid (HX.out.belowS hb4)
  replace HB := Lib.hid (HB.out.trans (hb4.mono HB.out.size))
  clear hM hI hb4 x0
  have hsl := crtSums_len L
  obtain ⟨DS, hDS⟩ : ∃ DS, DS = crtSums L := ⟨_, rfl⟩
  rw [← hDS] at HS hsl ⊢
  have HDS := Lib.hid hDS
  have hs1 : DS.length ≤ L.length := by omega
  have hs2 : L.length ≤ DS.length := by omega
  clear hDS hsl hcs
  have hzw := HB.out.size
  replace HS := Lib.hid (HS.out.low (by decide))
  go_wp2_with fail
  go_loopw [9, 28] (fun o u wr => ∃ (j : Nat) (ad : Option Addr) (cap : Nat), j ≤ M.length ∧ u = .int .i64 j ∧ o = .slice ad j cap ∧ LstO RBytes (fun b => w.heap.size ≤ b ∧ b < w4.heap.size) w4.heap.size 39 wr (.slice ad j cap) (histD L (M.take j)) ∧ Below w4.heap.size w4 wr) (fun _ u _ => M.length - (intOf u).toNat)
  case atStart => exact ⟨0, none, 0, Nat.zero_le _, rfl, rfl, LstO.nil _ _ _ _ _, Below.refl _ _⟩
  case round =>
    obtain ⟨j, ad, cap, hj, rfl, rfl, hL, hBr⟩ := hrel
    have HBr := Lib.hid hBr
    have hzr := hBr.size
    by_cases hlt : j < M.length
    · have j0 : (0 : Int) ≤ (j : Int) := by omega
      have j1 : (j : Int) < (M.length : Int) := by omega
      have wj : IntKind.i64.wrap ((j : Int) + 1) = (j : Int) + 1 := IntWalk.i64_in _ (by omega)
      have hil : j < (intsOf M).length := by rw [intsOf_len]; exact hlt
      obtain ⟨bi, oi, rfl, -, ei⟩ := (HI.out.below hBr (fun _ h => h)).cell j hil
      have e1 : (intsOf M)[j] = (M[j] : Int) := by simp [intsOf]
      rw [e1] at ei
      have hmj := HM.out.lt _ (List.getElem_mem hlt)
      have hmd : M[j] < DS.length := by omega
      obtain ⟨bs, os, vx, rfl, -, es, hx⟩ := (HS.out.below HBr.out (fun _ h => h)).cellS M[j] hmd
      have e2 : DS[M[j]] = digP L M[j] := by have := HDS.out; subst this; rw [digP_at hmj]; simp [crtSums]
      rw [e2] at hx
      obtain ⟨adx, capx, rfl, -, -⟩ := hx.form
      have HRX := Lib.hid hx
      have HTK := Lib.hid (histD_take L M hlt)
      obtain ⟨vals, hv⟩ := hL.valsOf
      have hvlt := hv.lt
      have HKL := Lib.hid (show (histD L (M.take j)).length = j by rw [histD_len, List.length_take]; omega)
      have HLr := Lib.hid hv
      generalize M[j] = m at *
      have m0 : (0 : Int) ≤ (m : Int) := by omega
      have m1 : (m : Int) < (DS.length : Int) := by omega
      generalize digP L m = x at *
      clear hL hv hBr e1 e2 hx
      go_wp2_with (at_builtin; refine wpList_append_one rfl _ _ 34 rfl elemBY w4.heap.size _ j vals rfl (by have h := (HLr.out.alloc (.cells #[.slice adx x.length capx] 39)).own; rw [HKL.out] at h; exact h) wr.heap.size 39 [.slice adx x.length capx] rfl (BoxAt.new wr [_] _) rfl (by simp [Value.oneCell']) (by unfold maxLen; omega) (by omega) (by simp; omega) ?_; intro g cap6 w6 hown6 hgr6 hat6 hlt6)
      have hx : RBytes.rd (fun b => (w.heap.size ≤ b ∧ b < w4.heap.size) ∧ b < (wr.alloc (.cells #[.slice adx x.length capx] 39)).heap.size ∧ (Value.slice ad j cap).ownBlock ≠ some b) (wr.alloc (.cells #[.slice adx x.length capx] 39)) [.slice adx x.length capx] x :=
        ⟨_, rfl, HRX.out.keep (Keep.alloc _ _ _) (fun b hb => ⟨hb, by have := hb.2; simp; omega, fun e => by have := (hvlt _ e).1; have := hb.2; omega⟩)⟩
      have hP := (HLr.out.alloc (.cells #[.slice adx x.length capx] 39)).push hx (by rw [HKL.out]; exact hown6) hgr6 hat6
      rw [HKL.out, ← HTK.out] at hP
      have HP := Lib.hid hP
      have HB6 := Lib.hid ((HBr.out.alloc HBr.out.size (.cells #[.slice adx x.length capx] 39)).grown hgr6 (by have := HBr.out.size; simp; omega) (fun k hk => (hvlt _ hk).1))
      clear hP hx hown6 es ei
      go_wp2
      go_roundw
      case rel => exact ⟨j + 1, some ⟨g, 0, none⟩, cap6, by omega, by go_num, rfl, HP.out, HB6.out⟩
      case measure => simp [intOf]; omega
    · obtain rfl : j = M.length := by omega
      rw [List.take_length] at hL
      have HR := Lib.hid (hL.rd (G' := fun b => w.heap.size ≤ b) (by decide) (fun b h1 h2 => by omega) (fun b h1 h2 => by omega))
      have HBE := Lib.hid (HB.out.trans (HBr.out.mono HB.out.size))
      clear hL hBr
      have t1 : ¬ (M.length : Int) < (M.length : Int) := by omega
      go_wp2
      refine bodyPost_ret (v := .tuple #[.slice ad M.length cap, .int .i64 0]) (by simp [results, Tryd.results22, go_sem]) rfl ⟨_, by rw [HYS.out.1], M, fun _ => HM.out, fun h => by have := HNG.out; omega, HR.out, HBE.out⟩
end Go.Proofs.YtpfmmncnhlfdgaaDoor

/- Histories: plain laws for the laws. -/
set_option linter.unusedVariables false
set_option linter.unusedSimpArgs false
attribute [local go_sem ↓] Go.wp_at_zero Go.wp_at_succ
namespace Go.Proofs.YtpfmmncnhlfdgaaDoor
open Go Go.RowKit

/-- A digest of the dag's own is found. -/
theorem idx_self {L : List Crt} {j : Nat} (hj : j < (crtSums L).length) : 0 ≤ idxP (isB (crtSums L)[j]) (crtSums L) :=
  idxP_ge.2 ⟨_, List.getElem_mem hj, by unfold isB; exact decide_eq_true rfl⟩
theorem sums_at {L : List Crt} {j : Nat} (hj : j < L.length) : (crtSums L)[j]'(by rw [crtSums_len]; exact hj) = digP L j := by rw [digP_at hj]; simp [crtSums]
/-- Where a place stands in a history. -/
theorem hist_idx {L : List Crt} {i : Nat} {M : List Nat} (hM : IsHist L i M) (hn : (crtSums L).Nodup) {j : Nat} (hj : j < L.length) {k : Nat} (hk : idxP (isB (digP L j)) (histD L M) = (k : Int)) : ∃ h : k < M.length, M[k] = j := by
  obtain ⟨b, hb, hib, hp, -⟩ := idxP_at (show 0 ≤ idxP (isB (digP L j)) (histD L M) by omega)
  have hbk : b = k := by omega
  subst hbk
  have hbm : b < M.length := by rw [histD_len] at hb; exact hb
  refine ⟨hbm, ?_⟩
  have e : (histD L M)[b] = digP L M[b] := by simp [histD]
  rw [e] at hp
  unfold isB at hp
  exact digP_inj hn (hM.lt _ (List.getElem_mem hbm)) hj (of_decide_eq_true hp)
theorem hist_found {L : List Crt} {M : List Nat} {j : Nat} (hj : j ∈ M) : 0 ≤ idxP (isB (digP L j)) (histD L M) :=
  idxP_ge.2 ⟨digP L j, List.mem_map.2 ⟨j, hj, rfl⟩, by unfold isB; exact decide_eq_true rfl⟩
/-- Two histories have what they share in one order. -/
def ordTo (L : List Crt) (A B : List Nat) (i : Nat) (last : Int) : Prop := ∀ (j : Nat) (hj : j < A.length) (b : Nat) (hb : b < B.length), i ≤ j → B[b] = A[j] → last < (b : Int)
theorem ordTo_zero (L : List Crt) (A B : List Nat) : ordTo L A B 0 (-1) := fun j hj b hb _ _ => by omega
theorem ordTo_skip {L : List Crt} {A B : List Nat} {i : Nat} {last : Int} (h : ordTo L A B i last) : ordTo L A B (i + 1) last := fun j hj b hb hij e => h j hj b hb (by omega) e
theorem ordTo_next {L : List Crt} {ia ib : Nat} {A B : List Nat} (hA : IsHist L ia A) (hB : IsHist L ib B) {i k : Nat} (hi : i < A.length) (hk : k < B.length) (e : B[k] = A[i]) : ordTo L A B (i + 1) (k : Int) := fun j hj b hb hij e2 => by
  have h1 := (hA.key hi hj).2 (by omega)
  rw [← e, ← e2] at h1
  have := (hB.key hk hb).1 h1
  omega
end Go.Proofs.YtpfmmncnhlfdgaaDoor
