/- dag: of: what it computes. -/
import Derived.Test.YtpfmmncnhlfdgaaDoorDag8
import Derived.Test.YtpfmmncnhlfdgaaDoorBas
set_option linter.unusedVariables false
set_option linter.unusedSimpArgs false
attribute [local go_sem ↓] Go.wp_at_zero Go.wp_at_succ
namespace Go.Proofs.YtpfmmncnhlfdgaaDoor
open Go Go.RowKit

open Go.Sort
/-- A certificate with the slices that stand in its cells. -/
structure CrtV where
  c : Crt
  ha : 0 ≤ c.h.a ∧ c.h.a < 4
  b : Option Addr × Nat
  p : Option Addr × Nat
  v : Option Addr × Nat
instance : Inhabited CrtV := ⟨⟨⟨⟨0, 0, [], []⟩, []⟩, by decide, (none, 0), (none, 0), (none, 0)⟩⟩
def CrtV.enc (x : CrtV) : List Value := [.int .i64 x.c.h.a, .int .i64 x.c.h.r, .slice x.b.1 x.c.h.bs.length x.b.2, .slice x.p.1 x.c.h.ps.length x.p.2, .slice x.v.1 x.c.vs.length x.v.2]
theorem CrtV.enc_len (x : CrtV) : x.enc.length = 5 := rfl
theorem CrtV.enc_one (x : CrtV) : ∀ u ∈ x.enc, u.oneCell' = true := by
  intro u hu
  simp only [CrtV.enc, List.mem_cons, List.not_mem_nil, or_false] at hu
  rcases hu with rfl | rfl | rfl | rfl | rfl <;> rfl
def cmpC (x y : CrtV) : Int := x.c.h.a - y.c.h.a
theorem lt_cmpC (x y : CrtV) : ltOf cmpC x y = decide (x.c.h.a < y.c.h.a) := by
  unfold ltOf cmpC
  by_cases h : x.c.h.a < y.c.h.a
  · rw [decide_eq_true h, decide_eq_true (by omega)]
  · rw [decide_eq_false h, decide_eq_false (by omega)]
theorem swoC : SWO (ltOf cmpC) where
  irrefl x := by rw [lt_cmpC]; simp
  trans x y z h1 h2 := by rw [lt_cmpC] at *; simp at *; omega
  ntrans x y z h1 h2 := by rw [lt_cmpC] at *; simp at *; omega
/-- Cells that read as certificates, as such. -/
theorem rows_of {G : Nat → Prop} {w : World} : ∀ (N : List Crt) (vals : List Value), (∀ c ∈ N, 0 ≤ c.h.a ∧ c.h.a < 4) → vals.length = N.length * 5 → (∀ j x, N[j]? = some x → RCert.rd G w ((vals.drop (j * 5)).take 5) x) →
    ∃ d : List CrtV, d.map CrtV.c = N ∧ d.flatMap CrtV.enc = vals ∧ ∀ x ∈ d, RCert.rd G w x.enc x.c
  | [], vals, _, hl, _ => ⟨[], rfl, by have : vals = [] := List.eq_nil_of_length_eq_zero (by simpa using hl); simp [this], by simp⟩
  | c :: t, vals, hN, hl, h => by
    have h0 := h 0 c rfl
    simp only [Nat.zero_mul, List.drop_zero] at h0
    have h0' := h0
    obtain ⟨vb, vp, vv, hc, hb, hp, hv⟩ := h0'
    obtain ⟨ab, cb, rfl, -, -⟩ := hb.form
    obtain ⟨ap, cp, rfl, -, -⟩ := hp.form
    obtain ⟨av, cv, rfl, -, -⟩ := hv.form
    obtain ⟨d, hd1, hd2, hd3⟩ := rows_of t (vals.drop 5) (fun x hx => hN x (List.mem_cons_of_mem _ hx)) (by simp at hl ⊢; omega) (fun j x hx => by
      have := h (j + 1) x (by simpa using hx)
      rw [List.drop_drop]
      rw [show 5 + j * 5 = (j + 1) * 5 by omega]
      exact this)
    refine ⟨⟨c, hN c (List.mem_cons_self ..), (ab, cb), (ap, cp), (av, cv)⟩ :: d, by simp [hd1], ?_, ?_⟩
    · rw [List.flatMap_cons, hd2]
      show [Value.int .i64 c.h.a, .int .i64 c.h.r, .slice ab c.h.bs.length cb, .slice ap c.h.ps.length cp, .slice av c.vs.length cv] ++ vals.drop 5 = vals
      rw [← hc, List.take_append_drop]
    · intro x hx
      rcases List.mem_cons.1 hx with rfl | hx
      · rw [hc] at h0; exact h0
      · exact hd3 x hx
theorem flat_at (d : Array CrtV) {j : Nat} {x : CrtV} (hx : d.toList[j]? = some x) : ((d.toList.flatMap CrtV.enc).drop (j * 5)).take 5 = x.enc := by
  have hj : j < d.size := by
    rcases Nat.lt_or_ge j d.size with h | h
    · exact h
    · rw [List.getElem?_eq_none (by simpa using h)] at hx; simp at hx
  rw [flatMap_range, flatMap_at (fun i => CrtV.enc_len _) hj]
  congr 1
  rw [List.getElem?_eq_getElem (by simpa using hj)] at hx
  have := Option.some.inj hx
  simp at this
  simp [hj, this]
set_option maxRecDepth 100000 in
set_option maxHeartbeats 8000000 in
theorem ofClo_any (x y : Crt) (vb vp vv ub up uv : Value) (w : World) (h1 : vb.oneCell' = true ∧ vp.oneCell' = true ∧ vv.oneCell' = true) (h2 : ub.oneCell' = true ∧ up.oneCell' = true ∧ uv.oneCell' = true) (hx : 0 ≤ x.h.a ∧ x.h.a < 4) (hy : 0 ≤ y.h.a ∧ y.h.a < 4) :
    Calls Tryd.prog 57 #[.agg #[.int .i64 x.h.a, .int .i64 x.h.r, vb, vp, vv], .agg #[.int .i64 y.h.a, .int .i64 y.h.r, ub, up, uv]] w fun e w' => e = .returned (.int .i64 (x.h.a - y.h.a)) ∧ ∃ q os', w' = grow (w.drewN q) os' := by
  have wr : IntKind.i64.wrap (x.h.a - y.h.a) = x.h.a - y.h.a := IntWalk.i64_in _ (by omega)
  obtain ⟨x1, x2⟩ := hx
  obtain ⟨y1, y2⟩ := hy
  go_enter Tryd.func57, Tryd.ntmps57
  go_wp2
  go_ret
  exact ⟨rfl, 0, _, by rw [alloc_eq_grow, alloc_eq_grow, grow_grow]; rfl⟩
theorem cmpLaysC (blk off size : Nat) (w : World) : CmpLays Tryd.prog 57 #[] CrtV.enc 5 cmpC blk off size w :=
  fun _ _ _ _ x y => ofClo_any x.c y.c _ _ _ _ _ _ _ ⟨rfl, rfl, rfl⟩ ⟨rfl, rfl, rfl⟩ x.ha y.ha
theorem bitsLen_any (n : Nat) (W : World) (h : n ≤ 12) : Calls Tryd.prog 78 #[.int .u64 n] W fun e w' => (∃ l : Int, e = .returned (.int .i64 l)) ∧ w' = W :=
  (Any.bits_Len bitsLay n W (by omega) (by omega)).mono fun _ _ ⟨he, hw⟩ => ⟨⟨_, he⟩, hw⟩
set_option maxRecDepth 100000 in
set_option maxHeartbeats 8000000 in
theorem insNil_any (cap : Nat) (fv : Value) (w : World) : Calls Tryd.prog 84 #[.slice none 0 cap, .int .i64 0, .int .i64 0, fv] w fun e w' => e = .returned (.tuple #[]) ∧ w = w' := by
  go_enter Tryd.func84, Tryd.ntmps84
  go_wp2
  refine wp_loop_rounds 1 ?_
  rw [rounds_succ]
  go_wp2
  go_end0
  exact ⟨rfl, rfl⟩
set_option maxRecDepth 100000 in
set_option maxHeartbeats 8000000 in
theorem pdqNil_any (cap : Nat) (lim : Int) (fv : Value) (w : World) : Calls Tryd.prog 77 #[.slice none 0 cap, .int .i64 0, .int .i64 0, .int .i64 lim, fv] w fun e w' => e = .returned (.tuple #[]) ∧ w = w' := by
  go_enter Tryd.func77, Tryd.ntmps77
  go_wp2
  refine wp_loop_rounds 1 ?_
  rw [rounds_succ]
  go_wp2_with (go_at_call 84; refine (insNil_any _ _ _).mono ?_; rintro e w' ⟨rfl, rfl⟩)
  (try simp only [Exit.inBlock, Exit.then]); refine bodyPost_ret (results_none rfl _ _ _) rfl ?_
  exact ⟨rfl, rfl⟩
set_option maxRecDepth 100000 in
set_option maxHeartbeats 8000000 in
theorem sortNil_any (cap : Nat) (fv : Value) (w : World) : Calls Tryd.prog 56 #[.slice none 0 cap, fv] w fun e w' => e = .returned (.tuple #[]) ∧ w = w' := by
  have hl := fun W => bitsLen_any 0 W (by omega)
  go_enter Tryd.func56, Tryd.ntmps56
  go_wp2_with (first | (go_at_call 78; refine (hl _).mono ?_; rintro e w' ⟨⟨l, rfl⟩, rfl⟩) | (go_at_call 77; refine (pdqNil_any _ _ _ _).mono ?_; rintro e w' ⟨rfl, rfl⟩))
  go_end0
  exact ⟨rfl, rfl⟩
/-- The certificates of a list that the call owns are sorted by their authors. -/
theorem sortCrt_any {G : Nat → Prop} {base : Nat} {N : List Crt} {vals : List Value} (v : Value) (w : World) (hL : LstV RCert G base 45 w v N vals) (hN : ∀ c ∈ N, 0 ≤ c.h.a ∧ c.h.a < 4) (h12 : N.length ≤ 12) :
    Calls Tryd.prog 56 #[v, .func (.func 57) #[] #[]] w fun e w' => e = .returned (.tuple #[]) ∧ ∃ (M : List Crt) (vals' : List Value), M.Perm N ∧ M.Pairwise (fun x y => x.h.a ≤ y.h.a) ∧ LstV RCert G base 45 w' v M vals' ∧ w.grownBy w' v.ownBlock := by
  have hown := hL.1
  rcases hown.2 with ⟨rfl, h0⟩ | ⟨g, cap, cur, rfl, hbg, hg, k1, k2, k3, k4⟩
  · have hN0 : N = [] := List.eq_nil_of_length_eq_zero h0
    subst hN0
    refine (sortNil_any 0 _ w).mono ?_
    rintro e w' ⟨rfl, rfl⟩
    exact ⟨rfl, [], vals, List.Perm.refl _, List.Pairwise.nil, hL, ⟨rfl, rfl, rfl, Nat.le_refl _, fun _ _ _ => rfl⟩⟩
  · obtain ⟨d, hd1, hd2, hd3⟩ := rows_of N vals hN hown.1 hL.2
    have hds : d.length = N.length := by rw [← hd1]; simp
    have hgl : g < w.heap.size := lt_of_block hg
    have hown' : w.ownsRow base 45 5 (.slice (some ⟨g, 0, none⟩) N.length cap) N.length (d.toArray.toList.flatMap CrtV.enc) := by rw [List.toList_toArray, hd2]; exact hown
    have hH := holds_of_owns (enc := CrtV.enc) (k := 5) (by decide) CrtV.enc_len hown'
    have eg : ∀ args w, (callFunc 57 args).run Tryd.prog w = .ok (.enter 57 args) w := enters_of Tryd.func57 (by kernel_rfl) rfl
    have hsz : d.toArray.size = N.length := by simp [hds]
    have hcon := AnyQ.slices_SortFunc_small_sorted sortLay 5 Tryd.isAgg45 Tryd.sizeOf45 CrtV.enc CrtV.enc_len CrtV.enc_one cmpC 57 #[] swoC g 0 cap d.toArray w eg (cmpLaysC g 0 d.toArray.size w) hH hgl (by omega) bitsLen_any
    rw [hsz] at hcon
    change Calls Tryd.prog 56 _ _ _ at hcon
    refine hcon.mono ?_
    rintro e w' ⟨rfl, d', m, os, hp, hs, rfl⟩
    rw [← hsz] at hp hs
    have hs' : d'.size = d.toArray.size := hp.1
    obtain ⟨ho, hgr⟩ := sorted_world (enc := CrtV.enc) (k := 5) (m := m) (os := os) (by decide) CrtV.enc_len hown' hs'
    have hpm : (d'.toList.map CrtV.c).Perm N := by rw [← hd1]; exact ((permIn_perm hp).map CrtV.c)
    have hlen : (d'.toList.map CrtV.c).length = N.length := hpm.length_eq
    refine ⟨rfl, d'.toList.map CrtV.c, d'.toList.flatMap CrtV.enc, hpm, ?_, ⟨by rw [hlen]; exact ho, fun j x hx => ?_⟩, hgr⟩
    · rw [List.pairwise_map]
      refine (sortedIn_pairwise hs' hs).imp ?_
      intro a b hab
      rw [lt_cmpC] at hab
      simp at hab
      omega
    · simp only [List.getElem?_map, Option.map_eq_some_iff] at hx
      obtain ⟨u, hu, rfl⟩ := hx
      show RCert.rd _ _ (((d'.toList.flatMap CrtV.enc).drop (j * 5)).take 5) u.c
      rw [flat_at d' hu]
      have hmem : u ∈ d := by
        have h1 := List.mem_of_getElem? hu
        have h2 := (permIn_perm hp).mem_iff.1 h1
        simpa using h2
      exact RCert.keep (hd3 u hmem) (Keep.grown hgr (fun k hk h => h.2.2 hk)) (fun b hb => ⟨hb.1, Nat.lt_of_lt_of_le hb.2.1 hgr.size, hb.2.2⟩)
theorem roundOf_succ {l : List Crt} {r : Int} {k : Nat} (hk : k < l.length) : roundOf (l.take (k + 1)) r = if l[k].h.r = r then roundOf (l.take k) r ++ [l[k]] else roundOf (l.take k) r := by
  rw [List.take_succ_eq_append_getElem hk, roundOf_snoc]
theorem roundOf_len (l : List Crt) (r : Int) : (roundOf l r).length ≤ l.length := List.length_filter_le _ _
set_option maxRecDepth 100000 in
set_option maxHeartbeats 8000000 in
theorem dagOf_any {G : Nat → Prop} {l : List Crt} (r : Int) (v : Value) (w : World) (h : RdS RCert G w v l) (hs : solo l) (hl : l.length ≤ 400) :
    Calls Tryd.prog 37 #[v, .int .i64 r] w fun e w' => ∃ v', e = .returned v' ∧ RdS RCert (fun b => G b ∨ w.heap.size ≤ b) w' v' (ofL l r) ∧ Below w.heap.size w w' := by
  obtain ⟨adl, capl, rfl, hcl, hml⟩ := h.form
  unfold maxLen at hml
  have HV := Lib.hid (h.low (by decide))
  have HS := Lib.hid hs
  clear h hs
  go_enter Tryd.func37, Tryd.ntmps37
  go_wp2_with fail
  go_loopw [5, 10] (fun o i wr => ∃ (k : Nat) (ad : Option Addr) (cap : Nat), k ≤ l.length ∧ i = .int .i64 k ∧ o = .slice ad (roundOf (l.take k) r).length cap ∧ LstO RCert (fun b => G b ∨ w.heap.size ≤ b) w.heap.size 45 wr (.slice ad (roundOf (l.take k) r).length cap) (roundOf (l.take k) r) ∧ Below w.heap.size w wr) (fun _ i _ => l.length - (intOf i).toNat)
  case atStart => exact ⟨0, none, 0, Nat.zero_le _, rfl, rfl, LstO.nil _ _ _ _ _, Below.refl _ _⟩
  case round =>
    obtain ⟨k, ad, cap, hk, rfl, rfl, hL, hB⟩ := hrel
    have hz := hB.size
    have HBr := Lib.hid hB
    by_cases hlt : k < l.length
    · have i0 : (0 : Int) ≤ (k : Int) := by omega
      have i1 : (k : Int) < (l.length : Int) := by omega
      have wk : IntKind.i64.wrap ((k : Int) + 1) = (k : Int) + 1 := IntWalk.i64_in _ (by omega)
      obtain ⟨vals, hv⟩ := hL.valsOf
      have hvlt := hv.lt
      have HLr := Lib.hid hv
      have HSC := Lib.hid (roundOf_succ (r := r) hlt)
      have HNL : (roundOf (l.take k) r).length ≤ k := by have := roundOf_len (l.take k) r; rw [List.length_take] at this; omega
      obtain ⟨b, o, ub, up, uv, rfl, hGb, e0, e1, e2, e3, e4, hb', hp', hv'⟩ := (HV.out.below hB (fun _ h => h)).crt k hlt
      generalize l[k] = c at *
      generalize roundOf (l.take k) r = N at *
      obtain ⟨adb, capb, rfl, -, -⟩ := hb'.form
      obtain ⟨adp, capp, rfl, -, -⟩ := hp'.form
      obtain ⟨adv, capv, rfl, -, -⟩ := hv'.form
      have H1 := Lib.hid hb'
      have H2 := Lib.hid hp'
      have H3 := Lib.hid hv'
      clear hb' hp' hv' hv hL hB hGb
      by_cases hq : c.h.r = r
      · have b0 : (c.h.r == r) = true := by simp [hq]
        have HSQ := Lib.hid (show roundOf (l.take (k + 1)) r = N ++ [c] by rw [HSC.out, if_pos hq])
        clear hq
        go_wp2_with (at_builtin; refine wpList_append_one rfl _ _ 28 rfl elemCrt w.heap.size _ N.length vals rfl (by exact ((HLr.out.alloc (.cells #[.int .i64 c.h.a, .int .i64 c.h.r, .slice adb c.h.bs.length capb, .slice adp c.h.ps.length capp, .slice adv c.vs.length capv] 45)).alloc (.cells #[.int .i64 c.h.a, .int .i64 c.h.r, .slice adb c.h.bs.length capb, .slice adp c.h.ps.length capp, .slice adv c.vs.length capv] 45)).own) (wr.heap.size + 1) 45 [.int .i64 c.h.a, .int .i64 c.h.r, .slice adb c.h.bs.length capb, .slice adp c.h.ps.length capp, .slice adv c.vs.length capv] rfl (BoxAt.newAt _ [_, _, _, _, _] _ (by simp)) rfl (by simp [Value.oneCell']) (by unfold maxLen; omega) (by omega) (by simp; omega) ?_; intro g cap6 w6 hown6 hgr6 hat6 hlt6)
        have hx : RCert.rd (fun b => (G b ∨ w.heap.size ≤ b) ∧ b < ((wr.alloc (.cells #[.int .i64 c.h.a, .int .i64 c.h.r, .slice adb c.h.bs.length capb, .slice adp c.h.ps.length capp, .slice adv c.vs.length capv] 45)).alloc (.cells #[.int .i64 c.h.a, .int .i64 c.h.r, .slice adb c.h.bs.length capb, .slice adp c.h.ps.length capp, .slice adv c.vs.length capv] 45)).heap.size ∧ (Value.slice ad N.length cap).ownBlock ≠ some b) ((wr.alloc (.cells #[.int .i64 c.h.a, .int .i64 c.h.r, .slice adb c.h.bs.length capb, .slice adp c.h.ps.length capp, .slice adv c.vs.length capv] 45)).alloc (.cells #[.int .i64 c.h.a, .int .i64 c.h.r, .slice adb c.h.bs.length capb, .slice adp c.h.ps.length capp, .slice adv c.vs.length capv] 45)) [.int .i64 c.h.a, .int .i64 c.h.r, .slice adb c.h.bs.length capb, .slice adp c.h.ps.length capp, .slice adv c.vs.length capv] c :=
          ⟨_, _, _, rfl, RdS.keep H1.out ((Keep.alloc _ _ _).trans (Keep.alloc _ _ _)) (fun b hb => ⟨.inl hb.1, by have := hb.2; simp; omega, fun e => by have h1 := hb.2; have := (hvlt _ e).1; omega⟩), RdS.keep H2.out ((Keep.alloc _ _ _).trans (Keep.alloc _ _ _)) (fun b hb => ⟨.inl hb.1, by have := hb.2; simp; omega, fun e => by have h1 := hb.2; have := (hvlt _ e).1; omega⟩), RdS.keep H3.out ((Keep.alloc _ _ _).trans (Keep.alloc _ _ _)) (fun b hb => ⟨.inl hb.1, by have := hb.2; simp; omega, fun e => by have h1 := hb.2; have := (hvlt _ e).1; omega⟩)⟩
        have hP := ((HLr.out.alloc (.cells #[.int .i64 c.h.a, .int .i64 c.h.r, .slice adb c.h.bs.length capb, .slice adp c.h.ps.length capp, .slice adv c.vs.length capv] 45)).alloc (.cells #[.int .i64 c.h.a, .int .i64 c.h.r, .slice adb c.h.bs.length capb, .slice adp c.h.ps.length capp, .slice adv c.vs.length capv] 45)).push hx hown6 hgr6 hat6
        have HP := Lib.hid hP
        have HB6 := Lib.hid (((HBr.out.alloc HBr.out.size (.cells #[.int .i64 c.h.a, .int .i64 c.h.r, .slice adb c.h.bs.length capb, .slice adp c.h.ps.length capp, .slice adv c.vs.length capv] 45)).alloc (by simp; omega) (.cells #[.int .i64 c.h.a, .int .i64 c.h.r, .slice adb c.h.bs.length capb, .slice adp c.h.ps.length capp, .slice adv c.vs.length capv] 45)).grown hgr6 (by simp; omega) (fun k hk => (hvlt _ hk).1))
        clear hP hx hown6 e0 e1 e2 e3 e4
        go_wp2
        go_roundw
        case rel => exact ⟨k + 1, some ⟨g, 0, none⟩, cap6, by omega, by go_num, by rw [HSQ.out, List.length_append]; rfl, by rw [HSQ.out, List.length_append]; exact HP.out, HB6.out⟩
        case measure => simp [intOf]; omega
      · have b0 : (c.h.r == r) = false := by simp [hq]
        have HSQ := Lib.hid (show roundOf (l.take (k + 1)) r = N by rw [HSC.out, if_neg hq])
        have HB6 := Lib.hid (HBr.out.alloc HBr.out.size (.cells #[.int .i64 c.h.a, .int .i64 c.h.r, .slice adb c.h.bs.length capb, .slice adp c.h.ps.length capp, .slice adv c.vs.length capv] 45))
        clear hq
        go_wp2
        go_roundw
        case rel => exact ⟨k + 1, ad, cap, by omega, by go_num, by rw [HSQ.out], by rw [HSQ.out]; exact (HLr.out.alloc (.cells #[.int .i64 c.h.a, .int .i64 c.h.r, .slice adb c.h.bs.length capb, .slice adp c.h.ps.length capp, .slice adv c.vs.length capv] 45)).o, HB6.out⟩
        case measure => simp [intOf]; omega
    · obtain rfl : k = l.length := by omega
      rw [List.take_length] at hL
      rw [List.take_length]
      have t1 : ¬ (l.length : Int) < (l.length : Int) := by omega
      obtain ⟨vals, hv⟩ := hL.valsOf
      have hvlt := hv.lt
      have HLr := Lib.hid hv
      have HA := Lib.hid (fun c (hc : c ∈ roundOf l r) => HS.out.1 c (mem_roundOf.1 hc).1)
      have HN4 := Lib.hid (show (roundOf l r).length ≤ 12 by have h1 := ofL_len HS.out r; have h2 := @ofL_len4 l r; omega)
      clear hL hv hB
      go_wp2_with fail
      refine (sortCrt_any _ _ HLr.out HA.out HN4.out).mono ?_
      rintro e w5 ⟨rfl, M, vals', hpm, hpw, hL5, hgr⟩
      have HM := Lib.hid (ofL_of HS.out hpm hpw)
      have HL5 := Lib.hid hL5
      have HB5 := Lib.hid (HBr.out.grown hgr hz (fun k hk => (hvlt _ hk).1))
      clear hpm hpw hL5 hgr
      go_wp2
      go_ret
      refine ⟨_, rfl, ?_, HB5.out⟩
      rw [← HM.out]
      exact HL5.out.o.rd (by decide) (fun b h1 h2 => .inr h1) (fun b h1 h2 => h1)
end Go.Proofs.YtpfmmncnhlfdgaaDoor
