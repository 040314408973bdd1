/- dag: at, taken: what they compute. -/
import Derived.Test.YtpfmmncnhlfdgaaDoorBal
import Derived.Test.YtpfmmncnhlfdgaaDoorBDig
import Derived.Test.YtpfmmncnhlfdgaaDoorChk3
import Derived.Test.YtpfmmncnhlfdgaaDoorBas
set_option linter.unusedVariables false
set_option linter.unusedSimpArgs false
attribute [local go_sem ↓] Go.wp_at_zero Go.wp_at_succ
namespace Go.Proofs.YtpfmmncnhlfdgaaDoor
open Go Go.RowKit

/-- A certificate, its lists read. -/
def RCert : Rel Crt where
  size := 5
  rd := fun G w cs x => ∃ vb vp vv, cs = [.int .i64 x.h.a, .int .i64 x.h.r, vb, vp, vv] ∧ RdBB G w vb x.h.bs ∧ RdBB G w vp x.h.ps ∧ RdI G w vv x.vs
  len := fun ⟨_, _, _, h, _⟩ => by simp [h]
  keep := fun ⟨v, v', v'', h, hb, hp, hv⟩ hk hg => ⟨v, v', v'', h, hb.keep hk hg, hp.keep hk hg, hv.keep hk hg⟩
  low := fun ⟨v, v', v'', h, hb, hp, hv⟩ => ⟨v, v', v'', h, hb.low (by decide), hp.low (by decide), hv.low (by decide)⟩
theorem RCert_one {G : Nat → Prop} {w : World} {cs : List Value} {x : Crt} (h : RCert.rd G w cs x) : ∀ u ∈ cs, u.oneCell' = true := by
  obtain ⟨v, v', v'', rfl, hb, hp, hv⟩ := h
  obtain ⟨ad, cap, rfl, -, -⟩ := hb.form
  obtain ⟨ad', cap', rfl, -, -⟩ := hp.form
  obtain ⟨ad'', cap'', rfl, -, -⟩ := hv.form
  simp [Value.oneCell']
theorem RdS.crt {G : Nat → Prop} {w : World} {l : List Crt} {ad : Option Addr} {n cap : Nat} (h : RdS RCert G w (.slice ad n cap) l) (j : Nat) (hj : j < l.length) :
    ∃ b o vb vp vv, ad = some ⟨b, o, none⟩ ∧ G b ∧ w.cell? ⟨b, o + j * 5, none⟩ = some (.int .i64 l[j].h.a) ∧ w.cell? ⟨b, o + j * 5 + 1, none⟩ = some (.int .i64 l[j].h.r) ∧ w.cell? ⟨b, o + j * 5 + 2, none⟩ = some vb ∧ w.cell? ⟨b, o + j * 5 + 3, none⟩ = some vp ∧ w.cell? ⟨b, o + j * 5 + 4, none⟩ = some vv ∧
      RdBB G w vb l[j].h.bs ∧ RdBB G w vp l[j].h.ps ∧ RdI G w vv l[j].vs := by
  obtain ⟨b, o, cs, ha, hb, hc, vb, vp, vv, rfl, h1, h2, h3⟩ := h.at j hj
  exact ⟨b, o, vb, vp, vv, ha, hb, hc 0 _ rfl, hc 1 _ rfl, hc 2 _ rfl, hc 3 _ rfl, hc 4 _ rfl, h1, h2, h3⟩
/-! ### at -/
theorem atClo_any {G G' : Nat → Prop} {x d : Bytes} (vx vd : Value) (b : Nat) (w : World) (hx : RdB G w vx x) (hd : RdB G' w vd d) (hc : w.cell? ⟨b, 0, none⟩ = some vd) :
    Calls Tryd.prog 64 #[vx, .pointer (some ⟨b, 0, none⟩)] w fun e w' => e = .returned (.bool (decide (x = d))) ∧ w = w' := by
  go_enter Tryd.func64, Tryd.ntmps64
  go_wp2_with (go_at_call 60; refine (bytesEqual_any _ _ _ hx hd).mono ?_; rintro e w' ⟨rfl, rfl⟩)
  go_ret
  exact ⟨rfl, rfl⟩
def isB (d x : Bytes) : Bool := decide (x = d)
set_option maxRecDepth 100000 in
set_option maxHeartbeats 1000000 in
theorem atIndex_any {G G' : Nat → Prop} {l : List Bytes} {d : Bytes} (v vd : Value) (b : Nat) (w : World) (h : RdBB G w v l) (hd : RdB G' w vd d) (hcd : w.cell? ⟨b, 0, none⟩ = some vd) :
    Calls Tryd.prog 58 #[v, .func (.func 64) #[] #[.pointer (some ⟨b, 0, none⟩)]] w fun e w' => e = .returned (.int .i64 (idxP (isB d) l)) ∧ w = w' := by
  obtain ⟨ad, cap, rfl, h1, h2⟩ := h.form
  unfold maxLen at h2
  have HV := Lib.hid h
  have HD := Lib.hid hd
  clear h hd
  go_enter Tryd.func58, Tryd.ntmps58
  go_wp2
  go_loop [8] (fun i => ∃ k : Nat, k ≤ l.length ∧ i = .int .i64 k ∧ (∀ j, j < k → ∀ x, l[j]? = some x → isB d x = false)) (fun i => l.length - (intOf i).toNat)
  case atStart => exact ⟨0, Nat.zero_le _, rfl, fun j hj => (by omega)⟩
  case round =>
    obtain ⟨k, hk, rfl, hno⟩ := hrel
    have HN := Lib.hid hno; clear hno
    by_cases hlt : k < l.length
    · obtain ⟨bb, o, vx, rfl, -, e0, hx⟩ := HV.out.cellS k hlt
      have HX := Lib.hid hx
      have i0 : (0 : Int) ≤ (k : Int) := by omega
      have i1 : (k : Int) < (l.length : Int) := by omega
      clear hx
      by_cases he : isB d l[k] = true
      · have hr := Lib.hid (idxP_hit hlt HN.out he)
        have HE := Lib.hid (show decide (l[k] = d) = true from he)
        clear he
        go_wp2_with fail
        refine (atClo_any vx vd b _ HX.out HD.out hcd).mono ?_
        rintro e w' ⟨rfl, rfl⟩
        rw [HE.out]
        go_wp2
        go_ret
        exact ⟨ret_intH hr.out, rfl⟩
      · have he' : isB d l[k] = false := by simpa using he
        have HE := Lib.hid (show decide (l[k] = d) = false from he')
        have HE' := Lib.hid he'
        clear he he'
        go_wp2_with fail
        refine (atClo_any vx vd b _ HX.out HD.out hcd).mono ?_
        rintro e w' ⟨rfl, rfl⟩
        rw [HE.out]
        go_wp2
        go_round
        case rel =>
          refine ⟨k + 1, by omega, by go_num, fun j hj x hx => ?_⟩
          rcases Nat.lt_or_ge j k with h | h
          · exact HN.out j h x hx
          · obtain rfl : j = k := by omega
            rw [List.getElem?_eq_getElem hlt] at hx
            simp only [Option.some.injEq] at hx
            rw [← hx]; exact HE'.out
        case measure => simp [intOf]; omega
    · obtain rfl : k = l.length := by omega
      have hr := Lib.hid (idxP_miss HN.out)
      go_wp2
      go_ret
      exact ⟨ret_intH hr.out, rfl⟩
theorem dat_any {G G' : Nat → Prop} {l : List Bytes} {d : Bytes} (v vd : Value) (w : World) (h : RdBB G w v l) (hd : RdB G' w vd d) :
    Calls Tryd.prog 41 #[v, vd] w fun e w' => e = .returned (.int .i64 (idxP (isB d) l)) ∧ Below w.heap.size w w' := by
  have hmf : ∀ (fn : Fn) (first cap : Array Value) (w : World), (Instr.makeFunc fn first cap).run Tryd.prog w = .ok (.func fn first cap) w := fun _ _ _ _ => rfl
  obtain ⟨add, capd, rfl, -, -⟩ := hd.form
  have hb := (Below.refl w.heap.size w).alloc (Nat.le_refl _) (.cells #[.slice add d.length capd] 39)
  have HB := Lib.hid hb
  have HC := Lib.hid ((BoxAt.new w [.slice add d.length capd] 39).cell 0 rfl)
  have HV := Lib.hid (h.below hb (fun _ h => h))
  have HD := Lib.hid (hd.below hb (fun _ h => h))
  clear hb h hd
  go_enter Tryd.func41, Tryd.ntmps41
  go_wp2_with fail
  refine (atIndex_any _ _ _ _ HV.out HD.out HC.out).mono ?_
  rintro e w' ⟨rfl, rfl⟩
  go_wp2
  go_ret
  exact ⟨rfl, HB.out⟩
/-! ### taken -/
def isKey (h : Hdr) (c : Crt) : Bool := decide (c.h.a = h.a ∧ c.h.r = h.r)
theorem takClo_any (x : Crt) (h : Hdr) (vb vp vv ub up : Value) (b : Nat) (w : World) (hone : vb.oneCell' = true ∧ vp.oneCell' = true ∧ vv.oneCell' = true) (c0 : w.cell? ⟨b, 0, none⟩ = some (.int .i64 h.a)) (c1 : w.cell? ⟨b, 1, none⟩ = some (.int .i64 h.r)) :
    Calls Tryd.prog 76 #[.agg #[.int .i64 x.h.a, .int .i64 x.h.r, vb, vp, vv], .pointer (some ⟨b, 0, none⟩)] w fun e w' => e = .returned (.bool (isKey h x)) ∧ Below w.heap.size w w' := by
  have hR := (Below.refl w.heap.size w).alloc (Nat.le_refl _) (.cells #[.int .i64 x.h.a, .int .i64 x.h.r, vb, vp, vv] 45)
  have hb := World.block_lt_of_cell? w _ c0
  simp only at hb
  have hb2 : b ≠ w.heap.size := by omega
  go_enter Tryd.func76, Tryd.ntmps76
  by_cases h1 : x.h.a = h.a
  · by_cases h2 : x.h.r = h.r
    · have HR := Lib.hid (show isKey h x = true by unfold isKey; simp [h1, h2])
      have e1 : (x.h.a == h.a) = true := by simp [h1]
      have e2 : (x.h.r == h.r) = true := by simp [h2]
      clear h1 h2
      go_wp2
      go_ret
      exact ⟨ret_boolH HR.out, hR⟩
    · have HR := Lib.hid (show isKey h x = false by unfold isKey; simp [h2])
      have e1 : (x.h.a == h.a) = true := by simp [h1]
      have e2 : (x.h.r == h.r) = false := by simp [h2]
      clear h1 h2
      go_wp2
      go_ret
      exact ⟨ret_boolH HR.out, hR⟩
  · have HR := Lib.hid (show isKey h x = false by unfold isKey; simp [h1])
    have e1 : (x.h.a == h.a) = false := by simp [h1]
    clear h1
    go_wp2
    go_ret
    exact ⟨ret_boolH HR.out, hR⟩
end Go.Proofs.YtpfmmncnhlfdgaaDoor
