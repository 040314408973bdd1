/- sheaveskeep: digestsOf, at: what they compute. -/
import Derived.Test.YtpfmmncnhlfdgaaDoorDag10
import Derived.Test.YtpfmmncnhlfdgaaDoorBas
set_option linter.unusedVariables false
set_option linter.unusedSimpArgs false
attribute [local go_sem ↓] Go.wp_at_zero Go.wp_at_succ
namespace Go.Proofs.YtpfmmncnhlfdgaaDoor
open Go Go.RowKit

theorem dl_succ {l : List Crt} {k : Nat} (h : k < l.length) : crtSums (l.take (k + 1)) = crtSums (l.take k) ++ [crtSum l[k]] := crtSums_succ h
set_option maxRecDepth 100000 in
set_option maxHeartbeats 8000000 in
theorem digestsOf_any {G : Nat → Prop} {l : List Crt} (v : Value) (w : World) (h : RdS RCert G w v l) (hc : ∀ c ∈ l, hdrCode c.h = 0) (hl : l.length ≤ 1000) (ht : Tabs w) :
    Calls Tryd.prog 28 #[.agg #[v]] w fun e w' => ∃ v', e = .returned v' ∧ RdBB (fun b => w.heap.size ≤ b) w' v' (crtSums l) ∧ Below w.heap.size w w' := by
  have HC := Lib.hid hc
  clear hc
  obtain ⟨ad, cap, rfl, hcap, hm⟩ := h.form
  unfold maxLen at hm
  have hb0 := (Below.refl w.heap.size w).alloc (Nat.le_refl _) (.cells #[.slice ad l.length cap] 30)
  have HV := Lib.hid (h.below hb0 (fun _ h => h))
  have HB := Lib.hid hb0
  have HX := Lib.hid (BoxAt.new w [.slice ad l.length cap] 30)
  have HT := Lib.hid (ht.belowS hb0)
  clear h hb0 ht
  go_enter Tryd.func28, Tryd.ntmps28
  go_upto_region 1 with fail
  obtain ⟨w0, hw0⟩ : ∃ w0, w0 = w.alloc (.cells #[.slice ad l.length cap] 30) := ⟨_, rfl⟩
  rw [← hw0] at HV HX HB HT ⊢
  have hz0 := HX.out.lt
  have hzw := HB.out.size
  clear hw0
  go_wp2_with fail
  go_loopw [3, 4] (fun o i wr => ∃ (k : Nat) (ado : Option Addr) (capo : Nat), k ≤ l.length ∧ i = .int .i64 k ∧ o = .slice ado k capo ∧ LstO RBytes (fun b => w0.heap.size ≤ b) w0.heap.size 39 wr (.slice ado k capo) (crtSums (l.take k)) ∧ Below w0.heap.size w0 wr) (fun _ i _ => l.length - (intOf i).toNat)
  case atStart => exact ⟨0, none, 0, Nat.zero_le _, rfl, rfl, LstO.nil _ _ _ _ _, Below.refl _ _⟩
  case round =>
    obtain ⟨k, ado, capo, hk, rfl, rfl, hL, hB⟩ := hrel
    have hz := hB.size
    have HBr := Lib.hid hB
    have x0 := (HX.out.belowS hB).cell 0 rfl
    have hzx := (HX.out.belowS hB).lt
    by_cases hlt : k < l.length
    · have i0 : (0 : Int) ≤ (k : Int) := by omega
      have i1 : (k : Int) < (l.length : Int) := by omega
      have wk : IntKind.i64.wrap ((k : Int) + 1) = (k : Int) + 1 := IntWalk.i64_in _ (by omega)
      obtain ⟨vals, hv⟩ := hL.valsOf
      have hvlt := hv.lt
      have HLr := Lib.hid hv
      have HKL := Lib.hid (show (crtSums (l.take k)).length = k by rw [crtSums_len, List.length_take]; omega)
      have HMS := Lib.hid (crtSums_succ hlt)
      obtain ⟨b, o, ub, up, uv, rfl, -, e0, e1, e2, e3, e4, hb', hp', -⟩ := (HV.out.below hB (fun _ h => h)).crt k hlt
      have hc := HC.out l[k] (List.getElem_mem hlt)
      generalize l[k] = c at *
      obtain ⟨adb, capb, rfl, -, -⟩ := hb'.form
      obtain ⟨adp, capp, rfl, -, -⟩ := hp'.form
      have H1 := Lib.hid hb'
      have H2 := Lib.hid hp'
      have HCC := Lib.hid hc
      clear hb' hp' hc hv hL hB
      go_wp2_with fail
      refine (headerDigest_ok c.h _ _ _ (H1.out.below (by repeat (first | with_reducible exact Below.refl _ _ | with_reducible refine Below.drew ?_ | with_reducible refine Below.setCell ?_ (by first | omega | (simp <;> omega)) _ | with_reducible refine Below.alloc ?_ (by first | omega | (simp <;> omega)) _)) (fun _ h => h)) (H2.out.below (by repeat (first | with_reducible exact Below.refl _ _ | with_reducible refine Below.drew ?_ | with_reducible refine Below.setCell ?_ (by first | omega | (simp <;> omega)) _ | with_reducible refine Below.alloc ?_ (by first | omega | (simp <;> omega)) _)) (fun _ h => h)) HCC.out (HT.out.belowS (by repeat (first | with_reducible exact HBr.out | with_reducible exact Below.refl _ _ | with_reducible refine Below.drew ?_ | with_reducible refine Below.setCell ?_ (by first | omega | (simp <;> omega)) _ | with_reducible refine Below.alloc ?_ (by first | omega | (simp <;> omega)) _)))).mono ?_
      rintro e w5 ⟨vd, rfl, hd, hb5⟩
      have hB5 : Below wr.heap.size wr w5 := Below.trans (by repeat (first | with_reducible exact Below.refl _ _ | with_reducible refine Below.drew ?_ | with_reducible refine Below.setCell ?_ (by first | omega | (simp <;> omega)) _ | with_reducible refine Below.alloc ?_ (by first | omega | (simp <;> omega)) _)) (hb5.mono (by first | exact Nat.le_refl _ | (simp; done) | (simp; omega)))
      have HL5 := Lib.hid (HLr.out.below hB5)
      have HD5 := Lib.hid (hd.low (by decide))
      have HB5 := Lib.hid (HBr.out.trans (hB5.mono hz))
      have s5 := hB5.size
      have HSM := Lib.hid (show crtSum c = hdrSum c.h from rfl)
      obtain ⟨add, capd, rfl, -, -⟩ := hd.form
      clear hd hb5 hB5 e0 e1 e2 e3 e4 x0
      rw [HSM.out] at HMS
      go_wp2_with (at_builtin; refine wpList_append_one rfl _ _ 34 rfl elemBY w0.heap.size _ k vals rfl (by have h := (HL5.out.alloc (.cells #[.slice add (hdrSum c.h).length capd] 39)).own; rw [HKL.out] at h; exact h) w5.heap.size 39 [.slice add (hdrSum c.h).length capd] rfl (BoxAt.new w5 [_] _) rfl (by simp [Value.oneCell']) (by unfold maxLen; omega) (by omega) (by simp; omega) ?_; intro g cap6 w6 hown6 hgr6 hat6 hlt6)
      have hx : RBytes.rd (fun b => w0.heap.size ≤ b ∧ b < (w5.alloc (.cells #[.slice add (hdrSum c.h).length capd] 39)).heap.size ∧ (Value.slice ado k capo).ownBlock ≠ some b) (w5.alloc (.cells #[.slice add (hdrSum c.h).length capd] 39)) [.slice add (hdrSum c.h).length capd] (hdrSum c.h) :=
        ⟨_, rfl, HD5.out.keep (Keep.alloc _ _ _) (fun b hb => ⟨by have h1 := hb.1; omega, by have := hb.2; simp; omega, fun e => by have h1 := hb.1; have := (hvlt _ e).2; omega⟩)⟩
      have hP := (HL5.out.alloc (.cells #[.slice add (hdrSum c.h).length capd] 39)).push hx (by rw [HKL.out]; exact hown6) hgr6 hat6
      rw [HKL.out, ← HMS.out] at hP
      have HP := Lib.hid hP
      have HB6 := Lib.hid ((HB5.out.alloc HB5.out.size (.cells #[.slice add (hdrSum c.h).length capd] 39)).grown hgr6 (by have := HB5.out.size; simp; omega) (fun k hk => (hvlt _ hk).1))
      clear hP hx hown6
      go_wp2
      go_roundw
      case rel => exact ⟨k + 1, some ⟨g, 0, none⟩, cap6, by omega, by go_num, rfl, HP.out, HB6.out⟩
      case measure => simp [intOf]; omega
    · obtain rfl : k = l.length := by omega
      rw [List.take_length] at hL
      have HM := Lib.hid (hL.rd (G' := fun b => w.heap.size ≤ b) (by decide) (fun b h1 h2 => by omega) (fun b h1 h2 => by omega))
      have HBE := Lib.hid (HB.out.trans (HBr.out.mono HB.out.size))
      clear hL hB
      have t1 : ¬ (l.length : Int) < (l.length : Int) := by omega
      go_wp2
      go_ret
      exact ⟨_, rfl, HM.out, HBE.out⟩
set_option maxRecDepth 100000 in
set_option maxHeartbeats 8000000 in
theorem sat_any {G G' : Nat → Prop} {l : List Bytes} {d : Bytes} (v vd : Value) (w : World) (h : RdBB G w v l) (hd : RdB G' w vd d) :
    Calls Tryd.prog 30 #[v, vd] w fun e w' => e = .returned (.int .i64 (idxP (isB d) l)) ∧ w = w' := by
  obtain ⟨ad, cap, rfl, h1, h2⟩ := h.form
  unfold maxLen at h2
  have HV := Lib.hid h
  have HD := Lib.hid hd
  clear h hd
  go_enter Tryd.func30, Tryd.ntmps30
  go_wp2
  go_loop [5] (fun i => ∃ k : Nat, k ≤ l.length ∧ i = .int .i64 k ∧ (∀ j, j < k → ∀ x, l[j]? = some x → isB d x = false)) (fun i => l.length - (intOf i).toNat)
  case atStart => exact ⟨0, Nat.zero_le _, rfl, fun j hj => (by omega)⟩
  case round =>
    obtain ⟨k, hk, rfl, hno⟩ := hrel
    have HN := Lib.hid hno; clear hno
    by_cases hlt : k < l.length
    · obtain ⟨bb, o, vx, rfl, -, e0, hx⟩ := HV.out.cellS k hlt
      have HX := Lib.hid hx
      have i0 : (0 : Int) ≤ (k : Int) := by omega
      have i1 : (k : Int) < (l.length : Int) := by omega
      clear hx
      by_cases he : isB d l[k] = true
      · have hr := Lib.hid (idxP_hit hlt HN.out he)
        have HE := Lib.hid (show decide (l[k] = d) = true from he)
        clear he
        go_wp2_with fail
        refine (same_any _ _ _ HX.out HD.out).mono ?_
        rintro e w' ⟨rfl, rfl⟩
        rw [HE.out]
        go_wp2
        go_ret
        exact ⟨ret_intH hr.out, rfl⟩
      · have he' : isB d l[k] = false := by simpa using he
        have HE := Lib.hid (show decide (l[k] = d) = false from he')
        have HE' := Lib.hid he'
        clear he he'
        go_wp2_with fail
        refine (same_any _ _ _ HX.out HD.out).mono ?_
        rintro e w' ⟨rfl, rfl⟩
        rw [HE.out]
        go_wp2
        go_round
        case rel =>
          refine ⟨k + 1, by omega, by go_num, fun j hj x hx => ?_⟩
          rcases Nat.lt_or_ge j k with h | h
          · exact HN.out j h x hx
          · obtain rfl : j = k := by omega
            rw [List.getElem?_eq_getElem hlt] at hx
            simp only [Option.some.injEq] at hx
            rw [← hx]; exact HE'.out
        case measure => simp [intOf]; omega
    · obtain rfl : k = l.length := by omega
      have hr := Lib.hid (idxP_miss HN.out)
      go_wp2
      go_ret
      exact ⟨ret_intH hr.out, rfl⟩
end Go.Proofs.YtpfmmncnhlfdgaaDoor
