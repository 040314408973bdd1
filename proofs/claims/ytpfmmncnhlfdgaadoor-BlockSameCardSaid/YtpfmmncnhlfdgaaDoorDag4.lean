/- dag: digests: what it computes. -/
import Derived.Test.YtpfmmncnhlfdgaaDoorDag3
set_option linter.unusedVariables false
set_option linter.unusedSimpArgs false
attribute [local go_sem ↓] Go.wp_at_zero Go.wp_at_succ
namespace Go.Proofs.YtpfmmncnhlfdgaaDoor
open Go Go.RowKit

set_option maxRecDepth 100000 in
set_option maxHeartbeats 8000000 in
theorem digests_any {G : Nat → Prop} {l : List Bytes} (v : Value) (w : World) (h : RdBB G w v l) (hs : ∀ d ∈ l, d.length ≤ 1000) (hl : l.length ≤ 1000) :
    Calls Tryd.prog 65 #[v] w fun e w' => ∃ v', e = .returned v' ∧ RdBB (fun b => w.heap.size ≤ b) w' v' l ∧ Below w.heap.size w w' := by
  obtain ⟨adv, capv, rfl, hcv, hcm⟩ := h.form
  unfold maxLen at hcm
  have HV := Lib.hid h
  have HS := Lib.hid hs
  clear h hs
  go_enter Tryd.func65, Tryd.ntmps65
  go_wp2_with fail
  go_loopw [3, 8] (fun o i wr => ∃ (k : Nat) (ad : Option Addr) (cap : Nat), k ≤ l.length ∧ i = .int .i64 k ∧ o = .slice ad k cap ∧ LstO RBytes (fun b => w.heap.size ≤ b) w.heap.size 39 wr (.slice ad k cap) (l.take k) ∧ Below w.heap.size w wr) (fun _ i _ => l.length - (intOf i).toNat)
  case atStart => exact ⟨0, none, 0, Nat.zero_le _, rfl, rfl, LstO.nil _ _ _ _ _, Below.refl _ _⟩
  case round =>
    obtain ⟨k, ad, cap, hk, rfl, rfl, hL, hB⟩ := hrel
    have hz := hB.size
    have HBr := Lib.hid hB
    by_cases hlt : k < l.length
    · have i0 : (0 : Int) ≤ (k : Int) := by omega
      have i1 : (k : Int) < (l.length : Int) := by omega
      obtain ⟨vals, hv⟩ := hL.valsOf
      have hvlt := hv.lt
      have HLr := Lib.hid hv
      have HKL := Lib.hid (show (l.take k).length = k by rw [List.length_take]; omega)
      have HMS := Lib.hid (List.take_succ_eq_append_getElem hlt)
      obtain ⟨bb, ob, vx, rfl, -, e0, hx⟩ := (HV.out.below hB (fun _ h => h)).cellS k hlt
      have hd1 := HS.out l[k] (List.getElem_mem hlt)
      obtain ⟨adx, capx, rfl, -, -⟩ := hx.form
      have HX2 := Lib.hid hx
      generalize l[k] = d at *
      clear hx hv hL hB
      go_wp2_with fail
      refine (cloneB_any _ _ (HX2.out.below (by repeat (first | with_reducible exact Below.refl _ _ | with_reducible refine Below.drew ?_ | with_reducible refine Below.setCell ?_ (by first | omega | (simp <;> omega)) _ | with_reducible refine Below.alloc ?_ (by first | omega | (simp <;> omega)) _)) (fun _ h => h)) (by omega)).mono ?_
      rintro e w3 ⟨vc, rfl, hc, hb3⟩
      obtain ⟨adc, capc, rfl⟩ := ownsRow_form hc
      have hB3 : Below wr.heap.size wr w3 := Below.trans (by repeat (first | with_reducible exact Below.refl _ _ | with_reducible refine Below.drew ?_ | with_reducible refine Below.setCell ?_ (by first | omega | (simp <;> omega)) _ | with_reducible refine Below.alloc ?_ (by first | omega | (simp <;> omega)) _)) (hb3.mono (by first | exact Nat.le_refl _ | (simp; done) | (simp; omega)))
      have HC3 := Lib.hid (show RdB (fun b => wr.heap.size ≤ b ∧ b < w3.heap.size) w3 (.slice adc d.length capc) d from ((RdS.of_owns (f := fun c : UInt8 => Value.int .u8 c.toNat) (G := fun b => wr.heap.size ≤ b) hc (fun b hb => by first | exact hb | (simp at hb; omega))).low (by decide)))
      have HL3 := Lib.hid (HLr.out.below hB3)
      have HB3 := Lib.hid (HBr.out.trans (hB3.mono hz))
      have s3 := hB3.size
      clear hc hb3 hB3 e0
      go_wp2_with (at_builtin; refine wpList_append_one rfl _ _ 34 rfl elemBY w.heap.size _ k vals rfl (by have h := (HL3.out.alloc (.cells #[.slice adc d.length capc] 39)).own; rw [HKL.out] at h; exact h) w3.heap.size 39 [.slice adc d.length capc] rfl (BoxAt.new w3 [_] _) rfl (by simp [Value.oneCell']) (by unfold maxLen; omega) (by omega) (by have := HB3.out.size; simp; omega) ?_; intro g cap6 w6 hown6 hgr6 hat6 hlt6)
      have hx : RBytes.rd (fun b => w.heap.size ≤ b ∧ b < (w3.alloc (.cells #[.slice adc d.length capc] 39)).heap.size ∧ (Value.slice ad k cap).ownBlock ≠ some b) (w3.alloc (.cells #[.slice adc d.length capc] 39)) [.slice adc d.length capc] d :=
        ⟨_, rfl, HC3.out.keep (Keep.alloc _ _ _) (fun b hb => ⟨by have := hb.1; omega, by have := hb.2; simp; omega, fun e => by have h1 := hb.1; have := (hvlt _ e).2; omega⟩)⟩
      have hP := (HL3.out.alloc (.cells #[.slice adc d.length capc] 39)).push hx (by rw [HKL.out]; exact hown6) hgr6 hat6
      rw [HKL.out, ← HMS.out] at hP
      have HP := Lib.hid hP
      have HB6 := Lib.hid ((HB3.out.alloc HB3.out.size (.cells #[.slice adc d.length capc] 39)).grown hgr6 (by have := HB3.out.size; simp; omega) (fun k hk => (hvlt _ hk).1))
      clear hP hx hown6
      go_wp2
      go_roundw
      case rel => exact ⟨k + 1, some ⟨g, 0, none⟩, cap6, by omega, by go_num, rfl, HP.out, HB6.out⟩
      case measure => simp [intOf]; omega
    · obtain rfl : k = l.length := by omega
      rw [List.take_length] at hL
      have HM := Lib.hid (hL.rd (G' := fun b => w.heap.size ≤ b) (by decide) (fun b h1 h2 => h1) (fun b h1 h2 => h1))
      clear hL hB
      have t1 : ¬ (l.length : Int) < (l.length : Int) := by omega
      go_wp2
      go_ret
      exact ⟨_, rfl, HM.out, HBr.out⟩
end Go.Proofs.YtpfmmncnhlfdgaaDoor
