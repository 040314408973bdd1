/- wire.CheckCert. -/
import Derived.Test.YtmijiclocadimaaGreatDoorChk2
import Derived.IntWalk
set_option linter.unusedVariables false
set_option linter.unusedSimpArgs false
namespace Go.Proofs.YtmijiclocadimaaGreatDoor
open Go Go.RowKit

def lastOf (l : List Int) (k : Nat) : Option Int := if k = 0 then none else l[k - 1]?
theorem votGo_drop {l : List Int} {k : Nat} (h : k < l.length) : l.drop k = l[k] :: l.drop (k + 1) := List.drop_eq_getElem_cons h
theorem vot_node {l : List Int} {k : Nat} (h : k < l.length) (hi : votGo none l = votGo (lastOf l k) (l.drop k)) (h1 : nodeOk l[k] = false) : votGo none l = 2 := by
  rw [hi, votGo_drop h]; unfold votGo; rw [if_pos h1]
theorem vot_zero {l : List Int} (h : 0 < l.length) (h1 : nodeOk l[0] = true) : votGo none l = votGo (lastOf l 1) (l.drop 1) := by
  cases l with
  | nil => simp at h
  | cons a t =>
    show votGo none (a :: t) = votGo (some a) t
    simp only [List.getElem_cons_zero] at h1
    rw [votGo]; simp [h1]
theorem vot_bad {l : List Int} {k : Nat} (h : k < l.length) (hk : 0 < k) (hi : votGo none l = votGo (lastOf l k) (l.drop k)) (h1 : nodeOk l[k] = true) (h2 : l[k] ≤ l[k - 1]) : votGo none l = 9 := by
  rw [hi, votGo_drop h]
  unfold lastOf
  rw [if_neg (by omega), List.getElem?_eq_getElem (by omega)]
  unfold votGo
  rw [if_neg (by simp [h1]), if_pos (by simp; omega)]
theorem vot_next {l : List Int} {k : Nat} (h : k < l.length) (hk : 0 < k) (hi : votGo none l = votGo (lastOf l k) (l.drop k)) (h1 : nodeOk l[k] = true) (h2 : ¬ l[k] ≤ l[k - 1]) : votGo none l = votGo (lastOf l (k + 1)) (l.drop (k + 1)) := by
  rw [hi, votGo_drop h]
  have e : lastOf l (k + 1) = some l[k] := by unfold lastOf; rw [if_neg (by omega)]; simp
  rw [e]
  unfold lastOf
  rw [if_neg (by omega), List.getElem?_eq_getElem (by omega)]
  rw [votGo]
  rw [if_neg (by simp [h1]), if_neg (by simp; omega)]
theorem vot_end {l : List Int} {k : Nat} (h : l.length ≤ k) (hi : votGo none l = votGo (lastOf l k) (l.drop k)) : votGo none l = 0 := by
  rw [hi, List.drop_eq_nil_of_le h]; rfl

set_option maxRecDepth 100000 in
set_option maxHeartbeats 1000000 in
set_option maxRecDepth 100000 in
set_option maxHeartbeats 2000000 in
theorem ccert_any {G : Nat → Prop} {bs ps : List Bytes} {vs : List Int} (a r : Int) (vb vp v : Value) (w : World) (hb : RdBB G w vb bs) (hp : RdBB G w vp ps) (hv : RdI G w v vs) :
    Calls Tryz.prog 67 #[.agg #[.int .i64 a, .int .i64 r, vb, vp, v]] w fun e w' => e = .returned (.int .i64 (crtCode ⟨⟨a, r, bs, ps⟩, vs⟩)) ∧ Below w.heap.size w w' := by
  obtain ⟨adb, capb, rfl, -, -⟩ := hb.form
  obtain ⟨adp, capp, rfl, -, -⟩ := hp.form
  obtain ⟨adv, capv, rfl, h1, h2⟩ := hv.form
  unfold maxLen at h2
  have hR := (Below.refl w.heap.size w).alloc (Nat.le_refl _) (.cells #[.int .i64 a, .int .i64 r, .slice adb bs.length capb, .slice adp ps.length capp, .slice adv vs.length capv] 65)
  have HQ := Lib.hid (BoxAt.new w [.int .i64 a, .int .i64 r, .slice adb bs.length capb, .slice adp ps.length capp, .slice adv vs.length capv] 65)
  have HB := Lib.hid (hb.keep (Keep.alloc G w (.cells #[.int .i64 a, .int .i64 r, .slice adb bs.length capb, .slice adp ps.length capp, .slice adv vs.length capv] 65)) (fun _ h => h))
  have HP := Lib.hid (hp.keep (Keep.alloc G w (.cells #[.int .i64 a, .int .i64 r, .slice adb bs.length capb, .slice adp ps.length capp, .slice adv vs.length capv] 65)) (fun _ h => h))
  have HV := Lib.hid (hv.keep (Keep.alloc G w (.cells #[.int .i64 a, .int .i64 r, .slice adb bs.length capb, .slice adp ps.length capp, .slice adv vs.length capv] 65)) (fun _ h => h))
  go_enter Tryz.func67, Tryz.ntmps67
  go_wp2_with fail
  refine (cheader_any _ _ _ _ _ HB.out HP.out).mono ?_
  rintro e w1 ⟨rfl, hb1⟩
  have HV1 := Lib.hid (HV.out.below hb1 (fun _ h => h))
  have hR1 := hR.trans (hb1.mono hR.size)
  have b1 := HQ.out.belowS hb1
  have p4 := b1.cell 4 rfl
  clear hb1 b1
  by_cases d1 : hdrCode ⟨a, r, bs, ps⟩ = 0
  · have c1 : (hdrCode ⟨a, r, bs, ps⟩ != 0) = false := by simp [d1]
    by_cases d2 : 4 < vs.length
    · have HR := Lib.hid (show crtCode ⟨⟨a, r, bs, ps⟩, vs⟩ = 1 by unfold crtCode; rw [if_neg (by simp [d1]), if_pos d2])
      clear d1
      go_wp2
      go_ret
      exact ⟨ret_intH HR.out, hR1⟩
    · have hh : crtCode ⟨⟨a, r, bs, ps⟩, vs⟩ = if votGo none vs ≠ 0 then votGo none vs else if vs.length < 3 then 10 else 0 := by
        unfold crtCode; rw [if_neg (by simp [d1]), if_neg d2]
      have HH := Lib.hid hh
      clear d1 hh
      go_wp2
      go_loop [19] (fun i => ∃ k : Nat, k ≤ vs.length ∧ i = .int .i64 k ∧ votGo none vs = votGo (lastOf vs k) (vs.drop k)) (fun i => vs.length - (intOf i).toNat)
      case atStart => exact ⟨0, Nat.zero_le _, rfl, rfl⟩
      case round =>
        obtain ⟨k, hk, rfl, hi⟩ := hrel
        have HI := Lib.hid hi
        clear hi
        by_cases hlt : k < vs.length
        · obtain ⟨b, o, rfl, -, hc⟩ := HV1.out.cell k hlt
          cases e1 : nodeOk vs[k]
          · have HE := Lib.hid (vot_node hlt HI.out e1)
            have HR := Lib.hid (show crtCode ⟨⟨a, r, bs, ps⟩, vs⟩ = 2 by rw [HH.out, HE.out]; rfl)
            go_wp2_with (first
              | (go_at_call 98; refine (node_any _ _).mono ?_; rintro e w' ⟨rfl, rfl⟩))
            go_ret
            exact ⟨ret_intH HR.out, hR1⟩
          · by_cases hk0 : k = 0
            · have HE := Lib.hid (show votGo none vs = votGo (lastOf vs (k + 1)) (vs.drop (k + 1)) by subst hk0; exact vot_zero hlt e1)
              have hz : ¬ (0 : Int) < (k : Int) := by omega
              clear hk0
              go_wp2_with (first
                | (go_at_call 98; refine (node_any _ _).mono ?_; rintro e w' ⟨rfl, rfl⟩))
              go_round
              case rel => exact ⟨k + 1, by omega, by go_num, HE.out⟩
              case measure => simp [intOf]; omega
            · have hz : (0 : Int) < (k : Int) := by omega
              have hk1 : k - 1 < vs.length := by omega
              have hc' := HV1.out.cells (k - 1) hk1
              obtain ⟨j, rfl⟩ : ∃ j, k = j + 1 := ⟨k - 1, by omega⟩
              simp only [Nat.add_sub_cancel] at hc' hk1
              have l1 : IntKind.i64.wrap (((j + 1 : Nat) : Int) - 1) = (j : Int) := by
                rw [show (((j + 1 : Nat) : Int) - 1) = (j : Int) by omega]; exact IntWalk.i64_in _ (by omega)
              by_cases e2 : vs[j + 1] ≤ vs[j]
              · have HE := Lib.hid (vot_bad hlt (by omega) HI.out e1 (by simpa using e2))
                have HR := Lib.hid (show crtCode ⟨⟨a, r, bs, ps⟩, vs⟩ = 9 by rw [HH.out, HE.out]; rfl)
                go_wp2_with (first
                  | (go_at_call 98; refine (node_any _ _).mono ?_; rintro e w' ⟨rfl, rfl⟩))
                go_ret
                exact ⟨ret_intH HR.out, hR1⟩
              · have HE := Lib.hid (vot_next hlt (by omega) HI.out e1 (by simpa using e2))
                go_wp2_with (first
                  | (go_at_call 98; refine (node_any _ _).mono ?_; rintro e w' ⟨rfl, rfl⟩))
                go_round
                case rel => exact ⟨j + 1 + 1, by omega, by go_num, HE.out⟩
                case measure => simp [intOf]; omega
        · have HE := Lib.hid (vot_end (by omega) HI.out)
          by_cases q : (vs.length : Int) < 3
          · have HR := Lib.hid (show crtCode ⟨⟨a, r, bs, ps⟩, vs⟩ = 10 by rw [HH.out, HE.out]; simp; omega)
            go_wp2
            go_ret
            exact ⟨ret_intH HR.out, hR1⟩
          · have HR := Lib.hid (show crtCode ⟨⟨a, r, bs, ps⟩, vs⟩ = 0 by rw [HH.out, HE.out]; simp; omega)
            go_wp2
            go_ret
            exact ⟨ret_intH HR.out, hR1⟩
  · have c1 : (hdrCode ⟨a, r, bs, ps⟩ != 0) = true := by rw [bne_iff_ne]; exact d1
    have HR := Lib.hid (show crtCode ⟨⟨a, r, bs, ps⟩, vs⟩ = hdrCode ⟨a, r, bs, ps⟩ by unfold crtCode; rw [if_pos d1])
    clear d1
    go_wp2
    go_ret
    exact ⟨ret_intH HR.out, hR1⟩
end Go.Proofs.YtmijiclocadimaaGreatDoor
