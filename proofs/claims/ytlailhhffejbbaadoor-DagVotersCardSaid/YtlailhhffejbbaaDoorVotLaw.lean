/- Who voted does not matter: plain laws; and a list of certificates of the call's own, one's voters stored. -/
import Derived.Test.YtlailhhffejbbaaDoorDOf
import Derived.Test.YtlailhhffejbbaaDoorInsLaw
import Derived.Test.YtlailhhffejbbaaDoorDag10
import Derived.Test.YtlailhhffejbbaaDoorBas
import Derived.Test.YtlailhhffejbbaaDoorSome
import Derived.Test.YtlailhhffejbbaaDoorHdrLaw
import Derived.Test.YtlailhhffejbbaaDoorSameL
set_option linter.unusedVariables false
set_option linter.unusedSimpArgs false
namespace Go.Proofs.YtlailhhffejbbaaDoor
open Go Go.RowKit

section
variable {l m : List Crt} (H : l.map (fun c => c.h) = m.map (fun c => c.h))
include H
theorem vh_len : l.length = m.length := by have := congrArg List.length H; simpa using this
theorem vh_at {k : Nat} (h1 : k < l.length) (h2 : k < m.length) : l[k].h = m[k].h := by
  have := congrArg (fun x : List Hdr => x[k]?) H
  simpa [h1, h2] using this
theorem vh_sums : crtSums l = crtSums m := by
  have : ∀ x : List Crt, crtSums x = (x.map (fun c => c.h)).map hdrSum := fun x => by simp [crtSums, crtSum]
  rw [this, this, H]
theorem vh_taken (h : Hdr) : takenB l h = takenB m h := by
  have : ∀ x : List Crt, takenB x h = (x.map (fun c => c.h)).any (fun y => decide (y.a = h.a ∧ y.r = h.r)) := fun x => by
    unfold takenB; rw [List.any_map]; rfl
  rw [this, this, H]
theorem vh_get (k : Nat) : (l.getD k crtZ).h = (m.getD k crtZ).h := by
  have := congrArg (fun x : List Hdr => x[k]?) H
  simp only [List.getElem?_map] at this
  rw [List.getD_eq_getElem?_getD, List.getD_eq_getElem?_getD]
  cases h1 : l[k]? <;> cases h2 : m[k]? <;> simp [h1, h2] at this ⊢
  exact this
theorem vh_wrong (ds : List Bytes) (r : Int) (ps : List Bytes) : wrongB l ds r ps = wrongB m ds r ps := by
  have : wrong1 l ds r = wrong1 m ds r := by funext d; unfold wrong1; rw [vh_get H]
  unfold wrongB; rw [this]
theorem vh_take (k : Nat) : (l.take k).map (fun c => c.h) = (m.take k).map (fun c => c.h) := by rw [List.map_take, List.map_take, H]
theorem vh_round (r : Int) : (roundOf l r).length = (roundOf m r).length := by
  have : ∀ x : List Crt, (roundOf x r).length = ((x.map (fun c => c.h)).filter fun h => decide (h.r = r)).length := fun x => by
    unfold roundOf; rw [List.filter_map, List.length_map]; rfl
  rw [this, this, H]
theorem vh_roundL : roundL l = roundL m := by
  refine roundL_eq ⟨(roundL_over m).1, fun k h1 h2 => ?_⟩ ?_
  · rw [vh_round H]; exact (roundL_over m).2 k h1 h2
  · rw [vh_round H]; exact roundL_stop m
end
theorem vh_fits {l m : List Crt} (H : l.map (fun c => c.h) = m.map (fun c => c.h)) {c d : Crt} (hc : c.h = d.h) : fits l c = fits m d := by
  unfold fits; rw [vh_sums H, vh_wrong H, vh_taken H, hc]
theorem vh_ok {l m : List Crt} (H : l.map (fun c => c.h) = m.map (fun c => c.h)) (h : dagOk m = true) (hc : ∀ c ∈ l, crtCode c = 0) : dagOk l = true := by
  obtain ⟨h1, h2, h3⟩ := dagOk_iff.1 h
  have hl := vh_len H
  refine dagOk_iff.2 ⟨by omega, hc, fun k hk => ?_⟩
  rw [vh_fits (vh_take H k) (vh_at H hk (by omega))]
  exact h3 k (by omega)
theorem vot_crt {h : Hdr} (h0 : hdrCode h = 0) (C : Int) : crtCode ⟨h, votersL C⟩ = 0 := by
  rw [crt_of_hdr h0]
  have := voters_cases C
  generalize votersL C = l at *
  simp only [List.mem_cons, List.not_mem_nil, or_false] at this
  rcases this with rfl | rfl | rfl | rfl | rfl <;> decide
/-- What is known of a dag whose i-th certificate has other voters. -/
theorem vot_all {L : List Crt} (hok : dagOk L = true) {i : Nat} (hi : i < L.length) (C : Int) :
    let M := L.set i ⟨L[i].h, votersL C⟩
    M.length = L.length ∧ dagOk M = true ∧ crtSums M = crtSums L ∧ roundL M = roundL L ∧ (∀ c ∈ M, hdrCode c.h = 0) ∧ insCode L ⟨L[i].h, votersL C⟩ = 7 := by
  intro M
  obtain ⟨h1, h2, h3⟩ := dagOk_iff.1 hok
  have hh : hdrCode L[i].h = 0 := (crt_partsP (h2 _ (List.getElem_mem hi))).1
  have H : M.map (fun c => c.h) = L.map (fun c => c.h) := by
    show (L.set i _).map _ = _
    rw [List.map_set]
    apply List.ext_getElem
    · simp
    · intro k k1 k2
      rw [List.getElem_set]
      split
      · rename_i e; subst e; simp
      · rfl
  have hc : ∀ c ∈ M, crtCode c = 0 := fun c hc => by
    rcases List.mem_or_eq_of_mem_set hc with q | q
    · exact h2 c q
    · rw [q]; exact vot_crt hh C
  refine ⟨by simp [M], vh_ok H hok hc, vh_sums H, vh_roundL H, fun c q => (crt_partsP (hc c q)).1, ins_3 (dagCode_zero.2 hok) (vot_crt hh C) ?_⟩
  unfold takenB
  rw [List.any_eq_true]
  exact ⟨L[i], List.getElem_mem hi, by unfold isKey; simp⟩
/-- A cell of an element of a row of the call's own. -/
theorem LstV.cellOf {α : Type} {R : Rel α} {G : Nat → Prop} {base e g n cap : Nat} {w : World} {l : List α} {vals : List Value} (h : LstV R G base e w (.slice (some ⟨g, 0, none⟩) n cap) l vals) {j t : Nat} (hj : j < l.length) (ht : t < R.size) {c : Value} (hc : ((vals.drop (j * R.size)).take R.size)[t]? = some c) :
    w.cell? ⟨g, j * R.size + t, none⟩ = some c ∧ w.frozen? ⟨g, j * R.size + t, none⟩ = false := by
  obtain ⟨⟨hl, h1⟩, h2⟩ := h
  rcases h1 with ⟨h0, -⟩ | ⟨g', cap', cur, hv, hbg, hg, k1, k2, k3, k4⟩
  · simp at h0
  · simp only [Value.slice.injEq, Option.some.injEq, Addr.mk.injEq, and_true] at hv
    obtain ⟨rfl, -, rfl⟩ := hv
    rw [List.getElem?_take_of_lt ht, List.getElem?_drop] at hc
    have hle : (j + 1) * R.size ≤ l.length * R.size := Nat.mul_le_mul_right _ hj
    rw [Nat.add_mul, Nat.one_mul] at hle
    rw [← k4, List.getElem?_take_of_lt (by omega)] at hc
    refine ⟨?_, by simp [World.frozen?, hg]⟩
    simp [World.cell?, hg]
    simpa using hc
theorem LstV.setCrt {G : Nat → Prop} {base e g n cap : Nat} {w : World} {l : List Crt} {vals : List Value} (h : LstV RCert G base e w (.slice (some ⟨g, 0, none⟩) n cap) l vals) {i : Nat} (hi : i < l.length) {V : List Int} {vv : Value} (hV : RdI (fun b => b ≠ g) w vv V) :
    RdS RCert (fun _ => True) (w.setCell ⟨g, i * 5 + 4, none⟩ vv) (.slice (some ⟨g, 0, none⟩) n cap) (l.set i ⟨l[i].h, V⟩) := by
  obtain ⟨ad, cp, hf, q1, q2, q3, -⟩ := h.o.rd (G' := fun _ => True) (by decide) (fun _ _ _ => trivial) (fun _ _ _ => trivial)
  simp only [Value.slice.injEq] at hf
  obtain ⟨rfl, rfl, rfl⟩ := hf
  have hk : Keep (fun b => b ≠ g) w (w.setCell ⟨g, i * 5 + 4, none⟩ vv) := Keep.setCell (by simp) _
  refine ⟨some ⟨g, 0, none⟩, cap, by simp, by simpa using q1, q2, by simp, fun j x hx => ?_⟩
  have hj : j < l.length := by
    rcases Nat.lt_or_ge j l.length with q | q
    · exact q
    · rw [List.getElem?_eq_none (by simpa using q)] at hx; simp at hx
  have hr := h.2 j l[j] (List.getElem?_eq_getElem hj)
  have hcell : ∀ (t : Nat), t < 5 → ∀ c : Value, ((vals.drop (j * 5)).take 5)[t]? = some c → w.cell? ⟨g, j * 5 + t, none⟩ = some c := fun t ht c hc => (h.cellOf (j := j) (t := t) hj ht hc).1
  generalize hcs : (vals.drop (j * RCert.size)).take RCert.size = cs at hr
  have hcs' : (vals.drop (j * 5)).take 5 = cs := hcs
  rw [hcs'] at hcell
  obtain ⟨vb, vp, vo, rfl, hb, hp, hv⟩ := hr
  have hk2 := hk.mono (G' := fun b => G b ∧ b < w.heap.size ∧ (Value.slice (some ⟨g, 0, none⟩) l.length cap).ownBlock ≠ some b) (fun b h => fun q => h.2.2 (by rw [q]; rfl))
  by_cases e1 : j = i
  · subst e1
    rw [List.getElem?_set_self hj] at hx
    obtain rfl := Option.some.inj hx
    refine ⟨g, 0, [.int .i64 l[j].h.a, .int .i64 l[j].h.r, vb, vp, vv], rfl, trivial, fun t c ht => ?_, vb, vp, vv, rfl, hb.keep hk2 (fun _ _ => trivial), hp.keep hk2 (fun _ _ => trivial), hV.keep hk (fun _ _ => trivial)⟩
    rw [Nat.zero_add]
    show (w.setCell ⟨g, j * 5 + 4, none⟩ vv).cell? ⟨g, j * 5 + t, none⟩ = some c
    match t, ht with
    | 0, ht => simp at ht; subst ht; exact (World.cell?_setCell_other _ _ _ _ (by simp)).trans (hcell 0 (by omega) _ rfl)
    | 1, ht => simp at ht; subst ht; exact (World.cell?_setCell_other _ _ _ _ (by simp)).trans (hcell 1 (by omega) _ rfl)
    | 2, ht => simp at ht; subst ht; exact (World.cell?_setCell_other _ _ _ _ (by simp)).trans (hcell 2 (by omega) _ rfl)
    | 3, ht => simp at ht; subst ht; exact (World.cell?_setCell_other _ _ _ _ (by simp)).trans (hcell 3 (by omega) _ rfl)
    | 4, ht => simp at ht; subst ht; exact World.cell?_setCell_same _ _ _ (hcell 4 (by omega) _ rfl)
  · rw [List.getElem?_set_ne (by omega), List.getElem?_eq_getElem hj] at hx
    obtain rfl := Option.some.inj hx
    refine ⟨g, 0, _, rfl, trivial, fun t c ht => ?_, vb, vp, vo, rfl, hb.keep hk2 (fun _ _ => trivial), hp.keep hk2 (fun _ _ => trivial), hv.keep hk2 (fun _ _ => trivial)⟩
    rw [Nat.zero_add]
    have ht5 : t < 5 := by
      rcases Nat.lt_or_ge t 5 with q | q
      · exact q
      · rw [List.getElem?_eq_none (by simpa using q)] at ht; simp at ht
    refine (World.cell?_setCell_other (w := w) _ _ _ (show (⟨g, i * 5 + 4, none⟩ : Addr) ≠ ⟨g, j * 5 + t, none⟩ from fun q => ?_)).trans (hcell t ht5 _ ht)
    simp only [Addr.mk.injEq, true_and, and_true] at q
    omega
end Go.Proofs.YtlailhhffejbbaaDoor
