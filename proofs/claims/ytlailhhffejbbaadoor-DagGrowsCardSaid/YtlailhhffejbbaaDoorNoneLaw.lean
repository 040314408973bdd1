/- What Insert and Missing tell of a header that stands on nothing that is there: plain laws. -/
import Derived.Test.YtlailhhffejbbaaDoorInsLaw
import Derived.Test.YtlailhhffejbbaaDoorDOf
set_option linter.unusedVariables false
set_option linter.unusedSimpArgs false
attribute [local go_sem ↓] Go.wp_at_zero Go.wp_at_succ
namespace Go.Proofs.YtlailhhffejbbaaDoor
open Go Go.RowKit

theorem rdBB_three {G : Nat → Prop} {w : World} {B : Nat} {v v' v'' : Value} {l l' l'' : List UInt8} {T : TypeId} (hb : BoxAt w B [v, v', v''] T) (hG : G B) (h : RdB G w v l) (h' : RdB G w v' l') (h'' : RdB G w v'' l'') : RdBB G w (.slice (some ⟨B, 0, none⟩) 3 3) [l, l', l''] :=
  rdBB_box hb hG rfl rfl (by unfold maxLen; omega) (fun j u x h1 h2 => by
    match j, h1, h2 with
    | 0, h1, h2 => simp at h1 h2; subst h1 h2; exact h
    | 1, h1, h2 => simp at h1 h2; subst h1 h2; exact h'
    | 2, h1, h2 => simp at h1 h2; subst h1 h2; exact h'')
def noneH (n : Int) : Hdr := ⟨pickedZ n 4, 1000, [], [someL 1 1, someL 1 2, someL 1 3]⟩
def noneH2 (n : Int) (d : Bytes) : Hdr := ⟨pickedZ n 4, 1000, [], [d, someL 1 2, someL 1 3]⟩
theorem far_ok {n : Int} {d : Bytes} (h32 : d.length = 32) (h2 : d ≠ someL 1 2) (h3 : d ≠ someL 1 3) : hdrCode (noneH2 n d) = 0 := by
  obtain ⟨p1, p2⟩ := pickedZ_range n 4 (by omega)
  have hn : nodeOk (pickedZ n 4) = true := by unfold nodeOk; exact decide_eq_true ⟨p1, p2⟩
  have hd : digCode [d, someL 1 2, someL 1 3] = 0 := (digCode_zero _).2 ⟨fun x hx => by
    simp only [List.mem_cons, List.not_mem_nil, or_false] at hx
    rcases hx with rfl | rfl | rfl
    · exact h32
    · rfl
    · rfl, by
    have h4 : someL 1 2 ≠ someL 1 3 := someL_ne (by decide)
    simp [h2, h3, h4]⟩
  unfold hdrCode noneH2
  rw [if_neg (by simp [hn]; decide), if_neg (by simp), if_neg (by simp [digCode, digGo]), if_neg (by simp [hd]), if_neg (by simp)]
theorem far_crt {h : Hdr} (hh : hdrCode h = 0) : crtCode ⟨h, [0, 1, 2]⟩ = 0 := by
  unfold crtCode
  rw [if_neg (by simp [hh]), if_neg (by simp), if_neg (show ¬ votGo none [0, 1, 2] ≠ 0 by decide), if_neg (show ¬ ([0, 1, 2] : List Int).length < 3 by decide)]
theorem noneH_eq (n : Int) : noneH n = noneH2 n (someL 1 1) := rfl
theorem noneH_ok (n : Int) : hdrCode (noneH n) = 0 := by rw [noneH_eq]; exact far_ok rfl (someL_ne (by decide)) (someL_ne (by decide))
theorem grown_far (l : List Stp) {h : Hdr} (hr : h.r = 1000) : takenB (grownL l) h = false := by
  unfold takenB
  rw [List.any_eq_false]
  intro c hc q
  unfold isKey at q
  simp only [decide_eq_true_eq] at q
  have := dagL_round (stp1 :: l) c hc
  omega
theorem none_all {l : List Stp} {n : Int} (h1 : idxP (isB (someL 1 1)) (crtSums (grownL l)) < 0) (h2 : idxP (isB (someL 1 2)) (crtSums (grownL l)) < 0) (h3 : idxP (isB (someL 1 3)) (crtSums (grownL l)) < 0) :
    insCode (grownL l) ⟨noneH n, [0, 1, 2]⟩ = 8 ∧ misCode (grownL l) (noneH n) = 0 ∧ (misL (grownL l) (noneH n)).length = 3 := by
  have hw : wrongB (grownL l) (crtSums (grownL l)) (noneH n).r (noneH n).ps = false := by
    unfold wrongB
    rw [List.any_eq_false]
    intro d hd q
    have hd' : d = someL 1 1 ∨ d = someL 1 2 ∨ d = someL 1 3 := by simpa [noneH] using hd
    unfold wrong1 at q
    simp only [Bool.and_eq_true, decide_eq_true_eq] at q
    rcases hd' with rfl | rfl | rfl <;> omega
  have hn : noneL (crtSums (grownL l)) (noneH n).ps = [someL 1 1, someL 1 2, someL 1 3] := by
    unfold noneL noneH
    simp [h1, h2, h3]
  have hm := mis_3 (l := grownL l) (noneH_ok n) hw
  refine ⟨ins_5 (dagCode_zero.2 (grown_ok l)) (far_crt (noneH_ok n)) (grown_far l rfl) hw (by show 0 < (noneL (crtSums (grownL l)) (noneH n).ps).length; rw [hn]; decide), hm.1, by rw [hm.2, hn]; rfl⟩
theorem none_wrong {l : List Stp} {n : Int} {k : Nat} (hk : k < (crtSums (grownL l)).length) (h2 : idxP (isB (someL 1 2)) (crtSums (grownL l)) < 0) (h3 : idxP (isB (someL 1 3)) (crtSums (grownL l)) < 0) :
    insCode (grownL l) ⟨noneH2 n (crtSums (grownL l))[k], [0, 1, 2]⟩ = 9 ∧ misCode (grownL l) (noneH2 n (crtSums (grownL l))[k]) = 9 := by
  have hm : (crtSums (grownL l))[k] ∈ crtSums (grownL l) := List.getElem_mem hk
  have hno : ∀ s, idxP (isB s) (crtSums (grownL l)) < 0 → (crtSums (grownL l))[k] ≠ s := fun s hs e => by
    have : 0 ≤ idxP (isB s) (crtSums (grownL l)) := idxP_ge.2 ⟨_, hm, by unfold isB; exact decide_eq_true e⟩
    omega
  have h32 : ((crtSums (grownL l))[k]).length = 32 := by
    obtain ⟨c, -, hc⟩ := List.mem_map.1 hm
    rw [← hc]; exact hdrSum_length _
  have hok := far_ok (n := n) h32 (hno _ h2) (hno _ h3)
  have hi : 0 ≤ idxP (isB (crtSums (grownL l))[k]) (crtSums (grownL l)) := idxP_ge.2 ⟨_, hm, by unfold isB; exact decide_eq_true rfl⟩
  have hw : wrongB (grownL l) (crtSums (grownL l)) (noneH2 n (crtSums (grownL l))[k]).r (noneH2 n (crtSums (grownL l))[k]).ps = true := by
    unfold wrongB
    rw [List.any_eq_true]
    refine ⟨(crtSums (grownL l))[k], by simp [noneH2], ?_⟩
    unfold wrong1
    rw [decide_eq_true hi, Bool.true_and]
    obtain ⟨j, hj, hij, -, -⟩ := idxP_at hi
    rw [hij]
    have hj' : j < (grownL l).length := by rw [crtSums_len] at hj; exact hj
    have hr := dagL_round (stp1 :: l) (grownL l)[j] (List.getElem_mem hj')
    simp [hj', noneH2]
    omega
  exact ⟨ins_4 (dagCode_zero.2 (grown_ok l)) (far_crt hok) (grown_far l rfl) hw, (mis_2 hok hw).1⟩
end Go.Proofs.YtlailhhffejbbaaDoor
