/- What Insert, Missing and Digests tell of a dag of raw numbers: plain laws. -/
import Derived.Test.YtpfmmncnhlfdgaaDoorGrown
import Derived.Test.YtpfmmncnhlfdgaaDoorLateLaw
import Derived.Test.YtpfmmncnhlfdgaaDoorHdrLaw
set_option linter.unusedVariables false
set_option linter.unusedSimpArgs false
attribute [local go_sem ↓] Go.wp_at_zero Go.wp_at_succ
namespace Go.Proofs.YtpfmmncnhlfdgaaDoor
open Go Go.RowKit

theorem first_code : insCode [] (stpC [] 0 stp1) = 0 := by
  have hr : stpR [] stp1 = 1 := by unfold stpR; rw [roundL_nil, if_neg (by decide)]
  have hp : stpP [] stp1 = [] := by unfold stpP; rw [hr, if_neg (by decide)]
  have hn : stpN stp1 = 1 := by decide
  have hh : stpH [] 0 stp1 = ⟨0, 1, [batSum (stpB 0 stp1 0)], []⟩ := by
    unfold stpH; rw [hr, hp, hn]
    simp [stpBs, show pickedZ stp1.a 4 = 0 by decide]
  have hc : stpC [] 0 stp1 = ⟨⟨0, 1, [batSum (stpB 0 stp1 0)], []⟩, [0, 1, 2]⟩ := by unfold stpC; rw [hh]
  rw [hc]
  exact ins_one dagOk_nil (crt_one (by decide) (by simp) ((digCode_zero _).2 ⟨fun d hd => by rw [List.mem_singleton.1 hd]; exact batSum_length _, by simp⟩) (by decide) (by decide) (by decide)) rfl rfl (by simp)
theorem dagTo_mono (l : List Stp) (n : Nat) : ∀ m, n ≤ m → (dagTo l n).length ≤ (dagTo l m).length
  | 0, h => by obtain rfl : n = 0 := by omega
               exact Nat.le_refl _
  | m + 1, h => by
    rcases Nat.lt_or_ge m n with q | q
    · obtain rfl : n = m + 1 := by omega
      exact Nat.le_refl _
    · have h1 := dagTo_mono l n m q
      have h2 : (dagTo l m).length ≤ (dagTo l (m + 1)).length := by
        show _ ≤ (dagStep (dagTo l m) m (l.getD m stpZ)).length
        unfold dagStep; split <;> simp
      omega
theorem grown_pos (l : List Stp) : 0 < (grownL l).length := by
  have h1 : (dagTo (stp1 :: l) 1).length = 1 := by
    show (dagStep [] 0 stp1).length = 1
    unfold dagStep; rw [if_pos first_code]; rfl
  have h2 := dagTo_mono (stp1 :: l) 1 (stpMany (stp1 :: l)) (by unfold stpMany; simp; omega)
  show 0 < (dagTo (stp1 :: l) (stpMany (stp1 :: l))).length
  omega
theorem grown_len (l : List Stp) : (grownL l).length ≤ 24 := dagL_len _
theorem grown_none (l : List Stp) {r : Int} (h : r < 1 ∨ 9 < r) : (digsL (grownL l) r).length = 0 := by
  rw [digsL_len, ofL_len (dagOk_solo (grown_ok l))]
  rw [List.length_eq_zero_iff]
  unfold roundOf
  rw [List.filter_eq_nil_iff]
  intro c hc
  have := dagL_round (stp1 :: l) c hc
  simp
  omega
/-- What is there already: with other batches, too. -/
theorem grown_twice (l : List Stp) {c : Crt} (hc : c ∈ grownL l) : insCode (grownL l) c = 7 :=
  ins_3 (dagCode_zero.2 (grown_ok l)) ((dagOk_iff.1 (grown_ok l)).2.1 c hc) (taken_mem hc rfl rfl)
theorem crt_other {c : Crt} {d : Bytes} (hc : crtCode c = 0) (hd : d.length = 32) : crtCode ⟨⟨c.h.a, c.h.r, [d], c.h.ps⟩, c.vs⟩ = 0 := by
  have h1 := (crt_partsP hc).1
  have hh : hdrCode ⟨c.h.a, c.h.r, [d], c.h.ps⟩ = 0 := by
    unfold hdrCode at h1 ⊢
    by_cases q1 : nodeOk c.h.a = false ∨ countOk c.h.r = false
    · rw [if_pos q1] at h1; exact absurd h1 (by decide)
    · rw [if_neg q1] at h1
      by_cases q2 : 3 < c.h.bs.length ∨ 4 < c.h.ps.length
      · rw [if_pos q2] at h1; exact absurd h1 (by decide)
      · rw [if_neg q2] at h1
        by_cases q3 : digCode c.h.bs = 0
        · rw [if_neg (by simp [q3])] at h1
          rw [if_neg q1, if_neg (by simp; omega), if_neg (by rw [(digCode_zero [d]).2 ⟨fun x hx => by rw [List.mem_singleton.1 hx]; exact hd, by simp⟩]; simp)]
          exact h1
        · rw [if_pos (by simpa using q3)] at h1; exact absurd h1 q3
  unfold crtCode at hc ⊢
  rw [if_neg (by simp [h1])] at hc
  rw [if_neg (by simp [hh])]
  exact hc
theorem grown_other (l : List Stp) {c : Crt} {d : Bytes} (hc : c ∈ grownL l) (hd : d.length = 32) : insCode (grownL l) ⟨⟨c.h.a, c.h.r, [d], c.h.ps⟩, c.vs⟩ = 7 :=
  ins_3 (dagCode_zero.2 (grown_ok l)) (crt_other ((dagOk_iff.1 (grown_ok l)).2.1 c hc) hd) (taken_mem (h := ⟨c.h.a, c.h.r, [d], c.h.ps⟩) hc rfl rfl)
/-- A certificate with one voter. -/
theorem few_code {l : List Crt} {h : Hdr} {u : Int} (hok : dagOk l = true) (hh : hdrCode h = 0) (hu : nodeOk u = true) : insCode l ⟨h, [u]⟩ = 10 := by
  have hc : crtCode ⟨h, [u]⟩ = 10 := by
    unfold crtCode
    rw [if_neg (by simp [hh]), if_neg (by simp), if_neg (by simp [votGo, hu]), if_pos (by simp)]
  rw [ins_2 (dagCode_zero.2 hok) (by rw [hc]; decide), hc]
theorem vot_node1 (C : Int) : ∃ u, (votersL C).take 1 = [u] ∧ nodeOk u = true := by
  have h3 := voters_len3 C
  have hm : ∀ u ∈ votersL C, nodeOk u = true := by
    intro u hu
    unfold votersL at hu
    have := (List.mem_filter.1 hu).1
    simp only [List.mem_cons, List.not_mem_nil, or_false] at this
    rcases this with rfl | rfl | rfl | rfl <;> decide
  rcases h : votersL C with _ | ⟨u, t⟩
  · rw [h] at h3; simp at h3
  · exact ⟨u, rfl, hm u (by rw [h]; simp)⟩
theorem mis_range (l : List Crt) (h : Hdr) : misCode l ⟨-1, h.r, h.bs, h.ps⟩ = 2 := by
  have hc : hdrCode ⟨-1, h.r, h.bs, h.ps⟩ = 2 := by unfold hdrCode; rw [if_pos (.inl (by simp [nodeOk]))]
  rw [(mis_1 (l := l) (by rw [hc]; decide)).1, hc]
end Go.Proofs.YtpfmmncnhlfdgaaDoor
