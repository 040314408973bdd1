/- What decode answers: plain laws. -/
import Derived.Test.YtegdpjoncjmdeaaBas
import Derived.Test.YtegdpjoncjmdeaaEncC
set_option linter.unusedVariables false
set_option linter.unusedSimpArgs false
namespace Go.Proofs.Ytegdpjoncjmdeaa
open Go Go.RowKit

theorem body_k (m : Msg) (r : Rdr) : (Rdr.body m r).1.k = m.k := by
  unfold Rdr.body
  split
  · rfl
  split
  · rfl
  split
  · rfl
  split
  · rfl
  split
  · rfl
  · rfl
theorem decM_k (l : Bytes) : (decM l).1.k = decK l := body_k _ _
theorem batCode_ne3 (b : Bat) : batCode b ≠ 3 := by
  unfold batCode
  split
  · decide
  split
  · decide
  split
  · decide
  · decide
theorem hdrCode_ne3 (h : Hdr) : hdrCode h ≠ 3 := by
  unfold hdrCode
  split
  · decide
  split
  · decide
  split
  · rcases digGo_form_at h.bs [] with e | e | e <;> (unfold digCode; rw [e]; decide)
  split
  · rcases digGo_form_at h.ps [] with e | e | e <;> (unfold digCode; rw [e]; decide)
  split
  · decide
  · decide
theorem votGo_ne3 : ∀ (l : List Int) (o : Option Int), votGo o l ≠ 3
  | [], o => by unfold votGo; decide
  | v :: t, none => by
    have ih := votGo_ne3 t (some v)
    unfold votGo
    cases nodeOk v
    · rw [if_pos rfl]; decide
    · rw [if_neg (by decide)]; exact ih
  | v :: t, some u => by
    have ih := votGo_ne3 t (some v)
    unfold votGo
    cases nodeOk v
    · rw [if_pos rfl]; decide
    · rw [if_neg (by decide)]
      by_cases h : decide (v ≤ u) = true
      · rw [if_pos h]; decide
      · rw [if_neg h]; exact ih
theorem sltCode_ne3 (a r : Int) (n : Nat) : sltCode a r n ≠ 3 := by
  unfold sltCode
  split
  · decide
  split
  · decide
  · decide
theorem crtCode_ne3 (c : Crt) : crtCode c ≠ 3 := by
  unfold crtCode
  split
  · exact hdrCode_ne3 _
  split
  · decide
  split
  · exact votGo_ne3 _ _
  split
  · decide
  · decide
theorem msgPart_ne3 (m : Msg) : msgPart m ≠ 3 := by
  unfold msgPart
  split
  · exact batCode_ne3 _
  split
  · exact hdrCode_ne3 _
  split
  · exact sltCode_ne3 _ _ _
  split
  · exact crtCode_ne3 _
  split
  · decide
  · decide
theorem msgCode_ne3 (m : Msg) (h1 : 1 ≤ m.k) (h2 : m.k ≤ 5) : msgCode m ≠ 3 := by
  unfold msgCode
  split
  · decide
  split
  · omega
  split
  · exact msgPart_ne3 _
  split
  · decide
  · decide
theorem decK_cons (k : UInt8) (l : Bytes) : decK (k :: l) = (k.toNat : Int) := by
  unfold decK Rdr.num
  rw [Rdr.take_ok (by unfold Rdr.ends; simp)]
  simp [numL]
/-- KindBad's law. -/
theorem decode_kind (k : UInt8) (l : Bytes) (h : l.length ≤ 50) : decide ((decode (k :: l)).2 = 3) = decide (k.toNat < 1 ∨ 5 < k.toNat) := by
  have hk := decK_cons k l
  have hm := decM_k (k :: l)
  have hl : (k :: l).length = l.length + 1 := rfl
  unfold decode
  rw [if_neg (by omega)]
  by_cases h1 : k.toNat < 1 ∨ 5 < k.toNat
  · rw [if_pos ⟨by omega, by omega⟩, decide_eq_true h1]; rfl
  · rw [if_neg (by omega)]
    have : decide (k.toNat < 1 ∨ 5 < k.toNat) = false := by simp only [decide_eq_false_iff_not]; exact h1
    rw [this]
    simp only [decide_eq_false_iff_not]
    split
    · decide
    split
    · decide
    split
    · exact msgCode_ne3 _ (by omega) (by omega)
    · show ¬ (0 : Int) = 3
      decide
end Go.Proofs.Ytegdpjoncjmdeaa
