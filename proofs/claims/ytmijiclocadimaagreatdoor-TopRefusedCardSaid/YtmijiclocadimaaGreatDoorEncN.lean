/- How long a message's bytes are. -/
import Derived.Test.YtmijiclocadimaaGreatDoorEncC
import Derived.Test.YtmijiclocadimaaGreatDoorBatLaw
import Derived.Test.YtmijiclocadimaaGreatDoorHdrLaw
set_option linter.unusedVariables false
set_option linter.unusedSimpArgs false
attribute [local go_sem ↓] Go.wp_at_zero Go.wp_at_succ
namespace Go.Proofs.YtmijiclocadimaaGreatDoor
open Go Go.RowKit

theorem putTxs_len20N (l : List Bytes) (h : ∀ t ∈ l, t.length ≤ 20) : (putTxs l).length ≤ 21 * l.length := by
  unfold putTxs
  induction l with
  | nil => simp
  | cons t l ih =>
    have := ih (fun x hx => h x (by simp [hx]))
    have h0 := h t (by simp)
    simp only [List.map_cons, List.flatten_cons, List.length_append, List.length_cons]
    omega
theorem digestsL_lenN (l : List Bytes) (h : ∀ d ∈ l, d.length = 32) : (putDigestsL l).length = 1 + 32 * l.length := by
  unfold putDigestsL
  rw [List.length_cons, flatten_len h]; omega
theorem headerL_lenN {b : Hdr} (h : hdrCode b = 0) : (putHeaderL b).length ≤ 230 := by
  obtain ⟨h1, h2, h3, h4, h5, h6⟩ := hdrCode_iff h
  unfold putHeaderL
  have e1 := digestsL_lenN b.bs ((digCode_zero _).1 h5).1
  have e2 := digestsL_lenN b.ps ((digCode_zero _).1 h6).1
  simp only [List.length_cons, List.length_append, e1, e2, wideL, List.length_nil]
  omega
theorem encL_lenN {m : Msg} (h : msgCode m = 0) : 4 ≤ (encL m).length ∧ (encL m).length ≤ 300 := by
  obtain ⟨h1, h2, h3, h4, h5, h6⟩ := msgCode_iff h
  have : 1 ≤ (bodyL m).length ∧ (bodyL m).length ≤ 290 := by
    unfold bodyL
    unfold msgPart at h5
    split
    · rename_i q
      rw [if_pos q] at h5
      obtain ⟨-, -, a3, a4, a5⟩ := batCode_iff h5
      have := putTxs_len20N m.b.txs (fun t ht => by have := a5 t ht; simp [txLen] at this; omega)
      simp only [putBatchL, wideL, List.length_cons, List.length_append, List.length_nil]
      omega
    split
    · rename_i q1 q
      rw [if_neg q1, if_pos q] at h5
      have := headerL_lenN h5
      simp only [putHeaderL, List.length_cons] at *
      omega
    split
    · rename_i q2 q1 q
      rw [if_neg q2, if_neg q1, if_pos q] at h5
      obtain ⟨-, -, a3⟩ := sltCode_iff h5
      simp only [wideL, List.length_cons, List.length_append, List.length_nil]
      omega
    split
    · rename_i q3 q2 q1 q
      rw [if_neg q3, if_neg q2, if_neg q1, if_pos q] at h5
      obtain ⟨a1, a2, -, -⟩ := crtCode_iff h5
      have := headerL_lenN a1
      simp only [List.length_cons, List.length_append, List.length_map]
      omega
    · simp [wideL]
  unfold encL
  simp only [List.length_cons]
  omega
end Go.Proofs.YtmijiclocadimaaGreatDoor
