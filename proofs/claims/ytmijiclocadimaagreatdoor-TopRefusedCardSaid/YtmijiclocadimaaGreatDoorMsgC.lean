/- wire.Check: what it computes, of every message. -/
import Derived.Test.YtmijiclocadimaaGreatDoorMsgK
set_option linter.unusedVariables false
set_option linter.unusedSimpArgs false
namespace Go.Proofs.YtmijiclocadimaaGreatDoor
open Go Go.RowKit

theorem wcheck_any {G : Nat → Prop} (m : Msg) (v : MV) (w : World) (h : RdM G w v m) (ok : MsgOk m) :
    Calls Tryz.prog 73 #[.agg (msgCells m v).toArray] w fun e w' => e = .returned (.int .i64 (msgCode m)) ∧ Below w.heap.size w w' := by
  obtain ⟨f, t, k, ⟨ba, bn, txs⟩, ⟨ha, hr, bs, ps⟩, ⟨sa, sr, sd⟩, ⟨⟨ca, cr, cb, cp⟩, vs⟩, r⟩ := m
  obtain ⟨x1, x2, x3, x4, x5, x6, x7⟩ := v
  obtain ⟨h1, h2, h3, h4, h5, h6, h7⟩ := h
  obtain ⟨o1, o2, o3⟩ := ok
  obtain ⟨a1, c1, rfl, -, -⟩ := h1.form
  obtain ⟨a2, c2, rfl, -, -⟩ := h2.form
  obtain ⟨a3, c3, rfl, -, -⟩ := h3.form
  obtain ⟨a4, c4, rfl, -, -⟩ := h4.form
  obtain ⟨a5, c5, rfl, -, -⟩ := h5.form
  obtain ⟨a6, c6, rfl, -, -⟩ := h6.form
  obtain ⟨a7, c7, rfl, -, -⟩ := h7.form
  simp only at h1 h2 h3 h4 h5 h6 h7 o1 o2 o3
  unfold msgCode msgCells
  simp only
  by_cases e : nodeOk f = false ∨ nodeOk t = false
  · rw [if_pos e]
    exact wcheck_bad f t k ba bn a1 _ c1 ha hr a2 _ c2 a3 _ c3 sa sr a4 _ c4 ca cr a5 _ c5 a6 _ c6 a7 _ c7 r w 2 (.inl ⟨e, rfl⟩)
  rw [if_neg e]
  have e1 : nodeOk f = true := by cases q : nodeOk f; exact absurd (.inl q) e; rfl
  have e2 : nodeOk t = true := by cases q : nodeOk t; exact absurd (.inr q) e; rfl
  by_cases hk : k < 1 ∨ 5 < k
  · rw [if_pos hk]
    exact wcheck_bad f t k ba bn a1 _ c1 ha hr a2 _ c2 a3 _ c3 sa sr a4 _ c4 ca cr a5 _ c5 a6 _ c6 a7 _ c7 r w 3 (.inr ⟨e1, e2, hk, rfl⟩)
  rw [if_neg hk]
  obtain rfl | rfl | rfl | rfl | rfl : k = 1 ∨ k = 2 ∨ k = 3 ∨ k = 4 ∨ k = 5 := by omega
  · exact wcheck_1 f t ba bn a1 c1 ha hr a2 _ c2 a3 _ c3 sa sr a4 _ c4 ca cr a5 _ c5 a6 _ c6 a7 _ c7 r w e1 e2 h1 o1 o2 o3
  · exact wcheck_2 f t ba bn a1 _ c1 ha hr a2 c2 a3 c3 sa sr a4 _ c4 ca cr a5 _ c5 a6 _ c6 a7 _ c7 r w e1 e2 h2 h3 (by decide) o3
  · exact wcheck_3 (G := G) f t ba bn a1 _ c1 ha hr a2 _ c2 a3 _ c3 sa sr a4 _ c4 ca cr a5 _ c5 a6 _ c6 a7 _ c7 r w e1 e2 o2 o3
  · exact wcheck_4 f t ba bn a1 _ c1 ha hr a2 _ c2 a3 _ c3 sa sr a4 _ c4 ca cr a5 c5 a6 c6 a7 c7 r w e1 e2 h5 h6 h7 o2 (by decide)
  · exact wcheck_5 (G := G) f t ba bn a1 _ c1 ha hr a2 _ c2 a3 _ c3 sa sr a4 _ c4 ca cr a5 _ c5 a6 _ c6 a7 _ c7 r w e1 e2 o2 o3
end Go.Proofs.YtmijiclocadimaaGreatDoor
