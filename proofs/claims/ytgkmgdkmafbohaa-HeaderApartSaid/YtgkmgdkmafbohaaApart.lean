/- Batches that differ have other bytes: the plain law. No program is named. -/
import Derived.Test.YtgkmgdkmafbohaaEncC
import Derived.Test.YtgkmgdkmafbohaaBatch
set_option linter.unusedVariables false
set_option linter.unusedSimpArgs false
namespace Go.Proofs.Ytgkmgdkmafbohaa
open Go Go.RowKit

theorem byteZ_inj {a b : Int} (a0 : 0 ≤ a) (a1 : a < 256) (b0 : 0 ≤ b) (b1 : b < 256) (h : byteZ a = byteZ b) : a = b := by
  have := congrArg (fun u : UInt8 => (u.toNat : Int)) h
  simp only [byteZ_toNat] at this
  omega
theorem putTxs_cons (t : Bytes) (l : List Bytes) : putTxs (t :: l) = byteZ t.length :: (t ++ putTxs l) := rfl
theorem putTxs_inj : ∀ {l m : List Bytes}, (∀ t ∈ l, txLen t = true) → (∀ t ∈ m, txLen t = true) → putTxs l = putTxs m → l = m
  | [], [], _, _, _ => rfl
  | [], t :: m, _, _, h => by simp [putTxs] at h
  | t :: l, [], _, _, h => by simp [putTxs] at h
  | t :: l, s :: m, h1, h2, h => by
    rw [putTxs_cons, putTxs_cons] at h
    simp only [List.cons.injEq] at h
    have ht := h1 t (by simp)
    have hs := h2 s (by simp)
    unfold txLen at ht hs
    simp only [decide_eq_true_eq] at ht hs
    have hl : t.length = s.length := by have := byteZ_inj (by omega) (by omega) (by omega) (by omega) h.1; omega
    obtain ⟨e1, e2⟩ := List.append_inj h.2 hl
    rw [e1, putTxs_inj (fun x hx => h1 x (by simp [hx])) (fun x hx => h2 x (by simp [hx])) e2]
theorem bundle_inj {a n a' n' : Int} {l m : List Bytes} (a0 : 0 ≤ a) (a1 : a < 4) (n0 : 1 ≤ n) (n1 : n ≤ 9) (b0 : 0 ≤ a') (b1 : a' < 4) (m0 : 1 ≤ n') (m1 : n' ≤ 9) (h1 : ∀ t ∈ l, txLen t = true) (h2 : ∀ t ∈ m, txLen t = true) :
    (encL ⟨0, 0, 1, ⟨a, n, l⟩, hdr0, slt0, crt0, 0⟩ = encL ⟨0, 0, 1, ⟨a', n', m⟩, hdr0, slt0, crt0, 0⟩) ↔ (a = a' ∧ n = n' ∧ l = m) := by
  constructor
  · intro h
    have h' : byteZ 1 :: byteZ 0 :: byteZ 0 :: byteZ a :: byteZ (n / 65536) :: byteZ (n / 256) :: byteZ n :: byteZ l.length :: putTxs l = byteZ 1 :: byteZ 0 :: byteZ 0 :: byteZ a' :: byteZ (n' / 65536) :: byteZ (n' / 256) :: byteZ n' :: byteZ m.length :: putTxs m := h
    simp only [List.cons.injEq, true_and] at h'
    obtain ⟨e1, -, -, e2, -, e3⟩ := h'
    exact ⟨byteZ_inj (by omega) (by omega) (by omega) (by omega) e1, byteZ_inj (by omega) (by omega) (by omega) (by omega) e2, putTxs_inj h1 h2 e3⟩
  · rintro ⟨rfl, rfl, rfl⟩; rfl
theorem bundle_dec {a n a' n' : Int} {l m : List Bytes} (a0 : 0 ≤ a) (a1 : a < 4) (n0 : 1 ≤ n) (n1 : n ≤ 9) (b0 : 0 ≤ a') (b1 : a' < 4) (m0 : 1 ≤ n') (m1 : n' ≤ 9) (h1 : ∀ t ∈ l, txLen t = true) (h2 : ∀ t ∈ m, txLen t = true) :
    decide (encL ⟨0, 0, 1, ⟨a, n, l⟩, hdr0, slt0, crt0, 0⟩ = encL ⟨0, 0, 1, ⟨a', n', m⟩, hdr0, slt0, crt0, 0⟩) = decide (a = a' ∧ n = n' ∧ l = m) := by
  rw [decide_eq_decide]; exact bundle_inj a0 a1 n0 n1 b0 b1 m0 m1 h1 h2
end Go.Proofs.Ytgkmgdkmafbohaa
