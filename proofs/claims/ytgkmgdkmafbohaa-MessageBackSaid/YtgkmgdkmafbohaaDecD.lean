/- What wire.Decode reads, as plain functions on bytes. No program is named. -/
import Derived.Test.YtgkmgdkmafbohaaMsgD
set_option linter.unusedVariables false
set_option linter.unusedSimpArgs false
namespace Go.Proofs.Ytgkmgdkmafbohaa
open Go Go.RowKit

structure Rdr where
  rest : Bytes
  short : Bool
def Rdr.ends (r : Rdr) (n : Nat) : Bool := r.short || decide (r.rest.length < n)
def Rdr.take (r : Rdr) (n : Nat) : Bytes × Rdr := if r.ends n = true then ([], ⟨r.rest, true⟩) else (r.rest.take n, ⟨r.rest.drop n, false⟩)
/-- Bytes as a number. -/
def numL (l : Bytes) : Int := l.foldl (fun n c => n * 256 + (c.toNat : Int)) 0
def Rdr.num (r : Rdr) (n : Nat) : Int × Rdr := (numL (r.take n).1, (r.take n).2)
/-- So many, each read by f, till they end too early. -/
def Rdr.many {α : Type} (f : Rdr → α × Rdr) : Nat → Rdr → List α × Rdr
  | 0, r => ([], r)
  | k + 1, r => if r.short = true then ([], r) else ((f r).1 :: (Rdr.many f k (f r).2).1, (Rdr.many f k (f r).2).2)
def Rdr.text (r : Rdr) : Bytes × Rdr := (r.num 1).2.take (r.num 1).1.toNat
def Rdr.list {α : Type} (f : Rdr → α × Rdr) (r : Rdr) : List α × Rdr := Rdr.many f (r.num 1).1.toNat (r.num 1).2
def Rdr.batch (r : Rdr) : Bat × Rdr :=
  (⟨(r.num 1).1, ((r.num 1).2.num 3).1, (Rdr.list Rdr.text ((r.num 1).2.num 3).2).1⟩, (Rdr.list Rdr.text ((r.num 1).2.num 3).2).2)
def Rdr.digests (r : Rdr) : List Bytes × Rdr := Rdr.list (fun r => r.take 32) r
def Rdr.header (r : Rdr) : Hdr × Rdr :=
  let a := r.num 1
  let n := a.2.num 3
  let b := n.2.digests
  let p := b.2.digests
  (⟨a.1, n.1, b.1, p.1⟩, p.2)
def msg0 : Msg := ⟨0, 0, 0, bat0, hdr0, slt0, crt0, 0⟩
def Rdr.slot (r : Rdr) : Slt × Rdr :=
  let a := r.num 1
  let n := a.2.num 3
  let d := n.2.take 32
  (⟨a.1, n.1, d.1⟩, d.2)
def Rdr.cert (r : Rdr) : Crt × Rdr :=
  let h := r.header
  let v := Rdr.list (fun r => r.num 1) h.2
  (⟨h.1, v.1⟩, v.2)
/-- The body of a message of a kind. -/
def Rdr.body (m : Msg) (r : Rdr) : Msg × Rdr :=
  if m.k = 1 then ({ m with b := r.batch.1 }, r.batch.2) else if m.k = 2 then ({ m with h := r.header.1 }, r.header.2) else if m.k = 3 then ({ m with s := r.slot.1 }, r.slot.2)
  else if m.k = 4 then ({ m with c := r.cert.1 }, r.cert.2) else if m.k = 5 then ({ m with r := (r.num 3).1 }, (r.num 3).2) else (m, r)
/-- The message and what is left, before it is checked. -/
def decM (b : Bytes) : Msg × Rdr :=
  let r0 : Rdr := ⟨b, false⟩
  let k := r0.num 1
  let f := k.2.num 1
  let t := f.2.num 1
  Rdr.body { msg0 with k := k.1, f := f.1, t := t.1 } t.2
def decK (b : Bytes) : Int := ((⟨b, false⟩ : Rdr).num 1).1
/-- What wire.Decode answers. -/
def decode (b : Bytes) : Msg × Int :=
  if 4000 < b.length then (msg0, 1)
  else if 0 < b.length ∧ (decK b < 1 ∨ 5 < decK b) then (msg0, 3)
  else if (decM b).2.short = true ∨ b.length = 0 then (msg0, 5)
  else if 0 < (decM b).2.rest.length then (msg0, 4)
  else if msgCode (decM b).1 ≠ 0 then (msg0, msgCode (decM b).1)
  else ((decM b).1, 0)

/-! ### Small facts -/
theorem numL_nil : numL [] = 0 := rfl
theorem numL_snoc (l : Bytes) (c : UInt8) : numL (l ++ [c]) = numL l * 256 + (c.toNat : Int) := by unfold numL; rw [List.foldl_append]; rfl
theorem numL_fold : ∀ (l : Bytes) (a : Int), 0 ≤ a → 0 ≤ l.foldl (fun n c => n * 256 + (c.toNat : Int)) a ∧ l.foldl (fun n c => n * 256 + (c.toNat : Int)) a < (a + 1) * 256 ^ l.length
  | [], a, h => by simp; omega
  | c :: l, a, h => by
    have hc : c.toNat < 256 := c.toNat_lt
    have ih := numL_fold l (a * 256 + (c.toNat : Int)) (by omega)
    simp only [List.foldl_cons, List.length_cons]
    refine ⟨ih.1, Int.lt_of_lt_of_le ih.2 ?_⟩
    rw [Int.pow_succ, Int.mul_comm (256 ^ l.length) 256, ← Int.mul_assoc]
    exact Int.mul_le_mul_of_nonneg_right (by omega) (Int.pow_nonneg (by decide))
theorem numL_bound (l : Bytes) : 0 ≤ numL l ∧ numL l < 256 ^ l.length := by
  have h := numL_fold l 0 (Int.le_refl _)
  simpa [numL] using h
theorem Rdr.take_ends {r : Rdr} {n : Nat} (h : r.ends n = true) : r.take n = ([], ⟨r.rest, true⟩) := by unfold Rdr.take; rw [if_pos h]
theorem Rdr.take_ok {r : Rdr} {n : Nat} (h : r.ends n = false) : r.take n = (r.rest.take n, ⟨r.rest.drop n, false⟩) := by unfold Rdr.take; rw [if_neg (by simp [h])]
theorem Rdr.ends_iff {r : Rdr} {n : Nat} : r.ends n = false ↔ r.short = false ∧ n ≤ r.rest.length := by unfold Rdr.ends; simp
theorem Rdr.take_len (r : Rdr) (n : Nat) : (r.take n).1.length ≤ n := by
  unfold Rdr.take
  split
  · exact Nat.zero_le _
  · exact List.length_take_le _ _
theorem Rdr.take_rest (r : Rdr) (n : Nat) : (r.take n).2.rest.length ≤ r.rest.length := by
  unfold Rdr.take
  split
  · exact Nat.le_refl _
  · show (r.rest.drop n).length ≤ _
    rw [List.length_drop]; omega
theorem Rdr.num_rest (r : Rdr) (n : Nat) : (r.num n).2.rest.length ≤ r.rest.length := r.take_rest n
theorem pow256_le (a c : Nat) : (256 : Int) ^ a ≤ 256 ^ (a + c) := by
  induction c with
  | zero => exact Int.le_refl _
  | succ c ih =>
    have hp : (0 : Int) < 256 ^ (a + c) := Int.pow_pos (by decide)
    rw [show a + (c + 1) = (a + c) + 1 by omega, Int.pow_succ]
    omega
theorem Rdr.num_bound (r : Rdr) (n : Nat) : 0 ≤ (r.num n).1 ∧ (r.num n).1 < 256 ^ n := by
  have h := numL_bound (r.take n).1
  have h2 : (256 : Int) ^ (r.take n).1.length ≤ 256 ^ n := by
    have := pow256_le (r.take n).1.length (n - (r.take n).1.length)
    rwa [show (r.take n).1.length + (n - (r.take n).1.length) = n by have := r.take_len n; omega] at this
  exact ⟨h.1, by show numL (r.take n).1 < _; omega⟩
theorem Rdr.many_zero {α : Type} (f : Rdr → α × Rdr) (r : Rdr) : Rdr.many f 0 r = ([], r) := rfl
theorem Rdr.many_short {α : Type} (f : Rdr → α × Rdr) (k : Nat) (r : Rdr) (h : r.short = true) : Rdr.many f k r = ([], r) := by
  cases k
  · rfl
  · unfold Rdr.many; rw [if_pos h]
theorem Rdr.many_next {α : Type} (f : Rdr → α × Rdr) (k : Nat) (r : Rdr) (h : r.short = false) : Rdr.many f (k + 1) r = ((f r).1 :: (Rdr.many f k (f r).2).1, (Rdr.many f k (f r).2).2) := by
  rw [Rdr.many, if_neg (by simp [h])]
theorem Rdr.many_len {α : Type} (f : Rdr → α × Rdr) : ∀ (k : Nat) (r : Rdr), (Rdr.many f k r).1.length ≤ k
  | 0, r => by simp [Rdr.many_zero]
  | k + 1, r => by
    cases h : r.short
    · rw [Rdr.many_next f k r h]; simpa using Rdr.many_len f k _
    · rw [Rdr.many_short f _ r h]; simp
end Go.Proofs.Ytgkmgdkmafbohaa
