/- A dag of raw numbers: what it is: plain laws. -/
import Derived.Test.YtpfmmncnhlfdgaaDoorDagM
import Derived.Test.YtpfmmncnhlfdgaaDoorSome0
set_option linter.unusedVariables false
set_option linter.unusedSimpArgs false
namespace Go.Proofs.YtpfmmncnhlfdgaaDoor
open Go Go.RowKit

/-- A step in raw numbers. -/
structure Stp where
  a : Int
  p : Int
  b : Int
def stpZ : Stp := ⟨0, 0, 0⟩
/-- The digests of a round, by authors. -/
def digsL (l : List Crt) (r : Int) : List Bytes := (ofL l r).map crtSum
theorem digsL_len (l : List Crt) (r : Int) : (digsL l r).length = (ofL l r).length := by simp [digsL]
theorem digsL_le (l : List Crt) (r : Int) : (digsL l r).length ≤ 4 := by rw [digsL_len]; exact ofL_len4 r
theorem digsL_32 {l : List Crt} {r : Int} {d : Bytes} (h : d ∈ digsL l r) : d.length = 32 := by
  obtain ⟨c, -, rfl⟩ := List.mem_map.1 h; exact hdrSum_length _
/-- The round of a step. -/
def stpR (l : List Crt) (s : Stp) : Int := if pickedZ s.p 4 = 3 ∧ 1 < roundL l then roundL l - 1 else roundL l
/-- Its parents. -/
def stpP (l : List Crt) (s : Stp) : List Bytes :=
  if 1 < stpR l s then (if 3 < (digsL l (stpR l s - 1)).length ∧ pickedZ s.p 3 = 1 then (digsL l (stpR l s - 1)).drop 1 else digsL l (stpR l s - 1)) else []
/-- Its batches. -/
def stpB (i : Nat) (s : Stp) (k : Nat) : Bat := ⟨pickedZ s.a 4, 1 + 3 * (i : Int) + (k : Int), [[byteZ (97 + (i : Int))], [byteZ (65 + pickedZ s.b 7), byteZ (48 + (k : Int))]]⟩
def stpBs (i : Nat) (s : Stp) (k : Nat) : List Bat := (List.range k).map (stpB i s)
def stpN (s : Stp) : Nat := (pickedZ s.b 3).toNat
theorem stpN_le (s : Stp) : stpN s ≤ 2 := by have := pickedZ_range s.b 3 (by omega); unfold stpN; omega
theorem stpBs_len (i : Nat) (s : Stp) (k : Nat) : (stpBs i s k).length = k := by simp [stpBs]
theorem stpBs_succ (i : Nat) (s : Stp) (k : Nat) : stpBs i s (k + 1) = stpBs i s k ++ [stpB i s k] := by unfold stpBs; rw [List.range_succ, List.map_append]; rfl
theorem stpB_ok {i : Nat} (hi : i < 24) (s : Stp) {k : Nat} (hk : k < 2) : batCode (stpB i s k) = 0 := by
  obtain ⟨p1, p2⟩ := pickedZ_range s.a 4 (by omega)
  unfold batCode
  have h1 : nodeOk (stpB i s k).a = true := by show nodeOk (pickedZ s.a 4) = true; unfold nodeOk; exact decide_eq_true ⟨p1, p2⟩
  have h2 : countOk (stpB i s k).n = true := by show countOk (1 + 3 * (i : Int) + (k : Int)) = true; unfold countOk; exact decide_eq_true (by omega)
  rw [if_neg (by simp [h1, h2]), if_neg (by simp [stpB]), if_pos (by simp [stpB, txLen])]
def stpH (l : List Crt) (i : Nat) (s : Stp) : Hdr := ⟨pickedZ s.a 4, stpR l s, (stpBs i s (stpN s)).map batSum, stpP l s⟩
def stpC (l : List Crt) (i : Nat) (s : Stp) : Crt := ⟨stpH l i s, [0, 1, 2]⟩
def dagStep (l : List Crt) (i : Nat) (s : Stp) : List Crt := if insCode l (stpC l i s) = 0 then l ++ [stpC l i s] else l
/-- The dag behind so many steps, and its batches. -/
def dagTo (l : List Stp) : Nat → List Crt
  | 0 => []
  | n + 1 => dagStep (dagTo l n) n (l.getD n stpZ)
def batTo (l : List Stp) : Nat → List Bat
  | 0 => []
  | n + 1 => batTo l n ++ stpBs n (l.getD n stpZ) (stpN (l.getD n stpZ))
def stpMany (l : List Stp) : Nat := min l.length 24
def dagL (l : List Stp) : List Crt := dagTo l (stpMany l)
def dagBs (l : List Stp) : List Bat := batTo l (stpMany l)
theorem dagStep_ok {l : List Crt} (h : dagOk l = true) (i : Nat) (s : Stp) : dagOk (dagStep l i s) = true := by
  unfold dagStep
  split
  · rename_i h0; exact insCode_zero h0
  · exact h
theorem dagTo_ok (l : List Stp) : ∀ n, dagOk (dagTo l n) = true
  | 0 => dagOk_nil
  | n + 1 => dagStep_ok (dagTo_ok l n) _ _
theorem dagStep_len (l : List Crt) (i : Nat) (s : Stp) : (dagStep l i s).length ≤ l.length + 1 := by unfold dagStep; split <;> simp
theorem dagTo_len (l : List Stp) : ∀ n, (dagTo l n).length ≤ n
  | 0 => by simp [dagTo]
  | n + 1 => by have h1 := dagTo_len l n; have h2 := dagStep_len (dagTo l n) n (l.getD n stpZ); show (dagStep (dagTo l n) n (l.getD n stpZ)).length ≤ n + 1; omega
theorem batTo_len (l : List Stp) : ∀ n, (batTo l n).length ≤ 2 * n
  | 0 => by simp [batTo]
  | n + 1 => by have h1 := batTo_len l n; have h2 := stpN_le (l.getD n stpZ); simp only [batTo, List.length_append, stpBs_len]; omega
theorem batTo_ok (l : List Stp) : ∀ n, n ≤ 24 → ∀ b ∈ batTo l n, batCode b = 0
  | 0, _ => by simp [batTo]
  | n + 1, hn => by
    intro b hb
    rcases List.mem_append.1 hb with hb | hb
    · exact batTo_ok l n (by omega) b hb
    · obtain ⟨k, hk, rfl⟩ := List.mem_map.1 hb
      have := stpN_le (l.getD n stpZ)
      exact stpB_ok (by omega) _ (by have := List.mem_range.1 hk; omega)
theorem dagL_ok (l : List Stp) : dagOk (dagL l) = true := dagTo_ok l _
theorem dagL_len (l : List Stp) : (dagL l).length ≤ 24 := by have := dagTo_len l (stpMany l); unfold dagL stpMany at *; omega
/-- Every certificate of it is of the round that was next, or of the one ahead. -/
theorem stpR_range (l : List Crt) (s : Stp) : 1 ≤ stpR l s ∧ stpR l s ≤ roundL l := by
  have := roundL_pos l
  unfold stpR
  split
  · rename_i h; have := h.2; omega
  · omega
theorem dagTo_round (l : List Stp) : ∀ n, n ≤ 24 → ∀ c ∈ dagTo l n, 1 ≤ c.h.r ∧ c.h.r ≤ 9
  | 0, _ => by simp [dagTo]
  | n + 1, hn => by
    intro c hc
    have hc' : c ∈ dagStep (dagTo l n) n (l.getD n stpZ) := hc
    unfold dagStep at hc'
    split at hc'
    · rcases List.mem_append.1 hc' with h | h
      · exact dagTo_round l n (by omega) c h
      · rw [List.mem_singleton.1 h]
        have h1 := stpR_range (dagTo l n) (l.getD n stpZ)
        have h2 := roundL_le (dagTo l n)
        have h3 := dagTo_len l n
        show 1 ≤ stpR (dagTo l n) (l.getD n stpZ) ∧ stpR (dagTo l n) (l.getD n stpZ) ≤ 9
        omega
    · exact dagTo_round l n (by omega) c hc'
theorem dagL_round (l : List Stp) : ∀ c ∈ dagL l, 1 ≤ c.h.r ∧ c.h.r ≤ 9 := dagTo_round l _ (by unfold stpMany; omega)
end Go.Proofs.YtpfmmncnhlfdgaaDoor
