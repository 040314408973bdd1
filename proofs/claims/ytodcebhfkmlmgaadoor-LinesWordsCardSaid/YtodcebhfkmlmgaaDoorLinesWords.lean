/- LinesWords: the walk. -/
import Derived.Test.YtodcebhfkmlmgaaDoorWordL
set_option linter.unusedVariables false
set_option linter.unusedSimpArgs false
namespace Go.Proofs.YtodcebhfkmlmgaaDoor
open Go Go.RowKit

theorem rdB_one {w : World} {T : TypeId} (D : UInt8) {z : Int} (h : (D.toNat : Int) = z) : RdB (fun _ => True) (w.alloc (.cells #[.int .u8 z] T)) (.slice (some ⟨w.heap.size, 0, none⟩) 1 1) [D] := by
  subst h
  refine ⟨_, 1, rfl, Nat.le_refl _, by unfold maxLen; decide, fun h => by simp at h, fun j x hx => ⟨w.heap.size, 0, [.int .u8 x.toNat], rfl, trivial, fun t c ht => ?_, rfl⟩⟩
  match j, hx with
  | 0, hx =>
    match t, ht with
    | 0, ht =>
      simp at hx ht; subst hx ht
      exact (BoxAt.new w [.int .u8 (D.toNat : Int)] T).cell 0 rfl
set_option maxRecDepth 100000 in
set_option maxHeartbeats 8000000 in
theorem linesWords_walk (n p : Int) (w : World) (n1 : -9223372036854775808 ≤ n) (n2 : n ≤ 9223372036854775807) (p1 : -9223372036854775808 ≤ p) (p2 : p ≤ 9223372036854775807) (ht : TabR w) :
    Calls Tryd.prog 5 #[.int .i64 n, .int .i64 p] w fun e w' => e = .returned (.bool true) ∧ Below w.heap.size w w' := by
  have HTR := Lib.hid ht
  clear ht
  obtain ⟨r1, r2⟩ := pickedZ_range n 4 (by omega)
  obtain ⟨d, hd⟩ : ∃ d : Nat, (d : Int) = pickedZ n 4 := ⟨(pickedZ n 4).toNat, by omega⟩
  rw [← hd] at r1 r2
  have HK := Lib.hid hd.symm
  clear hd r1
  obtain ⟨q1, q2⟩ := pickedZ_range p 10 (by omega)
  obtain ⟨e, he⟩ : ∃ e : Nat, (e : Int) = pickedZ p 10 := ⟨(pickedZ p 10).toNat, by omega⟩
  rw [← he] at q1 q2
  have HE := Lib.hid he.symm
  clear he q1
  have d4 : d < 4 := by omega
  have e10 : e < 10 := by omega
  have HW := Lib.hid (word_read ⟨d, d4⟩ ⟨e, e10⟩)
  simp only at HW
  obtain ⟨D, hD⟩ : ∃ D : UInt8, D = UInt8.ofNat (48 + d) := ⟨_, rfl⟩
  obtain ⟨E, hE⟩ : ∃ E : UInt8, E = UInt8.ofNat (48 + e) := ⟨_, rfl⟩
  rw [← hD, ← hE] at HW
  have HDn := Lib.hid (show (D.toNat : Int) = 48 + d by rw [hD, UInt8.toNat_ofNat']; omega)
  have HEn := Lib.hid (show (E.toNat : Int) = 48 + e by rw [hE, UInt8.toNat_ofNat']; omega)
  clear hD hE
  go_enter Tryd.func5, Tryd.ntmps5
  go_upto_region 2 with (go_at_call 13; refine (picked_any n 4 _ n1 n2 (by omega) (by omega)).mono ?_; rintro e w' ⟨rfl, rfl⟩; rw [HK.out])
  go_upto_region 3 with (go_at_call 13; refine (picked_any p 10 _ p1 p2 (by omega) (by omega)).mono ?_; rintro e w' ⟨rfl, rfl⟩; rw [HE.out])
  clear HK HE
  go_upto_region 4 with (refine wpList_bytes_str rfl 36 9 (.tmp 21) rfl Tryd.underlying36 Tryd.underlying5 Tryd.underlying9 _ rfl _ (rdB_one D HDn.out) ?_)
  obtain ⟨w1, hw1⟩ : ∃ w1 : World, w1 = w.alloc (.cells #[.int .u8 (48 + (d : Int))] 5) := ⟨_, rfl⟩
  have HB1 := Lib.hid (show Below w.heap.size w w1 by rw [hw1]; exact (Below.refl _ _).alloc (Nat.le_refl _) _)
  rw [← hw1]
  clear hw1
  go_upto_region 5 with (refine wpList_bytes_str rfl 36 9 (.tmp 26) rfl Tryd.underlying36 Tryd.underlying5 Tryd.underlying9 _ rfl _ (rdB_one E HEn.out) ?_)
  obtain ⟨w2, hw2⟩ : ∃ w2 : World, w2 = w1.alloc (.cells #[.int .u8 (48 + (e : Int))] 5) := ⟨_, rfl⟩
  have HB := Lib.hid (show Below w.heap.size w w2 by rw [hw2]; exact HB1.out.alloc HB1.out.size _)
  rw [← hw2]
  clear HB1
  clear hw2 HDn HEn
  go_wp2_with fail
  rw [wordT_cat]
  refine (lread_any (wordT D E) _ (by have := wordT_len D E; omega) (HTR.out.belowS HB.out)).mono ?_
  rintro e' w3 ⟨v3, rfl, hrd, hb_s⟩
  rw [HW.out] at hrd ⊢
  obtain ⟨ad3, cap3, rfl, -, hm3⟩ := hrd.form
  replace HB := Lib.hid (HB.out.trans (hb_s.mono HB.out.size))
  have HG := Lib.hid (hrd.mono (G' := fun _ => True) (fun _ _ => trivial))
  unfold maxLen at hm3
  have hl10 : (wordA (d : Int) (e : Int)).length = 10 := rfl
  rw [hl10] at HG ⊢
  clear hrd hb_s HW
  go_wp2_with fail
  go_loop [13] (fun i => ∃ k : Nat, k ≤ 10 ∧ i = .int .i64 k) (fun i => 10 - (intOf i).toNat)
  case atStart => exact ⟨0, by omega, rfl⟩
  case round =>
    obtain ⟨k, hk, rfl⟩ := hrel
    by_cases hlt : k < 10
    · have k0 : (0 : Int) ≤ (k : Int) := by omega
      have k1 : (k : Int) < 10 := by omega
      have w1k : IntKind.i64.wrap (1 + (k : Int)) = 1 + (k : Int) := IntWalk.i64_in _ (by omega)
      have wk : IntKind.i64.wrap ((k : Int) + 1) = (k : Int) + 1 := IntWalk.i64_in _ (by omega)
      obtain ⟨bg, og, rfl, y0, -, -, -⟩ := HG.out.act k (by rw [hl10]; exact hlt)
      rw [wordA_k _ _ k hlt] at y0
      go_wp2
      exact ⟨⟨k + 1, by omega, by go_num⟩, by simp [intOf]; omega⟩
    · obtain rfl : k = 10 := by omega
      obtain ⟨bg, og, rfl, -, -, -, x3⟩ := HG.out.act 0 (by rw [hl10]; omega)
      obtain ⟨bg2, og2, hq, -, -, y3, -⟩ := HG.out.act 3 (by rw [hl10]; omega)
      simp only [Option.some.injEq, Addr.mk.injEq, and_true] at hq
      obtain ⟨rfl, rfl⟩ := hq
      obtain ⟨bg2, og2, hq, -, z1, z2, -⟩ := HG.out.act 6 (by rw [hl10]; omega)
      simp only [Option.some.injEq, Addr.mk.injEq, and_true] at hq
      obtain ⟨rfl, rfl⟩ := hq
      obtain ⟨bg2, og2, hq, -, u1, -, -⟩ := HG.out.act 7 (by rw [hl10]; omega)
      simp only [Option.some.injEq, Addr.mk.injEq, and_true] at hq
      obtain ⟨rfl, rfl⟩ := hq
      obtain ⟨bg2, og2, hq, -, -, -, v3⟩ := HG.out.act 8 (by rw [hl10]; omega)
      simp only [Option.some.injEq, Addr.mk.injEq, and_true] at hq
      obtain ⟨rfl, rfl⟩ := hq
      simp only [wordA, List.getElem_cons_zero, List.getElem_cons_succ] at x3 y3 z1 z2 u1 v3
      go_wp2
      go_ret
      exact ⟨rfl, HB.out⟩
end Go.Proofs.YtodcebhfkmlmgaaDoor
