/- TagEmpty: the walk. -/
import Derived.Test.YtdfnnahhgbhmeaaDoorTagLaw
import Derived.Test.YtdfnnahhgbhmeaaDoorSameB
import Derived.Test.YtdfnnahhgbhmeaaDoorLib4
set_option linter.unusedVariables false
set_option linter.unusedSimpArgs false
namespace Go.Proofs.YtdfnnahhgbhmeaaDoor
open Go Go.RowKit

theorem ownsRow_grownE {w w' : World} {base e size n : Nat} {v : Value} {xs : List Value} {row : Option Nat} (h : w.ownsRow base e size v n xs) (hg : w.grownBy w' row) (hr : ∀ k, row = some k → v.ownBlock ≠ some k) : w'.ownsRow base e size v n xs := by
  obtain ⟨h1, h2⟩ := h
  refine ⟨h1, ?_⟩
  rcases h2 with h2 | ⟨g, cap, cur, rfl, hb, hh, r⟩
  · exact Or.inl h2
  · refine Or.inr ⟨g, cap, cur, rfl, hb, ?_, r⟩
    rw [hg.block g (lt_of_block hh) (fun e => by have := hr g e.symm; simp [Value.ownBlock] at this)]; exact hh
theorem rdBB_nils {G : Nat → Prop} {w : World} {base e k : Nat} {v : Value} (h : w.ownsRow base e 1 v k (List.replicate k (Value.slice none 0 0))) (hG : ∀ b, base ≤ b → G b) : RdBB G w v (List.replicate k []) := by
  have h1 : RdS (flat (fun _ : Bytes => Value.slice none 0 0)) G w v (List.replicate k []) := RdS.of_owns (n := k) (by simpa using h) hG
  obtain ⟨ad, cap, rfl, a1, a2, a0, a3⟩ := h1
  refine ⟨ad, cap, rfl, a1, a2, a0, fun j x hx => ?_⟩
  obtain ⟨b, o, cs, ha, hb, hc, hr⟩ := a3 j x hx
  have hx0 : x = [] := List.eq_of_mem_replicate (List.mem_of_getElem? hx)
  subst hx0
  exact ⟨b, o, cs, ha, hb, hc, .slice none 0 0, hr, RdS.nil _ _ _⟩
def nilsL (tag : UInt8) (k : Nat) : Bytes := tag :: List.replicate (2 * k) 0
theorem nilsL_length (tag : UInt8) (k : Nat) : (nilsL tag k).length = 1 + 2 * k := by simp [nilsL]; omega
theorem nilsL_next (tag : UInt8) (k : Nat) : nilsL tag (k + 1) = nilsL tag k ++ [0, 0] := by
  unfold nilsL
  rw [show 2 * (k + 1) = 2 * k + 2 by omega, ← List.replicate_append_replicate]; rfl
theorem tagGo_nils (tag : UInt8) : ∀ (k j : Nat), j + k ≤ 20 → tagGo (nilsL tag j) (List.replicate k []) = some (nilsL tag (j + k))
  | 0, j, _ => rfl
  | k + 1, j, h => by
    rw [List.replicate_succ, tagGo_part (by rw [nilsL_length]; simp; omega), show nilsL tag j ++ partL [] = nilsL tag (j + 1) by rw [nilsL_next]; rfl, tagGo_nils tag k (j + 1) (by omega)]
    congr 2; omega
theorem elemBBe : ElemOk Tryd.prog 35 22 1 24 := elemOk_of (z := .slice none 0 0) (by kernel_rfl) (by kernel_rfl) rfl (by decide)
set_option maxRecDepth 100000 in
set_option maxHeartbeats 4000000 in
theorem tagEmpty_walk (tag : UInt8) (n : Int) (w : World) (n1 : -9223372036854775808 ≤ n) (n2 : n ≤ 9223372036854775807) (ht : Tabs w) :
    Calls Tryd.prog 7 #[.int .u8 (tag.toNat : Int), .int .i64 n] w fun e w' => e = .returned (.bool true) ∧ Below w.heap.size w w' := by
  obtain ⟨p1, p2⟩ := pickedZ_range n 20 (by omega)
  obtain ⟨k, hk⟩ : ∃ k : Nat, pickedZ n 20 = (k : Int) := ⟨(pickedZ n 20).toNat, by omega⟩
  have HP := Lib.hid hk
  have k0 : k < 20 := by omega
  have HT := Lib.hid ht
  have HG := Lib.hid (show tagGo [tag] (List.replicate k []) = some (nilsL tag k) by have := tagGo_nils tag k 0 (by omega); rwa [Nat.zero_add] at this)
  have hl := nilsL_length tag k
  have HC1 := Lib.hid (tagC_some HG.out)
  have HD1 := Lib.hid (tagD_some HG.out)
  have HC2 := Lib.hid (sumC_ok (l := nilsL tag k) (by omega))
  have HD2 := Lib.hid (sumD_ok (l := nilsL tag k) (by omega))
  have HL := Lib.hid (sumL_length (nilsL tag k))
  clear hk ht p1 p2 hl
  go_enter Tryd.func7, Tryd.ntmps7
  go_wp2_with (go_at_call 17; refine (picked_any _ _ _ n1 n2 (by omega) (by omega)).mono ?_; rintro e w' ⟨rfl, rfl⟩; rw [HP.out])
  go_loopw [6, 7, 8] (fun vp vl i wr => ∃ j : Nat, j ≤ k ∧ i = .int .i64 j ∧ wr.ownsRow w.heap.size 22 1 vp j (List.replicate j (Value.slice none 0 0)) ∧ wr.ownsRow w.heap.size 5 1 vl (1 + 2 * j) (byteVs (nilsL tag j)) ∧ (∀ b, vp.ownBlock = some b → vl.ownBlock ≠ some b) ∧ Below w.heap.size w wr) (fun _ _ i _ => k - (intOf i).toNat)
  case atStart => exact ⟨0, Nat.zero_le _, rfl, World.ownsRow_nil _ _ _ _, lit_ownsN w [.int .u8 (tag.toNat : Int)] 5, fun b hb => by simp [Value.ownBlock] at hb, (Below.refl _ _).alloc (Nat.le_refl _) _⟩
  case round =>
    obtain ⟨j, hj, rfl, hp, hl, hne, hB⟩ := hrel
    have HPo := Lib.hid hp
    have HLo := Lib.hid hl
    have HNE := Lib.hid hne
    have HB := Lib.hid hB
    have hz := hB.size
    obtain ⟨lad, lcap, rfl⟩ := ownsRow_form hl
    obtain ⟨pad, pcap, rfl⟩ := ownsRow_form hp
    clear hp hl hne hB
    by_cases hlt : j < k
    · have j1 : (j : Int) < (k : Int) := by omega
      have e1 := Lib.hid (show byteVs (nilsL tag (j + 1)) = byteVs (nilsL tag j) ++ [.int .u8 0, .int .u8 0] by rw [nilsL_next, byteVs_app]; rfl)
      have e2 := Lib.hid (show List.replicate (j + 1) (Value.slice none 0 0) = List.replicate j (Value.slice none 0 0) ++ [Value.slice none 0 0] from List.replicate_succ')
      go_upto_region 8 with (at_builtin; refine wpList_append_at1 rfl _ _ 35 rfl elemBBe w.heap.size _ rfl j (List.replicate j (Value.slice none 0 0)) (by exact HPo.out.alloc _) _ rfl 1 [.slice none 0 0] (by exact slCells_new wr [_] _ 1 rfl) (by simp [Value.oneCell']) (by decide) (by unfold maxLen; omega) (by omega) (by simp; omega) (wr.heap.size + 1) (by simp) ?_; intro g cap w1 hown1 hgr1 hat1 hlt1)
      have hl1 := ownsRow_grownE (HLo.out.alloc _) hgr1 (fun q hq => HNE.out q hq)
      have hlk := fun q hq => (HLo.out.lt q hq).2
      have hne1 : ∀ q, (Value.slice lad (1 + 2 * j) lcap).ownBlock = some q → q ≠ g := fun q hq e => by
        rcases hat1 with h | h
        · exact HNE.out g h (e ▸ hq)
        · have := hlk q hq; omega
      have HB1 := Lib.hid ((HB.out.alloc hz _).grown hgr1 (by simp; omega) (ownBlock_ge HPo.out))
      have HP1 := Lib.hid hown1
      have HL1 := Lib.hid hl1
      have HNE1 := Lib.hid hne1
      have HLT1 := Lib.hid hlt1
      clear hl1 hlk hne1 hown1 hgr1 hat1 hlt1
      go_wp2_with (at_builtin; refine wpList_append_at1 rfl _ _ 22 rfl elemB w.heap.size _ rfl (1 + 2 * j) (byteVs (nilsL tag j)) (by exact HL1.out.alloc _) _ rfl 2 [.int .u8 0, .int .u8 0] (by exact (BoxAt.new w1 [_, _] _).slCellsN rfl) (by simp [Value.oneCell']) (by decide) (by unfold maxLen; omega) (by omega) (by have := HB1.out.size; simp; omega) (w1.heap.size + 1) (by simp) ?_; intro g2 cap2 w2 hown2 hgr2 hat2 hlt2)
      have hp2 := ownsRow_grownE (HP1.out.alloc _) hgr2 (fun q hq e => HNE1.out q hq (by simpa [Value.ownBlock] using e.symm))
      have hne2 : ∀ q, (Value.slice (some ⟨g, 0, none⟩) (j + 1) cap).ownBlock = some q → (Value.slice (some ⟨g2, 0, none⟩) (1 + 2 * j + 2) cap2).ownBlock ≠ some q := fun q hq e => by
        have q1 : g = q := by simpa [Value.ownBlock] using hq
        have q2 : g2 = q := by simpa [Value.ownBlock] using e
        rcases hat2 with h | h
        · exact HNE1.out g2 h (by omega)
        · have := HLT1.out; omega
      have hB2 : Below w.heap.size w w2 := (HB1.out.alloc HB1.out.size _).grown hgr2 (by have := HB1.out.size; simp; omega) (ownBlock_ge HL1.out)
      go_roundw
      case rel => exact ⟨j + 1, by omega, by go_num, by rw [e2.out]; exact hp2, by rw [e1.out, show 1 + 2 * (j + 1) = 1 + 2 * j + 2 by omega]; exact hown2, hne2, hB2⟩
      case measure => simp [intOf]; omega
    · obtain rfl : j = k := by omega
      have HRP := Lib.hid (rdBB_nils (G := fun _ => True) HPo.out (fun _ _ => trivial))
      have hRL : RdB (fun _ => True) wr (.slice lad (1 + 2 * j) lcap) (nilsL tag j) := RdS.of_owns (n := 1 + 2 * j) (base := w.heap.size) (e := 5) HLo.out (fun _ _ => trivial)
      have HRL := Lib.hid (hRL.low (by decide))
      have HTr := Lib.hid (HT.out.belowS HB.out)
      clear hRL
      go_wp2_with fail
      refine (Tagged_any tag (List.replicate j []) _ wr HRP.out HTr.out).mono ?_
      rw [HC1.out, HD1.out]
      rintro e w3 ⟨x3, rfl, hR3, hb3⟩
      have HB3 := Lib.hid (HB.out.trans (hb3.mono hz))
      have HX3 := Lib.hid (hR3.low (by decide))
      have HRL3 := Lib.hid (HRL.out.keep (G' := fun _ => True) (Keep.below hb3) (fun _ _ => trivial))
      obtain ⟨xad, xcap, rfl, -, -⟩ := hR3.form
      rw [HL.out]
      clear hR3 hb3
      go_wp2_with fail
      refine (Sum_any (nilsL tag j) _ w3 HRL3.out (HT.out.belowS HB3.out)).mono ?_
      rw [HC2.out, HD2.out]
      rintro e w4 ⟨y4, rfl, hR4, hb4⟩
      have HB4 := Lib.hid (HB3.out.trans (hb4.mono HB3.out.size))
      have HX4 := HX3.out.keep (G' := fun _ => True) (Keep.below hb4) (fun _ _ => trivial)
      have HY4 := hR4
      obtain ⟨yad, ycap, rfl, -, -⟩ := hR4.form
      rw [HL.out] at HX4 HY4 ⊢
      have KX := Lib.hid HX4
      have KY := Lib.hid HY4
      clear hR4 hb4 HX4 HY4 HX3 HRL3
      go_wp2_with fail
      refine (same_any (l := sumL (nilsL tag j)) (m := sumL (nilsL tag j)) _ _ _ KX.out KY.out).mono ?_
      rintro e w' ⟨rfl, rfl⟩
      rw [decide_eq_true (rfl : sumL (nilsL tag j) = sumL (nilsL tag j))]
      go_wp2
      go_ret
      exact ⟨rfl, HB4.out⟩
end Go.Proofs.YtdfnnahhgbhmeaaDoor
