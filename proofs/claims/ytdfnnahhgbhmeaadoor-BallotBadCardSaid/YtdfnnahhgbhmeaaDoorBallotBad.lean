/- BallotBad: the walk. -/
import Derived.Test.YtdfnnahhgbhmeaaDoorTable
import Derived.Test.YtdfnnahhgbhmeaaDoorCopyL
import Derived.Test.YtdfnnahhgbhmeaaDoorMin
set_option linter.unusedVariables false
set_option linter.unusedSimpArgs false
attribute [local go_sem ↓] Go.wp_at_zero Go.wp_at_succ
namespace Go.Proofs.YtdfnnahhgbhmeaaDoor
open Go Go.RowKit

theorem elemRaw : ElemOk Tryd.prog 57 40 5 56 := elemOk_of (z := .agg #[.int .i64 0, .int .i64 0, .int .i64 0, .int .i64 0, .slice none 0 0]) (by kernel_rfl) (by kernel_rfl) rfl (by decide)
theorem RRaw_one {G : Nat → Prop} {w : World} {cs : List Value} {x : RawD} (h : RRaw.rd G w cs x) : ∀ u ∈ cs, u.oneCell' = true := by
  obtain ⟨v, rfl, hr⟩ := h
  obtain ⟨ad, cap, rfl, -, -⟩ := hr.2.2.2.2.1.form
  simp [Value.oneCell']
theorem RSlot_one {G : Nat → Prop} {w : World} {cs : List Value} {x : Slt} (h : RSlot.rd G w cs x) : ∀ u ∈ cs, u.oneCell' = true := by
  obtain ⟨v, rfl, hr⟩ := h
  obtain ⟨ad, cap, rfl, -, -⟩ := hr.form
  simp [Value.oneCell']
def raw0 : RawD := ⟨0, 0, 0, 0, []⟩
theorem raw0_rd (G : Nat → Prop) (w : World) : RRaw.rd G w [.int .i64 0, .int .i64 0, .int .i64 0, .int .i64 0, .slice none 0 0] raw0 :=
  ⟨_, rfl, by unfold i64In raw0; simp, by unfold i64In raw0; simp, by unfold i64In raw0; simp, by unfold i64In raw0; simp, RdS.nil _ _ _, fun t ht => by simp [raw0] at ht⟩
def manyL (k : Nat) : List Slt := (List.range k).map fun (i : Nat) => ⟨(i : Int) % 4, 100 + (i : Int) / 4, someL 1 1⟩
theorem manyL_succ (k : Nat) : manyL (k + 1) = manyL k ++ [⟨(k : Int) % 4, 100 + (k : Int) / 4, someL 1 1⟩] := by unfold manyL; rw [List.range_succ, List.map_append]; rfl
theorem manyL_len (k : Nat) : (manyL k).length = k := by simp [manyL]
theorem manyL_mem {k : Nat} {x : Slt} (h : x ∈ manyL k) : ∃ i : Nat, i < k ∧ x = ⟨(i : Int) % 4, 100 + (i : Int) / 4, someL 1 1⟩ := by
  unfold manyL at h
  obtain ⟨i, hi, rfl⟩ := List.mem_map.1 h
  exact ⟨i, by simpa using hi, rfl⟩
theorem manyL_keys : ∀ k : Nat, ((manyL k).map keyS).Nodup
  | 0 => by simp [manyL]
  | k + 1 => by
    rw [manyL_succ, List.map_append, List.nodup_append]
    refine ⟨manyL_keys k, by simp, fun a ha b hb => ?_⟩
    simp only [List.map_cons, List.map_nil, List.mem_singleton] at hb
    subst hb
    obtain ⟨x, hx, rfl⟩ := List.mem_map.1 ha
    obtain ⟨i, hi, rfl⟩ := manyL_mem hx
    intro e
    simp only [keyS, Prod.mk.injEq] at e
    omega
theorem castCode_many : castCode (manyL 400) (hdrOf 0 0 0) = 6 := by
  have h1 : balCode (manyL 400) = 0 := balOk_iff.2 ⟨by rw [manyL_len]; omega, fun x hx => by
    obtain ⟨i, hi, rfl⟩ := manyL_mem hx
    have e1 : nodeOk ((i : Int) % 4) = true := by unfold nodeOk; simp only [decide_eq_true_eq]; omega
    have e2 : countOk (100 + (i : Int) / 4) = true := by unfold countOk; simp only [decide_eq_true_eq]; omega
    unfold sltOk sltCode
    simp only [decide_eq_true_eq]
    rw [if_neg (by simp [e1, e2]), if_neg (by simp [someL_length])], manyL_keys 400⟩
  have hi : idxP (isAR (hdrOf 0 0 0).a (hdrOf 0 0 0).r) (manyL 400) = -1 := idxP_miss (fun j hj x hx => by
    obtain ⟨i, hi, rfl⟩ := manyL_mem (List.mem_of_getElem? hx)
    have : (hdrOf 0 0 0).r = 1 := by unfold hdrOf pickedZ; rfl
    unfold isAR
    rw [this]
    simp only [decide_eq_false_iff_not]
    omega)
  unfold castCode
  rw [if_neg (by simp [h1]), if_neg (by simp [hdrOf_ok])]
  unfold castC
  rw [hi, if_neg (by omega), if_pos (manyL_len 400)]
theorem balCode_dup {t : List Slt} {x : Slt} (hx : x ∈ t) : balCode (t ++ [x]) = 12 := by
  unfold balCode balOk
  rw [if_neg]
  simp only [decide_eq_true_eq]
  rintro ⟨_, _, h⟩
  rw [List.map_append, List.nodup_append] at h
  exact h.2.2 (keyS x) (List.mem_map_of_mem hx) (keyS x) (by simp) rfl
set_option maxRecDepth 100000 in
set_option maxHeartbeats 4000000 in
theorem ballotBad_walk (v : Value) (l : List RawD) (n : Int) (w : World) (hv : RdS RRaw (fun _ => True) w v l) (hz : l.length * 56 ≤ reachBytes) (n1 : -9223372036854775808 ≤ n) (n2 : n ≤ 9223372036854775807) (ht : Tabs w) :
    Calls Tryd.prog 11 #[v, .int .i64 n] w fun e w' => e = .returned (.bool true) ∧ Below w.heap.size w w' := by
  obtain ⟨adv, capv, rfl, -, -⟩ := hv.form
  unfold reachBytes at hz
  obtain ⟨vals, hs, ho, hc⟩ := hv.copyOf (by decide) RRaw_one 40
  have HS := Lib.hid hs
  have HO := Lib.hid ho
  have HC := Lib.hid hc
  have HT := Lib.hid ht
  have HTP := Lib.hid (tableL_pos (l := l ++ [raw0]) (by simp))
  have HTO := Lib.hid (tableL_ok (l ++ [raw0]))
  clear hs ho hc hv ht
  go_enter Tryd.func11, Tryd.ntmps11
  go_upto_region 1 with (fail)
  go_wp2_with (first
    | (at_builtin; refine wpList_append_sl (o := ⟨some 13, _, _, _, _, _⟩) rfl _ _ 57 rfl elemRaw w.heap.size (.slice none 0 0) rfl 0 [] (World.ownsRow_nil _ _ _ _) _ rfl l.length vals HS.out HO.out (by unfold maxLen; omega) (by omega) (Nat.le_refl _) ?_; intro v1 w1 hown1 hgr1; have hl1 := HC.out w w1 v1 (Below.refl _ _) hown1 hgr1; have hb1 : Below w.heap.size w w1 := (Below.refl _ _).grown hgr1 (Nat.le_refl _) (fun k hk => by simp [Value.ownBlock] at hk); obtain ⟨ad1, cap1, rfl⟩ := ownsRow_form hl1.own; have HL1 := Lib.hid hl1; have HB1 := Lib.hid hb1; have hz1 := hb1.size; clear hown1 hgr1 hl1 hb1)
    | (at_builtin; refine wpList_append_one (o := ⟨some 16, _, _, _, _, _⟩) rfl _ _ 57 rfl elemRaw w.heap.size (.slice ad1 l.length cap1) l.length vals rfl (HL1.out.alloc _).own w1.heap.size 40 [.int .i64 0, .int .i64 0, .int .i64 0, .int .i64 0, .slice none 0 0] rfl (BoxAt.new _ [_, _, _, _, _] _) rfl (by simp [Value.oneCell']) (by unfold maxLen; omega) (by omega) (by simp; omega) ?_; intro g2 cap2 w2 hown2 hgr2 hat2 hlt2; have hr2 := (HL1.out.alloc (.cells #[.int .i64 0, .int .i64 0, .int .i64 0, .int .i64 0, .slice none 0 0] 40)).dup (by decide) (by simp; omega) (raw0_rd _ _) hown2 hgr2 hat2; have hb2 : Below w.heap.size w w2 := (HB1.out.alloc hz1 _).grown hgr2 (by simp; omega) (ownBlock_ge HL1.out.own); have HR2 := Lib.hid hr2; have HB2 := Lib.hid hb2; clear hown2 hgr2 hat2 hr2 hb2))
  refine (table_any (l := l ++ [raw0]) _ _ HR2.out (HT.out.belowS HB2.out)).mono ?_
  rintro e w3 ⟨v3, rfl, h3, hb3⟩
  obtain ⟨ad3, cap3, rfl, hc31, hc32⟩ := h3.form
  generalize tableL (l ++ [raw0]) = t at *
  have HL3 := Lib.hid (h3.low (by decide))
  have HB3 := Lib.hid (HB2.out.trans (hb3.mono HB2.out.size))
  have HT3 := Lib.hid (HT.out.belowS HB3.out)
  have ht0 := HTP.out
  have hl4 := (balOk_iff.1 HTO.out).1
  have l1 : IntKind.i64.wrap ((t.length : Int) + 1) = (t.length : Int) + 1 := IntWalk.i64_in _ (by omega)
  unfold maxLen at hc32
  clear h3 hb3
  go_wp2_with fail
  refine (picked_any n ((t.length : Int) + 1) w3 n1 n2 (by omega) (by omega)).mono ?_
  rintro e w' ⟨rfl, rfl⟩
  obtain ⟨k1, k2⟩ := pickedZ_range n ((t.length : Int) + 1) (by omega)
  obtain ⟨K, hK⟩ : ∃ K : Nat, pickedZ n ((t.length : Int) + 1) = (K : Int) := ⟨(pickedZ n ((t.length : Int) + 1)).toNat, by omega⟩
  rw [hK] at k1 k2 ⊢
  clear hK
  go_wp2_with fail
  go_loopw [7, 8] (fun o i wr => ∃ (k : Nat) (ad : Option Addr) (cap : Nat), k ≤ 400 ∧ i = .int .i64 k ∧ o = .slice ad k cap ∧ LstO RSlot (fun b => w3.heap.size ≤ b) w3.heap.size 61 wr (.slice ad k cap) (manyL k) ∧ Below w3.heap.size w3 wr) (fun _ i _ => 400 - (intOf i).toNat)
  case atStart => exact ⟨0, none, 0, Nat.zero_le _, rfl, rfl, LstO.nil _ _ _ _ _, Below.refl _ _⟩
  case round =>
    obtain ⟨k, ad, cap, hk, rfl, rfl, hL, hB⟩ := hrel
    have hzr := hB.size
    have HBr := Lib.hid hB
    by_cases hlt : (k : Int) < 400
    · obtain ⟨vals4, hv4⟩ := hL.valsOf
      have HLr := Lib.hid hv4
      have HKL := Lib.hid (manyL_len k)
      have HMS := Lib.hid (manyL_succ k)
      have hvlt := hv4.lt
      clear hv4 hL hB
      go_wp2_with fail
      refine (some_any 1 1 wr (by omega) (by omega)).mono ?_
      rintro e w5 ⟨rfl, hbox5, hb5⟩
      have HL5 := Lib.hid (HLr.out.below hb5)
      have HX5 := Lib.hid (show BoxAt w5 wr.heap.size _ _ from hbox5)
      have HB5 := Lib.hid (HBr.out.trans (hb5.mono hzr))
      have s5 := hb5.size
      have s5' := HX5.out.lt
      clear hbox5 hb5
      go_wp2_with (at_builtin; refine wpList_append_one rfl _ _ 58 rfl elemSlot w3.heap.size _ k vals4 rfl (by have h := (HL5.out.alloc (.cells #[.int .i64 ((k : Int) % 4), .int .i64 (100 + (k : Int) / 4), .slice (some ⟨wr.heap.size, 0, none⟩) 32 32] 61)).own; rw [HKL.out] at h; exact h) w5.heap.size 61 [.int .i64 ((k : Int) % 4), .int .i64 (100 + (k : Int) / 4), .slice (some ⟨wr.heap.size, 0, none⟩) 32 32] rfl (BoxAt.new _ [_, _, _] _) rfl (by simp [Value.oneCell']) (by unfold maxLen; omega) (by omega) (by simp; omega) ?_; intro g cap6 w6 hown6 hgr6 hat6 hlt6)
      have hd5 := RdS.of_box (f := fun c : UInt8 => Value.int .u8 c.toNat) (l := someL 1 1) (G := fun b => w3.heap.size ≤ b ∧ b < (w5.alloc (.cells #[.int .i64 ((k : Int) % 4), .int .i64 (100 + (k : Int) / 4), .slice (some ⟨wr.heap.size, 0, none⟩) 32 32] 61)).heap.size ∧ (Value.slice ad k cap).ownBlock ≠ some b) (cap := 32) (HX5.out.alloc (.cells #[.int .i64 ((k : Int) % 4), .int .i64 (100 + (k : Int) / 4), .slice (some ⟨wr.heap.size, 0, none⟩) 32 32] 61)) ⟨hzr, by simp; omega, fun e => by have := (hvlt _ e).2; omega⟩ (Nat.le_of_eq (someL_length _ _)) (by unfold maxLen; omega)
      have hP := (HL5.out.alloc (.cells #[.int .i64 ((k : Int) % 4), .int .i64 (100 + (k : Int) / 4), .slice (some ⟨wr.heap.size, 0, none⟩) 32 32] 61)).push (x := ⟨(k : Int) % 4, 100 + (k : Int) / 4, someL 1 1⟩) ⟨_, rfl, hd5⟩ (by rw [HKL.out]; exact hown6) hgr6 hat6
      rw [HKL.out, ← HMS.out] at hP
      have HP := Lib.hid hP
      have HB6 := Lib.hid ((HB5.out.alloc HB5.out.size (.cells #[.int .i64 ((k : Int) % 4), .int .i64 (100 + (k : Int) / 4), .slice (some ⟨wr.heap.size, 0, none⟩) 32 32] 61)).grown hgr6 (by have := HB5.out.size; simp; omega) (fun k hk => (hvlt _ hk).1))
      clear hP hd5 hown6
      go_wp2
      go_roundw
      case rel => exact ⟨k + 1, some ⟨g, 0, none⟩, cap6, by omega, by go_num, rfl, HP.out, HB6.out⟩
      case measure => simp [intOf]; omega
    · obtain rfl : k = 400 := by omega
      have HM := Lib.hid (hL.rd (G' := fun b => w3.heap.size ≤ b) (by decide) (fun b h1 h2 => h1) (fun b h1 h2 => h1))
      have HMC := Lib.hid castCode_many
      have HL6 := Lib.hid (HL3.out.below hB (fun _ h => h))
      have HT6 := Lib.hid (HT3.out.belowS hB)
      have HB6 := Lib.hid (HB3.out.trans (hB.mono HB3.out.size))
      have h400 := Lib.hid (manyL_len 400)
      clear hL hB HL3 HT3 HBr
      go_wp2_with fail
      refine (header_any 0 0 0 0 (.slice none 0 0) wr (by omega) (by omega) (by omega) (by omega) (by omega) (by omega) rfl).mono ?_
      rintro e w7 ⟨adb, capb, adp, capp, rfl, hbb, hpp, hb7⟩
      have HBB := Lib.hid hbb
      have HPP := Lib.hid hpp
      have HM7 := Lib.hid (HM.out.below hb7 (fun _ h => h))
      have HL7 := Lib.hid (HL6.out.below hb7 (fun _ h => h))
      have HT7 := Lib.hid (HT6.out.belowS hb7)
      have HB7 := Lib.hid (HB6.out.trans (hb7.mono HB6.out.size))
      clear hbb hpp hb7
      go_wp2_with fail
      refine (cast_any (l := manyL 400) (hdrOf 0 0 0) _ _ _ w7 HM7.out HBB.out HPP.out HT7.out).mono ?_
      rw [HMC.out]
      rintro e w8 ⟨v8, vd8, rfl, h8, hd8, hb8⟩
      obtain ⟨ad8, cap8, rfl, -, -⟩ := h8.form
      obtain ⟨add8, capd8, rfl, -, -⟩ := hd8.form
      generalize castSlt (manyL 400) (hdrOf 0 0 0) = cs at *
      have hb9 := hb8.alloc hb8.size (.cells #[.int .i64 cs.a, .int .i64 cs.r, .slice add8 cs.d.length capd8] 61)
      have HL9 := Lib.hid ((HL7.out.below hb9 (fun _ h => h)).low (by decide))
      have HB9 := Lib.hid (HB7.out.trans (hb9.mono HB7.out.size))
      have t0 : ((t.length : Int) == 0) = false := by rw [beq_eq_false_iff_ne]; omega
      clear h8 hd8 hb8 hb9
      go_upto_region 11 with (fail)
      generalize w8.alloc (.cells #[.int .i64 cs.a, .int .i64 cs.r, .slice add8 cs.d.length capd8] 61) = w9 at *
      obtain ⟨M, hM⟩ : ∃ M : Nat, t.length = M + 1 := ⟨t.length - 1, by omega⟩
      have q1 : IntKind.i64.wrap ((t.length : Int) - 1) = (M : Int) := by rw [IntWalk.i64_in _ (by omega)]; omega
      have hR9 := HL9.out.mono (G' := fun _ => True) (fun _ _ => trivial)
      obtain ⟨valt, hs, ho, hc⟩ := hR9.copyOf (by decide) RSlot_one 61
      have HS9 := Lib.hid hs
      have HO9 := Lib.hid ho
      have HC9 := Lib.hid hc
      have hlt9 : t.length ≤ 400 := hl4
      obtain ⟨J, hJ, hJc⟩ : ∃ J : Nat, J < t.length ∧ (((M : Int) < (K : Int) ∧ J = M) ∨ (¬ (M : Int) < (K : Int) ∧ J = K)) := by
        by_cases h : (M : Int) < (K : Int)
        · exact ⟨M, by omega, .inl ⟨h, rfl⟩⟩
        · exact ⟨K, by omega, .inr ⟨h, rfl⟩⟩
      have HDUP := Lib.hid (balCode_dup (t := t) (x := t[J]) (List.getElem_mem hJ))
      obtain ⟨b, o, vx, rfl, -, y0, y1, y2, hd⟩ := hR9.slot J hJ
      obtain ⟨adx, capx, rfl, -, -⟩ := hd.form
      have HD9 := Lib.hid (hd.low (by decide))
      have j0 : (0 : Int) ≤ (J : Int) := by omega
      have j1 : (J : Int) < (t.length : Int) := by omega
      have z9 := World.block_lt_of_cell? w9 _ y0
      simp only at z9
      have hB9z := HB9.out.size
      clear hs ho hc hR9 hd
      generalize hdl : t[J].d.length = D at *
      have HE := Lib.hid (show ∀ (W : World) (P : Nat → Prop), Keep (fun b => True ∧ b < w9.heap.size) w9 W → RSlot.rd (fun b => (True ∧ b < w9.heap.size) ∨ P b) W [.int .i64 t[J].a, .int .i64 t[J].r, .slice adx D capx] t[J] from fun W P hk => ⟨_, rfl, HD9.out.keep hk (fun b hb => .inl hb)⟩)
      rcases hJc with ⟨hm, rfl⟩ | ⟨hm, rfl⟩
      · clear hM hl4
        refine wp_region_held_drew (S := fun w' => w'.cell? ⟨b, o + J * 3, none⟩ = some (.int .i64 t[J].a) ∧ w'.cell? ⟨b, o + J * 3 + 1, none⟩ = some (.int .i64 t[J].r) ∧ w'.cell? ⟨b, o + J * 3 + 2, none⟩ = some (.slice adx D capx)) (by kernel_rfl) (by exact ⟨y0, y1, y2⟩) (fun hHeld => ?_)
        refine wpAnyH_take (i := 0) (v := .slice (some ⟨b, o, none⟩) t.length cap3) rfl (by kernel_rfl) (by kernel_rfl) (by kernel_rfl) (fun _ _ _ h => h) (Or.inl ⟨by rfl, fun w hSw => ?_⟩) hHeld ?_
        · (try dsimp only at hSw); go_split_ands; go_simp; all_goals (try first | rfl | omega)
        try simp only [Act.put, List.getElem_toArray, List.getElem_cons_succ, List.getElem_cons_zero, List.setIfInBounds_toArray, List.set_cons_zero, List.set_cons_succ]
        refine wpAnyH_take (i := 2) (v := .slice (some ⟨b, o, none⟩) t.length cap3) rfl (by kernel_rfl) (by kernel_rfl) (by kernel_rfl) (fun _ _ _ h => h) (Or.inl ⟨by rfl, fun w hSw => ?_⟩) hHeld ?_
        · (try dsimp only at hSw); go_split_ands; go_simp; all_goals (try first | rfl | omega)
        try simp only [Act.put, List.getElem_toArray, List.getElem_cons_succ, List.getElem_cons_zero, List.setIfInBounds_toArray, List.set_cons_zero, List.set_cons_succ]
        refine wpAnyH_take (i := 3) (v := .int .i64 (K : Nat)) rfl (by kernel_rfl) (by kernel_rfl) (by kernel_rfl) (fun _ _ _ h => h) (Or.inl ⟨by rfl, fun w hSw => ?_⟩) hHeld ?_
        · (try dsimp only at hSw); go_split_ands; go_simp; all_goals (try first | rfl | omega)
        try simp only [Act.put, List.getElem_toArray, List.getElem_cons_succ, List.getElem_cons_zero, List.setIfInBounds_toArray, List.set_cons_zero, List.set_cons_succ]
        refine wpAnyH_take (i := 4) (v := .slice (some ⟨b, o, none⟩) t.length cap3) rfl (by kernel_rfl) (by kernel_rfl) (by kernel_rfl) (fun _ _ _ h => h) (Or.inl ⟨by rfl, fun w hSw => ?_⟩) hHeld ?_
        · (try dsimp only at hSw); go_split_ands; go_simp; all_goals (try first | rfl | omega)
        try simp only [Act.put, List.getElem_toArray, List.getElem_cons_succ, List.getElem_cons_zero, List.setIfInBounds_toArray, List.set_cons_zero, List.set_cons_succ]
        refine wpAnyH_take (i := 5) (v := .int .i64 (t.length : Nat)) rfl (by kernel_rfl) (by kernel_rfl) (by kernel_rfl) (fun _ _ _ h => h) (Or.inl ⟨by rfl, fun w hSw => ?_⟩) hHeld ?_
        · (try dsimp only at hSw); go_split_ands; go_simp; all_goals (try first | rfl | omega)
        try simp only [Act.put, List.getElem_toArray, List.getElem_cons_succ, List.getElem_cons_zero, List.setIfInBounds_toArray, List.set_cons_zero, List.set_cons_succ]
        refine wpAnyH_take (i := 6) (v := .int .i64 (J : Nat)) rfl (by kernel_rfl) (by kernel_rfl) (by kernel_rfl) (fun _ _ _ h => h) (Or.inl ⟨by rfl, fun w hSw => ?_⟩) hHeld ?_
        · (try dsimp only at hSw); go_split_ands; go_simp; all_goals (try first | rfl | omega)
        try simp only [Act.put, List.getElem_toArray, List.getElem_cons_succ, List.getElem_cons_zero, List.setIfInBounds_toArray, List.set_cons_zero, List.set_cons_succ]
        refine wpAnyH_take (i := 7) (v := .int .i64 (J : Nat)) rfl (by kernel_rfl) (by kernel_rfl) (by kernel_rfl) (fun _ _ _ h => h) (Or.inl ⟨by rfl, fun w hSw => ?_⟩) hHeld ?_
        · (try dsimp only at hSw); go_split_ands; go_simp; all_goals (try first | rfl | omega)
        try simp only [Act.put, List.getElem_toArray, List.getElem_cons_succ, List.getElem_cons_zero, List.setIfInBounds_toArray, List.set_cons_zero, List.set_cons_succ]
        refine wpAnyH_take (i := 8) (v := .pointer (some ⟨b, o + J * 3, none⟩)) rfl (by kernel_rfl) (by kernel_rfl) (by kernel_rfl) (fun _ _ _ h => h) (Or.inl ⟨by rfl, fun w hSw => ?_⟩) hHeld ?_
        · (try dsimp only at hSw); go_split_ands; go_simp; all_goals (try first | rfl | omega)
        try simp only [Act.put, List.getElem_toArray, List.getElem_cons_succ, List.getElem_cons_zero, List.setIfInBounds_toArray, List.set_cons_zero, List.set_cons_succ]
        refine wpAnyH_take (i := 9) (v := .agg #[.int .i64 t[J].a, .int .i64 t[J].r, .slice adx D capx]) rfl (by kernel_rfl) (by kernel_rfl) (by kernel_rfl) (fun _ _ _ h => h) (Or.inl ⟨by rfl, fun w hSw => ?_⟩) hHeld ?_
        · (try dsimp only at hSw); go_split_ands; go_simp; all_goals (try first | rfl | omega)
        try simp only [Act.put, List.getElem_toArray, List.getElem_cons_succ, List.getElem_cons_zero, List.setIfInBounds_toArray, List.set_cons_zero, List.set_cons_succ]
        refine wpAnyH_ready (rs := [1, 10]) (by kernel_rfl) (by simp) ?_
        refine AllReadyH.cons rfl (fun K hK => ?_) ?_
        · rw [if_pos (by rfl)]
          refine wp_append_at1 _ _ 58 (by rfl) elemSlot w9.heap.size (.slice none 0 0) 0 [] (by rfl) (World.ownsRow_nil _ _ _ _) _ t.length valt (by rfl) (by first | exact HS9.out.drew | exact HS9.out.drew.below ((Below.refl _ _).alloc (Nat.le_refl _) _)) HO9.out (by omega) (by unfold maxLen; omega) (by omega) (by simp) ?_
          intro g10 cap10 w10 hown10 hgr10 hat10 hlt10
          have hl10 := HC9.out _ w10 _ (by first | exact (Below.refl _ _).drew | exact (Below.refl _ _).drew.alloc (Nat.le_refl _) _) hown10 hgr10; simp only [Nat.zero_add] at hl10; have HL10 := Lib.hid hl10; clear hl10; simp only [Nat.zero_add]
          have kp10 : Keep (fun b => True ∧ b < w9.heap.size) w9 w10 := (by first | exact (Keep.belowB (Below.refl _ _).drew (fun _ h => h.2)).trans (Keep.grown hgr10 (fun k hk => by simp [Value.ownBlock] at hk)) | exact (Keep.belowB ((Below.refl _ _).drew.alloc (Nat.le_refl _) _) (fun _ h => h.2)).trans (Keep.grown hgr10 (fun k hk => by simp [Value.ownBlock] at hk)))
          have HB10 := Lib.hid (show Below w.heap.size w w10 from by first | exact HB9.out.drew.grown hgr10 hB9z (fun k hk => by simp [Value.ownBlock] at hk) | exact (HB9.out.drew.alloc hB9z _).grown hgr10 (by simp; omega) (fun k hk => by simp [Value.ownBlock] at hk))
          (try (have HBL10 := Lib.hid ((BoxAt.newAt w9.drew [.int .i64 t[J].a, .int .i64 t[J].r, .slice adx D capx] 61 (n := w9.heap.size) rfl).grown hgr10 (by simp [Value.ownBlock]))))
          have r0 := kp10 _ _ _ ⟨trivial, z9⟩ y0
          have r1 := kp10 _ _ _ ⟨trivial, z9⟩ y1
          have r2 := kp10 _ _ _ ⟨trivial, z9⟩ y2
          have z10 := HB10.out.size
          have zg10 : w9.heap.size ≤ w10.heap.size := (by have := hgr10.size; first | exact this | (simp at this; omega))
          have KP10 := Lib.hid kp10
          clear kp10 hown10 hgr10 hat10
          refine hK.out _ _ (by exact ⟨r0, r1, r2⟩) (fun hHeld => ?_)
          clear hK K
          try simp only [Act.put, List.getElem_toArray, List.getElem_cons_succ, List.getElem_cons_zero, List.setIfInBounds_toArray, List.set_cons_zero, List.set_cons_succ]
          refine wpAnyH_ready (rs := [10]) (by kernel_rfl) (by simp) ?_
          refine AllReadyH.cons rfl (fun K hK => ?_) ?_
          · rw [if_pos (by rfl)]
            go_simp
            refine hK.out _ _ (by exact ⟨Keep.alloc (fun _ => True) _ _ _ _ _ trivial hHeld.1, Keep.alloc (fun _ => True) _ _ _ _ _ trivial hHeld.2.1, Keep.alloc (fun _ => True) _ _ _ _ _ trivial hHeld.2.2⟩) (fun hHeld => ?_)
            clear hK K
            try simp only [Act.put, List.getElem_toArray, List.getElem_cons_succ, List.getElem_cons_zero, List.setIfInBounds_toArray, List.set_cons_zero, List.set_cons_succ]
            refine wpAnyH_ready (rs := [11]) (by kernel_rfl) (by simp) ?_
            refine AllReadyH.cons rfl (fun K hK => ?_) ?_
            · rw [if_pos (by rfl)]
              refine wp_append_one _ _ 58 (by rfl) elemSlot w9.heap.size (.slice (some ⟨g10, 0, none⟩) t.length cap10) t.length valt (by rfl) (by first | exact HL10.out.own | exact (HL10.out.alloc _).own) _ 61 [.int .i64 t[J].a, .int .i64 t[J].r, .slice adx D capx] (by rfl) (by first | exact HBL10.out | exact BoxAt.new _ [.int .i64 t[J].a, .int .i64 t[J].r, .slice adx D capx] _) rfl (by simp [Value.oneCell']) (by unfold maxLen; omega) (by omega) (by first | omega | (simp; omega)) ?_
              intro g11 cap11 w11 hown11 hgr11 hat11 hlt11
              have HR11 := Lib.hid (show RdS RSlot (fun b => (True ∧ b < w9.heap.size) ∨ w9.heap.size ≤ b) w11 (.slice (some ⟨g11, 0, none⟩) (t.length + 1) cap11) (t ++ [t[J]]) from by first | exact HL10.out.dup (by decide) zg10 (HE.out _ _ KP10.out) hown11 hgr11 hat11 | exact (HL10.out.alloc _).dup (by decide) (by simp; omega) (HE.out _ _ (KP10.out.trans (Keep.alloc _ _ _))) hown11 hgr11 hat11)
              have HB11 := Lib.hid (show Below w.heap.size w w11 from by first | exact HB10.out.grown hgr11 z10 (fun k hk => by have := (HL10.out.lt _ hk).1; omega) | exact (HB10.out.alloc z10 _).grown hgr11 (by simp; omega) (fun k hk => by have := (HL10.out.lt _ hk).1; omega))
              have kp11 : Keep (fun b => True ∧ b < w9.heap.size) w9 w11 := (by first | exact KP10.out.trans (Keep.grown hgr11 (fun k hk hb => by have := (HL10.out.lt _ hk).1; have := hb.2; omega)) | exact (KP10.out.trans (Keep.alloc _ _ _)).trans (Keep.grown hgr11 (fun k hk hb => by have := (HL10.out.lt _ hk).1; have := hb.2; omega)))
              have s0 := kp11 _ _ _ ⟨trivial, z9⟩ y0
              have s1 := kp11 _ _ _ ⟨trivial, z9⟩ y1
              have s2 := kp11 _ _ _ ⟨trivial, z9⟩ y2
              clear kp11 hown11 hgr11 hat11
              refine hK.out _ _ (by exact ⟨s0, s1, s2⟩) (fun hHeld => ?_)
              clear hK K
              try simp only [Act.put, List.getElem_toArray, List.getElem_cons_succ, List.getElem_cons_zero, List.setIfInBounds_toArray, List.set_cons_zero, List.set_cons_succ]
              refine wpAnyH_ready (rs := [12]) (by kernel_rfl) (by simp) ?_
              refine AllReadyH.cons rfl (fun K hK => ?_) ?_
              · rw [if_pos (by rfl)]
                go_simp
                go_at_call 30
                refine (bcheck_any (l := t ++ [t[J]]) _ _ HR11.out).mono ?_
                rintro e w12 ⟨rfl, hb12⟩
                rw [HDUP.out]
                have HB12 := Lib.hid (HB11.out.trans (hb12.mono HB11.out.size))
                have u0 := (hb12.cell (p := ⟨b, o + J * 3, none⟩) (World.block_lt_of_cell? _ _ s0)).trans s0
                have u1 := (hb12.cell (p := ⟨b, o + J * 3 + 1, none⟩) (World.block_lt_of_cell? _ _ s1)).trans s1
                have u2 := (hb12.cell (p := ⟨b, o + J * 3 + 2, none⟩) (World.block_lt_of_cell? _ _ s2)).trans s2
                show K _ _
                refine hK.out _ _ (by exact ⟨u0, u1, u2⟩) (fun hHeld => ?_)
                clear hK K
                try simp only [Act.put, List.getElem_toArray, List.getElem_cons_succ, List.getElem_cons_zero, List.setIfInBounds_toArray, List.set_cons_zero, List.set_cons_succ]
                refine wpAnyH_take (i := 13) (v := .bool true) rfl (by kernel_rfl) (by kernel_rfl) (by kernel_rfl) (fun _ _ _ h => h) (Or.inl ⟨by rfl, fun w hSw => ?_⟩) hHeld ?_
                · (try dsimp only at hSw); go_split_ands; go_simp; all_goals (try first | rfl | omega)
                try simp only [Act.put, List.getElem_toArray, List.getElem_cons_succ, List.getElem_cons_zero, List.setIfInBounds_toArray, List.set_cons_zero, List.set_cons_succ]
                refine wpAnyH_take (i := 14) (v := .bool true) rfl (by kernel_rfl) (by kernel_rfl) (by kernel_rfl) (fun _ _ _ h => h) (Or.inl ⟨by rfl, fun w hSw => ?_⟩) hHeld ?_
                · (try dsimp only at hSw); go_split_ands; go_simp; all_goals (try first | rfl | omega)
                try simp only [Act.put, List.getElem_toArray, List.getElem_cons_succ, List.getElem_cons_zero, List.setIfInBounds_toArray, List.set_cons_zero, List.set_cons_succ]
                refine wpAnyH_done (by kernel_rfl) ?_ _
                go_wp2
                go_ret
                exact ⟨rfl, HB12.out⟩
              exact AllReadyH.nil
            exact AllReadyH.nil
          exact AllReadyH.nil
        refine AllReadyH.cons rfl (fun K hK => ?_) ?_
        · rw [if_pos (by rfl)]
          go_simp
          refine hK.out _ _ (by exact ⟨Keep.alloc (fun _ => True) _ _ _ _ _ trivial hHeld.1, Keep.alloc (fun _ => True) _ _ _ _ _ trivial hHeld.2.1, Keep.alloc (fun _ => True) _ _ _ _ _ trivial hHeld.2.2⟩) (fun hHeld => ?_)
          clear hK K
          try simp only [Act.put, List.getElem_toArray, List.getElem_cons_succ, List.getElem_cons_zero, List.setIfInBounds_toArray, List.set_cons_zero, List.set_cons_succ]
          refine wpAnyH_ready (rs := [1]) (by kernel_rfl) (by simp) ?_
          refine AllReadyH.cons rfl (fun K hK => ?_) ?_
          · rw [if_pos (by rfl)]
            refine wp_append_at1 _ _ 58 (by rfl) elemSlot w9.heap.size (.slice none 0 0) 0 [] (by rfl) (World.ownsRow_nil _ _ _ _) _ t.length valt (by rfl) (by first | exact HS9.out.drew | exact HS9.out.drew.below ((Below.refl _ _).alloc (Nat.le_refl _) _)) HO9.out (by omega) (by unfold maxLen; omega) (by omega) (by simp) ?_
            intro g10 cap10 w10 hown10 hgr10 hat10 hlt10
            have hl10 := HC9.out _ w10 _ (by first | exact (Below.refl _ _).drew | exact (Below.refl _ _).drew.alloc (Nat.le_refl _) _) hown10 hgr10; simp only [Nat.zero_add] at hl10; have HL10 := Lib.hid hl10; clear hl10; simp only [Nat.zero_add]
            have kp10 : Keep (fun b => True ∧ b < w9.heap.size) w9 w10 := (by first | exact (Keep.belowB (Below.refl _ _).drew (fun _ h => h.2)).trans (Keep.grown hgr10 (fun k hk => by simp [Value.ownBlock] at hk)) | exact (Keep.belowB ((Below.refl _ _).drew.alloc (Nat.le_refl _) _) (fun _ h => h.2)).trans (Keep.grown hgr10 (fun k hk => by simp [Value.ownBlock] at hk)))
            have HB10 := Lib.hid (show Below w.heap.size w w10 from by first | exact HB9.out.drew.grown hgr10 hB9z (fun k hk => by simp [Value.ownBlock] at hk) | exact (HB9.out.drew.alloc hB9z _).grown hgr10 (by simp; omega) (fun k hk => by simp [Value.ownBlock] at hk))
            (try (have HBL10 := Lib.hid ((BoxAt.newAt w9.drew [.int .i64 t[J].a, .int .i64 t[J].r, .slice adx D capx] 61 (n := w9.heap.size) rfl).grown hgr10 (by simp [Value.ownBlock]))))
            have r0 := kp10 _ _ _ ⟨trivial, z9⟩ y0
            have r1 := kp10 _ _ _ ⟨trivial, z9⟩ y1
            have r2 := kp10 _ _ _ ⟨trivial, z9⟩ y2
            have z10 := HB10.out.size
            have zg10 : w9.heap.size ≤ w10.heap.size := (by have := hgr10.size; first | exact this | (simp at this; omega))
            have KP10 := Lib.hid kp10
            clear kp10 hown10 hgr10 hat10
            refine hK.out _ _ (by exact ⟨r0, r1, r2⟩) (fun hHeld => ?_)
            clear hK K
            try simp only [Act.put, List.getElem_toArray, List.getElem_cons_succ, List.getElem_cons_zero, List.setIfInBounds_toArray, List.set_cons_zero, List.set_cons_succ]
            refine wpAnyH_ready (rs := [11]) (by kernel_rfl) (by simp) ?_
            refine AllReadyH.cons rfl (fun K hK => ?_) ?_
            · rw [if_pos (by rfl)]
              refine wp_append_one _ _ 58 (by rfl) elemSlot w9.heap.size (.slice (some ⟨g10, 0, none⟩) t.length cap10) t.length valt (by rfl) (by first | exact HL10.out.own | exact (HL10.out.alloc _).own) _ 61 [.int .i64 t[J].a, .int .i64 t[J].r, .slice adx D capx] (by rfl) (by first | exact HBL10.out | exact BoxAt.new _ [.int .i64 t[J].a, .int .i64 t[J].r, .slice adx D capx] _) rfl (by simp [Value.oneCell']) (by unfold maxLen; omega) (by omega) (by first | omega | (simp; omega)) ?_
              intro g11 cap11 w11 hown11 hgr11 hat11 hlt11
              have HR11 := Lib.hid (show RdS RSlot (fun b => (True ∧ b < w9.heap.size) ∨ w9.heap.size ≤ b) w11 (.slice (some ⟨g11, 0, none⟩) (t.length + 1) cap11) (t ++ [t[J]]) from by first | exact HL10.out.dup (by decide) zg10 (HE.out _ _ KP10.out) hown11 hgr11 hat11 | exact (HL10.out.alloc _).dup (by decide) (by simp; omega) (HE.out _ _ (KP10.out.trans (Keep.alloc _ _ _))) hown11 hgr11 hat11)
              have HB11 := Lib.hid (show Below w.heap.size w w11 from by first | exact HB10.out.grown hgr11 z10 (fun k hk => by have := (HL10.out.lt _ hk).1; omega) | exact (HB10.out.alloc z10 _).grown hgr11 (by simp; omega) (fun k hk => by have := (HL10.out.lt _ hk).1; omega))
              have kp11 : Keep (fun b => True ∧ b < w9.heap.size) w9 w11 := (by first | exact KP10.out.trans (Keep.grown hgr11 (fun k hk hb => by have := (HL10.out.lt _ hk).1; have := hb.2; omega)) | exact (KP10.out.trans (Keep.alloc _ _ _)).trans (Keep.grown hgr11 (fun k hk hb => by have := (HL10.out.lt _ hk).1; have := hb.2; omega)))
              have s0 := kp11 _ _ _ ⟨trivial, z9⟩ y0
              have s1 := kp11 _ _ _ ⟨trivial, z9⟩ y1
              have s2 := kp11 _ _ _ ⟨trivial, z9⟩ y2
              clear kp11 hown11 hgr11 hat11
              refine hK.out _ _ (by exact ⟨s0, s1, s2⟩) (fun hHeld => ?_)
              clear hK K
              try simp only [Act.put, List.getElem_toArray, List.getElem_cons_succ, List.getElem_cons_zero, List.setIfInBounds_toArray, List.set_cons_zero, List.set_cons_succ]
              refine wpAnyH_ready (rs := [12]) (by kernel_rfl) (by simp) ?_
              refine AllReadyH.cons rfl (fun K hK => ?_) ?_
              · rw [if_pos (by rfl)]
                go_simp
                go_at_call 30
                refine (bcheck_any (l := t ++ [t[J]]) _ _ HR11.out).mono ?_
                rintro e w12 ⟨rfl, hb12⟩
                rw [HDUP.out]
                have HB12 := Lib.hid (HB11.out.trans (hb12.mono HB11.out.size))
                have u0 := (hb12.cell (p := ⟨b, o + J * 3, none⟩) (World.block_lt_of_cell? _ _ s0)).trans s0
                have u1 := (hb12.cell (p := ⟨b, o + J * 3 + 1, none⟩) (World.block_lt_of_cell? _ _ s1)).trans s1
                have u2 := (hb12.cell (p := ⟨b, o + J * 3 + 2, none⟩) (World.block_lt_of_cell? _ _ s2)).trans s2
                show K _ _
                refine hK.out _ _ (by exact ⟨u0, u1, u2⟩) (fun hHeld => ?_)
                clear hK K
                try simp only [Act.put, List.getElem_toArray, List.getElem_cons_succ, List.getElem_cons_zero, List.setIfInBounds_toArray, List.set_cons_zero, List.set_cons_succ]
                refine wpAnyH_take (i := 13) (v := .bool true) rfl (by kernel_rfl) (by kernel_rfl) (by kernel_rfl) (fun _ _ _ h => h) (Or.inl ⟨by rfl, fun w hSw => ?_⟩) hHeld ?_
                · (try dsimp only at hSw); go_split_ands; go_simp; all_goals (try first | rfl | omega)
                try simp only [Act.put, List.getElem_toArray, List.getElem_cons_succ, List.getElem_cons_zero, List.setIfInBounds_toArray, List.set_cons_zero, List.set_cons_succ]
                refine wpAnyH_take (i := 14) (v := .bool true) rfl (by kernel_rfl) (by kernel_rfl) (by kernel_rfl) (fun _ _ _ h => h) (Or.inl ⟨by rfl, fun w hSw => ?_⟩) hHeld ?_
                · (try dsimp only at hSw); go_split_ands; go_simp; all_goals (try first | rfl | omega)
                try simp only [Act.put, List.getElem_toArray, List.getElem_cons_succ, List.getElem_cons_zero, List.setIfInBounds_toArray, List.set_cons_zero, List.set_cons_succ]
                refine wpAnyH_done (by kernel_rfl) ?_ _
                go_wp2
                go_ret
                exact ⟨rfl, HB12.out⟩
              exact AllReadyH.nil
            exact AllReadyH.nil
          exact AllReadyH.nil
        exact AllReadyH.nil
      · clear hM hl4
        refine wp_region_held_drew (S := fun w' => w'.cell? ⟨b, o + J * 3, none⟩ = some (.int .i64 t[J].a) ∧ w'.cell? ⟨b, o + J * 3 + 1, none⟩ = some (.int .i64 t[J].r) ∧ w'.cell? ⟨b, o + J * 3 + 2, none⟩ = some (.slice adx D capx)) (by kernel_rfl) (by exact ⟨y0, y1, y2⟩) (fun hHeld => ?_)
        refine wpAnyH_take (i := 0) (v := .slice (some ⟨b, o, none⟩) t.length cap3) rfl (by kernel_rfl) (by kernel_rfl) (by kernel_rfl) (fun _ _ _ h => h) (Or.inl ⟨by rfl, fun w hSw => ?_⟩) hHeld ?_
        · (try dsimp only at hSw); go_split_ands; go_simp; all_goals (try first | rfl | omega)
        try simp only [Act.put, List.getElem_toArray, List.getElem_cons_succ, List.getElem_cons_zero, List.setIfInBounds_toArray, List.set_cons_zero, List.set_cons_succ]
        refine wpAnyH_take (i := 2) (v := .slice (some ⟨b, o, none⟩) t.length cap3) rfl (by kernel_rfl) (by kernel_rfl) (by kernel_rfl) (fun _ _ _ h => h) (Or.inl ⟨by rfl, fun w hSw => ?_⟩) hHeld ?_
        · (try dsimp only at hSw); go_split_ands; go_simp; all_goals (try first | rfl | omega)
        try simp only [Act.put, List.getElem_toArray, List.getElem_cons_succ, List.getElem_cons_zero, List.setIfInBounds_toArray, List.set_cons_zero, List.set_cons_succ]
        refine wpAnyH_take (i := 3) (v := .int .i64 (J : Nat)) rfl (by kernel_rfl) (by kernel_rfl) (by kernel_rfl) (fun _ _ _ h => h) (Or.inl ⟨by rfl, fun w hSw => ?_⟩) hHeld ?_
        · (try dsimp only at hSw); go_split_ands; go_simp; all_goals (try first | rfl | omega)
        try simp only [Act.put, List.getElem_toArray, List.getElem_cons_succ, List.getElem_cons_zero, List.setIfInBounds_toArray, List.set_cons_zero, List.set_cons_succ]
        refine wpAnyH_take (i := 4) (v := .slice (some ⟨b, o, none⟩) t.length cap3) rfl (by kernel_rfl) (by kernel_rfl) (by kernel_rfl) (fun _ _ _ h => h) (Or.inl ⟨by rfl, fun w hSw => ?_⟩) hHeld ?_
        · (try dsimp only at hSw); go_split_ands; go_simp; all_goals (try first | rfl | omega)
        try simp only [Act.put, List.getElem_toArray, List.getElem_cons_succ, List.getElem_cons_zero, List.setIfInBounds_toArray, List.set_cons_zero, List.set_cons_succ]
        refine wpAnyH_take (i := 5) (v := .int .i64 (t.length : Nat)) rfl (by kernel_rfl) (by kernel_rfl) (by kernel_rfl) (fun _ _ _ h => h) (Or.inl ⟨by rfl, fun w hSw => ?_⟩) hHeld ?_
        · (try dsimp only at hSw); go_split_ands; go_simp; all_goals (try first | rfl | omega)
        try simp only [Act.put, List.getElem_toArray, List.getElem_cons_succ, List.getElem_cons_zero, List.setIfInBounds_toArray, List.set_cons_zero, List.set_cons_succ]
        refine wpAnyH_take (i := 6) (v := .int .i64 (M : Nat)) rfl (by kernel_rfl) (by kernel_rfl) (by kernel_rfl) (fun _ _ _ h => h) (Or.inl ⟨by rfl, fun w hSw => ?_⟩) hHeld ?_
        · (try dsimp only at hSw); go_split_ands; go_simp; all_goals (try first | rfl | omega)
        try simp only [Act.put, List.getElem_toArray, List.getElem_cons_succ, List.getElem_cons_zero, List.setIfInBounds_toArray, List.set_cons_zero, List.set_cons_succ]
        refine wpAnyH_take (i := 7) (v := .int .i64 (J : Nat)) rfl (by kernel_rfl) (by kernel_rfl) (by kernel_rfl) (fun _ _ _ h => h) (Or.inl ⟨by rfl, fun w hSw => ?_⟩) hHeld ?_
        · (try dsimp only at hSw); go_split_ands; go_simp; all_goals (try first | rfl | omega)
        try simp only [Act.put, List.getElem_toArray, List.getElem_cons_succ, List.getElem_cons_zero, List.setIfInBounds_toArray, List.set_cons_zero, List.set_cons_succ]
        refine wpAnyH_take (i := 8) (v := .pointer (some ⟨b, o + J * 3, none⟩)) rfl (by kernel_rfl) (by kernel_rfl) (by kernel_rfl) (fun _ _ _ h => h) (Or.inl ⟨by rfl, fun w hSw => ?_⟩) hHeld ?_
        · (try dsimp only at hSw); go_split_ands; go_simp; all_goals (try first | rfl | omega)
        try simp only [Act.put, List.getElem_toArray, List.getElem_cons_succ, List.getElem_cons_zero, List.setIfInBounds_toArray, List.set_cons_zero, List.set_cons_succ]
        refine wpAnyH_take (i := 9) (v := .agg #[.int .i64 t[J].a, .int .i64 t[J].r, .slice adx D capx]) rfl (by kernel_rfl) (by kernel_rfl) (by kernel_rfl) (fun _ _ _ h => h) (Or.inl ⟨by rfl, fun w hSw => ?_⟩) hHeld ?_
        · (try dsimp only at hSw); go_split_ands; go_simp; all_goals (try first | rfl | omega)
        try simp only [Act.put, List.getElem_toArray, List.getElem_cons_succ, List.getElem_cons_zero, List.setIfInBounds_toArray, List.set_cons_zero, List.set_cons_succ]
        refine wpAnyH_ready (rs := [1, 10]) (by kernel_rfl) (by simp) ?_
        refine AllReadyH.cons rfl (fun K hK => ?_) ?_
        · rw [if_pos (by rfl)]
          refine wp_append_at1 _ _ 58 (by rfl) elemSlot w9.heap.size (.slice none 0 0) 0 [] (by rfl) (World.ownsRow_nil _ _ _ _) _ t.length valt (by rfl) (by first | exact HS9.out.drew | exact HS9.out.drew.below ((Below.refl _ _).alloc (Nat.le_refl _) _)) HO9.out (by omega) (by unfold maxLen; omega) (by omega) (by simp) ?_
          intro g10 cap10 w10 hown10 hgr10 hat10 hlt10
          have hl10 := HC9.out _ w10 _ (by first | exact (Below.refl _ _).drew | exact (Below.refl _ _).drew.alloc (Nat.le_refl _) _) hown10 hgr10; simp only [Nat.zero_add] at hl10; have HL10 := Lib.hid hl10; clear hl10; simp only [Nat.zero_add]
          have kp10 : Keep (fun b => True ∧ b < w9.heap.size) w9 w10 := (by first | exact (Keep.belowB (Below.refl _ _).drew (fun _ h => h.2)).trans (Keep.grown hgr10 (fun k hk => by simp [Value.ownBlock] at hk)) | exact (Keep.belowB ((Below.refl _ _).drew.alloc (Nat.le_refl _) _) (fun _ h => h.2)).trans (Keep.grown hgr10 (fun k hk => by simp [Value.ownBlock] at hk)))
          have HB10 := Lib.hid (show Below w.heap.size w w10 from by first | exact HB9.out.drew.grown hgr10 hB9z (fun k hk => by simp [Value.ownBlock] at hk) | exact (HB9.out.drew.alloc hB9z _).grown hgr10 (by simp; omega) (fun k hk => by simp [Value.ownBlock] at hk))
          (try (have HBL10 := Lib.hid ((BoxAt.newAt w9.drew [.int .i64 t[J].a, .int .i64 t[J].r, .slice adx D capx] 61 (n := w9.heap.size) rfl).grown hgr10 (by simp [Value.ownBlock]))))
          have r0 := kp10 _ _ _ ⟨trivial, z9⟩ y0
          have r1 := kp10 _ _ _ ⟨trivial, z9⟩ y1
          have r2 := kp10 _ _ _ ⟨trivial, z9⟩ y2
          have z10 := HB10.out.size
          have zg10 : w9.heap.size ≤ w10.heap.size := (by have := hgr10.size; first | exact this | (simp at this; omega))
          have KP10 := Lib.hid kp10
          clear kp10 hown10 hgr10 hat10
          refine hK.out _ _ (by exact ⟨r0, r1, r2⟩) (fun hHeld => ?_)
          clear hK K
          try simp only [Act.put, List.getElem_toArray, List.getElem_cons_succ, List.getElem_cons_zero, List.setIfInBounds_toArray, List.set_cons_zero, List.set_cons_succ]
          refine wpAnyH_ready (rs := [10]) (by kernel_rfl) (by simp) ?_
          refine AllReadyH.cons rfl (fun K hK => ?_) ?_
          · rw [if_pos (by rfl)]
            go_simp
            refine hK.out _ _ (by exact ⟨Keep.alloc (fun _ => True) _ _ _ _ _ trivial hHeld.1, Keep.alloc (fun _ => True) _ _ _ _ _ trivial hHeld.2.1, Keep.alloc (fun _ => True) _ _ _ _ _ trivial hHeld.2.2⟩) (fun hHeld => ?_)
            clear hK K
            try simp only [Act.put, List.getElem_toArray, List.getElem_cons_succ, List.getElem_cons_zero, List.setIfInBounds_toArray, List.set_cons_zero, List.set_cons_succ]
            refine wpAnyH_ready (rs := [11]) (by kernel_rfl) (by simp) ?_
            refine AllReadyH.cons rfl (fun K hK => ?_) ?_
            · rw [if_pos (by rfl)]
              refine wp_append_one _ _ 58 (by rfl) elemSlot w9.heap.size (.slice (some ⟨g10, 0, none⟩) t.length cap10) t.length valt (by rfl) (by first | exact HL10.out.own | exact (HL10.out.alloc _).own) _ 61 [.int .i64 t[J].a, .int .i64 t[J].r, .slice adx D capx] (by rfl) (by first | exact HBL10.out | exact BoxAt.new _ [.int .i64 t[J].a, .int .i64 t[J].r, .slice adx D capx] _) rfl (by simp [Value.oneCell']) (by unfold maxLen; omega) (by omega) (by first | omega | (simp; omega)) ?_
              intro g11 cap11 w11 hown11 hgr11 hat11 hlt11
              have HR11 := Lib.hid (show RdS RSlot (fun b => (True ∧ b < w9.heap.size) ∨ w9.heap.size ≤ b) w11 (.slice (some ⟨g11, 0, none⟩) (t.length + 1) cap11) (t ++ [t[J]]) from by first | exact HL10.out.dup (by decide) zg10 (HE.out _ _ KP10.out) hown11 hgr11 hat11 | exact (HL10.out.alloc _).dup (by decide) (by simp; omega) (HE.out _ _ (KP10.out.trans (Keep.alloc _ _ _))) hown11 hgr11 hat11)
              have HB11 := Lib.hid (show Below w.heap.size w w11 from by first | exact HB10.out.grown hgr11 z10 (fun k hk => by have := (HL10.out.lt _ hk).1; omega) | exact (HB10.out.alloc z10 _).grown hgr11 (by simp; omega) (fun k hk => by have := (HL10.out.lt _ hk).1; omega))
              have kp11 : Keep (fun b => True ∧ b < w9.heap.size) w9 w11 := (by first | exact KP10.out.trans (Keep.grown hgr11 (fun k hk hb => by have := (HL10.out.lt _ hk).1; have := hb.2; omega)) | exact (KP10.out.trans (Keep.alloc _ _ _)).trans (Keep.grown hgr11 (fun k hk hb => by have := (HL10.out.lt _ hk).1; have := hb.2; omega)))
              have s0 := kp11 _ _ _ ⟨trivial, z9⟩ y0
              have s1 := kp11 _ _ _ ⟨trivial, z9⟩ y1
              have s2 := kp11 _ _ _ ⟨trivial, z9⟩ y2
              clear kp11 hown11 hgr11 hat11
              refine hK.out _ _ (by exact ⟨s0, s1, s2⟩) (fun hHeld => ?_)
              clear hK K
              try simp only [Act.put, List.getElem_toArray, List.getElem_cons_succ, List.getElem_cons_zero, List.setIfInBounds_toArray, List.set_cons_zero, List.set_cons_succ]
              refine wpAnyH_ready (rs := [12]) (by kernel_rfl) (by simp) ?_
              refine AllReadyH.cons rfl (fun K hK => ?_) ?_
              · rw [if_pos (by rfl)]
                go_simp
                go_at_call 30
                refine (bcheck_any (l := t ++ [t[J]]) _ _ HR11.out).mono ?_
                rintro e w12 ⟨rfl, hb12⟩
                rw [HDUP.out]
                have HB12 := Lib.hid (HB11.out.trans (hb12.mono HB11.out.size))
                have u0 := (hb12.cell (p := ⟨b, o + J * 3, none⟩) (World.block_lt_of_cell? _ _ s0)).trans s0
                have u1 := (hb12.cell (p := ⟨b, o + J * 3 + 1, none⟩) (World.block_lt_of_cell? _ _ s1)).trans s1
                have u2 := (hb12.cell (p := ⟨b, o + J * 3 + 2, none⟩) (World.block_lt_of_cell? _ _ s2)).trans s2
                show K _ _
                refine hK.out _ _ (by exact ⟨u0, u1, u2⟩) (fun hHeld => ?_)
                clear hK K
                try simp only [Act.put, List.getElem_toArray, List.getElem_cons_succ, List.getElem_cons_zero, List.setIfInBounds_toArray, List.set_cons_zero, List.set_cons_succ]
                refine wpAnyH_take (i := 13) (v := .bool true) rfl (by kernel_rfl) (by kernel_rfl) (by kernel_rfl) (fun _ _ _ h => h) (Or.inl ⟨by rfl, fun w hSw => ?_⟩) hHeld ?_
                · (try dsimp only at hSw); go_split_ands; go_simp; all_goals (try first | rfl | omega)
                try simp only [Act.put, List.getElem_toArray, List.getElem_cons_succ, List.getElem_cons_zero, List.setIfInBounds_toArray, List.set_cons_zero, List.set_cons_succ]
                refine wpAnyH_take (i := 14) (v := .bool true) rfl (by kernel_rfl) (by kernel_rfl) (by kernel_rfl) (fun _ _ _ h => h) (Or.inl ⟨by rfl, fun w hSw => ?_⟩) hHeld ?_
                · (try dsimp only at hSw); go_split_ands; go_simp; all_goals (try first | rfl | omega)
                try simp only [Act.put, List.getElem_toArray, List.getElem_cons_succ, List.getElem_cons_zero, List.setIfInBounds_toArray, List.set_cons_zero, List.set_cons_succ]
                refine wpAnyH_done (by kernel_rfl) ?_ _
                go_wp2
                go_ret
                exact ⟨rfl, HB12.out⟩
              exact AllReadyH.nil
            exact AllReadyH.nil
          exact AllReadyH.nil
        refine AllReadyH.cons rfl (fun K hK => ?_) ?_
        · rw [if_pos (by rfl)]
          go_simp
          refine hK.out _ _ (by exact ⟨Keep.alloc (fun _ => True) _ _ _ _ _ trivial hHeld.1, Keep.alloc (fun _ => True) _ _ _ _ _ trivial hHeld.2.1, Keep.alloc (fun _ => True) _ _ _ _ _ trivial hHeld.2.2⟩) (fun hHeld => ?_)
          clear hK K
          try simp only [Act.put, List.getElem_toArray, List.getElem_cons_succ, List.getElem_cons_zero, List.setIfInBounds_toArray, List.set_cons_zero, List.set_cons_succ]
          refine wpAnyH_ready (rs := [1]) (by kernel_rfl) (by simp) ?_
          refine AllReadyH.cons rfl (fun K hK => ?_) ?_
          · rw [if_pos (by rfl)]
            refine wp_append_at1 _ _ 58 (by rfl) elemSlot w9.heap.size (.slice none 0 0) 0 [] (by rfl) (World.ownsRow_nil _ _ _ _) _ t.length valt (by rfl) (by first | exact HS9.out.drew | exact HS9.out.drew.below ((Below.refl _ _).alloc (Nat.le_refl _) _)) HO9.out (by omega) (by unfold maxLen; omega) (by omega) (by simp) ?_
            intro g10 cap10 w10 hown10 hgr10 hat10 hlt10
            have hl10 := HC9.out _ w10 _ (by first | exact (Below.refl _ _).drew | exact (Below.refl _ _).drew.alloc (Nat.le_refl _) _) hown10 hgr10; simp only [Nat.zero_add] at hl10; have HL10 := Lib.hid hl10; clear hl10; simp only [Nat.zero_add]
            have kp10 : Keep (fun b => True ∧ b < w9.heap.size) w9 w10 := (by first | exact (Keep.belowB (Below.refl _ _).drew (fun _ h => h.2)).trans (Keep.grown hgr10 (fun k hk => by simp [Value.ownBlock] at hk)) | exact (Keep.belowB ((Below.refl _ _).drew.alloc (Nat.le_refl _) _) (fun _ h => h.2)).trans (Keep.grown hgr10 (fun k hk => by simp [Value.ownBlock] at hk)))
            have HB10 := Lib.hid (show Below w.heap.size w w10 from by first | exact HB9.out.drew.grown hgr10 hB9z (fun k hk => by simp [Value.ownBlock] at hk) | exact (HB9.out.drew.alloc hB9z _).grown hgr10 (by simp; omega) (fun k hk => by simp [Value.ownBlock] at hk))
            (try (have HBL10 := Lib.hid ((BoxAt.newAt w9.drew [.int .i64 t[J].a, .int .i64 t[J].r, .slice adx D capx] 61 (n := w9.heap.size) rfl).grown hgr10 (by simp [Value.ownBlock]))))
            have r0 := kp10 _ _ _ ⟨trivial, z9⟩ y0
            have r1 := kp10 _ _ _ ⟨trivial, z9⟩ y1
            have r2 := kp10 _ _ _ ⟨trivial, z9⟩ y2
            have z10 := HB10.out.size
            have zg10 : w9.heap.size ≤ w10.heap.size := (by have := hgr10.size; first | exact this | (simp at this; omega))
            have KP10 := Lib.hid kp10
            clear kp10 hown10 hgr10 hat10
            refine hK.out _ _ (by exact ⟨r0, r1, r2⟩) (fun hHeld => ?_)
            clear hK K
            try simp only [Act.put, List.getElem_toArray, List.getElem_cons_succ, List.getElem_cons_zero, List.setIfInBounds_toArray, List.set_cons_zero, List.set_cons_succ]
            refine wpAnyH_ready (rs := [11]) (by kernel_rfl) (by simp) ?_
            refine AllReadyH.cons rfl (fun K hK => ?_) ?_
            · rw [if_pos (by rfl)]
              refine wp_append_one _ _ 58 (by rfl) elemSlot w9.heap.size (.slice (some ⟨g10, 0, none⟩) t.length cap10) t.length valt (by rfl) (by first | exact HL10.out.own | exact (HL10.out.alloc _).own) _ 61 [.int .i64 t[J].a, .int .i64 t[J].r, .slice adx D capx] (by rfl) (by first | exact HBL10.out | exact BoxAt.new _ [.int .i64 t[J].a, .int .i64 t[J].r, .slice adx D capx] _) rfl (by simp [Value.oneCell']) (by unfold maxLen; omega) (by omega) (by first | omega | (simp; omega)) ?_
              intro g11 cap11 w11 hown11 hgr11 hat11 hlt11
              have HR11 := Lib.hid (show RdS RSlot (fun b => (True ∧ b < w9.heap.size) ∨ w9.heap.size ≤ b) w11 (.slice (some ⟨g11, 0, none⟩) (t.length + 1) cap11) (t ++ [t[J]]) from by first | exact HL10.out.dup (by decide) zg10 (HE.out _ _ KP10.out) hown11 hgr11 hat11 | exact (HL10.out.alloc _).dup (by decide) (by simp; omega) (HE.out _ _ (KP10.out.trans (Keep.alloc _ _ _))) hown11 hgr11 hat11)
              have HB11 := Lib.hid (show Below w.heap.size w w11 from by first | exact HB10.out.grown hgr11 z10 (fun k hk => by have := (HL10.out.lt _ hk).1; omega) | exact (HB10.out.alloc z10 _).grown hgr11 (by simp; omega) (fun k hk => by have := (HL10.out.lt _ hk).1; omega))
              have kp11 : Keep (fun b => True ∧ b < w9.heap.size) w9 w11 := (by first | exact KP10.out.trans (Keep.grown hgr11 (fun k hk hb => by have := (HL10.out.lt _ hk).1; have := hb.2; omega)) | exact (KP10.out.trans (Keep.alloc _ _ _)).trans (Keep.grown hgr11 (fun k hk hb => by have := (HL10.out.lt _ hk).1; have := hb.2; omega)))
              have s0 := kp11 _ _ _ ⟨trivial, z9⟩ y0
              have s1 := kp11 _ _ _ ⟨trivial, z9⟩ y1
              have s2 := kp11 _ _ _ ⟨trivial, z9⟩ y2
              clear kp11 hown11 hgr11 hat11
              refine hK.out _ _ (by exact ⟨s0, s1, s2⟩) (fun hHeld => ?_)
              clear hK K
              try simp only [Act.put, List.getElem_toArray, List.getElem_cons_succ, List.getElem_cons_zero, List.setIfInBounds_toArray, List.set_cons_zero, List.set_cons_succ]
              refine wpAnyH_ready (rs := [12]) (by kernel_rfl) (by simp) ?_
              refine AllReadyH.cons rfl (fun K hK => ?_) ?_
              · rw [if_pos (by rfl)]
                go_simp
                go_at_call 30
                refine (bcheck_any (l := t ++ [t[J]]) _ _ HR11.out).mono ?_
                rintro e w12 ⟨rfl, hb12⟩
                rw [HDUP.out]
                have HB12 := Lib.hid (HB11.out.trans (hb12.mono HB11.out.size))
                have u0 := (hb12.cell (p := ⟨b, o + J * 3, none⟩) (World.block_lt_of_cell? _ _ s0)).trans s0
                have u1 := (hb12.cell (p := ⟨b, o + J * 3 + 1, none⟩) (World.block_lt_of_cell? _ _ s1)).trans s1
                have u2 := (hb12.cell (p := ⟨b, o + J * 3 + 2, none⟩) (World.block_lt_of_cell? _ _ s2)).trans s2
                show K _ _
                refine hK.out _ _ (by exact ⟨u0, u1, u2⟩) (fun hHeld => ?_)
                clear hK K
                try simp only [Act.put, List.getElem_toArray, List.getElem_cons_succ, List.getElem_cons_zero, List.setIfInBounds_toArray, List.set_cons_zero, List.set_cons_succ]
                refine wpAnyH_take (i := 13) (v := .bool true) rfl (by kernel_rfl) (by kernel_rfl) (by kernel_rfl) (fun _ _ _ h => h) (Or.inl ⟨by rfl, fun w hSw => ?_⟩) hHeld ?_
                · (try dsimp only at hSw); go_split_ands; go_simp; all_goals (try first | rfl | omega)
                try simp only [Act.put, List.getElem_toArray, List.getElem_cons_succ, List.getElem_cons_zero, List.setIfInBounds_toArray, List.set_cons_zero, List.set_cons_succ]
                refine wpAnyH_take (i := 14) (v := .bool true) rfl (by kernel_rfl) (by kernel_rfl) (by kernel_rfl) (fun _ _ _ h => h) (Or.inl ⟨by rfl, fun w hSw => ?_⟩) hHeld ?_
                · (try dsimp only at hSw); go_split_ands; go_simp; all_goals (try first | rfl | omega)
                try simp only [Act.put, List.getElem_toArray, List.getElem_cons_succ, List.getElem_cons_zero, List.setIfInBounds_toArray, List.set_cons_zero, List.set_cons_succ]
                refine wpAnyH_done (by kernel_rfl) ?_ _
                go_wp2
                go_ret
                exact ⟨rfl, HB12.out⟩
              exact AllReadyH.nil
            exact AllReadyH.nil
          exact AllReadyH.nil
        exact AllReadyH.nil
end Go.Proofs.YtdfnnahhgbhmeaaDoor
