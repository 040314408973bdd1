/- blake.Sum, blake.Tagged: what they compute. -/
import Derived.Test.YtpfmmncnhlfdgaaDoorDig
set_option linter.unusedVariables false
set_option linter.unusedSimpArgs false
namespace Go.Proofs.YtpfmmncnhlfdgaaDoor
open Go Go.RowKit

def sumD (l : Bytes) : Bytes := if 4000 < l.length then [] else sumL l
def sumC (l : Bytes) : Int := if 4000 < l.length then 1 else 0
theorem sumD_ok {l : Bytes} (h : l.length ≤ 4000) : sumD l = sumL l := by unfold sumD; rw [if_neg (by omega)]
theorem sumC_ok {l : Bytes} (h : l.length ≤ 4000) : sumC l = 0 := by unfold sumC; rw [if_neg (by omega)]
theorem sumD_no {l : Bytes} (h : 4000 < l.length) : sumD l = [] := by unfold sumD; rw [if_pos h]
theorem sumC_no {l : Bytes} (h : 4000 < l.length) : sumC l = 1 := by unfold sumC; rw [if_pos h]
theorem sumD_len {l : Bytes} (h : l.length ≤ 4000) : (sumD l).length = 32 := by rw [sumD_ok h, sumL_length]
/-- The bytes that a tagged digest sums; none, if there are too many. -/
def tagGo (b : Bytes) : List Bytes → Option Bytes
  | [] => some b
  | p :: t => if 4000 < p.length ∨ 4000 < b.length + 2 + p.length then none else tagGo (b ++ byteZ (p.length / 256 : Nat) :: byteZ p.length :: p) t
def tagD (tag : UInt8) (ps : List Bytes) : Bytes := match tagGo [tag] ps with
  | none => []
  | some b => sumL b
def tagC (tag : UInt8) (ps : List Bytes) : Int := match tagGo [tag] ps with
  | none => 1
  | some b => 0
theorem tagGo_no {b : Bytes} {l : List Bytes} {k : Nat} (hk : k < l.length) (h : 4000 < l[k].length ∨ 4000 < b.length + 2 + l[k].length) : tagGo b (l.drop k) = none := by
  rw [List.drop_eq_getElem_cons hk, tagGo, if_pos h]
theorem tagGo_next {b : Bytes} {l : List Bytes} {k : Nat} (hk : k < l.length) (h1 : ¬ 4000 < l[k].length) (h2 : ¬ 4000 < b.length + 2 + l[k].length) :
    tagGo b (l.drop k) = tagGo (b ++ byteZ (l[k].length / 256 : Nat) :: byteZ l[k].length :: l[k]) (l.drop (k + 1)) := by
  rw [List.drop_eq_getElem_cons hk, tagGo, if_neg (by omega)]
theorem tagGo_end {b : Bytes} {l : List Bytes} : tagGo b (l.drop l.length) = some b := by rw [List.drop_length]; rfl
theorem tagD_some {tag : UInt8} {ps : List Bytes} {b : Bytes} (h : tagGo [tag] ps = some b) : tagD tag ps = sumL b := by unfold tagD; rw [h]
theorem tagC_some {tag : UInt8} {ps : List Bytes} {b : Bytes} (h : tagGo [tag] ps = some b) : tagC tag ps = 0 := by unfold tagC; rw [h]
theorem tagD_none {tag : UInt8} {ps : List Bytes} (h : tagGo [tag] ps = none) : tagD tag ps = [] := by unfold tagD; rw [h]
theorem tagC_none {tag : UInt8} {ps : List Bytes} (h : tagGo [tag] ps = none) : tagC tag ps = 1 := by unfold tagC; rw [h]
set_option maxRecDepth 100000 in
set_option maxHeartbeats 4000000 in
theorem Tagged_any {G : Nat → Prop} (tag : UInt8) (ps : List Bytes) (v : Value) (w : World) (hp : RdBB G w v ps) (ht : Tabs w) :
    Calls Tryd.prog 47 #[.int .u8 (tag.toNat : Int), v] w fun e w' => ∃ v', e = .returned (.tuple #[v', .int .i64 (tagC tag ps)]) ∧ RdB (fun b => w.heap.size ≤ b) w' v' (tagD tag ps) ∧ Below w.heap.size w w' := by
  obtain ⟨ad, cap, rfl, h1, h2⟩ := hp.form
  unfold maxLen at h2
  have HLOW := Lib.hid (hp.low (by decide))
  have HT := Lib.hid ht
  clear hp ht
  go_enter Tryd.func47, Tryd.ntmps47
  go_wp2
  have HB0 := Lib.hid ((Below.refl w.heap.size w).alloc (Nat.le_refl _) (.cells #[.int .u8 (tag.toNat : Int)] 5))
  have HO0 := Lib.hid (lit_ownsN w [.int .u8 (tag.toNat : Int)] 5)
  go_loopw [6, 13] (fun vb i wr => ∃ (k : Nat) (b : Bytes), k ≤ ps.length ∧ i = .int .i64 k ∧ b.length ≤ 4000 ∧ wr.ownsRow w.heap.size 5 1 vb b.length (byteVs b) ∧ Below w.heap.size w wr ∧ tagGo [tag] ps = tagGo b (ps.drop k)) (fun _ i _ => ps.length - (intOf i).toNat)
  case atStart => exact ⟨0, [tag], Nat.zero_le _, rfl, by simp, HO0.out, HB0.out, rfl⟩
  case round =>
    clear HB0 HO0
    obtain ⟨k, b, hk, rfl, hbl, hown, hB, hg⟩ := hrel
    have HO := Lib.hid hown
    have HB := Lib.hid hB
    have HG := Lib.hid hg
    have hz := hB.size
    obtain ⟨bad, bcap, rfl⟩ := ownsRow_form hown
    clear hown hB hg
    by_cases hlt : k < ps.length
    · have hrd := HLOW.out.keep (G' := fun b => b < w.heap.size) (Keep.belowB HB.out (fun _ h => h.2)) (fun _ h => h.2)
      obtain ⟨eb, eo, vk, rfl, -, hc, hk2⟩ := hrd.cellS k hlt
      obtain ⟨adk, capk, rfl, hq1, hq2⟩ := hk2.form
      have j0 : (0 : Int) ≤ (k : Int) := by omega
      have j1 : (k : Int) < (ps.length : Int) := by omega
      have HK := Lib.hid hk2
      have HNO := Lib.hid (tagGo_no (b := b) hlt)
      have HNX := Lib.hid (tagGo_next (b := b) hlt)
      unfold maxLen at hq2
      clear hrd hk2
      generalize ps[k] = D at *
      have q1 : IntKind.i64.wrap ((b.length : Int) + 2) = (b.length : Int) + 2 := IntWalk.i64_in _ (by omega)
      by_cases n1 : 4000 < D.length
      · have i1 : (4000 : Int) < (D.length : Int) := by omega
        have HC := Lib.hid (tagC_none (tag := tag) (ps := ps) (by rw [HG.out]; exact HNO.out (.inl n1)))
        have HD := Lib.hid (tagD_none (tag := tag) (ps := ps) (by rw [HG.out]; exact HNO.out (.inl n1)))
        clear n1
        go_wp2
        refine bodyPost_ret (v := .tuple #[.slice none 0 0, .int .i64 1]) (by simp [results, Tryd.results47, go_sem]) rfl ⟨.slice none 0 0, by rw [HC.out], ?_, HB.out⟩
        rw [HD.out]
        exact RdS.nil _ _ _
      · have i1 : ¬ (4000 : Int) < (D.length : Int) := by omega
        have q2 : IntKind.i64.wrap ((b.length : Int) + 2 + (D.length : Int)) = (b.length : Int) + 2 + (D.length : Int) := IntWalk.i64_in _ (by omega)
        by_cases n2 : 4000 < b.length + 2 + D.length
        · have i2 : (4000 : Int) < (b.length : Int) + 2 + (D.length : Int) := by omega
          have HC := Lib.hid (tagC_none (tag := tag) (ps := ps) (by rw [HG.out]; exact HNO.out (.inr n2)))
          have HD := Lib.hid (tagD_none (tag := tag) (ps := ps) (by rw [HG.out]; exact HNO.out (.inr n2)))
          clear n1 n2
          go_wp2
          refine bodyPost_ret (v := .tuple #[.slice none 0 0, .int .i64 1]) (by simp [results, Tryd.results47, go_sem]) rfl ⟨.slice none 0 0, by rw [HC.out], ?_, HB.out⟩
          rw [HD.out]
          exact RdS.nil _ _ _
        · have i2 : ¬ (4000 : Int) < (b.length : Int) + 2 + (D.length : Int) := by omega
          have HN := Lib.hid (HNX.out n1 n2)
          have hbd : b.length + 2 + D.length ≤ 4000 := by omega
          clear n1 n2
          go_wp2_with (first
            | (at_builtin; refine wpList_append_sl rfl _ _ 39 rfl elemB w.heap.size _ rfl (b.length + 2) (byteVs b ++ [.int .u8 ((D.length : Int) / 256), .int .u8 ((D.length : Int) % 256)]) (by exact HO1.out) _ rfl D.length (byteVs D) (by exact HK1.out.slCells) (oneCell_map _ _ (fun _ => rfl)) (by unfold maxLen; omega) (by omega) (by have := HB1.out.size; omega) ?_; intro v2 w2 hown2 hgr2; have HO2 := Lib.hid hown2; have HB2 := Lib.hid (HB1.out.grown hgr2 HB1.out.size (ownBlock_ge HO1.out)); clear hown2 hgr2)
            | (at_builtin; refine wpList_append_sl rfl _ _ 39 rfl elemB w.heap.size _ rfl b.length (byteVs b) (by exact HO.out.alloc _) _ rfl 2 [.int .u8 ((D.length : Int) / 256), .int .u8 ((D.length : Int) % 256)] (by exact (BoxAt.new wr [_, _] _).slCellsN rfl) (by simp [Value.oneCell']) (by unfold maxLen; omega) (by omega) (by simp; omega) ?_; intro v1 w1 hown1 hgr1; have HO1 := Lib.hid hown1; have HB1 := Lib.hid ((HB.out.alloc hz _).grown hgr1 (by simp; omega) (ownBlock_ge HO.out)); have HK1 := Lib.hid (HK.out.keep (G' := fun _ => True) (Keep.belowB (show Below w.heap.size wr w1 from ((Below.refl w.heap.size wr).alloc hz _).grown hgr1 (by simp; omega) (ownBlock_ge HO.out)) (fun _ h => h)) (fun _ _ => trivial)); clear hown1 hgr1))
          have e2 : byteVs (b ++ byteZ (D.length / 256 : Nat) :: byteZ D.length :: D) = byteVs b ++ [.int .u8 ((D.length : Int) / 256), .int .u8 ((D.length : Int) % 256)] ++ byteVs D := by
            have : (((byteZ (D.length / 256 : Nat)).toNat : Nat) : Int) = (D.length : Int) / 256 := by rw [byteZ_toNat]; omega
            simp [byteVs, byteZ_toNat]; omega
          have e3 : (b ++ byteZ (D.length / 256 : Nat) :: byteZ D.length :: D).length = b.length + 2 + D.length := by simp; omega
          have HO3 := Lib.hid (show w2.ownsRow w.heap.size 5 1 v2 (b ++ byteZ (D.length / 256 : Nat) :: byteZ D.length :: D).length (byteVs (b ++ byteZ (D.length / 256 : Nat) :: byteZ D.length :: D)) by rw [e2, e3]; exact HO2.out)
          have HE3 := Lib.hid e3
          clear e2 e3
          go_wp2
          go_roundw
          case rel => exact ⟨k + 1, b ++ byteZ (D.length / 256 : Nat) :: byteZ D.length :: D, by omega, by go_num, by rw [HE3.out]; exact hbd, HO3.out, HB2.out, by rw [HG.out]; exact HN.out⟩
          case measure => simp [intOf]; omega
    · obtain rfl : k = ps.length := by omega
      have hg' : tagGo [tag] ps = some b := by rw [HG.out]; exact tagGo_end
      have HC := Lib.hid (tagC_some hg')
      have HD := Lib.hid (tagD_some hg')
      have HTr := Lib.hid (HT.out.belowS HB.out)
      have HR := Lib.hid (RdS.of_owns (G := fun _ => True) HO.out (fun _ _ => trivial) : RdB (fun _ => True) wr (.slice bad b.length bcap) b)
      clear hg'
      go_wp2_with fail
      refine (sum_any bad bcap b wr HR.out HTr.out).mono ?_
      rintro e w2 ⟨v2, rfl, hown2, hb2⟩
      have HO2 := Lib.hid hown2
      have HB2 := Lib.hid (HB.out.trans (hb2.mono hz))
      have HL := Lib.hid (sumL_length b)
      clear hown2 hb2
      go_wp2
      refine bodyPost_ret (v := .tuple #[v2, .int .i64 0]) (by simp [results, Tryd.results47, go_sem]) rfl ⟨v2, by rw [HC.out], ?_, HB2.out⟩
      rw [HD.out]
      exact RdS.of_owns HO2.out (fun _ h => Nat.le_trans hz h)
end Go.Proofs.YtpfmmncnhlfdgaaDoor
