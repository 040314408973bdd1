/- sheaveskeep.batchesOf; the plain law of BatchesBad. -/
import Derived.Test.YtdfnnahhgbhmeaaDoorOneSum
import Derived.Test.YtdfnnahhgbhmeaaDoorCopyL
import Derived.Test.YtdfnnahhgbhmeaaDoorBatch
import Derived.Test.YtdfnnahhgbhmeaaDoorBatLaw
import Derived.Test.YtdfnnahhgbhmeaaDoorRawAt
import Derived.Test.YtdfnnahhgbhmeaaDoorOpenS
set_option linter.unusedVariables false
set_option linter.unusedSimpArgs false
attribute [local go_sem ↓] Go.wp_at_zero Go.wp_at_succ
namespace Go.Proofs.YtdfnnahhgbhmeaaDoor
open Go Go.RowKit

theorem elemBat : ElemOk Tryd.prog 72 42 3 40 := elemOk_of (z := .agg #[.int .i64 0, .int .i64 0, .slice none 0 0]) (by kernel_rfl) (by kernel_rfl) rfl (by decide)
def batN (r : RawD) (i : Nat) : Bat := ⟨(batOf r.a r.b r.txs).a, 1 + (i : Int), (batOf r.a r.b r.txs).txs⟩
def rawZ : RawD := ⟨0, 0, 0, 0, []⟩
def batsTo (l : List RawD) (k : Nat) : List Bat := (List.range k).map fun (i : Nat) => batN (l.getD i rawZ) i
def batsL (l : List RawD) : List Bat := batsTo l (min l.length 12)
theorem batsTo_len (l : List RawD) (k : Nat) : (batsTo l k).length = k := by simp [batsTo]
theorem batsTo_succ (l : List RawD) (k : Nat) (h : k < l.length) : batsTo l (k + 1) = batsTo l k ++ [batN l[k] k] := by
  unfold batsTo; rw [List.range_succ, List.map_append]; simp [h]
theorem batN_ok (r : RawD) (i : Nat) (hi : i < 12) : batCode (batN r i) = 0 := by
  have h := batOf_ok r.a r.b r.txs
  obtain ⟨h1, h2, h3, h4, h5⟩ := bat_partsD h
  unfold batCode
  rw [if_neg, if_neg, if_pos]
  · exact List.all_eq_true.2 h5
  · show ¬ ((batOf r.a r.b r.txs).txs.length < 1 ∨ 4 < (batOf r.a r.b r.txs).txs.length); omega
  · show ¬ (nodeOk (batOf r.a r.b r.txs).a = false ∨ countOk (1 + (i : Int)) = false)
    rw [h1]
    have : countOk (1 + (i : Int)) = true := by unfold countOk; simp only [decide_eq_true_eq]; omega
    rw [this]; simp
theorem batN_txs (r : RawD) (i : Nat) : ∀ t ∈ (batN r i).txs, t.length ≤ 9223372036854775807 := fun t ht => by
  have := (batOf_txs r.a r.b r.txs).1 t ht
  unfold txLen at this
  simp only [decide_eq_true_eq] at this
  omega
set_option maxRecDepth 100000 in
set_option maxHeartbeats 2000000 in
theorem batchesOf_any {G : Nat → Prop} {l : List RawD} (v : Value) (w : World) (h : RdS RRaw G w v l) :
    Calls Tryd.prog 34 #[v] w fun e w' => ∃ v', e = .returned v' ∧ RdS RBat (fun b => w.heap.size ≤ b) w' v' (batsL l) ∧ Below w.heap.size w w' := by
  obtain ⟨adv, capv, rfl, hcv, hcm⟩ := h.form
  unfold maxLen at hcm
  have HV := Lib.hid h
  clear h
  go_enter Tryd.func34, Tryd.ntmps34
  go_wp2_with fail
  go_loopw [3, 4] (fun o i wr => ∃ (k : Nat) (ad : Option Addr) (cap : Nat), k ≤ l.length ∧ k ≤ 12 ∧ i = .int .i64 k ∧ o = .slice ad k cap ∧ LstO RBat (fun b => w.heap.size ≤ b) w.heap.size 42 wr (.slice ad k cap) (batsTo l k) ∧ Below w.heap.size w wr) (fun _ i _ => 12 - (intOf i).toNat)
  case atStart => exact ⟨0, none, 0, Nat.zero_le _, by omega, rfl, rfl, LstO.nil _ _ _ _ _, Below.refl _ _⟩
  case round =>
    obtain ⟨k, ad, cap, hk, hk12, rfl, rfl, hL, hB⟩ := hrel
    have hz := hB.size
    have HBr := Lib.hid hB
    by_cases hlt : k < l.length
    · have t1 : (k : Int) < (l.length : Int) := by omega
      by_cases h12 : (k : Int) < 12
      · obtain ⟨vals, hv⟩ := hL.valsOf
        have HLr := Lib.hid hv
        have HKL := Lib.hid (batsTo_len l k)
        have HMS := Lib.hid (batsTo_succ l k hlt)
        have hvlt := hv.lt
        obtain ⟨b, o, vt, rfl, -, e0, e1, e2, e3, e4, hr⟩ := (HV.out.below hB (fun _ h => h)).raw k hlt
        have hone := hr.one
        have i0 : (0 : Int) ≤ (k : Int) := by omega
        have l1 : IntKind.i64.wrap (1 + (k : Int)) = 1 + (k : Int) := IntWalk.i64_in _ (by omega)
        have HLEN := Lib.hid (batN_txs l[k] k)
        generalize hlk : l[k] = r at *
        obtain ⟨hk', ha', hb', hc', hrt, hrl⟩ := hr
        have HRT := Lib.hid hrt
        have HRL := Lib.hid hrl
        unfold i64In at ha' hb'
        have ha1 := ha'.1
        have ha2 := ha'.2
        have hb1 := hb'.1
        have hb2 := hb'.2
        have HQ := Lib.hid (show batN r k = ⟨(batOf r.a r.b r.txs).a, 1 + (k : Int), (batOf r.a r.b r.txs).txs⟩ from rfl)
        clear hk' ha' hb' hc' hlk hrt hrl hv hL hB
        go_wp2_with fail
        refine (batch_any r.k r.a r.b r.c vt r.txs wr ha1 ha2 hb1 hb2 HRT.out HRL.out).mono ?_
        rintro e w2 ⟨adt, capt, rfl, htx, hb2'⟩
        generalize batOf r.a r.b r.txs = B at *
        have HTX := Lib.hid (htx.low (by decide))
        have HL2 := Lib.hid (HLr.out.below hb2')
        have HB2 := Lib.hid (HBr.out.trans (hb2'.mono hz))
        have s2 := hb2'.size
        clear htx hb2' e0 e1 e2 e3 e4
        go_wp2_with (at_builtin; refine wpList_append_one rfl _ _ 72 rfl elemBat w.heap.size _ k vals rfl (by have h := ((HL2.out.alloc (.cells #[.int .i64 B.a, .int .i64 (1 + (k : Int)), .slice adt B.txs.length capt] 42)).alloc (.cells #[.int .i64 B.a, .int .i64 (1 + (k : Int)), .slice adt B.txs.length capt] 42)).own; rw [HKL.out] at h; exact h) (w2.heap.size + 1) 42 [.int .i64 B.a, .int .i64 (1 + (k : Int)), .slice adt B.txs.length capt] rfl (BoxAt.newAt (w2.alloc _) [_, _, _] _ (by simp)) rfl (by simp [Value.oneCell']) (by unfold maxLen; omega) (by omega) (by simp; omega) ?_; intro g cap6 w6 hown6 hgr6 hat6 hlt6)
        have hx : RBat.rd (fun b => w.heap.size ≤ b ∧ b < ((w2.alloc (.cells #[.int .i64 B.a, .int .i64 (1 + (k : Int)), .slice adt B.txs.length capt] 42)).alloc (.cells #[.int .i64 B.a, .int .i64 (1 + (k : Int)), .slice adt B.txs.length capt] 42)).heap.size ∧ (Value.slice ad k cap).ownBlock ≠ some b) ((w2.alloc (.cells #[.int .i64 B.a, .int .i64 (1 + (k : Int)), .slice adt B.txs.length capt] 42)).alloc (.cells #[.int .i64 B.a, .int .i64 (1 + (k : Int)), .slice adt B.txs.length capt] 42)) [.int .i64 B.a, .int .i64 (1 + (k : Int)), .slice adt B.txs.length capt] (batN r k) := by
          rw [HQ.out]
          refine ⟨_, rfl, HTX.out.keep ((Keep.alloc _ _ _).trans (Keep.alloc _ _ _)) (fun b hb => ⟨by have := hb.1; omega, by have := hb.2; simp; omega, fun e => by have h1 := hb.1; have := (hvlt _ e).2; omega⟩), ?_⟩
          have := HLEN.out
          rw [HQ.out] at this
          exact this
        have hP := ((HL2.out.alloc (.cells #[.int .i64 B.a, .int .i64 (1 + (k : Int)), .slice adt B.txs.length capt] 42)).alloc (.cells #[.int .i64 B.a, .int .i64 (1 + (k : Int)), .slice adt B.txs.length capt] 42)).push hx (by rw [HKL.out]; exact hown6) hgr6 hat6
        rw [HKL.out, ← HMS.out] at hP
        have HP := Lib.hid hP
        have HB6 := Lib.hid (((HB2.out.alloc HB2.out.size (.cells #[.int .i64 B.a, .int .i64 (1 + (k : Int)), .slice adt B.txs.length capt] 42)).alloc (by have := HB2.out.size; simp; omega) (.cells #[.int .i64 B.a, .int .i64 (1 + (k : Int)), .slice adt B.txs.length capt] 42)).grown hgr6 (by have := HB2.out.size; simp; omega) (fun k hk => (hvlt _ hk).1))
        clear hP hx hown6
        go_wp2
        go_roundw
        case rel => exact ⟨k + 1, some ⟨g, 0, none⟩, cap6, by omega, by omega, by go_num, rfl, HP.out, HB6.out⟩
        case measure => simp [intOf]; omega
      · have HQ := Lib.hid (show batsL l = batsTo l k by unfold batsL; rw [show min l.length 12 = k by omega])
        have HM := Lib.hid (hL.rd (G' := fun b => w.heap.size ≤ b) (by decide) (fun b h1 h2 => h1) (fun b h1 h2 => h1))
        clear hL hB
        go_wp2
        go_ret
        exact ⟨_, rfl, by rw [HQ.out]; exact HM.out, HBr.out⟩
    · have HQ := Lib.hid (show batsL l = batsTo l k by unfold batsL; rw [show min l.length 12 = k by omega])
      have HM := Lib.hid (hL.rd (G' := fun b => w.heap.size ≤ b) (by decide) (fun b h1 h2 => h1) (fun b h1 h2 => h1))
      have t1 : ¬ (k : Int) < (l.length : Int) := by omega
      clear hL hB
      go_wp2
      go_ret
      exact ⟨_, rfl, by rw [HQ.out]; exact HM.out, HBr.out⟩
/-! ### The plain law -/
theorem anyPair_from {α : Type} {p : α → α → Bool} {l : List α} : ∀ k, k ≤ l.length → anyPair p (l.take k) (l.drop k) = true → anyPair p [] l = true
  | 0, _, h => by simpa using h
  | k + 1, hk, h => by
    refine anyPair_from k (by omega) ?_
    rw [List.drop_eq_getElem_cons (by omega), anyPair, ← List.take_succ_eq_append_getElem (by omega), h]
    simp
theorem pair_any {α : Type} {p : α → α → Bool} {l : List α} {k j : Nat} (hk : k < l.length) (hj : j < k) (h : p l[k] (l[j]'(by omega)) = true) : anyPair p [] l = true :=
  anyPair_from k (by omega) (anyPair_hit hk hj h)
theorem batsL_len (l : List RawD) : (batsL l).length = min l.length 12 := batsTo_len _ _
theorem batsL_mem {l : List RawD} {b : Bat} (h : b ∈ batsL l) : ∃ r i, i < 12 ∧ b = batN r i := by
  unfold batsL batsTo at h
  obtain ⟨i, hi, rfl⟩ := List.mem_map.1 h
  exact ⟨_, i, by have := List.mem_range.1 hi; omega, rfl⟩
theorem batsL_num {l : List RawD} {i : Nat} (hi : i < (batsL l).length) : (batsL l)[i].n = 1 + (i : Int) := by
  unfold batsL batsTo; simp [batN]
theorem bats_law {l : List RawD} (h : bsCode (batsL l) ≠ 0) : oneSumL [] (batsL l) = true := by
  have hno : ¬ ((batsL l).map batSum).Nodup := by
    intro hn
    apply h
    unfold bsCode bsOk
    rw [if_pos]
    simp only [decide_eq_true_eq]
    exact ⟨by rw [batsL_len]; omega, fun b hb => by obtain ⟨r, i, hi, rfl⟩ := batsL_mem hb; exact batN_ok r i hi, hn⟩
  unfold oneSumL
  rw [Bool.or_eq_true]
  right
  apply Classical.byContradiction
  intro hany
  apply hno
  rw [List.nodup_iff_pairwise_ne, List.pairwise_iff_getElem]
  intro i j hi hj hij he
  simp only [List.length_map] at hi hj
  simp only [List.getElem_map] at he
  apply hany
  refine pair_any (k := j) (j := i) hj hij ?_
  have hm : ∀ k (hk : k < (batsL l).length), batCode (batsL l)[k] = 0 := fun k hk => by
    obtain ⟨r, i, hi, e⟩ := batsL_mem (List.getElem_mem hk)
    rw [e]; exact batN_ok r i hi
  unfold pairBt
  simp only [decide_eq_true_eq]
  refine ⟨hm _ _, hm _ _, he.symm, ?_⟩
  unfold sameBt
  simp only [decide_eq_false_iff_not]
  rintro ⟨-, h2, -⟩
  rw [batsL_num, batsL_num] at h2
  omega
theorem bsCode_or (l : List Bat) : bsCode l = 0 ∨ bsCode l = 12 := by unfold bsCode; split <;> simp
theorem bsCode_snoc_bad {l : List Bat} {b : Bat} (h : batCode b ≠ 0) : bsCode (l ++ [b]) = 12 := bsCode_bad (k := l.length) (by simp) (by simpa using h)
theorem bsCode_snoc_dup {l : List Bat} {b : Bat} (h : b ∈ l) : bsCode (l ++ [b]) = 12 := bsCode_twice (k := l.length) (by simp) (by simp; exact ⟨b, h, rfl⟩)
end Go.Proofs.YtdfnnahhgbhmeaaDoor
