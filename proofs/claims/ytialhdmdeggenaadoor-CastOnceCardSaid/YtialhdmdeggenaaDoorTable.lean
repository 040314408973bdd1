/- ballot.Cast, whatever comes; sheaveskeep.Table: what they compute. -/
import Derived.Test.YtialhdmdeggenaaDoorBal2
import Derived.Test.YtialhdmdeggenaaDoorRawAt
import Derived.Test.YtialhdmdeggenaaDoorHdrLaw
set_option linter.unusedVariables false
set_option linter.unusedSimpArgs false
attribute [local go_sem ↓] Go.wp_at_zero Go.wp_at_succ
namespace Go.Proofs.YtialhdmdeggenaaDoor
open Go Go.RowKit

theorem cast_any {G G' : Nat → Prop} {l : List Slt} (h : Hdr) (v vb vp : Value) (w : World) (hl : RdS RSlot G w v l) (hb : RdBB G' w vb h.bs) (hp : RdBB G' w vp h.ps) (ht : Tabs w) :
    Calls Tryd.prog 23 #[v, .agg #[.int .i64 h.a, .int .i64 h.r, vb, vp]] w fun e w' => ∃ v' vd, e = .returned (.tuple #[v', .agg #[.int .i64 (castSlt l h).a, .int .i64 (castSlt l h).r, vd], .int .i64 (castCode l h)]) ∧ RdS RSlot (fun b => w.heap.size ≤ b) w' v' (castTab l h) ∧ RdB (fun b => w.heap.size ≤ b) w' vd (castSlt l h).d ∧ Below w.heap.size w w' := by
  by_cases h1 : balCode l = 0
  · by_cases h2 : hdrCode h = 0
    · exact cast_ok h v vb vp w hl hb hp ht h1 h2
    · have hc : castCode l h = hdrCode h := by unfold castCode; rw [if_neg (by simp [h1]), if_pos h2]
      have e1 : castTab l h = [] := by unfold castTab; rw [if_neg (by rw [hc]; exact h2)]
      have e2 : castSlt l h = ⟨0, 0, []⟩ := by unfold castSlt; rw [if_neg (by rw [hc]; exact h2)]
      refine (cast_no h (hdrCode h) v vb vp w hl hb hp (.inr ⟨h1, rfl, h2⟩)).mono fun e w' ⟨he, hb⟩ => ⟨.slice none 0 0, .slice none 0 0, ?_, ?_, ?_, hb⟩
      · rw [he, hc, e2]
      · rw [e1]; exact RdS.nil _ _ _
      · rw [e2]; exact RdS.nil _ _ _
  · have hc : castCode l h = balCode l := by unfold castCode; rw [if_pos h1]
    have e1 : castTab l h = [] := by unfold castTab; rw [if_neg (by rw [hc]; exact h1)]
    have e2 : castSlt l h = ⟨0, 0, []⟩ := by unfold castSlt; rw [if_neg (by rw [hc]; exact h1)]
    refine (cast_no h (balCode l) v vb vp w hl hb hp (.inl ⟨rfl, h1⟩)).mono fun e w' ⟨he, hb⟩ => ⟨.slice none 0 0, .slice none 0 0, ?_, ?_, ?_, hb⟩
    · rw [he, hc, e2]
    · rw [e1]; exact RdS.nil _ _ _
    · rw [e2]; exact RdS.nil _ _ _

def hdrR (r : RawD) : Hdr := hdrOf r.a r.b r.c
def tabAdd (t : List Slt) (r : RawD) : List Slt := if castCode t (hdrR r) = 0 then castTab t (hdrR r) else t
def tableL (l : List RawD) : List Slt := (l.take 30).foldl tabAdd []
theorem hdrR_ok (r : RawD) : hdrCode (hdrR r) = 0 := hdrOf_ok _ _ _
set_option maxRecDepth 100000 in
set_option maxHeartbeats 2000000 in
theorem table_any {G : Nat → Prop} {l : List RawD} (v : Value) (w : World) (h : RdS RRaw G w v l) (ht : Tabs w) :
    Calls Tryd.prog 21 #[v] w fun e w' => ∃ v', e = .returned v' ∧ RdS RSlot (fun b => w.heap.size ≤ b) w' v' (tableL l) ∧ Below w.heap.size w w' := by
  obtain ⟨adv, capv, rfl, hcv, hcm⟩ := h.form
  unfold maxLen at hcm
  have HV := Lib.hid h
  have HT := Lib.hid ht
  clear h ht
  go_enter Tryd.func21, Tryd.ntmps21
  go_wp2_with fail
  go_loopw [3, 4] (fun o i wr => ∃ (k : Nat) (t : List Slt) (ad : Option Addr) (cap : Nat), k ≤ l.length ∧ k ≤ 30 ∧ i = .int .i64 k ∧ o = .slice ad t.length cap ∧ t = (l.take k).foldl tabAdd [] ∧ RdS RSlot (fun b => w.heap.size ≤ b) wr (.slice ad t.length cap) t ∧ Below w.heap.size w wr) (fun _ i _ => 30 - (intOf i).toNat)
  case atStart => exact ⟨0, [], none, 0, Nat.zero_le _, by omega, rfl, rfl, rfl, RdS.nil _ _ _, Below.refl _ _⟩
  case round =>
    obtain ⟨k, t, ad, cap, hk, hk30, rfl, rfl, hte, hL, hB⟩ := hrel
    have HL := Lib.hid hL
    have HLE := Lib.hid hte
    have hz := hB.size
    have HBr := Lib.hid hB
    clear hL hte hB
    by_cases hlt : k < l.length
    · have t1 : (k : Int) < (l.length : Int) := by omega
      by_cases h30 : (k : Int) < 30
      · obtain ⟨b, o, vt, rfl, -, e0, e1, e2, e3, e4, hr⟩ := (HV.out.below HBr.out (fun _ h => h)).raw k hlt
        have hone := hr.one
        have i0 : (0 : Int) ≤ (k : Int) := by omega
        have h30' : k < 30 := by omega
        have HS := Lib.hid (show (l.take (k + 1)).foldl tabAdd [] = tabAdd t l[k] by rw [List.take_succ_eq_append_getElem hlt, List.foldl_append, HLE.out]; rfl)
        have HADD := Lib.hid (show tabAdd t l[k] = if castCode t (hdrR l[k]) = 0 then castTab t (hdrR l[k]) else t from rfl)
        have HTr := Lib.hid (HT.out.belowS HBr.out)
        generalize hlk : l[k] = r at *
        obtain ⟨hk', ha', hb', hc', -, -⟩ := hr
        unfold i64In at ha' hb' hc'
        have ha1 := ha'.1
        have ha2 := ha'.2
        have hb1 := hb'.1
        have hb2 := hb'.2
        have hc1 := hc'.1
        have hc2 := hc'.2
        clear hk' ha' hb' hc' hlk
        go_wp2_with fail
        refine (header_any r.k r.a r.b r.c vt wr ha1 ha2 hb1 hb2 hc1 hc2 hone).mono ?_
        rintro e w2 ⟨adb, capb, adp, capp, rfl, hbb, hpp, hb2'⟩
        have HBB := Lib.hid hbb
        have HPP := Lib.hid hpp
        have HL2 := Lib.hid (HL.out.below hb2' (fun _ h => h))
        have HT2 := Lib.hid (HTr.out.belowS hb2')
        have HB2 := Lib.hid (HBr.out.trans (hb2'.mono hz))
        have HQ := Lib.hid (show hdrOf r.a r.b r.c = hdrR r from rfl)
        clear hbb hpp hb2' e0 e1 e2 e3 e4
        go_wp2_with fail
        refine (cast_any (hdrOf r.a r.b r.c) _ _ _ w2 HL2.out HBB.out HPP.out HT2.out).mono ?_
        rintro e w3 ⟨v3, vd, rfl, h3, hd3, hb3⟩
        rw [HQ.out]
        rw [HQ.out] at h3 hd3
        obtain ⟨ad3, cap3, rfl, -, -⟩ := h3.form
        obtain ⟨add, capd, rfl, -, -⟩ := hd3.form
        have H3 := Lib.hid (h3.mono (G' := fun b => w.heap.size ≤ b) (fun b hb => Nat.le_trans HB2.out.size hb))
        have HL3 := Lib.hid (HL2.out.below hb3 (fun _ h => h))
        have HB3 := Lib.hid (HB2.out.trans (hb3.mono HB2.out.size))
        have hz3 := HB3.out.size
        clear h3 hd3 hb3
        by_cases hc : castCode t (hdrR r) = 0
        · have HSS := Lib.hid (show (l.take (k + 1)).foldl tabAdd [] = castTab t (hdrR r) by rw [HS.out, HADD.out, if_pos hc])
          rw [hc]
          clear hc
          go_wp2
          go_roundw
          case rel => exact ⟨k + 1, castTab t (hdrR r), ad3, cap3, by omega, by omega, by go_num, rfl, HSS.out.symm, by exact H3.out.keep (Keep.alloc _ _ _) (fun _ h => h), HB3.out.alloc hz3 _⟩
          case measure => simp [intOf]; omega
        · have HSS := Lib.hid (show (l.take (k + 1)).foldl tabAdd [] = t by rw [HS.out, HADD.out, if_neg hc])
          have hc' : (castCode t (hdrR r) == 0) = false := by simpa using hc
          clear hc
          go_wp2
          go_roundw
          case rel => exact ⟨k + 1, t, ad, cap, by omega, by omega, by go_num, rfl, HSS.out.symm, by exact HL3.out.keep (Keep.alloc _ _ _) (fun _ h => h), HB3.out.alloc hz3 _⟩
          case measure => simp [intOf]; omega
      · have HQ := Lib.hid (show tableL l = t by unfold tableL; rw [HLE.out, show k = 30 by omega])
        go_wp2
        go_ret
        exact ⟨_, rfl, by rw [HQ.out]; exact HL.out, HBr.out⟩
    · have HQ := Lib.hid (show tableL l = t by unfold tableL; rw [HLE.out, List.take_of_length_le (by omega), List.take_of_length_le (by omega)])
      have t1 : ¬ (k : Int) < (l.length : Int) := by omega
      go_wp2
      go_ret
      exact ⟨_, rfl, by rw [HQ.out]; exact HL.out, HBr.out⟩
/-! ### The plain laws -/
theorem castCode_zero {l : List Slt} {h : Hdr} (hc : castCode l h = 0) : balCode l = 0 ∧ hdrCode h = 0 ∧ castC l h = 0 := by
  unfold castCode at hc
  by_cases h1 : balCode l = 0
  · by_cases h2 : hdrCode h = 0
    · simp [h1, h2] at hc; exact ⟨h1, h2, hc⟩
    · simp [h1, h2] at hc
  · simp [h1] at hc
theorem balOk_iff {l : List Slt} : balCode l = 0 ↔ l.length ≤ 400 ∧ (∀ x ∈ l, sltOk x = true) ∧ (l.map keyS).Nodup := by
  unfold balCode balOk
  constructor
  · intro h; split at h
    · rename_i h'; simpa using h'
    · simp at h
  · intro h; rw [if_pos (by simpa using h)]
theorem voteOf_ok {h : Hdr} (hc : hdrCode h = 0) : sltOk (voteOf h) = true := by
  unfold hdrCode at hc
  split at hc
  · simp at hc
  · rename_i h1
    unfold sltOk sltCode voteOf
    simp only [decide_eq_true_eq]
    rw [if_neg h1, if_neg (by simp [hdrSum_length])]
theorem castTab_ok {l : List Slt} {h : Hdr} (hc : castCode l h = 0) : balCode (castTab l h) = 0 := by
  obtain ⟨h1, h2, h3⟩ := castCode_zero hc
  unfold castTab castL
  rw [if_pos hc]
  split
  · exact h1
  · rename_i hi
    obtain ⟨a, b, c⟩ := balOk_iff.1 h1
    have h4 : l.length ≠ 400 := by
      intro e; unfold castC at h3; rw [if_neg hi, if_pos e] at h3; simp at h3
    refine balOk_iff.2 ⟨by simp; omega, fun x hx => ?_, ?_⟩
    · rcases List.mem_append.1 hx with hx | hx
      · exact b x hx
      · rw [List.mem_singleton.1 hx]; exact voteOf_ok h2
    · rw [List.map_append, List.nodup_append]
      refine ⟨c, by simp, fun x hx y hy => ?_⟩
      simp only [List.map_cons, List.map_nil, List.mem_singleton] at hy
      subst hy
      intro e
      have : keyS (voteOf h) ∈ l.map keyS := e ▸ hx
      rw [← key_in] at this
      exact hi (idxP_ge.2 this)
theorem tabAdd_ok {t : List Slt} {r : RawD} (h : balCode t = 0) : balCode (tabAdd t r) = 0 := by
  unfold tabAdd; split
  · rename_i hc; exact castTab_ok hc
  · exact h
theorem tabFold_ok : ∀ (l : List RawD) (t : List Slt), balCode t = 0 → balCode (l.foldl tabAdd t) = 0
  | [], _, h => h
  | r :: l, t, h => by rw [List.foldl_cons]; exact tabFold_ok l _ (tabAdd_ok h)
theorem tableL_ok (l : List RawD) : balCode (tableL l) = 0 := tabFold_ok _ _ (by decide)
theorem castL_len (l : List Slt) (h : Hdr) : l.length ≤ (castL l h).length := by unfold castL; split <;> simp
theorem tabAdd_len (t : List Slt) (r : RawD) : t.length ≤ (tabAdd t r).length := by
  unfold tabAdd; split
  · rename_i hc; unfold castTab; rw [if_pos hc]; exact castL_len _ _
  · exact Nat.le_refl _
theorem tabFold_len : ∀ (l : List RawD) (t : List Slt), t.length ≤ (l.foldl tabAdd t).length
  | [], _ => Nat.le_refl _
  | r :: l, t => by rw [List.foldl_cons]; exact Nat.le_trans (tabAdd_len _ _) (tabFold_len l _)
theorem castCode_nil {h : Hdr} (hc : hdrCode h = 0) : castCode [] h = 0 := by
  unfold castCode; rw [if_neg (by decide), if_neg (by simp [hc])]; rfl
theorem tableL_pos {l : List RawD} (h : 0 < l.length) : 0 < (tableL l).length := by
  match l, h with
  | r :: l, _ =>
    unfold tableL
    rw [List.take_succ_cons, List.foldl_cons]
    refine Nat.lt_of_lt_of_le ?_ (tabFold_len _ _)
    unfold tabAdd castTab
    rw [if_pos (castCode_nil (hdrR_ok r)), if_pos (castCode_nil (hdrR_ok r))]
    unfold castL
    rw [if_neg (by simp [idxP])]
    simp
end Go.Proofs.YtialhdmdeggenaaDoor
