/- sheaveskeep.records, begins: what they compute. -/
import Derived.Test.YtegdpjoncjmdeaaRecs
import Derived.Test.YtegdpjoncjmdeaaBas
import Derived.Test.YtegdpjoncjmdeaaSameM
import Derived.Deep.MidRow
import Derived.Deep.RegionHeld3
set_option linter.unusedVariables false
set_option linter.unusedSimpArgs false
attribute [local go_sem ↓] Go.wp_at_zero Go.wp_at_succ
namespace Go.Proofs.Ytegdpjoncjmdeaa
open Go Go.RowKit

/-- A slice of one element of many cells. -/
theorem wpList_build1 {P : Program} {w : World} {ops : Array Oper} {rest : List Oper} {o : Oper} {a : Act} {Q : Exit → Act → World → Prop} (hgd : o.guard = none) (t : TypeId) (x : Operand) (ho : o.op = .buildSlice t 1 #[(0, x)])
    {e : TypeId} {n : Nat} {z : Value} (hu : P.underlying t = some (.slice e)) (hi : (P.info? e).map (fun i => (i.zero, i.size)) = some (some z, n)) (hz : z.cells.size = n) (hn : 0 < n) (h24 : n ≤ 1000) (cs : List Value) (hl : cs.length = n)
    (hx : a.eval x = .agg cs.toArray) (h : wpList P ops Q rest (a.put o.dst (.slice (some ⟨w.heap.size, 0, none⟩) 1 1)) (w.alloc (.cells cs.toArray e))) : wpList P ops Q (o :: rest) a w := by
  refine wpList_plain hgd fun K hK => ?_
  have hr := run_build1 (P := P) hu hi hz hn h24 cs hl w
  unfold Oper.wp execOp
  simp only [ho, Sem.run_bind, List.map_toArray, List.map_cons, List.map_nil, hx, hr, Result.andThen_ok]
  exact hK _ _ h
def recsTo (l : List RawD) (k : Nat) : List Msg := (l.take k).map recM
theorem recsTo_len {l : List RawD} {k : Nat} (h : k ≤ l.length) : (recsTo l k).length = k := by unfold recsTo; rw [List.length_map, List.length_take]; omega
theorem recsTo_succ {l : List RawD} {k : Nat} (h : k < l.length) : recsTo l (k + 1) = recsTo l k ++ [recM l[k]] := by
  unfold recsTo; rw [List.take_succ_eq_append_getElem h, List.map_append]; rfl
theorem recsL_to {l : List RawD} {k : Nat} (h : min l.length 24 = k) : recsL l = recsTo l k := by
  unfold recsL recsTo
  rw [← h]
  congr 1
  rcases Nat.le_total l.length 24 with q | q
  · rw [Nat.min_eq_left q, List.take_of_length_le q, List.take_length]
  · rw [Nat.min_eq_right q]
set_option maxRecDepth 100000 in
set_option maxHeartbeats 8000000 in
theorem records_any {G : Nat → Prop} {l : List RawD} (v : Value) (w : World) (h : RdS RRaw G w v l) :
    Calls Try.prog 25 #[v] w fun e w' => ∃ v', e = .returned v' ∧ RdS RMsg (fun b => w.heap.size ≤ b) w' v' (recsL l) ∧ Below w.heap.size w w' := by
  obtain ⟨adv, capv, rfl, hcv, hcm⟩ := h.form
  unfold maxLen at hcm
  have HV := Lib.hid h
  clear h
  go_enter Try.func25, Try.ntmps25
  go_wp2_with fail
  go_loopw [3, 4] (fun o i wr => ∃ (k : Nat) (ad : Option Addr) (cap : Nat), k ≤ l.length ∧ k ≤ 24 ∧ i = .int .i64 k ∧ o = .slice ad k cap ∧ LstO RMsg (fun b => w.heap.size ≤ b) w.heap.size 35 wr (.slice ad k cap) (recsTo l k) ∧ Below w.heap.size w wr) (fun _ i _ => 24 - (intOf i).toNat)
  case atStart => exact ⟨0, none, 0, Nat.zero_le _, by omega, rfl, rfl, LstO.nil _ _ _ _ _, Below.refl _ _⟩
  case round =>
    obtain ⟨k, ad, cap, hk, hk24, rfl, rfl, hL, hB⟩ := hrel
    have hz := hB.size
    have HBr := Lib.hid hB
    by_cases hlt : k < l.length
    · have t1 : (k : Int) < (l.length : Int) := by omega
      by_cases h24 : (k : Int) < 24
      · obtain ⟨vals, hv⟩ := hL.valsOf
        have HLr := Lib.hid hv
        have HKL := Lib.hid (recsTo_len (l := l) (k := k) (by omega))
        have HMS := Lib.hid (recsTo_succ hlt)
        have hvlt := hv.lt
        obtain ⟨b, o, vt, rfl, -, e0, e1, e2, e3, e4, hr⟩ := (HV.out.below hB (fun _ h => h)).raw k hlt
        have hone := hr.one
        have i0 : (0 : Int) ≤ (k : Int) := by omega
        generalize l[k] = r at *
        have HRW := Lib.hid hr
        clear hv hL hB hr
        go_wp2_with fail
        refine (record_any r vt wr HRW.out).mono ?_
        rintro e w2 ⟨mv, rfl, hM, hb2⟩
        generalize recM r = M at *
        have HM2 := Lib.hid hM.low
        have HL2 := Lib.hid (HLr.out.below hb2)
        have HB2 := Lib.hid (HBr.out.trans (hb2.mono hz))
        have s2 := hb2.size
        have hone2 := msgCells_one hM
        have hlen2 : (msgCells M mv).length = 19 := rfl
        clear hM hb2 e0 e1 e2 e3 e4
        go_wp2_with (first
          | (refine wpList_store_new rfl 35 _ _ rfl (msgCells M mv) 35 zeroMsg rfl rfl (by kernel_rfl) rfl hone2 ?_; intro w3 hb3 hB3 hs3; have HX3 := Lib.hid hb3; have HL3 := Lib.hid (HL2.out.below hB3); have HM3 := Lib.hid (HM2.out.keep (G' := fun b => wr.heap.size ≤ b ∧ b < w2.heap.size) (Keep.below hB3) (fun _ h => h)); have HB3 := Lib.hid (HB2.out.trans (hB3.mono HB2.out.size)); clear hb3 hB3)
          | (refine wpList_load_box rfl 35 _ rfl w2.heap.size rfl (msgCells M mv) 35 HX3.out Try.underlying35 rfl (by kernel_rfl) ?_)
          | (refine wpList_build1 rfl 57 _ rfl Try.underlying57 (z := .agg zeroMsg.toArray) (n := 19) (by kernel_rfl) rfl (by decide) (by decide) (msgCells M mv) rfl rfl ?_)
          | (at_builtin; refine wpList_append_one rfl _ _ 57 rfl elemMsg w.heap.size _ k vals rfl (by have h := (HL3.out.alloc (.cells (msgCells M mv).toArray 35)).own; rw [HKL.out] at h; exact h) w3.heap.size 35 (msgCells M mv) rfl (BoxAt.new w3 (msgCells M mv) _) rfl (fun u hu => List.all_eq_true.1 hone2 u hu) (by unfold maxLen; omega) (by omega) (by have := HB3.out.size; simp; omega) ?_; intro g cap6 w6 hown6 hgr6 hat6 hlt6))
        have z3 : w3.heap.size = w2.heap.size + 1 := hs3
        have hx : RMsg.rd (fun b => w.heap.size ≤ b ∧ b < (w3.alloc (.cells (msgCells M mv).toArray 35)).heap.size ∧ (Value.slice ad k cap).ownBlock ≠ some b) (w3.alloc (.cells (msgCells M mv).toArray 35)) (msgCells M mv) M :=
          ⟨mv, rfl, HM3.out.keep (Keep.alloc _ _ _) (fun b hb => ⟨by have := hb.1; omega, by have := hb.2; simp; omega, fun e => by have h1 := hb.1; have := (hvlt _ e).2; omega⟩)⟩
        have hP := (HL3.out.alloc (.cells (msgCells M mv).toArray 35)).push hx (by rw [HKL.out]; exact hown6) hgr6 hat6
        rw [HKL.out, ← HMS.out] at hP
        have HP := Lib.hid hP
        have HB6 := Lib.hid ((HB3.out.alloc HB3.out.size (.cells (msgCells M mv).toArray 35)).grown hgr6 (by have := HB3.out.size; simp; omega) (fun k hk => (hvlt _ hk).1))
        clear hP hx hown6
        go_wp2
        go_roundw
        case rel => exact ⟨k + 1, some ⟨g, 0, none⟩, cap6, by omega, by omega, by go_num, rfl, HP.out, HB6.out⟩
        case measure => simp [intOf]; omega
      · have HQ := Lib.hid (recsL_to (l := l) (k := k) (by omega))
        have HM := Lib.hid (hL.rd (G' := fun b => w.heap.size ≤ b) (by decide) (fun b h1 h2 => h1) (fun b h1 h2 => h1))
        clear hL hB
        go_wp2
        go_ret
        exact ⟨_, rfl, by rw [HQ.out]; exact HM.out, HBr.out⟩
    · have HQ := Lib.hid (recsL_to (l := l) (k := k) (by omega))
      have HM := Lib.hid (hL.rd (G' := fun b => w.heap.size ≤ b) (by decide) (fun b h1 h2 => h1) (fun b h1 h2 => h1))
      have t1 : ¬ (k : Int) < (l.length : Int) := by omega
      clear hL hB
      go_wp2
      go_ret
      exact ⟨_, rfl, by rw [HQ.out]; exact HM.out, HBr.out⟩
/-- The first ones of a list. -/
def Pre (a b : List Msg) : Prop := a.length ≤ b.length ∧ ∀ (j : Nat) (h : j < a.length) (h' : j < b.length), b[j] = a[j]
theorem pre_take (l : List Msg) (k : Nat) : Pre (l.take k) l := ⟨by rw [List.length_take]; omega, fun j h h' => by simp⟩
theorem pre_self (l : List Msg) : Pre l l := ⟨Nat.le_refl _, fun _ _ _ => rfl⟩
theorem pre_app (l m : List Msg) : Pre l (l ++ m) := ⟨by simp, fun j h h' => by rw [List.getElem_append_left h]⟩
set_option maxRecDepth 100000 in
set_option maxHeartbeats 8000000 in
theorem begins_pre {G G' : Nat → Prop} {a b : List Msg} (va vb : Value) (w : World) (ha : RdS RMsg G w va a) (hb : RdS RMsg G' w vb b) (hp : Pre a b) :
    Calls Try.prog 28 #[va, vb] w fun e w' => e = .returned (.bool true) ∧ Below w.heap.size w w' := by
  obtain ⟨ada, capa, rfl, hca, hcm⟩ := ha.form
  obtain ⟨adb, capb, rfl, hcb, hcn⟩ := hb.form
  unfold maxLen at hcm hcn
  have hle : ¬ (b.length : Int) < (a.length : Int) := by have := hp.1; omega
  have HP := Lib.hid hp.2
  have hle2 := hp.1
  have HVA := Lib.hid ha
  have HVB := Lib.hid hb
  clear ha hb hp
  go_enter Try.func28, Try.ntmps28
  go_wp2_with fail
  go_loopw [5] (fun i wr => ∃ k : Nat, k ≤ a.length ∧ i = .int .i64 k ∧ Below w.heap.size w wr) (fun i _ => a.length - (intOf i).toNat)
  case atStart => exact ⟨0, Nat.zero_le _, rfl, Below.refl _ _⟩
  case round =>
    obtain ⟨k, hk, rfl, hB⟩ := hrel
    have hz := hB.size
    have HBr := Lib.hid hB
    by_cases hlt : k < a.length
    · have hltb : k < b.length := by omega
      have i0 : (0 : Int) ≤ (k : Int) := by omega
      have i1 : (k : Int) < (a.length : Int) := by omega
      have i2 : (k : Int) < (b.length : Int) := by omega
      obtain ⟨ba, oa, mva, rfl, -, hca', hra⟩ := (HVA.out.below hB (fun _ h => h)).msg k hlt
      obtain ⟨bb, ob, mvb, rfl, -, hcb', hrb⟩ := (HVB.out.below hB (fun _ h => h)).msg k hltb
      rw [HP.out k hlt hltb] at hcb' hrb
      generalize a[k] = M at *
      have ra : wr.rangeAt ba (oa + k * 19) (msgCells M mva) := fun j v hv => by rw [Nat.add_assoc]; exact hca' j v hv
      have rb : wr.rangeAt bb (ob + k * 19) (msgCells M mvb) := fun j v hv => by rw [Nat.add_assoc]; exact hcb' j v hv
      have za : ba < wr.heap.size := World.block_lt_of_cell? wr _ (ra 0 _ rfl)
      have zb : bb < wr.heap.size := World.block_lt_of_cell? wr _ (rb 0 _ rfl)
      have HRA := Lib.hid hra
      have HRB := Lib.hid hrb
      clear hca' hcb' hra hrb hB
      go_wp2_with fail
      refine wp_region_held_drew (S := fun w' => w'.rangeAt ba (oa + k * 19) (msgCells M mva) ∧ w'.rangeAt bb (ob + k * 19) (msgCells M mvb)) (by kernel_rfl) (by exact ⟨ra, rb⟩) (fun hHeld => ?_)
      refine wpAnyH_take (i := 0) (v := .slice (some ⟨ba, oa, none⟩) a.length capa) rfl (by kernel_rfl) (by kernel_rfl) (by kernel_rfl) (fun _ _ _ h => h) (Or.inl ⟨by rfl, fun w hSw => ?_⟩) hHeld ?_
      · (try dsimp only at hSw); go_split_ands; go_simp; all_goals (try first | rfl | omega)
      try simp only [Act.put, List.getElem_toArray, List.getElem_cons_succ, List.getElem_cons_zero, List.setIfInBounds_toArray, List.set_cons_zero, List.set_cons_succ]
      refine wpAnyH_take (i := 1) (v := .int .i64 (k : Int)) rfl (by kernel_rfl) (by kernel_rfl) (by kernel_rfl) (fun _ _ _ h => h) (Or.inl ⟨by rfl, fun w hSw => ?_⟩) hHeld ?_
      · (try dsimp only at hSw); go_split_ands; go_simp; all_goals (try first | rfl | omega)
      try simp only [Act.put, List.getElem_toArray, List.getElem_cons_succ, List.getElem_cons_zero, List.setIfInBounds_toArray, List.set_cons_zero, List.set_cons_succ]
      refine wpAnyH_take (i := 2) (v := .pointer (some ⟨ba, oa + k * 19, none⟩)) rfl (by kernel_rfl) (by kernel_rfl) (by kernel_rfl) (fun _ _ _ h => h) (Or.inl ⟨by rfl, fun w hSw => ?_⟩) hHeld ?_
      · (try dsimp only at hSw); go_split_ands; go_simp; all_goals (try first | rfl | omega)
      try simp only [Act.put, List.getElem_toArray, List.getElem_cons_succ, List.getElem_cons_zero, List.setIfInBounds_toArray, List.set_cons_zero, List.set_cons_succ]
      refine wpAnyH_take (i := 3) (v := .agg (msgCells M mva).toArray) rfl (by kernel_rfl) (by kernel_rfl) (by kernel_rfl) (fun _ _ _ h => h) (yieldsIf_load_mid (by rfl) 35 _ rfl ba (oa + k * 19) rfl (msgCells M mva) _ (fun w hSw => hSw.1) Try.underlying35 rfl (by kernel_rfl)) hHeld ?_
      try simp only [Act.put, List.getElem_toArray, List.getElem_cons_succ, List.getElem_cons_zero, List.setIfInBounds_toArray, List.set_cons_zero, List.set_cons_succ]
      refine wpAnyH_take (i := 4) (v := .slice (some ⟨bb, ob, none⟩) b.length capb) rfl (by kernel_rfl) (by kernel_rfl) (by kernel_rfl) (fun _ _ _ h => h) (Or.inl ⟨by rfl, fun w hSw => ?_⟩) hHeld ?_
      · (try dsimp only at hSw); go_split_ands; go_simp; all_goals (try first | rfl | omega)
      try simp only [Act.put, List.getElem_toArray, List.getElem_cons_succ, List.getElem_cons_zero, List.setIfInBounds_toArray, List.set_cons_zero, List.set_cons_succ]
      refine wpAnyH_take (i := 5) (v := .int .i64 (k : Int)) rfl (by kernel_rfl) (by kernel_rfl) (by kernel_rfl) (fun _ _ _ h => h) (Or.inl ⟨by rfl, fun w hSw => ?_⟩) hHeld ?_
      · (try dsimp only at hSw); go_split_ands; go_simp; all_goals (try first | rfl | omega)
      try simp only [Act.put, List.getElem_toArray, List.getElem_cons_succ, List.getElem_cons_zero, List.setIfInBounds_toArray, List.set_cons_zero, List.set_cons_succ]
      refine wpAnyH_take (i := 6) (v := .pointer (some ⟨bb, ob + k * 19, none⟩)) rfl (by kernel_rfl) (by kernel_rfl) (by kernel_rfl) (fun _ _ _ h => h) (Or.inl ⟨by rfl, fun w hSw => ?_⟩) hHeld ?_
      · (try dsimp only at hSw); go_split_ands; go_simp; all_goals (try first | rfl | omega)
      try simp only [Act.put, List.getElem_toArray, List.getElem_cons_succ, List.getElem_cons_zero, List.setIfInBounds_toArray, List.set_cons_zero, List.set_cons_succ]
      refine wpAnyH_take (i := 7) (v := .agg (msgCells M mvb).toArray) rfl (by kernel_rfl) (by kernel_rfl) (by kernel_rfl) (fun _ _ _ h => h) (yieldsIf_load_mid (by rfl) 35 _ rfl bb (ob + k * 19) rfl (msgCells M mvb) _ (fun w hSw => hSw.2) Try.underlying35 rfl (by kernel_rfl)) hHeld ?_
      try simp only [Act.put, List.getElem_toArray, List.getElem_cons_succ, List.getElem_cons_zero, List.setIfInBounds_toArray, List.set_cons_zero, List.set_cons_succ]
      refine wpAnyH_ready (rs := [8]) (by kernel_rfl) (by simp) ?_
      refine AllReadyH.cons rfl (fun K hK => ?_) ?_
      · rw [if_pos (by rfl)]
        go_simp
        go_at_call 29
        refine (sameMessage_eq M mva mvb _ (by first | exact HRA.out | exact HRA.out.keep (Keep.drew _ _) (fun _ h => h)) (by first | exact HRB.out | exact HRB.out.keep (Keep.drew _ _) (fun _ h => h))).mono ?_
        rintro e w8 ⟨rfl, hb8⟩
        have hb8' : Below wr.heap.size wr w8 := (by first | exact hb8 | exact (Below.refl _ _).drew.trans hb8)
        have hR8 := HBr.out.trans (hb8'.mono hz)
        have sa : w8.rangeAt ba (oa + k * 19) (msgCells M mva) := (fun j v hv => by rw [(bcellAt hb8' _ za).1]; exact ra j v hv)
        have sb : w8.rangeAt bb (ob + k * 19) (msgCells M mvb) := (fun j v hv => by rw [(bcellAt hb8' _ zb).1]; exact rb j v hv)
        clear hb8 hb8'
        show K _ _
        refine hK.out _ _ (by exact ⟨sa, sb⟩) (fun hHeld => ?_)
        clear hK K
        try simp only [Act.put, List.getElem_toArray, List.getElem_cons_succ, List.getElem_cons_zero, List.setIfInBounds_toArray, List.set_cons_zero, List.set_cons_succ]
        refine wpAnyH_take (i := 9) (v := .bool false) rfl (by kernel_rfl) (by kernel_rfl) (by kernel_rfl) (fun _ _ _ h => h) (Or.inl ⟨by rfl, fun w hSw => ?_⟩) hHeld ?_
        · (try dsimp only at hSw); go_split_ands; go_simp; all_goals (try first | rfl | omega)
        try simp only [Act.put, List.getElem_toArray, List.getElem_cons_succ, List.getElem_cons_zero, List.setIfInBounds_toArray, List.set_cons_zero, List.set_cons_succ]
        refine wpAnyH_done (by kernel_rfl) ?_ _
        go_wp2
        go_roundw
        case rel => exact ⟨k + 1, by omega, by go_num, hR8⟩
        case measure => simp [intOf]; omega
      exact AllReadyH.nil
    · have t1 : ¬ (k : Int) < (a.length : Int) := by omega
      clear hB
      go_wp2
      go_ret
      exact ⟨rfl, HBr.out⟩
end Go.Proofs.Ytegdpjoncjmdeaa
