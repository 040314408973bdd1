/- sheaveskeep.record, records: what they compute. -/
import Derived.Test.YtegdpjoncjmdeaaTapeL
import Derived.Test.YtegdpjoncjmdeaaBas
set_option linter.unusedVariables false
set_option linter.unusedSimpArgs false
attribute [local go_sem ↓] Go.wp_at_zero Go.wp_at_succ
namespace Go.Proofs.Ytegdpjoncjmdeaa
open Go Go.RowKit

theorem foldl_set_all : ∀ (cs : List Value) (A : Array Value) (k : Nat), A.size = k + cs.length → (cs.zipIdx k).foldl (fun (a : Array Value) (x : Value × Nat) => a.setIfInBounds (0 + x.2) x.1) A = (A.toList.take k ++ cs).toArray
  | [], A, k, h => by
    simp only [List.length_nil, Nat.add_zero] at h
    subst h
    rw [← Array.length_toList, List.take_length]; simp
  | c :: t, A, k, h => by
    simp only [List.length_cons] at h
    rw [List.zipIdx_cons, List.foldl_cons, foldl_set_all t _ (k + 1) (by simp; omega)]
    congr 1
    simp only [Nat.zero_add, Array.toList_setIfInBounds]
    have : (A.toList.set k c).take (k + 1) = A.toList.take k ++ [c] := by
      rw [List.take_succ_eq_append_getElem (by simp; omega), List.take_set_of_le (Nat.le_refl _)]
      simp
    rw [this]; simp
theorem run_build1 {P : Program} {t e : TypeId} {n : Nat} {z : Value} (hu : P.underlying t = some (.slice e)) (hi : (P.info? e).map (fun i => (i.zero, i.size)) = some (some z, n)) (hz : z.cells.size = n) (hn : 0 < n) (h24 : n ≤ 1000) (cs : List Value) (hl : cs.length = n) (w : World) :
    (Instr.buildSlice t 1 #[(0, .agg cs.toArray)]).run P w = .ok (.slice (some ⟨w.heap.size, 0, none⟩) 1 1) (w.alloc (.cells cs.toArray e)) := by
  subst hl
  cases hq : P.info? e with
  | none => simp [hq] at hi
  | some i =>
    simp only [hq, Option.map_some, Option.some.injEq, Prod.mk.injEq] at hi
    obtain ⟨h1, h2⟩ := hi
    have hf : ∀ A : Array Value, A.size = cs.length → Instr.fill (fun i => some (i * cs.length, cs.length)) A [(0, .agg cs.toArray)] = some cs.toArray := fun A hA => by
      have := foldl_set_all cs A 0 (by omega)
      simp only [List.take_zero, List.nil_append] at this
      unfold Instr.fill
      simp only [show (Value.agg cs.toArray).cells = cs.toArray from rfl, List.size_toArray, Nat.zero_mul, Nat.zero_add, hA]
      rw [if_neg (by simp)]
      unfold Instr.fill
      congr 1
      rw [← Array.foldl_toList]
      simp only [Nat.zero_add] at this
      simpa using this
    have h1000 : ¬ (1 * cs.length > 2 ^ 24) := by omega
    have h0 : ¬ (1 * cs.length = 0) := by omega
    have hzz : ((Array.range (1 * cs.length)).map (fun j => z.cells[j % z.cells.size]!)).size = cs.length := by simp
    unfold Instr.buildSlice
    simp only [Sem.run_bind, run_underlying hu, Result.andThen_ok, Go.sizeOf, Go.typeInfo, zeroValue]
    have e1 : ¬ (16777216 < cs.length) := by omega
    have e2 : cs ≠ [] := by intro h; simp [h] at hn
    have hz2 : ((Array.range cs.length).map (fun j => z.cells[j % z.cells.size]!)).size = cs.length := by simp
    simp [e1, e2, hf _ hz2, newRow, hq, h2, h1, Go.typeInfo]
/-- A message, its lists read. -/
def RMsg : Rel Msg where
  size := 19
  rd := fun G w cs x => ∃ v, cs = msgCells x v ∧ RdM G w v x
  len := fun ⟨_, h, _⟩ => by rw [h]; rfl
  keep := fun ⟨v, h, hr⟩ hk hg => ⟨v, h, hr.keep hk hg⟩
  low := fun ⟨v, h, hr⟩ => ⟨v, h, hr.low⟩
theorem RMsg_one {G : Nat → Prop} {w : World} {cs : List Value} {x : Msg} (h : RMsg.rd G w cs x) : ∀ u ∈ cs, u.oneCell' = true := by
  obtain ⟨v, rfl, hr⟩ := h
  exact List.all_eq_true.1 (msgCells_one hr)
theorem RdS.msg {G : Nat → Prop} {w : World} {l : List Msg} {ad : Option Addr} {n cap : Nat} (h : RdS RMsg G w (.slice ad n cap) l) (j : Nat) (hj : j < l.length) :
    ∃ b o v, ad = some ⟨b, o, none⟩ ∧ G b ∧ (∀ t c, (msgCells l[j] v)[t]? = some c → w.cell? ⟨b, o + (j * 19 + t), none⟩ = some c) ∧ RdM G w v l[j] := by
  obtain ⟨b, o, cs, ha, hb, hc, v, rfl, h1⟩ := h.at j hj
  exact ⟨b, o, v, ha, hb, hc, h1⟩
theorem elemMsg : ElemOk Try.prog 57 35 19 264 := elemOk_of (z := .agg zeroMsg.toArray) (by kernel_rfl) (by kernel_rfl) rfl (by decide)
theorem bare_msgOf_cells (m : Msg) (v : MV) : ((msgCells m v).set 0 (.int .i64 0)).set 1 (.int .i64 0) = msgCells (bare m) v := rfl
theorem RdM.bare {G : Nat → Prop} {w : World} {v : MV} {m : Msg} (h : RdM G w v m) : RdM G w v (bare m) := ⟨h.tx, h.bs, h.ps, h.d, h.cbs, h.cps, h.vs⟩
theorem recM_five {r : RawD} (h : 1 + pickedZ r.k 5 = 5) : recM r = Go.Proofs.Ytegdpjoncjmdeaa.bare (msgOf 0 r.a r.b 0 r.txs) := by unfold recM; rw [if_pos h]
theorem recM_else {r : RawD} (h : ¬ 1 + pickedZ r.k 5 = 5) : recM r = Go.Proofs.Ytegdpjoncjmdeaa.bare (msgOf r.k r.a r.b r.c r.txs) := by unfold recM; rw [if_neg h]
set_option maxRecDepth 100000 in
set_option maxHeartbeats 8000000 in
theorem record_any {Gx : Nat → Prop} (r : RawD) (vt : Value) (w : World) (hr : RawOk Gx w vt r) :
    Calls Try.prog 20 #[.agg #[.int .i64 r.k, .int .i64 r.a, .int .i64 r.b, .int .i64 r.c, vt]] w fun e w' => ∃ mv, e = .returned (.agg (msgCells (recM r) mv).toArray) ∧ RdM (fun b => w.heap.size ≤ b) w' mv (recM r) ∧ Below w.heap.size w w' := by
  obtain ⟨⟨k1, k2⟩, ⟨a1, a2⟩, ⟨b1, b2⟩, ⟨c1, c2⟩, hx, hs⟩ := hr
  obtain ⟨adx, capx, rfl, -, -⟩ := hx.form
  have hM1 := fun (q : World) (hq : Below w.heap.size w q) => message_any (Gx := fun b => Gx b) r.k r.a r.b r.c (.slice adx r.txs.length capx) r.txs q k1 k2 a1 a2 b1 b2 c1 c2 (hx.below hq (fun _ h => h)) hs
  have hM2 := fun (q : World) (hq : Below w.heap.size w q) => message_any (Gx := fun b => Gx b) 0 r.a r.b 0 (.slice adx r.txs.length capx) r.txs q (by omega) (by omega) a1 a2 b1 b2 (by omega) (by omega) (hx.below hq (fun _ h => h)) hs
  have hk := msgOf_k r.k r.a r.b r.c r.txs
  have hR5 := fun h => recM_five (r := r) h
  have hRe := fun h => recM_else (r := r) h
  have HM1 := Lib.hid hM1
  have HM2 := Lib.hid hM2
  generalize hP : 1 + pickedZ r.k 5 = p at *
  generalize recM r = R at *
  generalize msgOf r.k r.a r.b r.c r.txs = M at *
  generalize msgOf 0 r.a r.b 0 r.txs = M0 at *
  have HR5 := Lib.hid hR5
  have HRe := Lib.hid hRe
  have HK := Lib.hid hk
  clear hM1 hM2 hx hs hR5 hRe hP hk
  go_enter Try.func20, Try.ntmps20
  go_upto_region 1 with fail
  obtain ⟨w1, hw1⟩ : ∃ w1, w1 = (w.alloc (.cells #[.int .i64 r.k, .int .i64 r.a, .int .i64 r.b, .int .i64 r.c, (.slice adx r.txs.length capx)] 44)).alloc (.cells zeroMsg.toArray 35) := ⟨_, rfl⟩
  have hb1 : Below w.heap.size w w1 := by rw [hw1]; exact ((Below.refl _ _).alloc (Nat.le_refl _) _).alloc (by simp) _
  have bX : BoxAt w1 w.heap.size [.int .i64 r.k, .int .i64 r.a, .int .i64 r.b, .int .i64 r.c, (.slice adx r.txs.length capx)] 44 := by rw [hw1]; exact (BoxAt.new w [_, _, _, _, _] _).alloc _
  have bZ : BoxAt w1 (w.heap.size + 1) zeroMsg 35 := by rw [hw1]; exact BoxAt.newAt _ zeroMsg _ (by simp)
  have z1 : w1.heap.size = w.heap.size + 2 := by rw [hw1]; simp
  rw [← hw1]
  have HX := Lib.hid bX
  have HZ := Lib.hid bZ
  have HB := Lib.hid hb1
  have x0 := bX.cell 0 rfl
  have x1 := bX.cell 1 rfl
  have x2 := bX.cell 2 rfl
  have x3 := bX.cell 3 rfl
  have x4 := bX.cell 4 rfl
  clear hw1 hb1 bX bZ
  go_wp2_with fail
  refine (HM1.out w1 HB.out).mono ?_
  rintro e w2 ⟨mv, rfl, hM, hb2⟩
  have z2 : w1.heap.size ≤ w2.heap.size := hb2.size
  have HRM := Lib.hid hM.low
  replace HX := Lib.hid (HX.out.belowS hb2)
  replace HZ := Lib.hid (HZ.out.belowS hb2)
  replace HB := Lib.hid (HB.out.trans (hb2.mono (by omega)))
  clear hM hb2 x0 x1 x2 x3 x4 HM1
  go_upto_region 2 with (refine wpList_store_new rfl 35 _ _ rfl (msgCells M mv) 35 zeroMsg rfl rfl (by kernel_rfl) rfl (msgCells_one HRM.out) ?_; intro w3 hb3 hB3 hs3)
  have HY := Lib.hid hb3
  replace HX := Lib.hid (HX.out.belowS hB3)
  replace HZ := Lib.hid (HZ.out.belowS hB3)
  replace HB := Lib.hid (HB.out.trans (hB3.mono (by omega)))
  replace HRM := Lib.hid (HRM.out.keep (G' := fun b => w1.heap.size ≤ b ∧ b < w2.heap.size) (Keep.below hB3) (fun _ h => h))
  have y2 : w3.cell? ⟨w2.heap.size, 2, none⟩ = some (.int .i64 p) := by rw [← HK.out]; exact hb3.cell 2 rfl
  clear hb3 hB3
  by_cases h5 : p = 5
  · subst h5
    have hR := HR5.out rfl
    have HRR := Lib.hid hR
    have x1 := HX.out.cell 1 rfl
    have x2 := HX.out.cell 2 rfl
    have x4 := HX.out.cell 4 rfl
    clear hR HR5 HRe
    go_wp2_with fail
    refine (HM2.out w3 HB.out).mono ?_
    rintro e w4 ⟨mv0, rfl, hM, hb4⟩
    have z4 : w3.heap.size ≤ w4.heap.size := hb4.size
    have HRM0 := Lib.hid hM.low
    have nXY : w2.heap.size ≠ w.heap.size + 1 := by omega
    replace HY := Lib.hid (HY.out.belowS hb4)
    replace HZ := Lib.hid (HZ.out.belowS hb4)
    replace HB := Lib.hid (HB.out.trans (hb4.mono (by omega)))
    clear hM hb4 x1 x2 x4 y2 HRM HX
    go_upto_region 4 with (refine wpList_store_boxG rfl 35 _ _ rfl w2.heap.size (msgCells M0 mv0) rfl rfl 35 (msgCells M mv) HY.out (by kernel_rfl) rfl (msgCells_one HRM0.out) ?_; intro w5 hb5 hB5 hg5)
    have s5 : w5.heap.size = w5.heap.size := rfl
    have z5 : w4.heap.size ≤ w5.heap.size := hg5.size
    replace HZ := Lib.hid (HZ.out.grown hg5 (by simp; omega))
    replace HB := Lib.hid (HB.out.trans (hB5.mono (by omega)))
    replace HRM0 := Lib.hid (HRM0.out.keep (G' := fun b => w3.heap.size ≤ b) (Keep.grown hg5 (fun k e => by simp only [Option.some.injEq] at e; omega)) (fun _ h => h.1))
    have f0 := hb5.free 0
    have f1 := hb5.free 1
    have c0 : w5.cell? ⟨w2.heap.size, 0, none⟩ = some _ := hb5.cell 0 rfl
    have c1 : w5.cell? ⟨w2.heap.size, 1, none⟩ = some _ := hb5.cell 1 rfl
    have HY5 := Lib.hid ((hb5.set 0 (.int .i64 0)).set 1 (.int .i64 0))
    rw [bare_msgOf_cells] at HY5
    have HZ5 := Lib.hid ((HZ.out.setOther (p := ⟨w2.heap.size, 0, none⟩) (by simp; omega) (.int .i64 0)).setOther (p := ⟨w2.heap.size, 1, none⟩) (by simp; omega) (.int .i64 0))
    clear hb5 hB5 hg5 HY
    go_wp2_with (first
      | (refine wpList_load_box rfl 35 _ rfl w2.heap.size rfl (msgCells (Go.Proofs.Ytegdpjoncjmdeaa.bare M0) mv0) 35 HY5.out Try.underlying35 rfl (by kernel_rfl) ?_)
      | (refine wpList_store_boxG rfl 35 _ _ rfl (w.heap.size + 1) (msgCells (Go.Proofs.Ytegdpjoncjmdeaa.bare M0) mv0) rfl rfl 35 zeroMsg HZ5.out (by kernel_rfl) rfl (msgCells_one HRM0.out.bare) ?_; intro w9 hb9 hB9 hg9))
    refine bodyPost_ret (results_cell_row Try.results20 _ w9 (w.heap.size + 1) 35 (msgCells (Go.Proofs.Ytegdpjoncjmdeaa.bare M0) mv0).toArray _ _ rfl hb9 Try.underlying35 rfl (by kernel_rfl)) rfl ⟨mv0, by rw [HRR.out], ?_, ?_⟩
    · rw [HRR.out]
      exact HRM0.out.bare.keep (((Keep.setCell (p := ⟨w2.heap.size, 0, none⟩) (by simp; omega) _).trans (Keep.setCell (p := ⟨w2.heap.size, 1, none⟩) (by simp; omega) _)).trans (Keep.grown hg9 (fun k e => by simp only [Option.some.injEq] at e; omega))) (fun b hb => by omega)
    · exact ((HB.out.setCell (p := ⟨w2.heap.size, 0, none⟩) (by simp; omega) _).setCell (p := ⟨w2.heap.size, 1, none⟩) (by simp; omega) _).trans (hB9.mono (by omega))
  · have hR := HRe.out h5
    have HRR := Lib.hid hR
    have e5 : (p == 5) = false := by simp [h5]
    have hb5 := HY.out
    have f0 := hb5.free 0
    have f1 := hb5.free 1
    have c0 : w3.cell? ⟨w2.heap.size, 0, none⟩ = some _ := hb5.cell 0 rfl
    have c1 : w3.cell? ⟨w2.heap.size, 1, none⟩ = some _ := hb5.cell 1 rfl
    have HY5 := Lib.hid ((hb5.set 0 (.int .i64 0)).set 1 (.int .i64 0))
    rw [bare_msgOf_cells] at HY5
    have HZ5 := Lib.hid ((HZ.out.setOther (p := ⟨w2.heap.size, 0, none⟩) (by simp; omega) (.int .i64 0)).setOther (p := ⟨w2.heap.size, 1, none⟩) (by simp; omega) (.int .i64 0))
    clear hb5 HY h5 hR HR5 HRe
    go_wp2_with (first
      | (refine wpList_load_box rfl 35 _ rfl w2.heap.size rfl (msgCells (Go.Proofs.Ytegdpjoncjmdeaa.bare M) mv) 35 HY5.out Try.underlying35 rfl (by kernel_rfl) ?_)
      | (refine wpList_store_boxG rfl 35 _ _ rfl (w.heap.size + 1) (msgCells (Go.Proofs.Ytegdpjoncjmdeaa.bare M) mv) rfl rfl 35 zeroMsg HZ5.out (by kernel_rfl) rfl (msgCells_one HRM.out.bare) ?_; intro w9 hb9 hB9 hg9))
    refine bodyPost_ret (results_cell_row Try.results20 _ w9 (w.heap.size + 1) 35 (msgCells (Go.Proofs.Ytegdpjoncjmdeaa.bare M) mv).toArray _ _ rfl hb9 Try.underlying35 rfl (by kernel_rfl)) rfl ⟨mv, by rw [HRR.out], ?_, ?_⟩
    · rw [HRR.out]
      exact HRM.out.bare.keep (((Keep.setCell (p := ⟨w2.heap.size, 0, none⟩) (by simp) _).trans (Keep.setCell (p := ⟨w2.heap.size, 1, none⟩) (by simp) _)).trans (Keep.grown hg9 (fun k e => by simp only [Option.some.injEq] at e; omega))) (fun b hb => by omega)
    · exact ((HB.out.setCell (p := ⟨w2.heap.size, 0, none⟩) (by simp; omega) _).setCell (p := ⟨w2.heap.size, 1, none⟩) (by simp; omega) _).trans (hB9.mono (by omega))
end Go.Proofs.Ytegdpjoncjmdeaa
