/- wire.putBatch: what it appends. -/
import Derived.Test.YtmijiclocadimaaGreatDoorEnc2
import Derived.Test.YtmijiclocadimaaGreatDoorBas
import Derived.Deep.DeepCutAuto
set_option linter.unusedVariables false
set_option linter.unusedSimpArgs false
namespace Go.Proofs.YtmijiclocadimaaGreatDoor
open Go Go.RowKit

theorem info_u8z : (Tryz.prog.info? 5).map (fun i => i.zero) = some (some (.int .u8 0)) := by kernel_rfl
def putTxs (l : List Bytes) : Bytes := (l.map fun t => byteZ t.length :: t).flatten
def putBatchL (b : Bat) : Bytes := byteZ b.a :: (wideL b.n ++ (byteZ b.txs.length :: putTxs b.txs))
theorem putTxs_succ {l : List Bytes} {k : Nat} (h : k < l.length) : putTxs (l.take (k + 1)) = putTxs (l.take k) ++ (byteZ l[k].length :: l[k]) := by
  unfold putTxs
  rw [List.take_succ_eq_append_getElem h, List.map_append, List.flatten_append]; simp
theorem putTxs_len : ∀ {l : List Bytes}, (∀ t ∈ l, txLen t = true) → (putTxs l).length ≤ 21 * l.length
  | [], _ => by simp [putTxs]
  | t :: l, h => by
    have ih := putTxs_len (l := l) (fun x hx => h x (by simp [hx]))
    have ht := h t (by simp)
    unfold txLen at ht
    simp only [decide_eq_true_eq] at ht
    have e : putTxs (t :: l) = (byteZ t.length :: t) ++ putTxs l := rfl
    rw [e, List.length_append, List.length_cons, List.length_cons]; omega
set_option maxRecDepth 100000 in
set_option maxHeartbeats 4000000 in
theorem putBatch_any {G : Nat → Prop} (base : Nat) (v : Value) (l : Bytes) (a n : Int) (vt : Value) (txs : List Bytes) (w : World) (h : w.ownsRow base 5 1 v l.length (byteVs l)) (hb : base ≤ w.heap.size) (hl : l.length ≤ 1000)
    (hT : RdT G w vt txs) (h1 : ∀ t ∈ txs, txLen t = true) (n1 : txs.length ≤ 4) (hG : ∀ b, G b → v.ownBlock ≠ some b) (a0 : 0 ≤ a) (a1 : a < 4) (r0 : 0 ≤ n) (r1 : n ≤ 1048576) :
    Calls Tryz.prog 74 #[v, .agg #[.int .i64 a, .int .i64 n, vt]] w fun e w' => ∃ v', e = .returned v' ∧ AppB base 5 w v w' v' (l ++ putBatchL ⟨a, n, txs⟩) := by
  obtain ⟨adt, capt, rfl, -, -⟩ := hT.form
  have hblt : ∀ k, v.ownBlock = some k → base ≤ k ∧ k < w.heap.size := h.lt
  obtain ⟨w1, hw1⟩ : ∃ w1, w1 = w.alloc (.cells #[.int .i64 a, .int .i64 n, .slice adt txs.length capt] 55) := ⟨_, rfl⟩
  have hbw : Below w.heap.size w w1 := by rw [hw1]; exact (Below.refl _ _).alloc (Nat.le_refl _) _
  have bx : BoxAt w1 w.heap.size [.int .i64 a, .int .i64 n, .slice adt txs.length capt] 55 := by rw [hw1]; exact BoxAt.new w [_, _, _] _
  have HO := Lib.hid (ownsRow_below h hbw)
  have HBW := Lib.hid hbw
  have HBX := Lib.hid bx
  have HT := Lib.hid ((hT.low (by decide)).below hbw (fun _ h => h))
  have HG' := Lib.hid (show ∀ b, (G b ∧ b < w.heap.size) → v.ownBlock ≠ some b from fun b hb => hG b hb.1)
  have hXv : v.ownBlock ≠ some w.heap.size := fun e => by have := (hblt _ e).2; omega
  have hne : ∀ b, w1.heap.size ≤ b → v.ownBlock ≠ some b := fun b hb e => by have := (hblt _ e).2; have := hbw.size; omega
  have HNE := Lib.hid hne
  have hb' : base ≤ w1.heap.size := by have := hbw.size; omega
  have H1 := Lib.hid h1
  have x0 := bx.cell 0 rfl
  have x1 := bx.cell 1 rfl
  have x2 := bx.cell 2 rfl
  have hw3 : (wideL n).length = 3 := rfl
  have L1 := Lib.hid (show (l ++ [byteZ a]).length ≤ 1000000 by rw [List.length_append]; show l.length + 1 ≤ 1000000; omega)
  have hL2 : (l ++ [byteZ a] ++ wideL n).length ≤ 1004 := by rw [List.length_append, List.length_append, hw3]; show l.length + 1 + 3 ≤ 1004; omega
  clear hw3
  go_enter Tryz.func74, Tryz.ntmps74
  go_upto_region 1 with fail
  rw [← hw1]
  clear hw1 bx hbw h hT hG h1 hne
  generalize hL2e : l ++ [byteZ a] ++ wideL n = M2 at *
  have HL2E := Lib.hid hL2e
  clear hL2e
  go_cut [0] (fun u wx => AppB base 5 w1 v wx u (l ++ byteZ a :: (wideL n ++ [byteZ txs.length])))
  case first =>
    go_region_held3 (fun w' => w'.cell? ⟨w.heap.size, 0, none⟩ = some (.int .i64 a) ∧ w'.cell? ⟨w.heap.size, 1, none⟩ = some (.int .i64 n) ∧ w'.cell? ⟨w.heap.size, 2, none⟩ = some (.slice adt txs.length capt)) (go_keep)
      (first
        | (refine step_append_at1 (by rfl) _ _ _ (by rfl) elemB base v3 M2.length (byteVs M2) (by rfl) (by first | exact HA3.out.own | exact ownsRow_below HA3.out.own ((Below.refl _ _).alloc (Nat.le_refl _) _)) _ 1 [.int .u8 (IntKind.u8.wrap (txs.length : Int))] (by rfl) (by first | exact HL3.out.slCellsN rfl | exact (BoxAt.new _ [_] _).slCellsN rfl) (by simp [Value.oneCell']) (by decide) (by unfold maxLen; omega) (by omega) (by first | omega | (simp; omega)) ?_;
            intro g4 cap4 w4 hown hgr hat hlt;
            have hA4 : AppB base 5 w3 v3 w4 (.slice (some ⟨g4, 0, none⟩) (M2.length + 1) cap4) (M2 ++ [byteZ txs.length]) := (AppB.of rfl rfl hown (by simp [byteVs, byteZ_toNat, u8_wrap]) hgr hat rfl (by first | exact Below.refl _ _ | exact (Below.refl _ _).alloc (Nat.le_refl _) _));
            have hA := HA3.out.trans hA4; have HA4 := Lib.hid hA; have bx4 := hA.box HBX.out hXv; have q0 := bx4.cell 0 rfl; have q1 := bx4.cell 1 rfl; have q2 := bx4.cell 2 rfl; clear hA hA4 hown hgr hat bx4)
        | (refine step_append_at1 (by rfl) _ _ _ (by rfl) elemB base v l.length (byteVs l) (by rfl) (by exact ownsRow_below HO.out (by repeat (first | with_reducible exact Below.refl _ _ | with_reducible refine Below.drew ?_ | with_reducible refine Below.alloc ?_ (by first | omega | (simp <;> omega)) _))) _ 1 [.int .u8 (IntKind.u8.wrap a)] (by rfl) (by first | exact (BoxAt.new _ [_] _).slCellsN rfl | exact ((BoxAt.new _ [_] _).drew).slCellsN rfl | exact (((BoxAt.new _ [_] _).alloc _).drew).slCellsN rfl | exact ((BoxAt.new _ [_] _).alloc _).slCellsN rfl | exact ((BoxAt.newAt (n := w1.heap.size + 1) (w1.alloc _) [_] _ (by simp)).drew).slCellsN rfl) (by simp [Value.oneCell']) (by decide) (by unfold maxLen; omega) (by omega) (by first | omega | (simp; omega)) ?_;
            intro g cap w2 hown hgr hat hlt;
            have hA : AppB base 5 w1 v w2 (.slice (some ⟨g, 0, none⟩) (l.length + 1) cap) (l ++ [byteZ a]) := (AppB.of rfl rfl hown (by simp [byteVs, byteZ_toNat, u8_wrap]) hgr hat rfl (by repeat (first | with_reducible exact Below.refl _ _ | with_reducible refine Below.drew ?_ | with_reducible refine Below.alloc ?_ (by first | omega | (simp <;> omega)) _)));
            (try (have HL2 := Lib.hid (show BoxAt w2 w1.heap.size [.int .u8 (IntKind.u8.wrap (txs.length : Int))] 5 from BoxAt.grown (((BoxAt.new w1 [_] _).alloc _).drew) hgr (HNE.out _ (Nat.le_refl _))); have hg2 : g ≠ w1.heap.size := (by rcases hat with e | e; exact fun h => HNE.out w1.heap.size (Nat.le_refl _) (by rw [e, h]); simp at e; omega)));
            (try (have HL2 := Lib.hid (show BoxAt w2 (w1.heap.size + 1) [.int .u8 (IntKind.u8.wrap (txs.length : Int))] 5 from BoxAt.grown ((BoxAt.newAt (w1.alloc _) [_] _ (by simp)).drew) hgr (HNE.out _ (by omega))); have hg2 : g ≠ w1.heap.size + 1 := (by rcases hat with e | e; exact fun h => HNE.out (w1.heap.size + 1) (by omega) (by rw [e, h]); simp at e; omega)));
            have HA := Lib.hid hA; have bx2 := hA.box HBX.out hXv; have y0 := bx2.cell 0 rfl; have y1 := bx2.cell 1 rfl; have y2 := bx2.cell 2 rfl; have s2 := hA.size; clear hA hown hgr hat bx2)
        | (go_at_call 75; refine (wide_any base _ (l ++ [byteZ a]) n _ (by first | exact HA.out.own | exact ownsRow_below HA.out.own ((Below.refl _ _).alloc (Nat.le_refl _) _)) (by first | omega | (simp; omega)) L1.out r0 (by omega)).mono ?_; rintro e w3 ⟨v3, rfl, hA3⟩;
            (first | (have hA := HA.out.trans hA3) | (have hA := (HA.out.below ((Below.refl _ _).alloc (Nat.le_refl _) _)).trans hA3));
            (try (have HL3 := Lib.hid (hA3.box HL2.out (by simp [Value.ownBlock]; exact hg2))));
            (try (have HL3 := Lib.hid (hA3.box (BoxAt.new w2 [.int .u8 (IntKind.u8.wrap (txs.length : Int))] 5) (by simp [Value.ownBlock]; omega))));
            rw [HL2E.out] at hA; have HA3 := Lib.hid hA; have bx3 := hA.box HBX.out hXv; have z0 := bx3.cell 0 rfl; have z1 := bx3.cell 1 rfl; have z2 := bx3.cell 2 rfl; have s3 := hA.size; clear hA hA3 bx3))
    all_goals
      go_wp2_with fail
      go_meet
      exact HA4.out.list (by rw [← HL2E.out]; simp)
  case rest =>
    have hA0 := hcut
    clear hcut
    have HA0 := Lib.hid hA0
    have bxc := hA0.box HBX.out hXv
    have c2 := bxc.cell 2 rfl
    have hL0 : (l ++ byteZ a :: (wideL n ++ [byteZ txs.length])).length ≤ 1005 := by
      have : (l ++ byteZ a :: (wideL n ++ [byteZ txs.length])).length = (l ++ [byteZ a] ++ wideL n).length + 1 := by simp; omega
      rw [this, HL2E.out]; omega
    have HL0 := Lib.hid hL0
    clear hA0 bxc hL0 x0 x1 x2
    go_wp2_with fail
    go_loopw [0, 25] (fun vw i wr => ∃ k : Nat, k ≤ txs.length ∧ i = .int .i64 k ∧ AppB base 5 w1 v wr vw (l ++ byteZ a :: (wideL n ++ [byteZ txs.length]) ++ putTxs (txs.take k))) (fun _ i _ => txs.length - (intOf i).toNat)
    case atStart => exact ⟨0, Nat.zero_le _, rfl, HA0.out.list (by simp [putTxs])⟩
    case round =>
      obtain ⟨k, hk, rfl, hR⟩ := hrel
      have HR := Lib.hid hR
      by_cases hlt : k < txs.length
      · have hrd := HT.out.keep (G' := fun _ => True) (hR.keepG HG'.out) (fun _ _ => trivial)
        obtain ⟨b, o, rfl, -, hc⟩ := hrd.cell k hlt
        have htk := H1.out txs[k] (List.getElem_mem hlt)
        have hpl : (putTxs (txs.take k)).length ≤ 84 := by
          have := putTxs_len (l := txs.take k) (fun t ht => H1.out t (List.mem_of_mem_take ht))
          rw [List.length_take] at this; omega
        have hll : (l ++ byteZ a :: (wideL n ++ [byteZ txs.length]) ++ putTxs (txs.take k)).length ≤ 2000 := by
          rw [List.length_append]; have := HL0.out; omega
        have hs := hR.size
        have HPS := Lib.hid (putTxs_succ hlt)
        clear hR hrd hpl
        generalize hD : txs[k] = D at *
        generalize hLk : l ++ byteZ a :: (wideL n ++ [byteZ txs.length]) ++ putTxs (txs.take k) = Lk at *
        have HLk := Lib.hid hLk
        have d0 : 1 ≤ D.length ∧ D.length ≤ 20 := by unfold txLen at htk; simpa using htk
        obtain ⟨d0, d1⟩ := d0
        clear hD hLk htk
        go_wp2_with (first
          | (at_builtin; refine wpList_append_strat rfl _ _ 66 9 rfl elemB info_u8z Tryz.underlying9 base g2 cap2 (Lk.length + 1) rfl (byteVs Lk ++ [.int .u8 (D.length : Int)]) HO2.out D rfl (by omega) (by omega) (by omega) ?_; intro g3 cap3 w3 hown3 hgr3 hat3; have HO3 := Lib.hid hown3; have HG3 := Lib.hid hgr3; have HT3 := Lib.hid hat3; clear hown3 hgr3 hat3)
          | (at_builtin; refine wpList_append_at1 rfl _ _ 66 rfl elemB base _ rfl Lk.length (byteVs Lk) (by exact ownsRow_below HR.out.own ((Below.refl _ _).alloc (Nat.le_refl _) _)) _ rfl 1 [.int .u8 (D.length : Int)] (by exact (BoxAt.new wr [_] _).slCellsN rfl) (by simp [Value.oneCell']) (by decide) (by unfold maxLen; omega) (by omega) (by simp; omega) _ rfl ?_; intro g2 cap2 w2 hown hgr hat hlt2; have HO2 := Lib.hid hown; have HG2 := Lib.hid hgr; have HT2 := Lib.hid hat; have s2 := hgr.size; simp at s2; clear hown hgr hat))
        have hA1 := HR.out.trans (AppB.of (w := wr) rfl rfl HO2.out (show [Value.int .u8 (D.length : Int)] = byteVs [byteZ D.length] by simp [byteVs, byteZ_toNat]; omega) HG2.out HT2.out rfl ((Below.refl _ _).alloc (Nat.le_refl _) _))
        have hA2 := hA1.trans (AppB.ofStr (s := D) (l := Lk ++ [byteZ D.length]) (n := Lk.length + 1) (by simp) (by have := HO3.out; rw [show [Value.int .u8 (D.length : Int)] = byteVs [byteZ D.length] by simp [byteVs, byteZ_toNat]; omega] at this; simpa [byteVs] using this) HG3.out HT3.out)
        have HA2 := Lib.hid hA2
        clear hA1 hA2
        go_wp2_with fail
        go_roundw
        case rel => exact ⟨k + 1, by omega, by go_num, HA2.out.list (by rw [HPS.out, ← HLk.out]; simp)⟩
        case measure => simp [intOf]; omega
      · have hke : k = txs.length := by omega
        subst hke
        rw [List.take_length] at HR
        go_wp2
        go_ret
        exact ⟨_, rfl, (AppB.before HBW.out HR.out).list (by simp [putBatchL])⟩
end Go.Proofs.YtmijiclocadimaaGreatDoor
