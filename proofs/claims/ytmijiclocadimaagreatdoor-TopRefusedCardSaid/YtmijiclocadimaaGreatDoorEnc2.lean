/- wire.putHeader, putBatch: what they append. -/
import Derived.Test.YtmijiclocadimaaGreatDoorEnc
import Derived.Test.YtmijiclocadimaaGreatDoorBas
import Derived.Deep.RegionHeld3
set_option linter.unusedVariables false
set_option linter.unusedSimpArgs false
namespace Go.Proofs.YtmijiclocadimaaGreatDoor
open Go Go.RowKit

def putHeaderL (h : Hdr) : Bytes := byteZ h.a :: (wideL h.r ++ (putDigestsL h.bs ++ putDigestsL h.ps))
theorem putDigestsL_len {l : List Bytes} (h : ∀ d ∈ l, d.length = 32) (hn : l.length ≤ 10) : (putDigestsL l).length ≤ 321 := by
  unfold putDigestsL; rw [List.length_cons, flatten_len h]; omega
theorem u8_wrap (a : Int) : IntKind.u8.wrap a = a % 256 := by first | rfl | simp [IntKind.wrap] | (unfold IntKind.wrap; simp)
set_option maxRecDepth 100000 in
set_option maxHeartbeats 4000000 in
theorem putHeader_any {G : Nat → Prop} (base : Nat) (v : Value) (l : Bytes) (a r : Int) (vb vp : Value) (bs ps : List Bytes) (w : World) (h : w.ownsRow base 5 1 v l.length (byteVs l)) (hb : base ≤ w.heap.size) (hl : l.length ≤ 1000)
    (hB : RdBB G w vb bs) (hP : RdBB G w vp ps) (h1 : ∀ d ∈ bs, d.length = 32) (h2 : ∀ d ∈ ps, d.length = 32) (n1 : bs.length ≤ 10) (n2 : ps.length ≤ 10) (hG : ∀ b, G b → v.ownBlock ≠ some b) (a0 : 0 ≤ a) (a1 : a < 4) (r0 : 0 ≤ r) (r1 : r ≤ 1048576) :
    Calls Tryz.prog 66 #[v, .agg #[.int .i64 a, .int .i64 r, vb, vp]] w fun e w' => ∃ v', e = .returned v' ∧ AppB base 5 w v w' v' (l ++ putHeaderL ⟨a, r, bs, ps⟩) := by
  obtain ⟨adb, capb, rfl, -, -⟩ := hB.form
  obtain ⟨adp, capp, rfl, -, -⟩ := hP.form
  have hblt : ∀ k, v.ownBlock = some k → base ≤ k ∧ k < w.heap.size := h.lt
  obtain ⟨w1, hw1⟩ : ∃ w1, w1 = w.alloc (.cells #[.int .i64 a, .int .i64 r, .slice adb bs.length capb, .slice adp ps.length capp] 62) := ⟨_, rfl⟩
  have hbw : Below w.heap.size w w1 := by rw [hw1]; exact (Below.refl _ _).alloc (Nat.le_refl _) _
  have bx : BoxAt w1 w.heap.size [.int .i64 a, .int .i64 r, .slice adb bs.length capb, .slice adp ps.length capp] 62 := by rw [hw1]; exact BoxAt.new w [_, _, _, _] _
  have HO := Lib.hid (ownsRow_below h hbw)
  have HBW := Lib.hid hbw
  have HBX := Lib.hid bx
  have HB := Lib.hid ((hB.low (by decide)).below hbw (fun _ h => h))
  have HP := Lib.hid ((hP.low (by decide)).below hbw (fun _ h => h))
  have HG' := Lib.hid (show ∀ b, (G b ∧ b < w.heap.size) → v.ownBlock ≠ some b from fun b hb => hG b hb.1)
  have hXv : v.ownBlock ≠ some w.heap.size := fun e => by have := (hblt _ e).2; omega
  have hb' : base ≤ w1.heap.size := by have := hbw.size; omega
  have H1 := Lib.hid h1
  have H2 := Lib.hid h2
  have x0 := bx.cell 0 rfl
  have x1 := bx.cell 1 rfl
  have x2 := bx.cell 2 rfl
  have x3 := bx.cell 3 rfl
  have hw3 : (wideL r).length = 3 := rfl
  have L1 := Lib.hid (show (l ++ [byteZ a]).length ≤ 1000000 by rw [List.length_append]; show l.length + 1 ≤ 1000000; omega)
  have L2 := Lib.hid (show (l ++ [byteZ a] ++ wideL r).length ≤ 1000000 by rw [List.length_append, List.length_append, hw3]; show l.length + 1 + 3 ≤ 1000000; omega)
  have L3 := Lib.hid (show (l ++ [byteZ a] ++ wideL r ++ putDigestsL bs).length ≤ 1000000 by
    have := putDigestsL_len h1 n1
    rw [List.length_append, List.length_append, List.length_append, hw3]; show l.length + 1 + 3 + _ ≤ 1000000; omega)
  clear hw3
  go_enter Tryz.func66, Tryz.ntmps66
  go_upto_region 1 with fail
  rw [← hw1]
  clear hw1 bx hbw h hB hP hG h1 h2
  go_region_held3 (fun w' => w'.cell? ⟨w.heap.size, 0, none⟩ = some (.int .i64 a) ∧ w'.cell? ⟨w.heap.size, 1, none⟩ = some (.int .i64 r) ∧ w'.cell? ⟨w.heap.size, 2, none⟩ = some (.slice adb bs.length capb) ∧ w'.cell? ⟨w.heap.size, 3, none⟩ = some (.slice adp ps.length capp)) (go_keep)
    (first
      | (refine step_append_at1 (by rfl) _ _ _ (by rfl) elemB base v l.length (byteVs l) (by rfl) (by exact ownsRow_below HO.out (by repeat (first | with_reducible exact Below.refl _ _ | with_reducible refine Below.drew ?_ | with_reducible refine Below.alloc ?_ (by first | omega | (simp <;> omega)) _))) _ 1 [.int .u8 (IntKind.u8.wrap a)] (by rfl) (by first | exact (BoxAt.new _ [_] _).slCellsN rfl | exact ((BoxAt.new _ [_] _).drew).slCellsN rfl) (by simp [Value.oneCell']) (by decide) (by unfold maxLen; omega) (by omega) (by first | omega | (simp; omega)) ?_;
          intro g cap w2 hown hgr hat hlt;
          have hA : AppB base 5 w1 v w2 (.slice (some ⟨g, 0, none⟩) (l.length + 1) cap) (l ++ [byteZ a]) := (AppB.of rfl rfl hown (by simp [byteVs, byteZ_toNat, u8_wrap]) hgr hat rfl (by repeat (first | with_reducible exact Below.refl _ _ | with_reducible refine Below.drew ?_ | with_reducible refine Below.alloc ?_ (by first | omega | (simp <;> omega)) _)));
          have HA := Lib.hid hA; have bx2 := hA.box HBX.out hXv; have y0 := bx2.cell 0 rfl; have y1 := bx2.cell 1 rfl; have y2 := bx2.cell 2 rfl; have y3 := bx2.cell 3 rfl; have s2 := hA.size; clear hA hown hgr hat bx2)
      | (go_at_call 75; refine (wide_any base _ (l ++ [byteZ a]) r _ HA.out.own (by omega) L1.out r0 (by omega)).mono ?_; rintro e w3 ⟨v3, rfl, hA3⟩; have hA := HA.out.trans hA3; have HA3 := Lib.hid hA; have bx3 := hA.box HBX.out hXv; have z0 := bx3.cell 0 rfl; have z1 := bx3.cell 1 rfl; have z2 := bx3.cell 2 rfl; have z3 := bx3.cell 3 rfl; have s3 := hA.size; clear hA hA3 bx3)
      | (go_at_call 102; refine (putDigests_any (ds := ps) base _ (l ++ [byteZ a] ++ wideL r ++ putDigestsL bs) _ _ HA4.out.own (by omega) L3.out (HP.out.keep (HA4.out.keepG HG'.out) (fun _ h => h)) H2.out n2 (fun b hb => HA4.out.apart HG'.out b ⟨hb, Nat.lt_of_lt_of_le hb.2 HBW.out.size⟩)).mono ?_; rintro e w5 ⟨v5, rfl, hA5⟩; have hA := HA4.out.trans hA5; have HA5 := Lib.hid hA; have bx5 := hA.box HBX.out hXv; have q0 := bx5.cell 0 rfl; have q1 := bx5.cell 1 rfl; have q2 := bx5.cell 2 rfl; have q3 := bx5.cell 3 rfl; clear hA hA5 bx5)
      | (go_at_call 102; refine (putDigests_any (ds := bs) base _ (l ++ [byteZ a] ++ wideL r) _ _ HA3.out.own (by omega) L2.out (HB.out.keep (HA3.out.keepG HG'.out) (fun _ h => h)) H1.out n1 (fun b hb => HA3.out.apart HG'.out b ⟨hb, Nat.lt_of_lt_of_le hb.2 HBW.out.size⟩)).mono ?_; rintro e w4 ⟨v4, rfl, hA4⟩; have hA := HA3.out.trans hA4; have HA4 := Lib.hid hA; have bx4 := hA.box HBX.out hXv; have p0 := bx4.cell 0 rfl; have p1 := bx4.cell 1 rfl; have p2 := bx4.cell 2 rfl; have p3 := bx4.cell 3 rfl; have s4 := hA.size; clear hA hA4 bx4))
  all_goals
    go_wp2
    go_ret
    exact ⟨_, rfl, (AppB.before HBW.out HA5.out).list (by simp [putHeaderL])⟩
end Go.Proofs.YtmijiclocadimaaGreatDoor
