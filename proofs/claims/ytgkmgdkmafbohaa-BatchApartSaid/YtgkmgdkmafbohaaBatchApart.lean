/- BatchApart: the walk. -/
import Derived.Test.YtgkmgdkmafbohaaApart
import Derived.Test.YtgkmgdkmafbohaaSameBat
import Derived.Test.YtgkmgdkmafbohaaSameB
import Derived.Test.YtgkmgdkmafbohaaOpenS
import Derived.Test.YtgkmgdkmafbohaaBatLaw
set_option linter.unusedVariables false
set_option linter.unusedSimpArgs false
namespace Go.Proofs.Ytgkmgdkmafbohaa
open Go Go.RowKit

set_option maxRecDepth 100000 in
set_option maxHeartbeats 8000000 in
theorem batchApart_case {G : Nat → Prop} (K A B C K' A' B' C' : Int) (vt vt' : Value) (l l' : List Bytes) (w : World) (hr : RdT G w vt l) (hr' : RdT G w vt' l') (hs : ∀ t ∈ l, t.length ≤ 9223372036854775807) (hs' : ∀ t ∈ l', t.length ≤ 9223372036854775807)
    (a1 : -9223372036854775808 ≤ A) (a2 : A ≤ 9223372036854775807) (b1 : -9223372036854775808 ≤ B) (b2 : B ≤ 9223372036854775807) (c1 : -9223372036854775808 ≤ A') (c2 : A' ≤ 9223372036854775807) (d1 : -9223372036854775808 ≤ B') (d2 : B' ≤ 9223372036854775807) :
    Calls Try.prog 11 #[.agg #[.int .i64 K, .int .i64 A, .int .i64 B, .int .i64 C, vt], .agg #[.int .i64 K', .int .i64 A', .int .i64 B', .int .i64 C', vt']] w fun e w' => e = .returned (.bool true) ∧ Below w.heap.size w w' := by
  have hBa := fun (q : World) (hq : Below w.heap.size w q) => batch_any K A B C vt l q a1 a2 b1 b2 (hr.below hq (fun _ h => h)) hs
  have hBb := fun (q : World) (hq : Below w.heap.size w q) => batch_any K' A' B' C' vt' l' q c1 c2 d1 d2 (hr'.below hq (fun _ h => h)) hs'
  have hok := batOf_ok A B l
  have hok' := batOf_ok A' B' l'
  obtain ⟨t1, t2, t3⟩ := batOf_txs A B l
  obtain ⟨t1', t2', t3'⟩ := batOf_txs A' B' l'
  obtain ⟨n0, n1, p0, p1⟩ := batOf_nums A B l
  obtain ⟨m0, m1, q0, q1⟩ := batOf_nums A' B' l'
  have hdec := bundle_dec p0 p1 n0 n1 q0 q1 m0 m1 t1 t1'
  have hone : vt.oneCell' = true := by obtain ⟨ad, cap, rfl, _⟩ := hr.form; rfl
  have hone' : vt'.oneCell' = true := by obtain ⟨ad, cap, rfl, _⟩ := hr'.form; rfl
  generalize batOf A B l = T at *
  generalize batOf A' B' l' = T' at *
  generalize hbq : decide (T.a = T'.a ∧ T.n = T'.n ∧ T.txs = T'.txs) = Bq at *
  have HBQ := Lib.hid hbq
  have HDEC := Lib.hid (show decide (encL ⟨0, 0, 1, T, hdr0, slt0, crt0, 0⟩ = encL ⟨0, 0, 1, T', hdr0, slt0, crt0, 0⟩) = Bq from hdec)
  have HC := Lib.hid (show msgCode ⟨0, 0, 1, T, hdr0, slt0, crt0, 0⟩ = 0 by rw [msgCode_bundle rfl rfl]; exact hok)
  have HC' := Lib.hid (show msgCode ⟨0, 0, 1, T', hdr0, slt0, crt0, 0⟩ = 0 by rw [msgCode_bundle rfl rfl]; exact hok')
  have HBA := Lib.hid hBa
  have HBB := Lib.hid hBb
  have T1 := Lib.hid t1
  have T1' := Lib.hid t1'
  clear hBa hBb hok hok' t1 t1' hr hr' hs hs' hdec hbq
  go_enter Try.func11, Try.ntmps11
  go_wp2_with fail
  refine (HBA.out _ (((Below.refl _ _).alloc (Nat.le_refl _) _).alloc (by simp) _)).mono ?_
  rintro e w2 ⟨ad, cap, rfl, htx, hb2⟩
  have HTX := Lib.hid htx
  have hB2 : Below w.heap.size w w2 := (((Below.refl _ _).alloc (Nat.le_refl _) _).alloc (by simp) _).trans (hb2.mono (by simp; omega))
  have br := (BoxAt.newAt (n := w.heap.size + 1) (w.alloc (.cells #[.int .i64 K, .int .i64 A, .int .i64 B, .int .i64 C, vt] 24)) [.int .i64 K', .int .i64 A', .int .i64 B', .int .i64 C', vt'] 24 (by simp)).belowS hb2
  have r0 := br.cell 0 rfl
  have r1 := br.cell 1 rfl
  have r2 := br.cell 2 rfl
  have r3 := br.cell 3 rfl
  have r4 := br.cell 4 rfl
  have zr := br.lt
  have HB2 := Lib.hid hB2
  have z2 := hB2.size
  clear htx hb2 hB2 br
  go_wp2_with fail
  refine (HBB.out _ (HB2.out.alloc z2 _)).mono ?_
  rintro e w3 ⟨ad', cap', rfl, htx', hb3⟩
  have HTX' := Lib.hid htx'
  have bX := (BoxAt.new w2 [.int .i64 T.a, .int .i64 T.n, .slice ad T.txs.length cap] 34).belowS hb3
  have HTX3 := Lib.hid ((HTX.out.keep (G' := fun _ => True) (Keep.alloc _ _ _) (fun _ _ => trivial)).below hb3 (fun _ h => h))
  have HB3 := Lib.hid ((HB2.out.alloc z2 _).trans (hb3.mono (by simp; omega)))
  have x0 := bX.cell 0 rfl
  have x1 := bX.cell 1 rfl
  have x2 := bX.cell 2 rfl
  have zX := bX.lt
  have HBX := Lib.hid bX
  have z3 := HB3.out.size
  clear htx' hb3 bX r0 r1 r2 r3 r4 zr
  go_wp2_with fail
  refine (wencode_ok (G := fun _ => True) ⟨0, 0, 1, T, hdr0, slt0, crt0, 0⟩ { mv0 with tx := .slice ad T.txs.length cap } _ (rdM_bundle _ _ _ (HTX3.out.keep (Keep.alloc _ _ _) (fun _ _ => trivial))) (msgOk_bundle (fun x hx => by have := T1.out x hx; unfold txLen at this; simp at this; omega)) HC.out).mono ?_
  rintro e w4 ⟨v4, rfl, hown, hb4⟩
  obtain ⟨ad4, cap4, rfl⟩ := ownsRow_form hown
  have HR4 := Lib.hid (show RdB (fun _ => True) w4 _ (encL ⟨0, 0, 1, T, hdr0, slt0, crt0, 0⟩) from RdS.of_owns hown (fun _ _ => trivial))
  have bY := (BoxAt.new w3 [.int .i64 T'.a, .int .i64 T'.n, .slice ad' T'.txs.length cap'] 34).belowS hb4
  have bX4 := (HBX.out.alloc _).belowS hb4
  have HTX4 := Lib.hid ((HTX3.out.keep (G' := fun _ => True) (Keep.alloc _ _ _) (fun _ _ => trivial)).below hb4 (fun _ h => h))
  have HTY4 := Lib.hid ((HTX'.out.keep (G' := fun _ => True) (Keep.alloc _ _ _) (fun _ _ => trivial)).below hb4 (fun _ h => h))
  have HB4 := Lib.hid ((HB3.out.alloc z3 _).trans (hb4.mono (by simp; omega)))
  have y0 := bY.cell 0 rfl
  have y1 := bY.cell 1 rfl
  have y2 := bY.cell 2 rfl
  have HBY4 := Lib.hid bY
  have HBX4 := Lib.hid bX4
  have z4 := HB4.out.size
  clear hown hb4 bY bX4 x0 x1 x2
  go_wp2_with fail
  refine (wencode_ok (G := fun _ => True) ⟨0, 0, 1, T', hdr0, slt0, crt0, 0⟩ { mv0 with tx := .slice ad' T'.txs.length cap' } _ (rdM_bundle _ _ _ HTY4.out) (msgOk_bundle (fun x hx => by have := T1'.out x hx; unfold txLen at this; simp at this; omega)) HC'.out).mono ?_
  rintro e w5 ⟨v5, rfl, hown, hb5⟩
  obtain ⟨ad5, cap5, rfl⟩ := ownsRow_form hown
  have HR5 := Lib.hid (show RdB (fun _ => True) w5 _ (encL ⟨0, 0, 1, T', hdr0, slt0, crt0, 0⟩) from RdS.of_owns hown (fun _ _ => trivial))
  have HS5 := Lib.hid (HR4.out.below hb5 (fun _ h => h))
  have bY5 := HBY4.out.belowS hb5
  have bX5 := HBX4.out.belowS hb5
  have HTX5 := Lib.hid (HTX4.out.below hb5 (fun _ h => h))
  have HTY5 := Lib.hid (HTY4.out.below hb5 (fun _ h => h))
  have HB5 := Lib.hid (HB4.out.trans (hb5.mono z4))
  clear y0 y1 y2
  have x0 := bX5.cell 0 rfl
  have x1 := bX5.cell 1 rfl
  have x2 := bX5.cell 2 rfl
  have y0 := bY5.cell 0 rfl
  have y1 := bY5.cell 1 rfl
  have y2 := bY5.cell 2 rfl
  have zx := bX5.lt
  have zy := bY5.lt
  have hL : (0 : Int) < ((encL ⟨0, 0, 1, T, hdr0, slt0, crt0, 0⟩).length : Int) := by
    have : (encL ⟨0, 0, 1, T, hdr0, slt0, crt0, 0⟩).length = (byteZ T.a :: (wideL T.n ++ (byteZ T.txs.length :: putTxs T.txs))).length + 3 := rfl
    omega
  clear hown hb5 bX5 bY5
  go_wp2_with fail
  go_region_held3 (fun w' => w'.cell? ⟨w2.heap.size, 0, none⟩ = some (.int .i64 T.a) ∧ w'.cell? ⟨w2.heap.size, 1, none⟩ = some (.int .i64 T.n) ∧ w'.cell? ⟨w2.heap.size, 2, none⟩ = some (.slice ad T.txs.length cap) ∧ w'.cell? ⟨w3.heap.size, 0, none⟩ = some (.int .i64 T'.a) ∧ w'.cell? ⟨w3.heap.size, 1, none⟩ = some (.int .i64 T'.n) ∧ w'.cell? ⟨w3.heap.size, 2, none⟩ = some (.slice ad' T'.txs.length cap')) (go_keep)
    (first
      | (go_at_call 21; refine (same_any (l := encL ⟨0, 0, 1, T, hdr0, slt0, crt0, 0⟩) (m := encL ⟨0, 0, 1, T', hdr0, slt0, crt0, 0⟩) _ _ _ (by first | exact HS5.out.below hc6 (fun _ h => h) | exact HS5.out.keep (Keep.drew _ _) (fun _ h => h)) (by first | exact HR5.out.below hc6 (fun _ h => h) | exact HR5.out.keep (Keep.drew _ _) (fun _ h => h))).mono ?_; rintro e w' ⟨rfl, rfl⟩; rw [HDEC.out])
      | (go_at_call 25; refine (sameBatch_any _ _ _ _ T.txs T'.txs _ _ _ (by first | exact HTX5.out | exact HTX5.out.keep (Keep.drew _ _) (fun _ h => h)) (by first | exact HTY5.out | exact HTY5.out.keep (Keep.drew _ _) (fun _ h => h))).mono ?_; rintro e w6 ⟨rfl, hb6⟩; rw [HBQ.out]; have hc6 : Below w5.heap.size w5 w6 := (by first | exact hb6 | exact (Below.refl _ _).drew.trans hb6); have u0 := ((bcellAt hc6 _ zx).1 0).trans x0; have u1 := ((bcellAt hc6 _ zx).1 1).trans x1; have u2' := ((bcellAt hc6 _ zx).1 2).trans x2; have u3' := ((bcellAt hc6 _ zy).1 0).trans y0; have u4' := ((bcellAt hc6 _ zy).1 1).trans y1; have u5' := ((bcellAt hc6 _ zy).1 2).trans y2))
  all_goals
    go_wp2
    go_ret
    exact ⟨ret_boolH (by simp; omega), HB5.out.trans (hc6.mono HB5.out.size)⟩
theorem batchApart_walk (vt : Value) (r : RawD) (vt' : Value) (r' : RawD) (w : World) (hr : RawOk (fun _ => True) w vt r) (hr' : RawOk (fun _ => True) w vt' r') :
    Calls Try.prog 11 #[.agg #[.int .i64 r.k, .int .i64 r.a, .int .i64 r.b, .int .i64 r.c, vt], .agg #[.int .i64 r'.k, .int .i64 r'.a, .int .i64 r'.b, .int .i64 r'.c, vt']] w fun e w' => e = .returned (.bool true) ∧ Below w.heap.size w w' :=
  batchApart_case r.k r.a r.b r.c r'.k r'.a r'.b r'.c vt vt' r.txs r'.txs w hr.2.2.2.2.1 hr'.2.2.2.2.1 hr.2.2.2.2.2 hr'.2.2.2.2.2 hr.2.1.1 hr.2.1.2 hr.2.2.1.1 hr.2.2.1.2 hr'.2.1.1 hr'.2.1.2 hr'.2.2.1.1 hr'.2.2.1.2
end Go.Proofs.Ytgkmgdkmafbohaa
