/- HeaderApart: the walk. -/
import Derived.Test.YtgkmgdkmafbohaaApartH
import Derived.Test.YtgkmgdkmafbohaaSameL
import Derived.Test.YtgkmgdkmafbohaaSameB
import Derived.Test.YtgkmgdkmafbohaaOpenS
set_option linter.unusedVariables false
set_option linter.unusedSimpArgs false
namespace Go.Proofs.Ytgkmgdkmafbohaa
open Go Go.RowKit

theorem Drawn.belowH {w w' : World} (h : Drawn w w') : Below w.heap.size w w' := by obtain ⟨n, rfl⟩ := h; exact below_drewN (Below.refl _ _) n
set_option maxRecDepth 100000 in
set_option maxHeartbeats 8000000 in
theorem headerApart_case (K A B C K' A' B' C' : Int) (vt vt' : Value) (w : World) (hone : vt.oneCell' = true) (hone' : vt'.oneCell' = true)
    (a1 : -9223372036854775808 ≤ A) (a2 : A ≤ 9223372036854775807) (b1 : -9223372036854775808 ≤ B) (b2 : B ≤ 9223372036854775807) (c1 : -9223372036854775808 ≤ C) (c2 : C ≤ 9223372036854775807)
    (a1' : -9223372036854775808 ≤ A') (a2' : A' ≤ 9223372036854775807) (b1' : -9223372036854775808 ≤ B') (b2' : B' ≤ 9223372036854775807) (c1' : -9223372036854775808 ≤ C') (c2' : C' ≤ 9223372036854775807) :
    Calls Try.prog 12 #[.agg #[.int .i64 K, .int .i64 A, .int .i64 B, .int .i64 C, vt], .agg #[.int .i64 K', .int .i64 A', .int .i64 B', .int .i64 C', vt']] w fun e w' => e = .returned (.bool true) ∧ Below w.heap.size w w' := by
  have hBa := fun (q : World) => header_any K A B C vt q a1 a2 b1 b2 c1 c2 hone
  have hBb := fun (q : World) => header_any K' A' B' C' vt' q a1' a2' b1' b2' c1' c2' hone'
  have hok := hdrOf_ok A B C
  have hok' := hdrOf_ok A' B' C'
  have hr9 : (hdrOf A B C).r ≤ 9 := by obtain ⟨x1, x2⟩ := pickedZ_range B 9 (by omega); show 1 + pickedZ B 9 ≤ 9; omega
  have hr9' : (hdrOf A' B' C').r ≤ 9 := by obtain ⟨x1, x2⟩ := pickedZ_range B' 9 (by omega); show 1 + pickedZ B' 9 ≤ 9; omega
  generalize hdrOf A B C = T at *
  generalize hdrOf A' B' C' = T' at *
  have hdec : decide (encL ⟨0, 0, 2, bat0, T, slt0, crt0, 0⟩ = encL ⟨0, 0, 2, bat0, T', slt0, crt0, 0⟩) = decide (T.a = T'.a ∧ T.r = T'.r ∧ T.bs = T'.bs ∧ T.ps = T'.ps) := by rw [decide_eq_decide]; exact offer_inj hok hok' hr9 hr9'
  generalize hbq : decide (T.a = T'.a ∧ T.r = T'.r ∧ T.bs = T'.bs ∧ T.ps = T'.ps) = Bq at *
  obtain ⟨-, -, t3, t4, -, -⟩ := hdrCode_iff hok
  obtain ⟨-, -, t3', t4', -, -⟩ := hdrCode_iff hok'
  have HBQ := Lib.hid hbq
  have HDEC := Lib.hid hdec
  have HC := Lib.hid (show msgCode ⟨0, 0, 2, bat0, T, slt0, crt0, 0⟩ = 0 by rw [msgCode_offer rfl rfl]; exact hok)
  have HC' := Lib.hid (show msgCode ⟨0, 0, 2, bat0, T', slt0, crt0, 0⟩ = 0 by rw [msgCode_offer rfl rfl]; exact hok')
  have HBA := Lib.hid hBa
  have HBB := Lib.hid hBb
  clear hBa hBb hok hok' hdec hbq
  go_enter Try.func12, Try.ntmps12
  go_wp2_with fail
  refine (HBA.out _).mono ?_
  rintro e w2 ⟨ad, cap, adp, capp, rfl, htx, htp, hb2⟩
  have HTX := Lib.hid htx
  have HTP := Lib.hid htp
  clear htp
  have hB2 : Below w.heap.size w w2 := (((Below.refl _ _).alloc (Nat.le_refl _) _).alloc (by simp) _).trans (hb2.mono (by simp; omega))
  have br := (BoxAt.newAt (n := w.heap.size + 1) (w.alloc (.cells #[.int .i64 K, .int .i64 A, .int .i64 B, .int .i64 C, vt] 24)) [.int .i64 K', .int .i64 A', .int .i64 B', .int .i64 C', vt'] 24 (by simp)).belowS hb2
  have r0 := br.cell 0 rfl
  have r1 := br.cell 1 rfl
  have r2 := br.cell 2 rfl
  have r3 := br.cell 3 rfl
  have r4 := br.cell 4 rfl
  have zr := br.lt
  have HB2 := Lib.hid hB2
  have z2 := hB2.size
  clear htx hb2 hB2 br
  go_wp2_with fail
  refine (HBB.out _).mono ?_
  rintro e w3 ⟨ad', cap', adp', capp', rfl, htx', htp', hb3⟩
  have HTX' := Lib.hid htx'
  have HTP' := Lib.hid htp'
  clear htp'
  have bX := (BoxAt.new w2 [.int .i64 T.a, .int .i64 T.r, .slice ad T.bs.length cap, .slice adp T.ps.length capp] 37).belowS hb3
  have HTX3 := Lib.hid ((HTX.out.keep (G' := fun _ => True) (Keep.alloc _ _ _) (fun _ _ => trivial)).below hb3 (fun _ h => h))
  have HTP3 := Lib.hid ((HTP.out.keep (G' := fun _ => True) (Keep.alloc _ _ _) (fun _ _ => trivial)).below hb3 (fun _ h => h))
  have HB3 := Lib.hid ((HB2.out.alloc z2 _).trans (hb3.mono (by simp; omega)))
  have x0 := bX.cell 0 rfl
  have x1 := bX.cell 1 rfl
  have x2 := bX.cell 2 rfl
  have x3 := bX.cell 3 rfl
  have zX := bX.lt
  have HBX := Lib.hid bX
  have z3 := HB3.out.size
  clear htx' hb3 bX r0 r1 r2 r3 r4 zr
  go_wp2_with fail
  refine (wencode_ok (G := fun _ => True) ⟨0, 0, 2, bat0, T, slt0, crt0, 0⟩ { mv0 with bs := .slice ad T.bs.length cap, ps := .slice adp T.ps.length capp } _ (rdM_offer _ _ _ (HTX3.out.keep (Keep.alloc _ _ _) (fun _ _ => trivial)) (HTP3.out.keep (Keep.alloc _ _ _) (fun _ _ => trivial))) (msgOk_offer (by omega)) HC.out).mono ?_
  rintro e w4 ⟨v4, rfl, hown, hb4⟩
  obtain ⟨ad4, cap4, rfl⟩ := ownsRow_form hown
  have HR4 := Lib.hid (show RdB (fun _ => True) w4 _ (encL ⟨0, 0, 2, bat0, T, slt0, crt0, 0⟩) from RdS.of_owns hown (fun _ _ => trivial))
  have bY := (BoxAt.new w3 [.int .i64 T'.a, .int .i64 T'.r, .slice ad' T'.bs.length cap', .slice adp' T'.ps.length capp'] 37).belowS hb4
  have bX4 := (HBX.out.alloc _).belowS hb4
  have HTX4 := Lib.hid ((HTX3.out.keep (G' := fun _ => True) (Keep.alloc _ _ _) (fun _ _ => trivial)).below hb4 (fun _ h => h))
  have HTP4 := Lib.hid ((HTP3.out.keep (G' := fun _ => True) (Keep.alloc _ _ _) (fun _ _ => trivial)).below hb4 (fun _ h => h))
  have HTY4 := Lib.hid ((HTX'.out.keep (G' := fun _ => True) (Keep.alloc _ _ _) (fun _ _ => trivial)).below hb4 (fun _ h => h))
  have HTQ4 := Lib.hid ((HTP'.out.keep (G' := fun _ => True) (Keep.alloc _ _ _) (fun _ _ => trivial)).below hb4 (fun _ h => h))
  have HB4 := Lib.hid ((HB3.out.alloc z3 _).trans (hb4.mono (by simp; omega)))
  have y0 := bY.cell 0 rfl
  have y1 := bY.cell 1 rfl
  have y2 := bY.cell 2 rfl
  have y3 := bY.cell 3 rfl
  have HBY4 := Lib.hid bY
  have HBX4 := Lib.hid bX4
  have z4 := HB4.out.size
  clear hown hb4 bY bX4 x0 x1 x2 x3
  go_wp2_with fail
  refine (wencode_ok (G := fun _ => True) ⟨0, 0, 2, bat0, T', slt0, crt0, 0⟩ { mv0 with bs := .slice ad' T'.bs.length cap', ps := .slice adp' T'.ps.length capp' } _ (rdM_offer _ _ _ HTY4.out HTQ4.out) (msgOk_offer (by omega)) HC'.out).mono ?_
  rintro e w5 ⟨v5, rfl, hown, hb5⟩
  obtain ⟨ad5, cap5, rfl⟩ := ownsRow_form hown
  have HR5 := Lib.hid (show RdB (fun _ => True) w5 _ (encL ⟨0, 0, 2, bat0, T', slt0, crt0, 0⟩) from RdS.of_owns hown (fun _ _ => trivial))
  have HS5 := Lib.hid (HR4.out.below hb5 (fun _ h => h))
  have bY5 := HBY4.out.belowS hb5
  have bX5 := HBX4.out.belowS hb5
  have HTX5 := Lib.hid (HTX4.out.below hb5 (fun _ h => h))
  have HTP5 := Lib.hid (HTP4.out.below hb5 (fun _ h => h))
  have HTY5 := Lib.hid (HTY4.out.below hb5 (fun _ h => h))
  have HTQ5 := Lib.hid (HTQ4.out.below hb5 (fun _ h => h))
  have HB5 := Lib.hid (HB4.out.trans (hb5.mono z4))
  clear y0 y1 y2 y3
  have x0 := bX5.cell 0 rfl
  have x1 := bX5.cell 1 rfl
  have x2 := bX5.cell 2 rfl
  have x3 := bX5.cell 3 rfl
  have y0 := bY5.cell 0 rfl
  have y1 := bY5.cell 1 rfl
  have y2 := bY5.cell 2 rfl
  have y3 := bY5.cell 3 rfl
  have zx := bX5.lt
  have zy := bY5.lt
  have hL : (0 : Int) < ((encL ⟨0, 0, 2, bat0, T, slt0, crt0, 0⟩).length : Int) := by
    have : (encL ⟨0, 0, 2, bat0, T, slt0, crt0, 0⟩).length = (putHeaderL T).length + 3 := rfl
    omega
  clear hown hb5 bX5 bY5
  go_wp2_with fail
  go_region_held3 (fun w' => w'.cell? ⟨w2.heap.size, 0, none⟩ = some (.int .i64 T.a) ∧ w'.cell? ⟨w2.heap.size, 1, none⟩ = some (.int .i64 T.r) ∧ w'.cell? ⟨w2.heap.size, 2, none⟩ = some (.slice ad T.bs.length cap) ∧ w'.cell? ⟨w2.heap.size, 3, none⟩ = some (.slice adp T.ps.length capp) ∧ w'.cell? ⟨w3.heap.size, 0, none⟩ = some (.int .i64 T'.a) ∧ w'.cell? ⟨w3.heap.size, 1, none⟩ = some (.int .i64 T'.r) ∧ w'.cell? ⟨w3.heap.size, 2, none⟩ = some (.slice ad' T'.bs.length cap') ∧ w'.cell? ⟨w3.heap.size, 3, none⟩ = some (.slice adp' T'.ps.length capp')) (go_keep)
    (first
      | (go_at_call 21; refine (same_any (l := encL ⟨0, 0, 2, bat0, T, slt0, crt0, 0⟩) (m := encL ⟨0, 0, 2, bat0, T', slt0, crt0, 0⟩) _ _ _ (by first | exact HS5.out.below hc6 (fun _ h => h) | exact HS5.out.keep (Keep.drew _ _) (fun _ h => h)) (by first | exact HR5.out.below hc6 (fun _ h => h) | exact HR5.out.keep (Keep.drew _ _) (fun _ h => h))).mono ?_; rintro e w' ⟨rfl, rfl⟩; rw [HDEC.out])
      | (go_at_call 26; refine (sameHeader_any _ _ _ _ T.bs T.ps T'.bs T'.ps _ _ _ _ _ (by first | exact HTX5.out | exact HTX5.out.keep (Keep.drew _ _) (fun _ h => h)) (by first | exact HTP5.out | exact HTP5.out.keep (Keep.drew _ _) (fun _ h => h)) (by first | exact HTY5.out | exact HTY5.out.keep (Keep.drew _ _) (fun _ h => h)) (by first | exact HTQ5.out | exact HTQ5.out.keep (Keep.drew _ _) (fun _ h => h))).mono ?_; rintro e w6 ⟨rfl, hb6⟩; rw [HBQ.out]; have hc6 : Below w5.heap.size w5 w6 := (by first | exact hb6 | exact (Below.refl _ _).drew.trans hb6); have u0 := ((bcellAt hc6 _ zx).1 0).trans x0; have u1 := ((bcellAt hc6 _ zx).1 1).trans x1; have u2' := ((bcellAt hc6 _ zx).1 2).trans x2; have u2'' := ((bcellAt hc6 _ zx).1 3).trans x3; have u3' := ((bcellAt hc6 _ zy).1 0).trans y0; have u4' := ((bcellAt hc6 _ zy).1 1).trans y1; have u5' := ((bcellAt hc6 _ zy).1 2).trans y2; have u6' := ((bcellAt hc6 _ zy).1 3).trans y3))
  all_goals
    go_wp2
    go_ret
    exact ⟨ret_boolH (by simp; omega), HB5.out.trans (hc6.mono HB5.out.size)⟩
theorem headerApart_walk (vt : Value) (r : RawD) (vt' : Value) (r' : RawD) (w : World) (hr : RawOk (fun _ => True) w vt r) (hr' : RawOk (fun _ => True) w vt' r') :
    Calls Try.prog 12 #[.agg #[.int .i64 r.k, .int .i64 r.a, .int .i64 r.b, .int .i64 r.c, vt], .agg #[.int .i64 r'.k, .int .i64 r'.a, .int .i64 r'.b, .int .i64 r'.c, vt']] w fun e w' => e = .returned (.bool true) ∧ Below w.heap.size w w' :=
  headerApart_case r.k r.a r.b r.c r'.k r'.a r'.b r'.c vt vt' w hr.one hr'.one hr.2.1.1 hr.2.1.2 hr.2.2.1.1 hr.2.2.1.2 hr.2.2.2.1.1 hr.2.2.2.1.2 hr'.2.1.1 hr'.2.1.2 hr'.2.2.1.1 hr'.2.2.1.2 hr'.2.2.2.1.1 hr'.2.2.2.1.2
end Go.Proofs.Ytgkmgdkmafbohaa
