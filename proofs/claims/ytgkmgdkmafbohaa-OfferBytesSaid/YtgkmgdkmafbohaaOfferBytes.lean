/- OfferBytes: the walk. -/
import Derived.Test.YtgkmgdkmafbohaaEncC
import Derived.Test.YtgkmgdkmafbohaaHdrLaw
import Derived.Test.YtgkmgdkmafbohaaOpenS
import Derived.Deep.QuietTactic
import Derived.BigQuiet
set_option linter.unusedVariables false
set_option linter.unusedSimpArgs false
namespace Go.Proofs.Ytgkmgdkmafbohaa
open Go Go.RowKit

theorem offer_len (h : Hdr) (h1 : ∀ d ∈ h.bs, d.length = 32) (h2 : ∀ d ∈ h.ps, d.length = 32) : (encL ⟨0, 0, 2, bat0, h, slt0, crt0, 0⟩).length = 9 + 32 * (h.bs.length + h.ps.length) := by
  show (byteZ 2 :: byteZ 0 :: byteZ 0 :: putHeaderL h).length = _
  have e1 : (putDigestsL h.bs).length = 1 + 32 * h.bs.length := by unfold putDigestsL; rw [List.length_cons, flatten_len h1]; omega
  have e2 : (putDigestsL h.ps).length = 1 + 32 * h.ps.length := by unfold putDigestsL; rw [List.length_cons, flatten_len h2]; omega
  simp only [putHeaderL, List.length_cons, List.length_append, wideL, List.length_nil, e1, e2]
  omega

set_option maxRecDepth 100000 in
set_option maxHeartbeats 8000000 in
theorem offerBytes_case (K A B C : Int) (vt : Value) (w : World) (hvt : vt.oneCell' = true) (a1 : -9223372036854775808 ≤ A) (a2 : A ≤ 9223372036854775807) (b1 : -9223372036854775808 ≤ B) (b2 : B ≤ 9223372036854775807) (c1 : -9223372036854775808 ≤ C) (c2 : C ≤ 9223372036854775807) :
    Calls Try.prog 8 #[.agg #[.int .i64 K, .int .i64 A, .int .i64 B, .int .i64 C, vt]] w fun e w' => e = .returned (.bool true) ∧ Below w.heap.size w w' := by
  have hH := fun (q : World) => header_any K A B C vt q a1 a2 b1 b2 c1 c2 hvt
  have hok := hdrOf_ok A B C
  have hr9 : (hdrOf A B C).r ≤ 9 := by obtain ⟨x1, x2⟩ := pickedZ_range B 9 (by omega); show 1 + pickedZ B 9 ≤ 9; omega
  generalize hdrOf A B C = H at *
  obtain ⟨n1, n2, n3, n4, n5, n6⟩ := hdrCode_iff hok
  obtain ⟨p0, p1⟩ := nodeOk_iff n1
  obtain ⟨q0, q1⟩ := countOk_iff n2
  have HC := Lib.hid (show msgCode ⟨0, 0, 2, bat0, H, slt0, crt0, 0⟩ = 0 by rw [msgCode_offer rfl rfl]; exact hok)
  have hlen := offer_len H ((digCode_zero _).1 n5).1 ((digCode_zero _).1 n6).1
  have HH := Lib.hid hH
  clear hH hok n1 n2 n5 n6
  go_enter Try.func8, Try.ntmps8
  go_wp2_with fail
  refine (HH.out _).mono ?_
  rintro e w2 ⟨adb, capb, adp, capp, rfl, hbb, hpp, hb2⟩
  have HBB := Lib.hid hbb
  have HPP := Lib.hid hpp
  have hB2 : Below w.heap.size w w2 := ((Below.refl _ _).alloc (Nat.le_refl _) _).trans (hb2.mono (by simp))
  have HB2 := Lib.hid hB2
  have z2 := hB2.size
  clear hbb hpp hb2 hB2
  go_wp2_with fail
  refine (wencode_ok (G := fun _ => True) ⟨0, 0, 2, bat0, H, slt0, crt0, 0⟩ { mv0 with bs := .slice adb H.bs.length capb, ps := .slice adp H.ps.length capp } _ (rdM_offer _ _ _ (HBB.out.keep (Keep.alloc _ _ _) (fun _ _ => trivial)) (HPP.out.keep (Keep.alloc _ _ _) (fun _ _ => trivial))) (msgOk_offer (by omega)) HC.out).mono ?_
  rintro e w3 ⟨v3, rfl, hown, hb3⟩
  obtain ⟨ad3, cap3, rfl⟩ := ownsRow_form hown
  have hrd : RdB (fun _ => True) w3 _ (encL ⟨0, 0, 2, bat0, H, slt0, crt0, 0⟩) := RdS.of_owns hown (fun _ _ => trivial)
  have h7 : 7 < (encL ⟨0, 0, 2, bat0, H, slt0, crt0, 0⟩).length := by rw [hlen]; omega
  obtain ⟨b, o, rfl, -, -⟩ := hrd.cell 0 (by omega)
  have x3 : w3.cell? ⟨b, o + 3, none⟩ = some (.int .u8 H.a) := by
    have := hrd.cells 3 (by omega)
    rw [this]
    show some (Value.int .u8 ((byteZ H.a).toNat : Int)) = _
    rw [byteZ_toNat, show H.a % 256 = H.a by omega]
  have x6 : w3.cell? ⟨b, o + 6, none⟩ = some (.int .u8 H.r) := by
    have := hrd.cells 6 (by omega)
    rw [this]
    show some (Value.int .u8 ((byteZ H.r).toNat : Int)) = _
    rw [byteZ_toNat, show H.r % 256 = H.r by omega]
  have x7 : w3.cell? ⟨b, o + 7, none⟩ = some (.int .u8 (H.bs.length : Int)) := by
    have := hrd.cells 7 (by omega)
    rw [this]
    show some (Value.int .u8 ((byteZ H.bs.length).toNat : Int)) = _
    rw [byteZ_toNat, show (H.bs.length : Int) % 256 = (H.bs.length : Int) by omega]
  have bx := (BoxAt.new w2 [.int .i64 H.a, .int .i64 H.r, .slice adb H.bs.length capb, .slice adp H.ps.length capp] 37).belowS hb3
  have y0 := bx.cell 0 rfl
  have y1 := bx.cell 1 rfl
  have y2 := bx.cell 2 rfl
  have y3 := bx.cell 3 rfl
  have HB3 := Lib.hid ((HB2.out.alloc z2 _).trans (hb3.mono (by simp; omega)))
  have e1 : (((encL ⟨0, 0, 2, bat0, H, slt0, crt0, 0⟩).length : Int) == 9 + 32 * ((H.bs.length : Int) + (H.ps.length : Int))) = true := by rw [hlen]; simp
  clear hlen hrd hown bx hb3
  generalize (encL ⟨0, 0, 2, bat0, H, slt0, crt0, 0⟩).length = N at *
  have i3 : (3 : Int) < (N : Int) := by omega
  have i6 : (6 : Int) < (N : Int) := by omega
  have i7 : (7 : Int) < (N : Int) := by omega
  have j3 : 3 < N := by omega
  have j6 : 6 < N := by omega
  go_wp2_with fail
  go_quiet (fail)
  go_wp2
  go_ret
  exact ⟨by simp, below_drewN HB3.out _⟩
theorem offerBytes_walk (vt : Value) (r : RawD) (w : World) (hr : RawOk (fun _ => True) w vt r) :
    Calls Try.prog 8 #[.agg #[.int .i64 r.k, .int .i64 r.a, .int .i64 r.b, .int .i64 r.c, vt]] w fun e w' => e = .returned (.bool true) ∧ Below w.heap.size w w' :=
  offerBytes_case r.k r.a r.b r.c vt w hr.one hr.2.1.1 hr.2.1.2 hr.2.2.1.1 hr.2.2.1.2 hr.2.2.2.1.1 hr.2.2.2.1.2
end Go.Proofs.Ytgkmgdkmafbohaa
