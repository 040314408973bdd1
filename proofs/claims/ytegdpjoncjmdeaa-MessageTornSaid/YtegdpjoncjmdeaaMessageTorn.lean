/- MessageTorn: the walk. -/
import Derived.Test.YtegdpjoncjmdeaaRawM
set_option linter.unusedVariables false
set_option linter.unusedSimpArgs false
attribute [local go_sem ↓] Go.wp_at_zero Go.wp_at_succ
namespace Go.Proofs.Ytegdpjoncjmdeaa
open Go Go.RowKit

set_option maxRecDepth 100000 in
set_option maxHeartbeats 8000000 in
theorem messageTorn_walk (vt : Value) (r : RawD) (n : Int) (w : World) (hr : RawOk (fun _ => True) w vt r) (n1 : -9223372036854775808 ≤ n) (n2 : n ≤ 9223372036854775807) :
    Calls Try.prog 4 #[.agg #[.int .i64 r.k, .int .i64 r.a, .int .i64 r.b, .int .i64 r.c, vt], .int .i64 n] w fun e w' => e = .returned (.bool true) ∧ Below w.heap.size w w' := by
  have HB := Lib.hid (Below.refl w.heap.size w)
  have HR := Lib.hid (hr)
  have hcode := msgR_code r
  have hlen := encL_len hcode
  have HC := Lib.hid hcode
  have HT := Lib.hid (fun (k : Nat) (hk : k < (encL (msgR r)).length) => decode_torn hcode hk)
  clear hcode hr
  go_enter Try.func4, Try.ntmps4
  go_wp2_with fail
  refine (messageR_any r vt _ (HR.out.belowS (by repeat (first | with_reducible exact Below.refl _ _ | with_reducible refine Below.drew ?_ | with_reducible refine Below.setCell ?_ (by first | omega | (simp <;> omega)) _ | with_reducible refine Below.alloc ?_ (by first | omega | (simp <;> omega)) _)))).mono ?_
  rintro e w1 ⟨mv, rfl, hM, hb1⟩
  have hB1 : Below w.heap.size w w1 := Below.trans (by repeat (first | with_reducible exact Below.refl _ _ | with_reducible refine Below.drew ?_ | with_reducible refine Below.setCell ?_ (by first | omega | (simp <;> omega)) _ | with_reducible refine Below.alloc ?_ (by first | omega | (simp <;> omega)) _)) (hb1.mono (by first | exact Nat.le_refl _ | (simp; done) | (simp; omega)))
  have z1 := hB1.size
  replace HB := Lib.hid (HB.out.trans (hB1.mono HB.out.size))
  replace HR := Lib.hid (HR.out.belowS hB1)
  have HM := Lib.hid (hM.mono (G' := fun _ => True) (fun _ _ => trivial))
  clear hb1 hB1 hM
  go_wp2_with fail
  refine (encodeR_ok (msgR r) mv _ (HM.out.below (by repeat (first | with_reducible exact Below.refl _ _ | with_reducible refine Below.drew ?_ | with_reducible refine Below.setCell ?_ (by first | omega | (simp <;> omega)) _ | with_reducible refine Below.alloc ?_ (by first | omega | (simp <;> omega)) _)) (fun _ h => h)) HC.out).mono ?_
  rintro e w2 ⟨vb, rfl, hE, hb2⟩
  have hB2 : Below w1.heap.size w1 w2 := Below.trans (by repeat (first | with_reducible exact Below.refl _ _ | with_reducible refine Below.drew ?_ | with_reducible refine Below.setCell ?_ (by first | omega | (simp <;> omega)) _ | with_reducible refine Below.alloc ?_ (by first | omega | (simp <;> omega)) _)) (hb2.mono (by first | exact Nat.le_refl _ | (simp; done) | (simp; omega)))
  have z2 := hB2.size
  replace HB := Lib.hid (HB.out.trans (hB2.mono HB.out.size))
  replace HR := Lib.hid (HR.out.belowS hB2)
  replace HM := Lib.hid (HM.out.below hB2 (fun _ h => h))
  obtain ⟨ad_hE, cap_hE, rfl, -, -⟩ := hE.form
  have HE := Lib.hid (hE.mono (G' := fun _ => True) (fun _ _ => trivial))
  clear hb2 hB2 hE
  generalize encL (msgR r) = E at *
  have l1 : (1 : Int) < (E.length : Int) := by omega
  have hcap := HE.out.len.2.1
  obtain ⟨p1, p2⟩ := pickedZ_range n (E.length : Int) (by omega)
  obtain ⟨k, hk⟩ : ∃ k : Nat, pickedZ n (E.length : Int) = (k : Int) := ⟨_, (Int.toNat_of_nonneg p1).symm⟩
  rw [hk] at p1 p2
  have HK := Lib.hid hk
  have HTK := Lib.hid (HT.out k (by omega))
  have i1 : (k : Int) ≤ (cap_hE : Int) := by omega
  clear hk HT
  go_wp2_with (first | (go_at_call 19; refine (picked_any n (E.length : Int) _ n1 n2 (by omega) (by omega)).mono ?_; rintro e w' ⟨rfl, rfl⟩; rw [HK.out]))
  refine (wdecode_any (E.take k) _ w2 (HE.out.take k (by omega))).mono ?_
  rintro e w9 ⟨mv2, rfl, hM2, hb9⟩
  rw [HTK.out]
  have HB9 := Lib.hid (HB.out.trans (hb9.mono HB.out.size))
  have HM2 := Lib.hid hM2
  clear hb9 hM2
  go_wp2_with (refine wpList_store_new rfl 35 _ _ rfl (msgCells (decode (E.take k)).1 mv2) 35 zeroMsg rfl rfl (by kernel_rfl) rfl (msgCells_one HM2.out) ?_; intro w10 hb10 hB10 hs10)
  go_ret
  exact ⟨rfl, HB9.out.trans (hB10.mono HB9.out.size)⟩
end Go.Proofs.Ytegdpjoncjmdeaa
