/- WantBad: the walk. -/
import Derived.Test.YtgkmgdkmafbohaaEncC
import Derived.Test.YtgkmgdkmafbohaaSameB
set_option linter.unusedVariables false
set_option linter.unusedSimpArgs false
namespace Go.Proofs.Ytgkmgdkmafbohaa
open Go Go.RowKit

set_option maxRecDepth 100000 in
set_option maxHeartbeats 8000000 in
theorem wantBad_walk (n : Int) (w : World) (h1 : -9223372036854775808 ≤ n) (h2 : n ≤ 9223372036854775807) :
    Calls Try.prog 5 #[.int .i64 n] w fun e w' => e = .returned (.bool true) ∧ Below w.heap.size w w' := by
  obtain ⟨pa0, pa1⟩ := pickedZ_range n 3145728 (by omega)
  generalize hk : pickedZ n 3145728 = k at *
  have HK := Lib.hid hk
  clear hk
  have hcode := msgCode_want (r := k) nodeOk_0 nodeOk_0
  go_enter Try.func5, Try.ntmps5
  go_wp2_with (first
    | (go_at_call 15; refine (picked_any _ _ _ h1 h2 (by omega) (by omega)).mono ?_; rintro e w' ⟨rfl, rfl⟩; rw [HK.out])
    | (refine wpList_store_new rfl 42 _ _ rfl (msgCells ⟨0, 0, 5, bat0, hdr0, slt0, crt0, k⟩ mv0) 42 zeroMsg rfl rfl (by kernel_rfl) rfl rfl ?_; intro w2 hb2 hB2 hs2; have HB2 := Lib.hid hB2; have HBR := Lib.hid hb2; have HZ2 := Lib.hid hs2; clear hb2 hB2 hs2)
    | (refine wpList_load_box rfl 42 _ rfl w.heap.size rfl (msgCells ⟨0, 0, 5, bat0, hdr0, slt0, crt0, k⟩ mv0) 42 HBR.out Try.underlying42 rfl (by kernel_rfl) ?_))
  by_cases hc : countOk k = true
  · obtain ⟨k0, k1⟩ := countOk_iff hc
    rw [if_pos hc] at hcode
    have HC := Lib.hid hcode
    clear hcode hc
    refine (wencode_ok (G := fun _ => True) ⟨0, 0, 5, bat0, hdr0, slt0, crt0, k⟩ mv0 _ (rdM_want _ _ _ _ _) (msgOk_want _ _ _) HC.out).mono ?_
    rintro e w3 ⟨v3, rfl, hown, hb3⟩
    obtain ⟨ad3, cap3, rfl⟩ := ownsRow_form hown
    have HR := Lib.hid (show RdB (fun _ => True) w3 _ (encL ⟨0, 0, 5, bat0, hdr0, slt0, crt0, k⟩) from RdS.of_owns hown (fun _ _ => trivial))
    have HB3 := Lib.hid (HB2.out.trans (hb3.mono HB2.out.size))
    have i0 : ¬ k < 1 := by omega
    have i1 : ¬ 1048576 < k := by omega
    clear hown hb3
    go_wp2_with fail
    refine (same_any (l := encL ⟨0, 0, 5, bat0, hdr0, slt0, crt0, k⟩) (m := encL ⟨0, 0, 5, bat0, hdr0, slt0, crt0, k⟩) _ _ _ (HR.out.keep (Keep.alloc _ _ _) (fun _ h => h)) (rdB_lit w3 [.int .u8 5, .int .u8 0, .int .u8 0, .int .u8 (k / 65536), .int .u8 (k / 256 % 256), .int .u8 (k % 256)] _ _ ?_ rfl (by show 6 ≤ 1000; decide))).mono ?_
    · show _ = byteVs [byteZ 5, byteZ 0, byteZ 0, byteZ (k / 65536), byteZ (k / 256), byteZ k]
      simp only [byteVs, List.map_cons, List.map_nil, byteZ_toNat, show k / 65536 % 256 = k / 65536 by omega, show (5 : Int) % 256 = 5 by decide, show (0 : Int) % 256 = 0 by decide]
    rintro e w4 ⟨rfl, rfl⟩
    rw [decide_eq_true rfl]
    go_wp2
    go_ret
    exact ⟨rfl, HB3.out.alloc HB3.out.size _⟩
  · have hr : k < 1 ∨ 1048576 < k := by
      have : ¬ (1 ≤ k ∧ k ≤ 1048576) := by unfold countOk at hc; simpa using hc
      omega
    rw [if_neg hc] at hcode
    have HC := Lib.hid hcode
    clear hcode hc
    refine (wencode_no (G := fun _ => True) ⟨0, 0, 5, bat0, hdr0, slt0, crt0, k⟩ mv0 _ (rdM_want _ _ _ _ _) (msgOk_want _ _ _) HC.out (by decide)).mono ?_
    rintro e w3 ⟨rfl, hb3⟩
    have HB3 := Lib.hid (HB2.out.trans (hb3.mono HB2.out.size))
    clear hb3
    rcases hr with hr | hr
    · go_wp2
      go_ret
      exact ⟨rfl, HB3.out⟩
    · have i0 : ¬ k < 1 := by omega
      go_wp2
      go_ret
      exact ⟨rfl, HB3.out⟩
end Go.Proofs.Ytgkmgdkmafbohaa
