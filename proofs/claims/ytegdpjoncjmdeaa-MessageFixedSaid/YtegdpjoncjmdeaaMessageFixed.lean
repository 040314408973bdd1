/- MessageFixed: the walk. -/
import Derived.Test.YtegdpjoncjmdeaaRawM
import Derived.Test.YtegdpjoncjmdeaaSized
import Derived.Test.YtegdpjoncjmdeaaTapeP
set_option linter.unusedVariables false
set_option linter.unusedSimpArgs false
attribute [local go_sem ↓] Go.wp_at_zero Go.wp_at_succ
namespace Go.Proofs.Ytegdpjoncjmdeaa
open Go Go.RowKit

set_option maxRecDepth 100000 in
set_option maxHeartbeats 8000000 in
theorem messageFixed_walk (v : Value) (l : Bytes) (w : World) (hv : RdB (fun _ => True) w v l) (hz : l.length * 1 ≤ reachBytes) :
    Calls Try.prog 3 #[v] w fun e w' => e = .returned (.bool true) ∧ Below w.heap.size w w' := by
  unfold reachBytes at hz
  have hl : l.length ≤ 140737488355328 := by omega
  obtain ⟨ad, cap, rfl, hc1, hc2⟩ := hv.form
  unfold maxLen at hc2
  have HV := Lib.hid hv
  have HDO := Lib.hid (fun h => decode_ok (l := l) h)
  have HDB := Lib.hid (fun h => decode_bad (l := l) h)
  clear hv hz
  go_enter Try.func3, Try.ntmps3
  go_wp2_with (at_builtin; refine wpList_append_sl rfl _ _ 22 rfl elemB w.heap.size (.slice none 0 0) rfl 0 [] (World.ownsRow_nil _ _ _ _) _ rfl l.length (byteVs l) (by exact HV.out.slCells) (oneCell_map _ _ (fun _ => rfl)) (by unfold maxLen; omega) (by omega) (Nat.le_refl _) ?_; intro v1 w1 hown1 hgr1; have HO1 := Lib.hid hown1; have HB1 := Lib.hid (show Below w.heap.size w w1 from (Below.refl _ _).grown hgr1 (Nat.le_refl _) (fun k hk => absurd hk (by simp [Value.ownBlock]))); clear hown1 hgr1)
  have hR1 : RdB (fun _ => True) w1 v1 l := RdS.of_owns (base := w.heap.size) (e := 5) (n := 0 + l.length) (by have := HO1.out; simpa [byteVs] using this) (fun _ _ => trivial)
  refine (wdecode_any l _ w1 hR1).mono ?_
  rintro e w2 ⟨mv, rfl, hM, hb2⟩
  generalize decode l = DD at *
  obtain ⟨M, c⟩ := DD
  simp only at hM HDO HDB ⊢
  have HM2 := Lib.hid hM.low
  have HB2 := Lib.hid (HB1.out.trans (hb2.mono HB1.out.size))
  have HV2 := Lib.hid (HV.out.below HB2.out (fun _ h => h))
  clear hM hb2 hR1 HO1
  go_upto_region 2 with (refine wpList_store_new rfl 35 _ _ rfl (msgCells M mv) 35 zeroMsg rfl rfl (by kernel_rfl) rfl (msgCells_one HM2.out) ?_; intro w3 hb_w3 hB_w3 hs_w3)
  have HX := Lib.hid hb_w3
  have HM3 := Lib.hid (HM2.out.keep (G' := fun _ => True) (Keep.below hB_w3) (fun _ _ => trivial))
  have HB3 := Lib.hid (HB2.out.trans (hB_w3.mono HB2.out.size))
  have HV3 := Lib.hid (HV2.out.below hB_w3 (fun _ h => h))
  clear hb_w3 hB_w3
  by_cases hc : c = 0
  · subst hc
    obtain ⟨h0, hE⟩ := HDO.out (by first | rfl | trivial)
    have HE := Lib.hid hE
    have H0 := Lib.hid h0
    clear hE h0
    go_wp2_with (refine wpList_load_box rfl 35 _ rfl w2.heap.size rfl (msgCells M mv) 35 HX.out Try.underlying35 rfl (by kernel_rfl) ?_)
    refine (encodeR_ok M mv w3 HM3.out H0.out).mono ?_
    rintro e w4 ⟨vb, rfl, hE4, hb4⟩
    rw [HE.out] at hE4
    obtain ⟨ad4, cap4, rfl, -, -⟩ := hE4.form
    have HE4 := Lib.hid hE4
    have HV4 := Lib.hid (HV3.out.below hb4 (fun _ h => h))
    have HB4 := Lib.hid (HB3.out.trans (hb4.mono HB3.out.size))
    clear hE4 hb4
    go_wp2_with fail
    refine (same_any (l := l) (m := l) _ _ w4 HE4.out HV4.out).mono ?_
    rintro e w' ⟨rfl, rfl⟩
    rw [decide_eq_true (rfl : l = l)]
    go_wp2
    go_ret
    exact ⟨rfl, HB4.out⟩
  · obtain rfl : M = msg0 := HDB.out hc
    have hcb : (c != 0) = true := by simpa using hc
    have k2 : w3.cell? ⟨w2.heap.size, 2, none⟩ = some (.int .i64 0) := HX.out.cell 2 rfl
    have k18 : w3.cell? ⟨w2.heap.size, 18, none⟩ = some (.int .i64 0) := HX.out.cell 18 rfl
    clear hc
    go_wp2
    go_ret
    exact ⟨rfl, HB3.out⟩
end Go.Proofs.Ytegdpjoncjmdeaa
