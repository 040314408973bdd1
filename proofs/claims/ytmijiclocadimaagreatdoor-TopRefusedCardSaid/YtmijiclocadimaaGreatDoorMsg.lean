/- wire.noHeader, none, Check: what they compute. -/
import Derived.Test.YtmijiclocadimaaGreatDoorBas
import Derived.Test.YtmijiclocadimaaGreatDoorChk3
set_option linter.unusedVariables false
set_option linter.unusedSimpArgs false
namespace Go.Proofs.YtmijiclocadimaaGreatDoor
open Go Go.RowKit

set_option maxRecDepth 100000 in
set_option maxHeartbeats 1000000 in
theorem noHeader_any (a r : Int) (ad1 : Option Addr) (n1 c1 : Nat) (ad2 : Option Addr) (n2 c2 : Nat) (w : World) (h : n1 + n2 ≤ 9223372036854775807) :
    Calls Tryz.prog 161 #[.agg #[.int .i64 a, .int .i64 r, .slice ad1 n1 c1, .slice ad2 n2 c2]] w fun e w' => e = .returned (.bool (nhB a r n1 n2)) ∧ Below w.heap.size w w' := by
  have hR := (Below.refl w.heap.size w).alloc (Nat.le_refl _) (.cells #[.int .i64 a, .int .i64 r, .slice ad1 n1 c1, .slice ad2 n2 c2] 62)
  have l1 : IntKind.i64.wrap ((n1 : Int) + (n2 : Int)) = (n1 : Int) + (n2 : Int) := IntWalk.i64_in _ (by omega)
  have e3 : (((n1 : Int) + (n2 : Int)) == 0) = (n1 + n2 == 0) := by
    rw [Bool.eq_iff_iff]; simp only [beq_iff_eq]; omega
  unfold nhB
  cases h1 : (a == 0)
  · go_enter Tryz.func161, Tryz.ntmps161
    go_wp2
    go_ret
    exact ⟨ret_boolH (by simp), hR⟩
  · cases h2 : (r == 0)
    · go_enter Tryz.func161, Tryz.ntmps161
      go_wp2
      go_ret
      exact ⟨ret_boolH (by simp), hR⟩
    · go_enter Tryz.func161, Tryz.ntmps161
      go_wp2
      go_ret
      exact ⟨ret_boolH (by simp), hR⟩

abbrev msgAgg (f t k ba bn : Int) (vtx : Value) (ha hr : Int) (vbs vps : Value) (sa sr : Int) (vd : Value) (ca cr : Int) (vcb vcp vvs : Value) (r : Int) : Value :=
  .agg #[.int .i64 f, .int .i64 t, .int .i64 k, .int .i64 ba, .int .i64 bn, vtx, .int .i64 ha, .int .i64 hr, vbs, vps, .int .i64 sa, .int .i64 sr, vd, .int .i64 ca, .int .i64 cr, vcb, vcp, vvs, .int .i64 r]
def noneB (ba bn : Int) (ntx : Nat) (ha hr : Int) (nbs nps : Nat) (sa sr : Int) (nd : Nat) (ca cr : Int) (ncb ncp nvs : Nat) (r : Int) : Bool :=
  ba == 0 && (bn == 0 && (ntx == 0 && (nhB ha hr nbs nps && (sa == 0 && (sr == 0 && (nd == 0 && (nhB ca cr ncb ncp && (nvs == 0 && r == 0))))))))
theorem len0 (n : Nat) : (((n : Nat) : Int) == 0) = (n == 0) := by rw [Bool.eq_iff_iff]; simp only [beq_iff_eq]; omega

set_option maxRecDepth 100000 in
set_option maxHeartbeats 4000000 in
theorem none_any (f t k ba bn : Int) (a1 : Option Addr) (ntx c1 : Nat) (ha hr : Int) (a2 : Option Addr) (nbs c2 : Nat) (a3 : Option Addr) (nps c3 : Nat) (sa sr : Int) (a4 : Option Addr) (nd c4 : Nat) (ca cr : Int) (a5 : Option Addr) (ncb c5 : Nat) (a6 : Option Addr) (ncp c6 : Nat) (a7 : Option Addr) (nvs c7 : Nat) (r : Int) (w : World)
    (h1 : nbs + nps ≤ 9223372036854775807) (h2 : ncb + ncp ≤ 9223372036854775807) :
    Calls Tryz.prog 109 #[msgAgg f t k ba bn (.slice a1 ntx c1) ha hr (.slice a2 nbs c2) (.slice a3 nps c3) sa sr (.slice a4 nd c4) ca cr (.slice a5 ncb c5) (.slice a6 ncp c6) (.slice a7 nvs c7) r] w fun e w' => e = .returned (.bool (noneB ba bn ntx ha hr nbs nps sa sr nd ca cr ncb ncp nvs r)) ∧ Below w.heap.size w w' := by
  have hb0 : Below w.heap.size w (w.alloc (.cells #[.int .i64 f, .int .i64 t, .int .i64 k, .int .i64 ba, .int .i64 bn, .slice a1 ntx c1, .int .i64 ha, .int .i64 hr, .slice a2 nbs c2, .slice a3 nps c3, .int .i64 sa, .int .i64 sr, .slice a4 nd c4, .int .i64 ca, .int .i64 cr, .slice a5 ncb c5, .slice a6 ncp c6, .slice a7 nvs c7, .int .i64 r] 106)) := (Below.refl _ _).alloc (Nat.le_refl _) _
  have bx := BoxAt.new w [.int .i64 f, .int .i64 t, .int .i64 k, .int .i64 ba, .int .i64 bn, .slice a1 ntx c1, .int .i64 ha, .int .i64 hr, .slice a2 nbs c2, .slice a3 nps c3, .int .i64 sa, .int .i64 sr, .slice a4 nd c4, .int .i64 ca, .int .i64 cr, .slice a5 ncb c5, .slice a6 ncp c6, .slice a7 nvs c7, .int .i64 r] 106
  go_enter Tryz.func109, Tryz.ntmps109
  unfold msgAgg
  cases g1 : (ba == 0)
  · go_wp2
    go_ret
    exact ⟨ret_boolH (by unfold noneB; simp [g1]), hb0⟩
  cases g2 : (bn == 0)
  · go_wp2
    go_ret
    exact ⟨ret_boolH (by unfold noneB; simp [g1, g2]), hb0⟩
  cases g3 : (((ntx : Nat) : Int) == 0)
  · go_wp2
    go_ret
    exact ⟨ret_boolH (by rw [len0] at g3; unfold noneB; simp [g1, g2, g3]), hb0⟩
  cases g4 : (nhB ha hr nbs nps)
  · go_wp2_with (first
      | (go_at_call 161; with_reducible refine (noHeader_any ha hr a2 nbs c2 a3 nps c3 _ h1).mono ?_; rintro e w1 ⟨rfl, hb1⟩; have hB1 := hb0.trans (hb1.mono (by simp)); have bx1 := bx.belowS hb1; have p10 := bx1.cell 10 rfl; have p11 := bx1.cell 11 rfl; have p12 := bx1.cell 12 rfl; have p13 := bx1.cell 13 rfl; have p14 := bx1.cell 14 rfl; have p15 := bx1.cell 15 rfl; have p16 := bx1.cell 16 rfl; have p17 := bx1.cell 17 rfl; have p18 := bx1.cell 18 rfl; have HBX1 := Lib.hid bx1; have HB1 := Lib.hid hB1; have z1 := bx1.lt; clear bx1 hB1 hb1)
      | (go_at_call 161; with_reducible refine (noHeader_any ca cr a5 ncb c5 a6 ncp c6 _ h2).mono ?_; rintro e w2 ⟨rfl, hb2⟩; have hB2 := HB1.out.trans (hb2.mono HB1.out.size); have bx2 := HBX1.out.belowS hb2; have q17 := bx2.cell 17 rfl; have q18 := bx2.cell 18 rfl; clear bx2 hb2))
    go_ret
    exact ⟨ret_boolH (by rw [len0] at g3; unfold noneB; simp [g1, g2, g3, g4]), HB1.out⟩
  cases g5 : (sa == 0)
  · go_wp2_with (first
      | (go_at_call 161; with_reducible refine (noHeader_any ha hr a2 nbs c2 a3 nps c3 _ h1).mono ?_; rintro e w1 ⟨rfl, hb1⟩; have hB1 := hb0.trans (hb1.mono (by simp)); have bx1 := bx.belowS hb1; have p10 := bx1.cell 10 rfl; have p11 := bx1.cell 11 rfl; have p12 := bx1.cell 12 rfl; have p13 := bx1.cell 13 rfl; have p14 := bx1.cell 14 rfl; have p15 := bx1.cell 15 rfl; have p16 := bx1.cell 16 rfl; have p17 := bx1.cell 17 rfl; have p18 := bx1.cell 18 rfl; have HBX1 := Lib.hid bx1; have HB1 := Lib.hid hB1; have z1 := bx1.lt; clear bx1 hB1 hb1)
      | (go_at_call 161; with_reducible refine (noHeader_any ca cr a5 ncb c5 a6 ncp c6 _ h2).mono ?_; rintro e w2 ⟨rfl, hb2⟩; have hB2 := HB1.out.trans (hb2.mono HB1.out.size); have bx2 := HBX1.out.belowS hb2; have q17 := bx2.cell 17 rfl; have q18 := bx2.cell 18 rfl; clear bx2 hb2))
    go_ret
    exact ⟨ret_boolH (by rw [len0] at g3; unfold noneB; simp [g1, g2, g3, g4, g5]), HB1.out⟩
  cases g6 : (sr == 0)
  · go_wp2_with (first
      | (go_at_call 161; with_reducible refine (noHeader_any ha hr a2 nbs c2 a3 nps c3 _ h1).mono ?_; rintro e w1 ⟨rfl, hb1⟩; have hB1 := hb0.trans (hb1.mono (by simp)); have bx1 := bx.belowS hb1; have p10 := bx1.cell 10 rfl; have p11 := bx1.cell 11 rfl; have p12 := bx1.cell 12 rfl; have p13 := bx1.cell 13 rfl; have p14 := bx1.cell 14 rfl; have p15 := bx1.cell 15 rfl; have p16 := bx1.cell 16 rfl; have p17 := bx1.cell 17 rfl; have p18 := bx1.cell 18 rfl; have HBX1 := Lib.hid bx1; have HB1 := Lib.hid hB1; have z1 := bx1.lt; clear bx1 hB1 hb1)
      | (go_at_call 161; with_reducible refine (noHeader_any ca cr a5 ncb c5 a6 ncp c6 _ h2).mono ?_; rintro e w2 ⟨rfl, hb2⟩; have hB2 := HB1.out.trans (hb2.mono HB1.out.size); have bx2 := HBX1.out.belowS hb2; have q17 := bx2.cell 17 rfl; have q18 := bx2.cell 18 rfl; clear bx2 hb2))
    go_ret
    exact ⟨ret_boolH (by rw [len0] at g3; unfold noneB; simp [g1, g2, g3, g4, g5, g6]), HB1.out⟩
  cases g7 : (((nd : Nat) : Int) == 0)
  · go_wp2_with (first
      | (go_at_call 161; with_reducible refine (noHeader_any ha hr a2 nbs c2 a3 nps c3 _ h1).mono ?_; rintro e w1 ⟨rfl, hb1⟩; have hB1 := hb0.trans (hb1.mono (by simp)); have bx1 := bx.belowS hb1; have p10 := bx1.cell 10 rfl; have p11 := bx1.cell 11 rfl; have p12 := bx1.cell 12 rfl; have p13 := bx1.cell 13 rfl; have p14 := bx1.cell 14 rfl; have p15 := bx1.cell 15 rfl; have p16 := bx1.cell 16 rfl; have p17 := bx1.cell 17 rfl; have p18 := bx1.cell 18 rfl; have HBX1 := Lib.hid bx1; have HB1 := Lib.hid hB1; have z1 := bx1.lt; clear bx1 hB1 hb1)
      | (go_at_call 161; with_reducible refine (noHeader_any ca cr a5 ncb c5 a6 ncp c6 _ h2).mono ?_; rintro e w2 ⟨rfl, hb2⟩; have hB2 := HB1.out.trans (hb2.mono HB1.out.size); have bx2 := HBX1.out.belowS hb2; have q17 := bx2.cell 17 rfl; have q18 := bx2.cell 18 rfl; clear bx2 hb2))
    go_ret
    exact ⟨ret_boolH (by rw [len0] at g3; rw [len0] at g7; unfold noneB; simp [g1, g2, g3, g4, g5, g6, g7]), HB1.out⟩
  cases g8 : (nhB ca cr ncb ncp)
  · go_wp2_with (first
      | (go_at_call 161; with_reducible refine (noHeader_any ha hr a2 nbs c2 a3 nps c3 _ h1).mono ?_; rintro e w1 ⟨rfl, hb1⟩; have hB1 := hb0.trans (hb1.mono (by simp)); have bx1 := bx.belowS hb1; have p10 := bx1.cell 10 rfl; have p11 := bx1.cell 11 rfl; have p12 := bx1.cell 12 rfl; have p13 := bx1.cell 13 rfl; have p14 := bx1.cell 14 rfl; have p15 := bx1.cell 15 rfl; have p16 := bx1.cell 16 rfl; have p17 := bx1.cell 17 rfl; have p18 := bx1.cell 18 rfl; have HBX1 := Lib.hid bx1; have HB1 := Lib.hid hB1; have z1 := bx1.lt; clear bx1 hB1 hb1)
      | (go_at_call 161; with_reducible refine (noHeader_any ca cr a5 ncb c5 a6 ncp c6 _ h2).mono ?_; rintro e w2 ⟨rfl, hb2⟩; have hB2 := HB1.out.trans (hb2.mono HB1.out.size); have bx2 := HBX1.out.belowS hb2; have q17 := bx2.cell 17 rfl; have q18 := bx2.cell 18 rfl; clear bx2 hb2))
    go_ret
    exact ⟨ret_boolH (by rw [len0] at g3; rw [len0] at g7; unfold noneB; simp [g1, g2, g3, g4, g5, g6, g7, g8]), hB2⟩
  cases g9 : (((nvs : Nat) : Int) == 0)
  · go_wp2_with (first
      | (go_at_call 161; with_reducible refine (noHeader_any ha hr a2 nbs c2 a3 nps c3 _ h1).mono ?_; rintro e w1 ⟨rfl, hb1⟩; have hB1 := hb0.trans (hb1.mono (by simp)); have bx1 := bx.belowS hb1; have p10 := bx1.cell 10 rfl; have p11 := bx1.cell 11 rfl; have p12 := bx1.cell 12 rfl; have p13 := bx1.cell 13 rfl; have p14 := bx1.cell 14 rfl; have p15 := bx1.cell 15 rfl; have p16 := bx1.cell 16 rfl; have p17 := bx1.cell 17 rfl; have p18 := bx1.cell 18 rfl; have HBX1 := Lib.hid bx1; have HB1 := Lib.hid hB1; have z1 := bx1.lt; clear bx1 hB1 hb1)
      | (go_at_call 161; with_reducible refine (noHeader_any ca cr a5 ncb c5 a6 ncp c6 _ h2).mono ?_; rintro e w2 ⟨rfl, hb2⟩; have hB2 := HB1.out.trans (hb2.mono HB1.out.size); have bx2 := HBX1.out.belowS hb2; have q17 := bx2.cell 17 rfl; have q18 := bx2.cell 18 rfl; clear bx2 hb2))
    go_ret
    exact ⟨ret_boolH (by rw [len0] at g3; rw [len0] at g7; rw [len0] at g9; unfold noneB; simp [g1, g2, g3, g4, g5, g6, g7, g8, g9]), hB2⟩
  go_wp2_with (first
    | (go_at_call 161; with_reducible refine (noHeader_any ha hr a2 nbs c2 a3 nps c3 _ h1).mono ?_; rintro e w1 ⟨rfl, hb1⟩; have hB1 := hb0.trans (hb1.mono (by simp)); have bx1 := bx.belowS hb1; have p10 := bx1.cell 10 rfl; have p11 := bx1.cell 11 rfl; have p12 := bx1.cell 12 rfl; have p13 := bx1.cell 13 rfl; have p14 := bx1.cell 14 rfl; have p15 := bx1.cell 15 rfl; have p16 := bx1.cell 16 rfl; have p17 := bx1.cell 17 rfl; have p18 := bx1.cell 18 rfl; have HBX1 := Lib.hid bx1; have HB1 := Lib.hid hB1; have z1 := bx1.lt; clear bx1 hB1 hb1)
    | (go_at_call 161; with_reducible refine (noHeader_any ca cr a5 ncb c5 a6 ncp c6 _ h2).mono ?_; rintro e w2 ⟨rfl, hb2⟩; have hB2 := HB1.out.trans (hb2.mono HB1.out.size); have bx2 := HBX1.out.belowS hb2; have q17 := bx2.cell 17 rfl; have q18 := bx2.cell 18 rfl; clear bx2 hb2))
  go_ret
  exact ⟨ret_boolH (by rw [len0] at g3; rw [len0] at g7; rw [len0] at g9; unfold noneB; simp [g1, g2, g3, g4, g5, g6, g7, g8, g9]), hB2⟩
end Go.Proofs.YtmijiclocadimaaGreatDoor
