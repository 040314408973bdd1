/- CastOnce: the walk. -/
import Derived.Test.YtialhdmdeggenaaDoorCastO2
set_option linter.unusedVariables false
set_option linter.unusedSimpArgs false
attribute [local go_sem ↓] Go.wp_at_zero Go.wp_at_succ
namespace Go.Proofs.YtialhdmdeggenaaDoor
open Go Go.RowKit

set_option maxRecDepth 100000 in
set_option maxHeartbeats 8000000 in
theorem castOnce_walk (v : Value) (l : List RawD) (vt : Value) (r : RawD) (n : Int) (w : World) (hv : RdS RRaw (fun _ => True) w v l) (hr : RawOk (fun _ => True) w vt r) (n1 : -9223372036854775808 ≤ n) (n2 : n ≤ 9223372036854775807) (ht : Tabs w) :
    Calls Tryd.prog 10 #[v, .agg #[.int .i64 r.k, .int .i64 r.a, .int .i64 r.b, .int .i64 r.c, vt], .int .i64 n] w fun e w' => e = .returned (.bool true) ∧ Below w.heap.size w w' := by
  have HB := Lib.hid (Below.refl w.heap.size w)
  have HV := Lib.hid (hv)
  have HR := Lib.hid (hr)
  have HT := Lib.hid (ht)
  have HLAW := Lib.hid (fun h => castSum_law (l := l) (r := r) (n := n) h)
  clear hv hr ht
  go_enter Tryd.func10, Tryd.ntmps10
  go_wp2_with fail
  refine (castOnce_any _ l vt r n _ (HV.out.below (by repeat (first | with_reducible exact Below.refl _ _ | with_reducible refine Below.drew ?_ | with_reducible refine Below.setCell ?_ (by first | omega | (simp <;> omega)) _ | with_reducible refine Below.alloc ?_ (by first | omega | (simp <;> omega)) _)) (fun _ h => h)) (HR.out.keep (Keep.below (by repeat (first | with_reducible exact Below.refl _ _ | with_reducible refine Below.drew ?_ | with_reducible refine Below.setCell ?_ (by first | omega | (simp <;> omega)) _ | with_reducible refine Below.alloc ?_ (by first | omega | (simp <;> omega)) _))) (fun _ h => h)) n1 n2 (HT.out.belowS (by repeat (first | with_reducible exact Below.refl _ _ | with_reducible refine Below.drew ?_ | with_reducible refine Below.setCell ?_ (by first | omega | (simp <;> omega)) _ | with_reducible refine Below.alloc ?_ (by first | omega | (simp <;> omega)) _)))).mono ?_
  rintro e w1 ⟨b, rfl, hb, hb1⟩
  have hB1 : Below w.heap.size w w1 := Below.trans (by repeat (first | with_reducible exact Below.refl _ _ | with_reducible refine Below.drew ?_ | with_reducible refine Below.setCell ?_ (by first | omega | (simp <;> omega)) _ | with_reducible refine Below.alloc ?_ (by first | omega | (simp <;> omega)) _)) (hb1.mono (by first | exact Nat.le_refl _ | (simp; done) | (simp; omega)))
  have z1 := hB1.size
  have BR := Lib.hid (BoxAt.belowS (show BoxAt _ (w.heap.size) [.int .i64 r.k, .int .i64 r.a, .int .i64 r.b, .int .i64 r.c, vt] 24 from (by repeat (first | with_reducible exact BoxAt.newAt _ _ _ (by first | rfl | simp) | with_reducible refine BoxAt.drew ?_ | with_reducible refine BoxAt.alloc ?_ _ | with_reducible refine BoxAt.setOther ?_ (by first | omega | (simp <;> omega)) _))) hb1)
  replace HB := Lib.hid (HB.out.trans (hB1.mono HB.out.size))
  replace HV := Lib.hid (HV.out.below hB1 (fun _ h => h))
  replace HR := Lib.hid (HR.out.keep (Keep.below hB1) (fun _ h => h))
  replace HT := Lib.hid (HT.out.belowS hB1)
  have HBL := Lib.hid hb
  clear hb1 hB1 hb
  cases b
  · have HE := Lib.hid (HLAW.out (HBL.out rfl))
    have x0 := BR.out.cell 0 rfl
    have x1 := BR.out.cell 1 rfl
    have x2 := BR.out.cell 2 rfl
    have x3 := BR.out.cell 3 rfl
    have x4 := BR.out.cell 4 rfl
    have zBR := BR.out.lt
    go_wp2_with fail
    refine (castSum_any _ l vt r n _ (HV.out.below (by repeat (first | with_reducible exact Below.refl _ _ | with_reducible refine Below.drew ?_ | with_reducible refine Below.setCell ?_ (by first | omega | (simp <;> omega)) _ | with_reducible refine Below.alloc ?_ (by first | omega | (simp <;> omega)) _)) (fun _ h => h)) (HR.out.keep (Keep.below (by repeat (first | with_reducible exact Below.refl _ _ | with_reducible refine Below.drew ?_ | with_reducible refine Below.setCell ?_ (by first | omega | (simp <;> omega)) _ | with_reducible refine Below.alloc ?_ (by first | omega | (simp <;> omega)) _))) (fun _ h => h)) n1 n2 (HT.out.belowS (by repeat (first | with_reducible exact Below.refl _ _ | with_reducible refine Below.drew ?_ | with_reducible refine Below.setCell ?_ (by first | omega | (simp <;> omega)) _ | with_reducible refine Below.alloc ?_ (by first | omega | (simp <;> omega)) _)))).mono ?_
    rw [HE.out]
    rintro e w2 ⟨rfl, hb2⟩
    have hB2 : Below w1.heap.size w1 w2 := Below.trans (by repeat (first | with_reducible exact Below.refl _ _ | with_reducible refine Below.drew ?_ | with_reducible refine Below.setCell ?_ (by first | omega | (simp <;> omega)) _ | with_reducible refine Below.alloc ?_ (by first | omega | (simp <;> omega)) _)) (hb2.mono (by first | exact Nat.le_refl _ | (simp; done) | (simp; omega)))
    have z2 := hB2.size
    replace HB := Lib.hid (HB.out.trans (hB2.mono HB.out.size))
    replace HV := Lib.hid (HV.out.below hB2 (fun _ h => h))
    replace HR := Lib.hid (HR.out.keep (Keep.below hB2) (fun _ h => h))
    replace HT := Lib.hid (HT.out.belowS hB2)
    replace BR := Lib.hid (BR.out.belowS hB2)
    clear x0 x1 x2 x3 x4 zBR
    clear hb2 hB2
    go_wp2
    go_ret
    exact ⟨rfl, HB.out⟩
  · go_wp2
    go_ret
    exact ⟨rfl, HB.out⟩
end Go.Proofs.YtialhdmdeggenaaDoor
