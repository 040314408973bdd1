/- What the rows lay: the digest's tables. -/
import Derived.Test.YtmijiclocadimaaGreatDoorBlk
import Derived.Test.YtmijiclocadimaaGreatDoorRows
import Derived.Lib.LaidTab
import Derived.OpenShut
import Derived.LaidMore
import Derived.ProofKit
import Derived.Stop.Joined
set_option linter.unusedVariables false
set_option linter.unusedSimpArgs false
namespace Go.Proofs.YtmijiclocadimaaGreatDoor
open Go Go.RowKit

theorem chunks_eq {α : Type} (m : Nat) : ∀ (rs : List (List α)) (cs : List α), cs.length = rs.length * m → (∀ i (h : i < rs.length), (cs.drop (i * m)).take m = rs[i]) → cs = rs.flatten
  | [], cs, hl, _ => by
    have : cs.length = 0 := by simpa using hl
    simpa using List.eq_nil_of_length_eq_zero this
  | r :: t, cs, hl, h => by
    have h0 := h 0 (by simp)
    simp at h0
    have hl' : (cs.drop m).length = t.length * m := by rw [List.length_drop, hl, List.length_cons, Nat.add_mul]; omega
    have ih := chunks_eq m t (cs.drop m) hl' (fun i hi => by
      have := h (i + 1) (by simp; omega)
      rw [List.drop_drop, show m + i * m = (i + 1) * m by rw [Nat.add_mul]; omega]
      simpa using this)
    rw [List.flatten_cons, ← ih, ← h0, List.take_append_drop]
theorem cells_of_tab2 {H : Type} {enc : TypeId × Value → H} {P : Program} {w : World} {base : Nat} {sp : Nat → Bool} {held : Bool} {fuel : Nat} {t e i : TypeId} {n m : Nat} {k : IntKind} {cs : List Value} {rows : List (List Int)} {p : List MemPlace}
    (ht : P.underlying t = some (.array n e)) (he : P.underlying e = some (.array m i)) (hi : P.underlying i = some (.int k)) (hci : P.cellsOf i = 1) (hce : P.cellsOf e = m) (hct : P.cellsOf t = n * m) 
    (h : DataW.trod enc P w base sp held fuel t cs = some (.agg (rows.map (Lib.tabData k)), p)) : cs = rows.flatten.map fun z => Value.int k z := by
  obtain ⟨xs, f, -, hx, hl, hn, hel⟩ := DataW.trod_array ht h
  simp only [Prod.mk.injEq, DataW.agg.injEq] at hx
  have hr : rows.length = n := by
    have := congrArg List.length hx.1
    simp at this
    omega
  rw [List.map_flatten]
  refine chunks_eq m _ _ (by rw [hl, hct]; simp [hr]) (fun j hj => ?_)
  simp only [List.length_map] at hj
  have h1 := hel j (by omega)
  rw [hce, List.getElem?_eq_getElem (by omega)] at h1
  have h2 : xs[j].1 = Lib.tabData k rows[j] := by
    have := congrArg (fun l : List (DataW H) => l[j]?) hx.1
    simp only [List.getElem?_map, List.getElem?_eq_getElem hj, List.getElem?_eq_getElem (show j < xs.length by omega), Option.map_some, Option.some.injEq] at this
    exact this.symm
  have h3 := Lib.cells_of_tab (p := xs[j].2) (zs := rows[j]) he hi hci hce (by rw [h1]; congr 1; exact Prod.ext h2 rfl)
  rw [h3]
  simp
theorem box_of_laid {P : Program} {w : World} {name : String} {g : Nat} {cs : Array Value} (hv : w.var? P name = some cs) (hg : P.globalNamed name = some g) (h : ∃ c t, w.heap[g]? = some (.cells c t (0, 0))) : ∃ T, BoxAt w g cs.toList T := by
  obtain ⟨c, t, hc⟩ := h
  refine ⟨t, ?_⟩
  simp only [World.var?, hg, Option.bind_some, hc, Option.some.injEq] at hv
  subst hv
  exact hc
noncomputable def laidL : List (String × DataW Unit) := [("sheaves/blake.first", Rows.laid_sheaves_blake_first), ("sheaves/blake.order", Rows.laid_sheaves_blake_order), ("sheaves/blake.lanes", Rows.laid_sheaves_blake_lanes)]
def orderR : List (List Int) := (List.range 10).map fun r => (orderZ.drop (r * 16)).take 16
def lanesR : List (List Int) := (List.range 8).map fun r => (lanesZ.drop (r * 4)).take 4
theorem row_mem (g n : Nat) (h : 0 < n) : MemPlace.cell g 0 ∈ MemPlace.row ⟨g, 0, none⟩ n := by
  unfold MemPlace.row
  simp
  exact h
set_option maxRecDepth 100000 in
/-- What the row's condition gives. -/
theorem tabs_of_laid {W : World} (h : laidMetH Tryz.prog laidL W) : Tabs W := by
  rw [MakeChecks.laidMetH_plain _ _ _ (by kernel_rfl)] at h
  obtain ⟨ps, ⟨g0, t0, cs0, f0, p0, q0, hg0, ht0, hv0, hd0, ⟨g1, t1, cs1, f1, p1, q1, hg1, ht1, hv1, hd1, ⟨g2, t2, cs2, f2, p2, q2, hg2, ht2, hv2, hd2, hq2, e2⟩, e1⟩, e0⟩, -, hc⟩ := h
  obtain rfl := Option.some.inj ((show Tryz.prog.globalNamed "sheaves/blake.first" = some 0 by kernel_rfl).symm.trans hg0)
  obtain rfl := Option.some.inj ((show Tryz.prog.globalNamed "sheaves/blake.order" = some 1 by kernel_rfl).symm.trans hg1)
  obtain rfl := Option.some.inj ((show Tryz.prog.globalNamed "sheaves/blake.lanes" = some 2 by kernel_rfl).symm.trans hg2)
  obtain rfl := Option.some.inj ((show (Tryz.prog.globals[0]?).map (·.type) = some 211 by kernel_rfl).symm.trans ht0)
  obtain rfl := Option.some.inj ((show (Tryz.prog.globals[1]?).map (·.type) = some 249 by kernel_rfl).symm.trans ht1)
  obtain rfl := Option.some.inj ((show (Tryz.prog.globals[2]?).map (·.type) = some 251 by kernel_rfl).symm.trans ht2)
  have c0 : cs0.toList = firstZ.map U32 := Lib.cells_of_tab (zs := firstZ) (k := .u32) Tryz.underlying211 Tryz.underlying210 (by kernel_rfl) (by kernel_rfl) hd0
  have c1 : cs1.toList = orderR.flatten.map I64 := cells_of_tab2 (rows := orderR) (k := .i64) Tryz.underlying249 Tryz.underlying248 Tryz.underlying3 (by kernel_rfl) (by kernel_rfl) (by kernel_rfl) hd1
  have c2 : cs2.toList = lanesR.flatten.map I64 := cells_of_tab2 (rows := lanesR) (k := .i64) Tryz.underlying251 Tryz.underlying250 Tryz.underlying3 (by kernel_rfl) (by kernel_rfl) (by kernel_rfl) hd2
  have o1 : orderR.flatten = orderZ := by decide
  have o2 : lanesR.flatten = lanesZ := by decide
  rw [o1] at c1
  rw [o2] at c2
  have n0 : 0 < cs0.size := by have := congrArg List.length c0; simp [firstZ] at this; omega
  have n1 : 0 < cs1.size := by have := congrArg List.length c1; rw [List.length_map, orderZ_length] at this; simp at this; omega
  have n2 : 0 < cs2.size := by have := congrArg List.length c2; rw [List.length_map, lanesZ_length] at this; simp at this; omega
  have m0 := box_of_laid hv0 hg0 (hc _ 0 (by rw [e0]; simp only [List.mem_append]; exact .inl (.inl (row_mem _ _ n0)))).1
  have m1 := box_of_laid hv1 hg1 (hc _ 0 (by rw [e0, e1]; simp only [List.mem_append]; exact .inr (.inl (.inl (row_mem _ _ n1))))).1
  have m2 := box_of_laid hv2 hg2 (hc _ 0 (by rw [e0, e1, e2]; simp only [List.mem_append]; exact .inr (.inr (.inl (.inl (row_mem _ _ n2)))))).1
  rw [c0] at m0
  rw [c1] at m1
  rw [c2] at m2
  exact ⟨m0, m1, m2⟩
/-- The start's heap meets the condition. -/
theorem door_met (os : Os) (args : Array Value) : laidMetH Tryz.prog laidL ((World.doorLaid Tryz.prog 400 os).forCall (fun _ _ => 0) ⟨#[], args, []⟩).memory :=
  laidMetH_of_parts3 (fuel := 8) (laidMet_of_run' 8 (by kernel_rfl) (by kernel_rfl)) (by kernel_rfl) (by kernel_rfl)
theorem door_shaped (os : Os) (args : Array Value) : ((World.doorLaid Tryz.prog 400 os).forCall (fun _ _ => 0) ⟨#[], args, []⟩).Shaped Tryz.prog := World.shaped_of_RefB (by kernel_rfl) (by kernel_rfl)
end Go.Proofs.YtmijiclocadimaaGreatDoor
