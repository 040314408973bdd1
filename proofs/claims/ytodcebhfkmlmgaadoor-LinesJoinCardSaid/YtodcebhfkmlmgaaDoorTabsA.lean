/- What the rows of lines lay: two tables. -/
import Derived.Test.YtodcebhfkmlmgaaDoorFeat
import Derived.Test.YtodcebhfkmlmgaaDoorRows
import Derived.Lib.LaidTab
import Derived.OpenShut
import Derived.LaidMore
import Derived.ProofKit
import Derived.Stop.Joined
import Derived.Shelf.Vars
import Derived.Handed
set_option linter.unusedVariables false
set_option linter.unusedSimpArgs false
namespace Go.Proofs.YtodcebhfkmlmgaaDoor
open Go Go.RowKit

theorem box_of_laid {P : Program} {w : World} {name : String} {g : Nat} {cs : Array Value} (hv : w.var? P name = some cs) (hg : P.globalNamed name = some g) (h : ∃ c t, w.heap[g]? = some (.cells c t (0, 0))) : ∃ T, BoxAt w g cs.toList T := by
  obtain ⟨c, t, hc⟩ := h
  refine ⟨t, ?_⟩
  simp only [World.var?, hg, Option.bind_some, hc, Option.some.injEq] at hv
  subst hv
  exact hc
theorem row_mem (g n : Nat) (h : 0 < n) : MemPlace.cell g 0 ∈ MemPlace.row ⟨g, 0, none⟩ n := by
  unfold MemPlace.row
  simp
  exact h
theorem cells_of_strs {H : Type} {enc : TypeId × Value → H} {P : Program} {w : World} {base : Nat} {sp : Nat → Bool} {held : Bool} {fuel : Nat} {t e : TypeId} {n : Nat} {cs : List Value} {rows : List (List UInt8)} {p : List MemPlace}
    (ht : P.underlying t = some (.array n e)) (he : P.underlying e = some .string) (hce : P.cellsOf e = 1) (hct : P.cellsOf t = n)
    (h : DataW.trod enc P w base sp held fuel t cs = some (.agg (rows.map fun s => .lit (.string s)), p)) : cs = rows.map strV := by
  obtain ⟨xs, f, -, hx, hl, hn, hel⟩ := DataW.trod_array ht h
  simp only [Prod.mk.injEq, DataW.agg.injEq] at hx
  have hr : rows.length = n := by
    have := congrArg List.length hx.1
    simp at this
    omega
  apply List.ext_getElem
  · simp; omega
  · intro j h1 h2
    have hj : j < rows.length := by simpa using h2
    have hjx : j < xs.length := by omega
    have h3 := hel j (by omega)
    rw [hce, Nat.mul_one, List.getElem?_eq_getElem hjx] at h3
    obtain ⟨s, e1, e2, -⟩ := DataW.trod_string he h3
    have e3 : xs[j].1 = .lit (.string rows[j]) := by
      have := congrArg (fun l : List (DataW H) => l[j]?) hx.1
      simp only [List.getElem?_map, List.getElem?_eq_getElem hj, List.getElem?_eq_getElem hjx, Option.map_some, Option.some.injEq] at this
      exact this.symm
    rw [e2] at e3
    simp only [DataW.lit.injEq, Lit.string.injEq] at e3
    have e4 : cs[j] = .string s := by
      have := congrArg (fun l : List Value => l[0]?) e1
      simpa [List.getElem?_take, List.getElem?_drop, List.getElem?_eq_getElem h1] using this
    rw [e4]
    simp only [List.getElem_map]
    rw [← e3]
theorem cells_of_iface {H : Type} {enc : TypeId × Value → H} {P : Program} {w : World} {base : Nat} {sp : Nat → Bool} {fuel : Nat} {t : TypeId} {m : Array (String × TypeId)} {cs : List Value} {nm : String} {d : DataW H} {p : List MemPlace}
    (ht : P.underlying t = some (.interface m)) (h : DataW.trod enc P w base sp false fuel t cs = some (.iface nm d, p)) : ∃ u v, cs = [.iface u v] := by
  cases fuel with
  | zero => simp [DataW.trod] at h
  | succ n =>
    unfold DataW.trod at h
    rw [ht] at h
    split at h <;> simp_all
noncomputable def laidL : List (String × DataW Unit) := [("math/bits.deBruijn32tab", Rows.laid_math_bits_deBruijn32tab), ("math/bits.deBruijn64tab", Rows.laid_math_bits_deBruijn64tab), ("internal/strconv.uint64pow10", Rows.laid_internal_strconv_uint64pow10), ("sheaves/lines.words", Rows.laid_sheaves_lines_words)]
set_option maxRecDepth 100000 in
/-- What the row's condition gives. -/
theorem tabs_of_laid0 {W : World} (h : laidMetH Tryd.prog laidL W) : TabL W := by
  rw [MakeChecks.laidMetH_plain _ _ _ (by kernel_rfl)] at h
  obtain ⟨ps, ⟨g0, t0, cs0, f0, p0, q0, hg0, ht0, hv0, hd0, ⟨g1, t1, cs1, f1, p1, q1, hg1, ht1, hv1, hd1, ⟨g2, t2, cs2, f2, p2, q2, hg2, ht2, hv2, hd2, ⟨g3, t3, cs3, f3, p3, q3, hg3, ht3, hv3, hd3, hq3, e3⟩, e2⟩, e1⟩, e0⟩, -, hc⟩ := h
  obtain rfl := Option.some.inj ((show Tryd.prog.globalNamed "sheaves/lines.words" = some 0 by kernel_rfl).symm.trans hg3)
  obtain rfl := Option.some.inj ((show (Tryd.prog.globals[0]?).map (·.type) = some 57 by kernel_rfl).symm.trans ht3)
  obtain rfl := Option.some.inj ((show Tryd.prog.globalNamed "internal/strconv.uint64pow10" = some 2 by kernel_rfl).symm.trans hg2)
  obtain rfl := Option.some.inj ((show (Tryd.prog.globals[2]?).map (·.type) = some 90 by kernel_rfl).symm.trans ht2)
  have c1 : cs3.toList = wordsL.map strV := cells_of_strs (rows := wordsL) Tryd.underlying57 Tryd.underlying9 (by kernel_rfl) (by kernel_rfl) hd3
  have c2 : cs2.toList = Lib.pow10Tab.map (Value.int .u64) := Lib.cells_of_tab (zs := Lib.pow10Tab) (k := .u64) Tryd.underlying90 Tryd.underlying81 (by kernel_rfl) (by kernel_rfl) hd2
  have n3 : 0 < cs3.size := by have := congrArg List.length c1; simp [wordsL] at this; omega
  have n2 : 0 < cs2.size := by have := congrArg List.length c2; rw [List.length_map, Lib.pow10Tab_length] at this; simp at this; omega
  have m3 := box_of_laid hv3 hg3 (hc _ 0 (by rw [e0, e1, e2, e3]; simp only [List.mem_append]; exact .inr (.inr (.inr (.inl (.inl (row_mem _ _ n3))))))).1
  have m2 := box_of_laid hv2 hg2 (hc _ 0 (by rw [e0, e1, e2]; simp only [List.mem_append]; exact .inr (.inr (.inl (.inl (row_mem _ _ n2)))))).1
  rw [c1] at m3
  rw [c2] at m2
  exact ⟨m3, m2⟩
theorem tabs_of_laid {W : World} (h : laidMetH Tryd.prog laidL W) : TabL W := tabs_of_laid0 h
/-- The start's heap meets the condition. -/
theorem door_met (os : Os) (args : Array Value) : laidMetH Tryd.prog laidL ((World.doorLaid Tryd.prog 400 os).forCall (fun _ _ => 0) ⟨#[], args, []⟩).memory :=
  laidMetH_of_parts3 (fuel := 8) (laidMet_of_run' 8 (by kernel_rfl) (by kernel_rfl)) (by kernel_rfl) (by kernel_rfl)
theorem door_shaped (os : Os) (args : Array Value) : ((World.doorLaid Tryd.prog 400 os).forCall (fun _ _ => 0) ⟨#[], args, []⟩).Shaped Tryd.prog := World.shaped_of_RefB (by kernel_rfl) (by kernel_rfl)
end Go.Proofs.YtodcebhfkmlmgaaDoor
