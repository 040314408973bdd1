/- What the rows of lines lay: two tables, two errors. -/
import Derived.Test.YtodcebhfkmlmgaaDoorFeat
import Derived.Test.YtodcebhfkmlmgaaDoorRows
import Derived.Lib.LaidTab
import Derived.OpenShut
import Derived.LaidMore
import Derived.ProofKit
import Derived.Stop.Joined
import Derived.Shelf.Vars
import Derived.Handed
import Derived.Lay
set_option linter.unusedVariables false
set_option linter.unusedSimpArgs false
namespace Go.Proofs.YtodcebhfkmlmgaaDoor
open Go Go.RowKit

theorem box_of_laid {P : Program} {w : World} {name : String} {g : Nat} {cs : Array Value} (hv : w.var? P name = some cs) (hg : P.globalNamed name = some g) (h : ∃ c t, w.heap[g]? = some (.cells c t (0, 0))) : ∃ T, BoxAt w g cs.toList T := by
  obtain ⟨c, t, hc⟩ := h
  refine ⟨t, ?_⟩
  simp only [World.var?, hg, Option.bind_some, hc, Option.some.injEq] at hv
  subst hv
  exact hc
theorem row_mem (g n : Nat) (h : 0 < n) : MemPlace.cell g 0 ∈ MemPlace.row ⟨g, 0, none⟩ n := by
  unfold MemPlace.row
  simp
  exact h
theorem cells_of_strs {H : Type} {enc : TypeId × Value → H} {P : Program} {w : World} {base : Nat} {sp : Nat → Bool} {held : Bool} {fuel : Nat} {t e : TypeId} {n : Nat} {cs : List Value} {rows : List (List UInt8)} {p : List MemPlace}
    (ht : P.underlying t = some (.array n e)) (he : P.underlying e = some .string) (hce : P.cellsOf e = 1) (hct : P.cellsOf t = n)
    (h : DataW.trod enc P w base sp held fuel t cs = some (.agg (rows.map fun s => .lit (.string s)), p)) : cs = rows.map strV := by
  obtain ⟨xs, f, -, hx, hl, hn, hel⟩ := DataW.trod_array ht h
  simp only [Prod.mk.injEq, DataW.agg.injEq] at hx
  have hr : rows.length = n := by
    have := congrArg List.length hx.1
    simp at this
    omega
  apply List.ext_getElem
  · simp; omega
  · intro j h1 h2
    have hj : j < rows.length := by simpa using h2
    have hjx : j < xs.length := by omega
    have h3 := hel j (by omega)
    rw [hce, Nat.mul_one, List.getElem?_eq_getElem hjx] at h3
    obtain ⟨s, e1, e2, -⟩ := DataW.trod_string he h3
    have e3 : xs[j].1 = .lit (.string rows[j]) := by
      have := congrArg (fun l : List (DataW H) => l[j]?) hx.1
      simp only [List.getElem?_map, List.getElem?_eq_getElem hj, List.getElem?_eq_getElem hjx, Option.map_some, Option.some.injEq] at this
      exact this.symm
    rw [e2] at e3
    simp only [DataW.lit.injEq, Lit.string.injEq] at e3
    have e4 : cs[j] = .string s := by
      have := congrArg (fun l : List Value => l[0]?) e1
      simpa [List.getElem?_take, List.getElem?_drop, List.getElem?_eq_getElem h1] using this
    rw [e4]
    simp only [List.getElem_map]
    rw [← e3]
theorem cells_of_iface {H : Type} {enc : TypeId × Value → H} {P : Program} {w : World} {base : Nat} {sp : Nat → Bool} {fuel : Nat} {t : TypeId} {m : Array (String × TypeId)} {cs : List Value} {nm : String} {d : DataW H} {p : List MemPlace}
    (ht : P.underlying t = some (.interface m)) (h : DataW.trod enc P w base sp false fuel t cs = some (.iface nm d, p)) : ∃ u v, cs = [.iface u v] := by
  cases fuel with
  | zero => simp [DataW.trod] at h
  | succ n =>
    unfold DataW.trod at h
    rw [ht] at h
    split at h <;> simp_all
noncomputable def laidL : List (String × DataW Unit) := [("math/bits.deBruijn32tab", Rows.laid_math_bits_deBruijn32tab), ("math/bits.deBruijn64tab", Rows.laid_math_bits_deBruijn64tab), ("internal/strconv.uint64pow10", Rows.laid_internal_strconv_uint64pow10), ("unicode/utf8.acceptRanges", Rows.laid_unicode_utf8_acceptRanges), ("strconv.ErrRange", Rows.laid_strconv_ErrRange), ("strconv.ErrSyntax", Rows.laid_strconv_ErrSyntax), ("sheaves/lines.words", Rows.laid_sheaves_lines_words), ("unicode/utf8.first", Rows.laid_unicode_utf8_first)]
set_option maxRecDepth 100000 in
/-- What the row's condition gives. -/
theorem tabs_of_laid0 {W : World} (h : laidMetH Tryd.prog laidL W) : TabL W ∧ (∃ T tp p, BoxAt W 3 [.iface tp p] T) ∧ (∃ T tp p, BoxAt W 4 [.iface tp p] T) := by
  rw [MakeChecks.laidMetH_plain _ _ _ (by kernel_rfl)] at h
  obtain ⟨ps, ⟨g0, t0, cs0, f0, p0, q0, hg0, ht0, hv0, hd0, ⟨g1, t1, cs1, f1, p1, q1, hg1, ht1, hv1, hd1, ⟨g2, t2, cs2, f2, p2, q2, hg2, ht2, hv2, hd2, ⟨g3, t3, cs3, f3, p3, q3, hg3, ht3, hv3, hd3, ⟨g4, t4, cs4, f4, p4, q4, hg4, ht4, hv4, hd4, ⟨g5, t5, cs5, f5, p5, q5, hg5, ht5, hv5, hd5, ⟨g6, t6, cs6, f6, p6, q6, hg6, ht6, hv6, hd6, ⟨g7, t7, cs7, f7, p7, q7, hg7, ht7, hv7, hd7, hq7, e7⟩, e6⟩, e5⟩, e4⟩, e3⟩, e2⟩, e1⟩, e0⟩, -, hc⟩ := h
  obtain rfl := Option.some.inj ((show Tryd.prog.globalNamed "sheaves/lines.words" = some 0 by kernel_rfl).symm.trans hg6)
  obtain rfl := Option.some.inj ((show (Tryd.prog.globals[0]?).map (·.type) = some 57 by kernel_rfl).symm.trans ht6)
  obtain rfl := Option.some.inj ((show Tryd.prog.globalNamed "internal/strconv.uint64pow10" = some 2 by kernel_rfl).symm.trans hg2)
  obtain rfl := Option.some.inj ((show (Tryd.prog.globals[2]?).map (·.type) = some 90 by kernel_rfl).symm.trans ht2)
  obtain rfl := Option.some.inj ((show Tryd.prog.globalNamed "strconv.ErrRange" = some 4 by kernel_rfl).symm.trans hg4)
  obtain rfl := Option.some.inj ((show (Tryd.prog.globals[4]?).map (·.type) = some 54 by kernel_rfl).symm.trans ht4)
  obtain rfl := Option.some.inj ((show Tryd.prog.globalNamed "strconv.ErrSyntax" = some 3 by kernel_rfl).symm.trans hg5)
  obtain rfl := Option.some.inj ((show (Tryd.prog.globals[3]?).map (·.type) = some 54 by kernel_rfl).symm.trans ht5)
  have c1 : cs6.toList = wordsL.map strV := cells_of_strs (rows := wordsL) Tryd.underlying57 Tryd.underlying9 (by kernel_rfl) (by kernel_rfl) hd6
  have c2 : cs2.toList = Lib.pow10Tab.map (Value.int .u64) := Lib.cells_of_tab (zs := Lib.pow10Tab) (k := .u64) Tryd.underlying90 Tryd.underlying81 (by kernel_rfl) (by kernel_rfl) hd2
  obtain ⟨u4, v4, c14⟩ := cells_of_iface Tryd.underlying54 hd4
  obtain ⟨u5, v5, c15⟩ := cells_of_iface Tryd.underlying54 hd5
  have n6 : 0 < cs6.size := by have := congrArg List.length c1; simp [wordsL] at this; omega
  have n2 : 0 < cs2.size := by have := congrArg List.length c2; rw [List.length_map, Lib.pow10Tab_length] at this; simp at this; omega
  have n4 : 0 < cs4.size := by have := congrArg List.length c14; simp at this; omega
  have n5 : 0 < cs5.size := by have := congrArg List.length c15; simp at this; omega
  have m6 := box_of_laid hv6 hg6 (hc _ 0 (by rw [e0, e1, e2, e3, e4, e5, e6]; simp only [List.mem_append]; exact .inr (.inr (.inr (.inr (.inr (.inr (.inl (.inl (row_mem _ _ n6)))))))))).1
  have m2 := box_of_laid hv2 hg2 (hc _ 0 (by rw [e0, e1, e2]; simp only [List.mem_append]; exact .inr (.inr (.inl (.inl (row_mem _ _ n2)))))).1
  have m4 := box_of_laid hv4 hg4 (hc _ 0 (by rw [e0, e1, e2, e3, e4]; simp only [List.mem_append]; exact .inr (.inr (.inr (.inr (.inl (.inl (row_mem _ _ n4)))))))).1
  have m5 := box_of_laid hv5 hg5 (hc _ 0 (by rw [e0, e1, e2, e3, e4, e5]; simp only [List.mem_append]; exact .inr (.inr (.inr (.inr (.inr (.inl (.inl (row_mem _ _ n5))))))))).1
  rw [c1] at m6
  rw [c2] at m2
  rw [c14] at m4
  rw [c15] at m5
  exact ⟨⟨m6, m2⟩, let ⟨T, x⟩ := m5; ⟨T, _, _, x⟩, let ⟨T, x⟩ := m4; ⟨T, _, _, x⟩⟩
set_option maxRecDepth 100000 in
theorem handed_andS {H : Type} {enc : TypeId × Value → H} {a : Assume} {C : Checked} {os : Os} {f : FuncId} {fn : Func} {s : ChangeSpec} {conds : List PathCond} {apart fresh handsOn again : Bool} {X : World → Array Value → Prop}
    (hX : ∀ (w w' : World) (args : Array Value), w.heap = w'.heap → X w args → X w' args)
    (own : ownKnob C.prog.godebug = none) (started : os.Started) (noInit : C.prog.inits.idxOf? f = none) (hfn : C.prog.funcs[f]? = some fn)
    (witness : ∃ (w : World) (tape : Tape) (i : Input), w.os = os ∧ (w.forCall tape i).Shaped C.prog ∧ i.vars = [] ∧ Input.okWide C.prog (w.forCall tape i) .any w.heap.size f i ∧
      ((s.pre enc C.prog fn conds apart (w.forCall tape i).memory i.args ∧ X (w.forCall tape i).memory i.args) ∧ sizedMet enc C.prog fn (OpenSpec.ofChange s) apart (w.forCall tape i).memory i.args) ∧ a.holds C.prog (lone (Frame.enter C.prog f i.args .normal) [] (w.forCall tape i)))
    (contract : ∀ (W : World) (base : Nat) (args : Array Value) (ds gs : List (DataW H)) (before : List MemPlace),
      (∀ (j : Nat) t v, fn.params[j]? = some t → args[j]? = some v → Value.okWide C.prog W .any base t v) →
      DataW.Whole enc C.prog fn.params.toList s.vars apart W args.toList ds gs before →
      conds.all (PathCond.test C.prog ⟨fn.params.toList, ds, s.plain.varTypes C.prog, gs⟩) = true →
      (DataW.weightsEach C.prog (fn.params.toList ++ s.plain.varTypes C.prog) (ds ++ gs)).all (· ≤ reachBytes) = true → X W args → W.ShapedOpen C.prog →
      a.holds C.prog (lone (Frame.enter C.prog f args .normal) [] W) →
      Calls C.prog f args W fun e W' => ∃ v, e = .returned v ∧ s.post enc C.prog fn apart fresh handsOn again W args v W') :
    ReturnsInHanded a C os f .any (fun w args => (s.pre enc C.prog fn conds apart w args ∧ X w args) ∧ sizedMet enc C.prog fn (OpenSpec.ofChange s) apart w args) (s.post enc C.prog fn apart fresh handsOn again) := by
  refine returnsInHanded_of_calls own started noInit witness ?_
  intro w tape i _ hsh _ hok hpre hholds
  obtain ⟨_, _, _, fn', hfn', _, _, _, _, hval⟩ := hok
  obtain rfl : fn' = fn := Option.some.inj (hfn'.symm.trans hfn)
  obtain ⟨⟨⟨ds, gs, before, hw, hc⟩, hx⟩, hz⟩ := hpre
  have hw' := DataW.Whole.of_heap (w' := w.forCall tape i) (by rfl) hw
  refine (contract (w.forCall tape i) w.heap.size i.args ds gs before hval hw' hc (hz.weights hw) (hX _ _ _ (by rfl) hx) hsh hholds).mono fun e W' ⟨v, he, hp⟩ => ?_
  subst he
  exact ChangeSpec.post_blind hp
theorem tabs_of_laid {W : World} (h : laidMetH Tryd.prog laidL W) (hsh : W.ShapedOpen Tryd.prog) : TabR W :=
  let ⟨h1, h2, h3⟩ := tabs_of_laid0 h
  ⟨h1, cell_of_shapedOpen_int hsh (g := 1) (t := 3) (zero := #[.int .i64 0]) (of_decide_eq_true (by kernel_rfl)) (by kernel_rfl) rfl (by kernel_rfl) (by kernel_rfl) Tryd.underlying3, h2, h3⟩
/-- A start that has them. -/
noncomputable def startW (os : Os) : World := World.laidAll Tryd.prog os laidL
theorem startW_os (os : Os) : (startW os).os = os := World.laidAll_os _ _ _
theorem door_met (os : Os) (args : Array Value) : laidMetH Tryd.prog laidL ((startW os).forCall (fun _ _ => 0) ⟨#[], args, []⟩).memory := by
  rw [MakeChecks.laidMetH_plain _ _ _ (by kernel_rfl)]
  exact laidMet_laidAll _ (by kernel_rfl) (by kernel_rfl)
theorem door_shaped (os : Os) (args : Array Value) : ((startW os).forCall (fun _ _ => 0) ⟨#[], args, []⟩).Shaped Tryd.prog := World.shaped_of_ZipB (by kernel_rfl) (by kernel_rfl)
end Go.Proofs.YtodcebhfkmlmgaaDoor
