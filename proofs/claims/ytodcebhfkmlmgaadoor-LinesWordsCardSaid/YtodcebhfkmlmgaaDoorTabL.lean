/- The tables that lines reads: what stands in memory; strconv.Itoa, Atoi, strings.Cut, Split, IndexByte in our own words. -/
import Derived.Test.YtodcebhfkmlmgaaDoorHexL
import Derived.Lib.AppendIntMem
set_option linter.unusedVariables false
set_option linter.unusedSimpArgs false
namespace Go.Proofs.YtodcebhfkmlmgaaDoor
open Go Go.RowKit

/-- The words, and the powers of ten. -/
structure TabL (w : World) : Prop where
  words : ∃ T, BoxAt w 0 (wordsL.map strV) T
  pow : ∃ T, BoxAt w 2 (Lib.pow10Tab.map (Value.int .u64)) T
theorem TabL.belowS {w w' : World} (h : TabL w) (hb : Below w.heap.size w w') : TabL w' :=
  ⟨let ⟨T, x⟩ := h.words; ⟨T, x.belowS hb⟩, let ⟨T, x⟩ := h.pow; ⟨T, x.belowS hb⟩⟩
theorem TabL.tab {w : World} (h : TabL w) : Lib.TabIs Tryd.prog w "internal/strconv.uint64pow10" .u64 Lib.pow10Tab := by
  obtain ⟨T, x⟩ := h.pow
  unfold BoxAt at x
  unfold Lib.TabIs World.var?
  rw [show Tryd.prog.globalNamed "internal/strconv.uint64pow10" = some 2 by kernel_rfl]
  simp only [Option.bind_some, x]
theorem TabL.word {w : World} (h : TabL w) {k : Nat} (hk : k < 11) : w.cell? ⟨0, k, none⟩ = some (strV (wordOf k)) := by
  obtain ⟨T, x⟩ := h.words
  refine x.cell k ?_
  have hl : k < wordsL.length := hk
  simp [wordOf, hl]
/-- And what Atoi and Cut read: errors, and a number whatever. -/
structure TabR (w : World) : Prop where
  l : TabL w
  max : ∃ m, w.cell? ⟨1, 0, none⟩ = some (.int .i64 m)
  errS : ∃ T tp p, BoxAt w 3 [.iface tp p] T
  errR : ∃ T tp p, BoxAt w 4 [.iface tp p] T
theorem TabR.belowS {w w' : World} (h : TabR w) (hb : Below w.heap.size w w') : TabR w' :=
  ⟨h.l.belowS hb, let ⟨m, x⟩ := h.max; ⟨m, (hb.cell (p := ⟨_, 0, none⟩) (World.block_lt_of_cell? w _ x)).trans x⟩,
    let ⟨T, tp, p, x⟩ := h.errS; ⟨T, tp, p, x.belowS hb⟩, let ⟨T, tp, p, x⟩ := h.errR; ⟨T, tp, p, x.belowS hb⟩⟩
theorem itoa_any (n : Int) (w : World) (h0 : -9223372036854775808 ≤ n) (h1 : n ≤ 9223372036854775807) (ht : TabL w) :
    Calls Tryd.prog 19 #[.int .i64 n] w fun e w' => e = .returned (strV (Lib.itoa n)) ∧ Below w.heap.size w w' := by
  refine (strconv_Itoa n h0 h1 w ht.tab).mono ?_
  rintro e w' ⟨rfl, k, os, rfl⟩
  exact ⟨rfl, Lib.below_grow _ w (Nat.le_refl _) k os⟩
theorem var_of_box {w : World} {name : String} {g : Nat} {cs : List Value} {T : TypeId} (hg : Tryd.prog.globalNamed name = some g) (x : BoxAt w g cs T) : w.var? Tryd.prog name = some cs.toArray := by
  unfold BoxAt at x
  unfold World.var?
  rw [hg]
  simp only [Option.bind_some, x]
/-- Atoi, at every text: the number and whether there is an error. -/
theorem atoi_any (s : ByteArray) (w : World) (hs : s.size ≤ 281474976710656) (ht : TabR w) :
    Calls Tryd.prog 35 #[.string s] w fun e w' => ∃ v ev, e = .returned (.tuple #[.int .i64 v, ev]) ∧
      ((Lib.atoiAll s.data.toList = .ok v ∧ ev = .nilIface) ∨ (v = (numL s.data.toList).1 ∧ (numL s.data.toList).2 = false ∧ ∃ N, w.heap.size ≤ N ∧ N < w'.heap.size ∧ ev = .iface 102 (.pointer (some ⟨N, 0, none⟩)))) ∧ Below w.heap.size w w' := by
  rcases hq : Lib.atoiAll s.data.toList with v | _ | _
  · refine (strconv_Atoi_ok s (by omega) v hq w).mono ?_
    rintro e w' ⟨rfl, hw⟩
    refine ⟨v, _, rfl, .inl ⟨rfl, rfl⟩, ?_⟩
    rcases hw with rfl | ⟨t, rfl⟩
    · exact Below.refl _ _
    · unfold Lib.bytesWorld
      exact Lib.below_freeze (((Below.refl _ _).drew).alloc (Nat.le_refl _) _) (Nat.le_refl _) 1
  · obtain ⟨T, tp, p, x⟩ := ht.errS
    refine (strconv_Atoi_syntax_var s hs hq tp p w (var_of_box (by kernel_rfl) x)).mono ?_
    rintro e w' ⟨N, rfl, hN, hc, hb⟩
    exact ⟨0, _, rfl, .inr ⟨by simp [numL, hq], by simp [numL, hq], N, hN, lt_of_block hc, rfl⟩, hb⟩
  · obtain ⟨T, tp, p, x⟩ := ht.errR
    refine (strconv_Atoi_range_var s hs hq tp p w (var_of_box (by kernel_rfl) x)).mono ?_
    rintro e w' ⟨N, rfl, hN, hc, hb⟩
    exact ⟨_, _, rfl, .inr ⟨by simp [numL, hq], by simp [numL, hq], N, hN, lt_of_block hc, rfl⟩, hb⟩
theorem cut_any10 (s : List UInt8) (w : World) (hs : s.length < 4294967281) (ht : TabR w) :
    Calls Tryd.prog 22 #[.string ⟨s.toArray⟩, .string ⟨#[10]⟩] w fun e w' => e = .returned (.tuple #[strV (cutN s).1, strV (cutN s).2.1, .bool (cutN s).2.2]) ∧ Below w.heap.size w w' := by
  obtain ⟨m, hm⟩ := ht.max
  refine (strings_Cut ⟨s.toArray⟩ ⟨#[10]⟩ m w (by show s.toArray.size < _; simpa using hs) hm).mono ?_
  rintro e w' ⟨rfl, n, rfl⟩
  have e1 : Lib.cut (⟨s.toArray⟩ : ByteArray).data.toList (⟨#[10]⟩ : ByteArray).data.toList = cutN s := cut_eq s
  rw [e1]
  exact ⟨rfl, below_drewN (Below.refl _ _) n⟩
theorem split_any32 (s : List UInt8) (w : World) (hs : s.length < 4294967281) (ht : TabR w) :
    Calls Tryd.prog 28 #[.string ⟨s.toArray⟩, .string ⟨#[32]⟩] w fun e w' => e = .returned (.slice (some ⟨w.heap.size, 0, none⟩) (spl s).length (spl s).length) ∧ BoxAt w' w.heap.size ((spl s).map strV) 9 ∧ Below w.heap.size w w' := by
  obtain ⟨m, hm⟩ := ht.max
  refine (strings_Split ⟨s.toArray⟩ ⟨#[32]⟩ m w (by show s.toArray.size < _; simpa using hs) hm (by decide)).mono ?_
  rintro e w' ⟨rfl, rfl⟩
  have e0 : Lib.countB ⟨s.toArray⟩ ⟨#[32]⟩ = Lib.count s [32] := rfl
  have e1 := Lib.splitB_data ⟨#[32]⟩ 0 (Lib.countB ⟨s.toArray⟩ ⟨#[32]⟩) ⟨s.toArray⟩
  have e2 : Lib.splitK [32] 0 (Lib.count s [32]) s = spl s := splitK_spl s
  have e3 : (Lib.splitB ⟨#[32]⟩ 0 (Lib.countB ⟨s.toArray⟩ ⟨#[32]⟩) ⟨s.toArray⟩).map Value.string = (spl s).map strV := by
    rw [← e2]
    have e1' : (Lib.splitB ⟨#[32]⟩ 0 (Lib.countB ⟨s.toArray⟩ ⟨#[32]⟩) ⟨s.toArray⟩).map (fun x => x.data.toList) = Lib.splitK [32] 0 (Lib.count s [32]) s := e1
    rw [← e1', List.map_map]
    refine List.map_congr_left fun x hx => ?_
    show Value.string x = strV x.data.toList
    unfold strV
    simp
  have e4 := Lib.splitB_all ⟨#[32]⟩ (by decide) 0 (Lib.countB ⟨s.toArray⟩ ⟨#[32]⟩) ⟨s.toArray⟩ rfl
  have e5 : Lib.countB ⟨s.toArray⟩ ⟨#[32]⟩ + 1 = (spl s).length := by
    rw [← e4]
    have := congrArg List.length e3
    simpa using this
  rw [e5, e3]
  exact ⟨rfl, BoxAt.new w _ _, (Below.refl _ _).alloc (Nat.le_refl _) _⟩
theorem indexByte_any (c : UInt8) (w : World) :
    Calls Tryd.prog 36 #[.string ⟨#[48, 49, 50, 51, 52, 53, 54, 55, 56, 57, 97, 98, 99, 100, 101, 102]⟩, .int .u8 c.toNat] w fun e w' => e = .returned (.int .i64 (digV c)) ∧ w = w' := by
  refine (strings_IndexByte _ (c.toNat : Int) w).mono ?_
  rintro e w' ⟨rfl, rfl⟩
  refine ⟨?_, rfl⟩
  have : (c.toNat : Int).toNat.toUInt8 = c := by simp
  rw [this]; rfl
end Go.Proofs.YtodcebhfkmlmgaaDoor
