/- lines.Show: what it makes. -/
import Derived.Test.YtodcebhfkmlmgaaDoorTabL
import Derived.Test.YtodcebhfkmlmgaaDoorBytesT
set_option linter.unusedVariables false
set_option linter.unusedSimpArgs false
namespace Go.Proofs.YtodcebhfkmlmgaaDoor
open Go Go.RowKit

theorem hasN_eq (k : Int) : hasN k = actN k := by unfold hasN actN; rw [Bool.eq_iff_iff]; simp; omega
theorem hasP_eq (k : Int) : hasP k = actP k := by unfold hasP actP; rw [Bool.eq_iff_iff]; simp; omega
theorem hasT_eq (k : Int) : hasT k = actT k := by unfold hasT actT; rw [Bool.eq_iff_iff]; simp
theorem check_eq (a : LAct) : actCheck a.k a.n a.p ⟨a.t.toArray⟩ = lineCode a := by
  unfold actCheck lineCode
  rw [hasN_eq, hasP_eq, hasT_eq]
  have e : (⟨a.t.toArray⟩ : ByteArray).size = a.t.length := List.size_toArray
  rw [e]
  simp
/-- An act in memory. -/
def RAct : Rel LAct where
  size := 4
  rd := fun G w cs x => cs = [.int .i64 x.k, .int .i64 x.n, .int .i64 x.p, strV x.t]
  len := fun h => by simp [h]
  keep := fun h _ _ => h
  low := fun h => h
theorem RdS.act {G : Nat → Prop} {w : World} {l : List LAct} {ad : Option Addr} {n cap : Nat} (h : RdS RAct G w (.slice ad n cap) l) (j : Nat) (hj : j < l.length) :
    ∃ b o, ad = some ⟨b, o, none⟩ ∧ w.cell? ⟨b, o + j * 4, none⟩ = some (.int .i64 l[j].k) ∧ w.cell? ⟨b, o + j * 4 + 1, none⟩ = some (.int .i64 l[j].n) ∧ w.cell? ⟨b, o + j * 4 + 2, none⟩ = some (.int .i64 l[j].p) ∧ w.cell? ⟨b, o + j * 4 + 3, none⟩ = some (strV l[j].t) := by
  obtain ⟨b, o, cs, ha, hb, hc, hr⟩ := h.at j hj
  have hr' : cs = [.int .i64 l[j].k, .int .i64 l[j].n, .int .i64 l[j].p, strV l[j].t] := hr
  subst hr'
  exact ⟨b, o, ha, hc 0 _ rfl, hc 1 _ rfl, hc 2 _ rfl, hc 3 _ rfl⟩
/-- The first act that may not be: its place and its code; (0, 0): there is none. -/
def showBad : List LAct → Nat → Nat × Int
  | [], _ => (0, 0)
  | a :: l, i => if lineCode a ≠ 0 then (i, lineCode a) else showBad l (i + 1)
def showR (l : List LAct) : List UInt8 × Nat × Int := if 3000 < l.length then ([], 0, 1) else if (showBad l 0).2 ≠ 0 then ([], showBad l 0) else (showL l, 0, 0)
theorem showBad_all : ∀ (l : List LAct) (i : Nat), (∀ a ∈ l, lineCode a = 0) → showBad l i = (0, 0)
  | [], _, _ => rfl
  | a :: l, i, h => by rw [showBad, if_neg (by simp [h a (by simp)])]; exact showBad_all l (i + 1) (fun x hx => h x (by simp [hx]))
theorem showBad_at : ∀ (l : List LAct) (i k : Nat) (hk : k < l.length), (∀ a ∈ l.take k, lineCode a = 0) → lineCode l[k] ≠ 0 → showBad l i = (i + k, lineCode l[k])
  | [], i, k, hk, _, _ => by simp at hk
  | a :: l, i, 0, hk, h, hb => by rw [showBad]; simp only [List.getElem_cons_zero] at hb ⊢; rw [if_pos hb]; rfl
  | a :: l, i, k + 1, hk, h, hb => by
    rw [showBad, if_neg (by simp [h a (by simp)])]
    have := showBad_at l (i + 1) k (by simpa using hk) (fun x hx => h x (by simp [hx])) (by simpa using hb)
    rw [this]
    simp only [List.getElem_cons_succ, Prod.mk.injEq, and_true]
    omega
theorem showR_long {l : List LAct} (h : 3000 < l.length) : showR l = ([], 0, 1) := by unfold showR; rw [if_pos h]
theorem showR_ok {l : List LAct} (hl : l.length ≤ 3000) (h : ∀ a ∈ l, lineCode a = 0) : showR l = (showL l, 0, 0) := by
  unfold showR; rw [if_neg (by omega), showBad_all l 0 h]; simp
theorem showR_bad {l : List LAct} {k : Nat} (hl : l.length ≤ 3000) (hk : k < l.length) (h : ∀ a ∈ l.take k, lineCode a = 0) (hb : lineCode l[k] ≠ 0) : showR l = ([], k, lineCode l[k]) := by
  unfold showR; rw [if_neg (by omega), showBad_at l 0 k hk h hb]; simp [hb]
theorem dec_len {u : Nat} (h : u < 10000000) : (Lib.decDigits u).length ≤ 21 := by
  have := Lib.itoa_length_le (u : Int) (by omega) (by omega)
  have e : Lib.itoa (u : Int) = Lib.decDigits u := by unfold Lib.itoa; rw [if_neg (by omega)]; simp
  rwa [e] at this
theorem wordOf_len : ∀ k : Fin 11, (wordOf (k.val : Int)).length ≤ 6 := by decide +kernel
theorem showA_len {a : LAct} (h : lineCode a = 0) : (showA a).length ≤ 8100 := by
  obtain ⟨⟨k1, k2⟩, h1, h2, h3, -⟩ := lineCode_parts h
  obtain ⟨n, hn⟩ : ∃ n : Nat, a.k = n := ⟨a.k.toNat, by omega⟩
  have hw := wordOf_len ⟨n, by omega⟩
  have e1 : (lineN a).length ≤ 22 := by
    unfold lineN
    split
    · rename_i q; have := Lib.itoa_length_le a.n (by have := h1 q; omega) (by have := h1 q; omega); simp; omega
    · simp
  have e2 : (lineP a).length ≤ 22 := by
    unfold lineP
    split
    · rename_i q; have := Lib.itoa_length_le a.p (by have := h2 q; omega) (by have := h2 q; omega); simp; omega
    · simp
  have e3 : (lineT a).length ≤ 8001 := by
    unfold lineT
    split
    · rename_i q; have := h3 q; simp [hexL_len]; omega
    · simp
  unfold showA lineOf
  rw [hn]
  simp only [List.length_append, List.length_cons, List.length_nil]
  simp only at hw
  omega
theorem showL_len : ∀ {l : List LAct}, (∀ a ∈ l, lineCode a = 0) → (showL l).length ≤ 8100 * l.length
  | [], _ => by simp [showL]
  | a :: l, h => by
    have h1 := showA_len (h a (by simp))
    have h2 := showL_len (l := l) (fun x hx => h x (by simp [hx]))
    have e : showL (a :: l) = showA a ++ showL l := by simp [showL]
    rw [e, List.length_append, List.length_cons]
    omega
theorem line_kinds {a : LAct} (h : lineCode a = 0) : (actN a.k = true ∧ actP a.k = false ∧ actT a.k = true) ∨ (actN a.k = true ∧ actP a.k = false ∧ actT a.k = false) ∨ (actN a.k = false ∧ actP a.k = true ∧ actT a.k = false) ∨ (actN a.k = true ∧ actP a.k = true ∧ actT a.k = false) ∨ (actN a.k = false ∧ actP a.k = false ∧ actT a.k = false) := by
  have h1 := (lineCode_parts h).1
  unfold actN actP actT
  simp only [decide_eq_true_eq, decide_eq_false_iff_not]
  omega
theorem showL_take {l : List LAct} {k : Nat} (h : k < l.length) : showL (l.take (k + 1)) = showL (l.take k) ++ showA l[k] := by
  rw [List.take_succ_eq_append_getElem h, showL_snoc]
theorem take_ok {l : List LAct} {k : Nat} (h : k < l.length) (h0 : ∀ a ∈ l.take k, lineCode a = 0) (h1 : lineCode l[k] = 0) : ∀ a ∈ l.take (k + 1), lineCode a = 0 := by
  rw [List.take_succ_eq_append_getElem h]
  intro a ha
  rcases List.mem_append.1 ha with q | q
  · exact h0 a q
  · rw [List.mem_singleton.1 q]; exact h1
theorem atF_belowS {T e : TypeId} {B b : Nat} {p : Value} {bs : List Value} {w w' : World} (h : Lib.BuilderAtF T e B b p bs w) (hb : Below w.heap.size w w') : Lib.BuilderAtF T e B b p bs w' := by
  have hlt := h.lt
  obtain ⟨hB, v, hk, hown, hne⟩ := h
  refine ⟨hB, v, (hb.block b hlt).trans hk, ?_, hne⟩
  obtain ⟨hl, h0 | ⟨g, cap, cur, fz, hv, hg, hh, r⟩⟩ := hown
  · exact ⟨hl, .inl h0⟩
  · exact ⟨hl, .inr ⟨g, cap, cur, fz, hv, hg, (hb.block g (lt_of_block hh)).trans hh, r⟩⟩
theorem Bld.belowS {B b : Nat} {l : List UInt8} {w w' : World} (h : Bld B b l w) (hb : Below w.heap.size w w') : Bld B b l w' := h.elim (fun x => .inl (atF_belowS x hb)) (fun x => .inr (atF_belowS x hb))
theorem Bld.lt {B b : Nat} {l : List UInt8} {w : World} (h : Bld B b l w) : b < w.heap.size := h.elim (fun x => x.lt) (fun x => x.lt)
theorem cat32 (l : List UInt8) : (⟨#[32]⟩ : ByteArray) ++ ⟨l.toArray⟩ = ⟨(32 :: l).toArray⟩ := by
  apply ByteArray.ext
  show (⟨#[32]⟩ ++ ⟨l.toArray⟩ : ByteArray).data = _
  rw [ByteArray.data_append]
  simp
set_option maxRecDepth 100000 in
set_option maxHeartbeats 8000000 in
theorem lshow_any {G : Nat → Prop} {l : List LAct} (v : Value) (w : World) (h : RdS RAct G w v l) (ht : TabL w) :
    Calls Tryd.prog 14 #[v] w fun e w' => e = .returned (.tuple #[strV (showR l).1, .int .i64 ((showR l).2.1 : Int), .int .i64 (showR l).2.2]) ∧ Below w.heap.size w w' := by
  obtain ⟨ad, cap, rfl, hcap, hm⟩ := h.form
  unfold maxLen at hm
  have HV := Lib.hid h
  have HT := Lib.hid ht
  clear h ht
  go_enter Tryd.func14, Tryd.ntmps14
  by_cases hl : 3000 < l.length
  · have HR := Lib.hid (showR_long hl)
    go_wp2
    go_ret3
    exact ⟨by rw [HR.out]; rfl, Below.refl _ _⟩
  · go_wp2_with fail
    go_loopw [17] (fun i wr => ∃ k : Nat, k ≤ l.length ∧ i = .int .i64 k ∧ Hid (∀ a ∈ l.take k, lineCode a = 0) ∧ Hid (Bld w.heap.size w.heap.size (showL (l.take k)) wr) ∧ Below w.heap.size w wr) (fun i _ => l.length - (intOf i).toNat)
    case atStart => exact ⟨0, Nat.zero_le _, rfl, Lib.hid (by simp), Lib.hid (Bld.new w), (Below.refl _ _).alloc (Nat.le_refl _) _⟩
    case round =>
      obtain ⟨k, hk, rfl, HO, HB, hB⟩ := hrel
      have HBe := Lib.hid hB
      have hz := hB.size
      have hzB := HB.out.lt
      clear hB
      by_cases hlt : k < l.length
      · have i0 : (0 : Int) ≤ (k : Int) := by omega
        have i1 : (k : Int) < (l.length : Int) := by omega
        have wk : IntKind.i64.wrap ((k : Int) + 1) = (k : Int) + 1 := IntWalk.i64_in _ (by omega)
        have HSH := Lib.hid (showL_take hlt)
        have hsl := showL_len HO.out
        have hsl2 : (showL (l.take k)).length ≤ 24300000 := by rw [List.length_take] at hsl; omega
        have HBAD := Lib.hid (fun hb => showR_bad (l := l) (by omega) hlt HO.out hb)
        have HTK := Lib.hid (fun h1 => take_ok hlt HO.out h1)
        clear hsl HO
        obtain ⟨b, o, rfl, e0, e1, e2, e3⟩ := (HV.out.below (w' := wr) HBe.out (fun _ h => h)).act k hlt
        generalize hak : l[k] = a at *
        clear hak
        have hbl : b < wr.heap.size := World.block_lt_of_cell? wr _ e0
        go_upto_region 7 with fail
        obtain ⟨w1, hwl⟩ : ∃ w1, w1 = (wr.alloc (.cells #[.int .i64 a.k, .int .i64 a.n, .int .i64 a.p, strV a.t] 25)) := ⟨_, rfl⟩
        have hBl : Below wr.heap.size wr w1 := by rw [hwl]; exact ((Below.refl _ _).alloc (by first | exact Nat.le_refl _ | (simp; done) | (simp; omega)) _)
        have HX := Lib.hid (show BoxAt w1 wr.heap.size [.int .i64 a.k, .int .i64 a.n, .int .i64 a.p, strV a.t] 25 by rw [hwl]; exact BoxAt.new wr [.int .i64 a.k, .int .i64 a.n, .int .i64 a.p, strV a.t] _)
        replace HB := Lib.hid (show Bld w.heap.size w.heap.size (showL (l.take k)) w1 by rw [hwl]; exact HB.out.alloc _)
        rw [← hwl]
        replace HBe := Lib.hid (HBe.out.trans (hBl.mono HBe.out.size))
        clear hwl hBl
        have hx1 := HX.out.lt
        have HCE := Lib.hid (check_eq a)
        clear e0 e1 e2 e3
        have x0 := HX.out.cell 0 rfl
        have x1 := HX.out.cell 1 rfl
        have x2 := HX.out.cell 2 rfl
        have x3 := HX.out.cell 3 rfl
        go_wp2_with fail
        refine (lcheck_any a.k a.n a.p ⟨a.t.toArray⟩ _).mono ?_
        rintro e w2 ⟨rfl, hb2⟩
        rw [HCE.out]
        replace HX := Lib.hid (HX.out.belowS hb2)
        replace HB := Lib.hid (HB.out.belowS hb2)
        replace HBe := Lib.hid (HBe.out.trans (hb2.mono (Below.size HBe.out)))
        have hz2 := HBe.out.size
        clear hb2 x0 x1 x2 x3
        by_cases hc : lineCode a = 0
        · have HPT := Lib.hid (lineCode_parts hc)
          have HKD := Lib.hid (line_kinds hc)
          have HTK1 := Lib.hid (HTK.out hc)
          have HLN := Lib.hid (showA_len hc)
          rw [hc]
          clear hc HBAD HTK
          have ak0 : 0 ≤ a.k := by have := HPT.out.1; omega
          have ak1 : a.k < 11 := by have := HPT.out.1; omega
          have hwd := (HT.out.belowS HBe.out).word (k := a.k.toNat) (by omega)
          rw [show (a.k.toNat : Int) = a.k by omega] at hwd
          have hwl : (wordOf a.k).length ≤ 6 := by have := wordOf_len ⟨a.k.toNat, by omega⟩; simp only at this; rwa [show (a.k.toNat : Int) = a.k by omega] at this
          rcases HKD.out with ⟨bN, bP, bT⟩ | ⟨bN, bP, bT⟩ | ⟨bN, bP, bT⟩ | ⟨bN, bP, bT⟩ | ⟨bN, bP, bT⟩
          · have HE := Lib.hid (show showA a = wordOf a.k ++ (32 :: Lib.itoa a.n) ++ (32 :: hexL a.t) ++ [10] by unfold showA lineOf lineN lineP lineT; rw [bN, bP, bT]; simp)
            have hn0 := (HPT.out.2.1 bN)
            have hnl := Lib.itoa_length_le a.n (by omega) (by omega)
            have ht0 := (HPT.out.2.2.2.1 bT)
            have hxl := hexL_len a.t
            have HAT := Lib.hid (show (⟨a.t.toArray⟩ : ByteArray).size = a.t.length from List.size_toArray)
            have x0 := HX.out.cell 0 rfl
            have x1 := HX.out.cell 1 rfl
            have x2 := HX.out.cell 2 rfl
            have x3 := HX.out.cell 3 rfl
            have hx := HX.out.lt
            go_wp2_with (go_at_call 17; refine (has_any a.k _).mono ?_; rintro e w' ⟨rfl, rfl⟩; rw [hasN_eq, hasP_eq, hasT_eq, bN, bP, bT])
            refine (writeString_any _ _ _ (wordOf a.k) _ HB.out (by first | omega | (simp only [List.length_append, List.length_cons, List.length_nil]; omega)) (by omega)).mono ?_
            rintro e w3 ⟨rfl, hBn, hbn, hkn⟩
            replace HB := Lib.hid hBn
            replace HX := Lib.hid (HX.out.others hkn (by omega) (by decide))
            replace HBe := Lib.hid (HBe.out.trans hbn)
            have hz3 := HBe.out.size
            clear hBn hbn hkn
            clear x0 x1 x2 x3 hx
            clear hwd
            have x0 := HX.out.cell 0 rfl
            have x1 := HX.out.cell 1 rfl
            have x2 := HX.out.cell 2 rfl
            have x3 := HX.out.cell 3 rfl
            have hx := HX.out.lt
            go_wp2_with fail
            refine (itoa_any a.n _ (by omega) (by omega) (HT.out.belowS HBe.out)).mono ?_
            rintro e w4 ⟨rfl, hbn⟩
            replace HB := Lib.hid (HB.out.belowS hbn)
            replace HX := Lib.hid (HX.out.belowS hbn)
            replace HBe := Lib.hid (HBe.out.trans (hbn.mono (Below.size HBe.out)))
            have hz4 := HBe.out.size
            clear hbn
            clear x0 x1 x2 x3 hx
            go_wp2_with fail
            rw [cat32]
            refine (writeString_any _ _ _ (32 :: Lib.itoa a.n) _ HB.out (by first | omega | (simp only [List.length_append, List.length_cons, List.length_nil]; omega)) (by omega)).mono ?_
            rintro e w5 ⟨rfl, hBn, hbn, hkn⟩
            replace HB := Lib.hid hBn
            replace HX := Lib.hid (HX.out.others hkn (by omega) (by decide))
            replace HBe := Lib.hid (HBe.out.trans hbn)
            have hz5 := HBe.out.size
            clear hBn hbn hkn
            have x0 := HX.out.cell 0 rfl
            have x1 := HX.out.cell 1 rfl
            have x2 := HX.out.cell 2 rfl
            have x3 := HX.out.cell 3 rfl
            have hx := HX.out.lt
            go_wp2_with fail
            refine (lhex_any ⟨a.t.toArray⟩ _ (by rw [HAT.out]; omega)).mono ?_
            rintro e w6 ⟨rfl, hbn⟩
            replace HB := Lib.hid (HB.out.belowS hbn)
            replace HX := Lib.hid (HX.out.belowS hbn)
            replace HBe := Lib.hid (HBe.out.trans (hbn.mono (Below.size HBe.out)))
            have hz6 := HBe.out.size
            clear hbn
            clear x0 x1 x2 x3 hx
            go_wp2_with fail
            rw [cat32]
            refine (writeString_any _ _ _ (32 :: hexL a.t) _ HB.out (by first | omega | (simp only [List.length_append, List.length_cons, List.length_nil]; omega)) (by omega)).mono ?_
            rintro e w7 ⟨rfl, hBn, hbn, hkn⟩
            replace HB := Lib.hid hBn
            replace HX := Lib.hid (HX.out.others hkn (by omega) (by decide))
            replace HBe := Lib.hid (HBe.out.trans hbn)
            have hz7 := HBe.out.size
            clear hBn hbn hkn
            go_wp2_with fail
            refine (writeString_any _ _ _ [10] _ HB.out (by first | omega | (simp only [List.length_append, List.length_cons, List.length_nil]; omega)) (by omega)).mono ?_
            rintro e w8 ⟨rfl, hBn, hbn, hkn⟩
            replace HB := Lib.hid hBn
            replace HX := Lib.hid (HX.out.others hkn (by omega) (by decide))
            replace HBe := Lib.hid (HBe.out.trans hbn)
            have hz8 := HBe.out.size
            clear hBn hbn hkn
            have HBF := Lib.hid (show Bld w.heap.size w.heap.size (showL (l.take (k + 1))) _ by rw [HSH.out, HE.out]; simpa only [List.append_assoc] using HB.out)
            go_wp2
            go_roundw
            case rel => exact ⟨k + 1, by omega, by go_num, HTK1, HBF, HBe.out⟩
            case measure => simp [intOf]; omega
          · have HE := Lib.hid (show showA a = wordOf a.k ++ (32 :: Lib.itoa a.n) ++ [10] by unfold showA lineOf lineN lineP lineT; rw [bN, bP, bT]; simp)
            have hn0 := (HPT.out.2.1 bN)
            have hnl := Lib.itoa_length_le a.n (by omega) (by omega)
            have x0 := HX.out.cell 0 rfl
            have x1 := HX.out.cell 1 rfl
            have x2 := HX.out.cell 2 rfl
            have x3 := HX.out.cell 3 rfl
            have hx := HX.out.lt
            go_wp2_with (go_at_call 17; refine (has_any a.k _).mono ?_; rintro e w' ⟨rfl, rfl⟩; rw [hasN_eq, hasP_eq, hasT_eq, bN, bP, bT])
            refine (writeString_any _ _ _ (wordOf a.k) _ HB.out (by first | omega | (simp only [List.length_append, List.length_cons, List.length_nil]; omega)) (by omega)).mono ?_
            rintro e w3 ⟨rfl, hBn, hbn, hkn⟩
            replace HB := Lib.hid hBn
            replace HX := Lib.hid (HX.out.others hkn (by omega) (by decide))
            replace HBe := Lib.hid (HBe.out.trans hbn)
            have hz3 := HBe.out.size
            clear hBn hbn hkn
            clear x0 x1 x2 x3 hx
            clear hwd
            have x0 := HX.out.cell 0 rfl
            have x1 := HX.out.cell 1 rfl
            have x2 := HX.out.cell 2 rfl
            have x3 := HX.out.cell 3 rfl
            have hx := HX.out.lt
            go_wp2_with fail
            refine (itoa_any a.n _ (by omega) (by omega) (HT.out.belowS HBe.out)).mono ?_
            rintro e w4 ⟨rfl, hbn⟩
            replace HB := Lib.hid (HB.out.belowS hbn)
            replace HX := Lib.hid (HX.out.belowS hbn)
            replace HBe := Lib.hid (HBe.out.trans (hbn.mono (Below.size HBe.out)))
            have hz4 := HBe.out.size
            clear hbn
            clear x0 x1 x2 x3 hx
            go_wp2_with fail
            rw [cat32]
            refine (writeString_any _ _ _ (32 :: Lib.itoa a.n) _ HB.out (by first | omega | (simp only [List.length_append, List.length_cons, List.length_nil]; omega)) (by omega)).mono ?_
            rintro e w5 ⟨rfl, hBn, hbn, hkn⟩
            replace HB := Lib.hid hBn
            replace HX := Lib.hid (HX.out.others hkn (by omega) (by decide))
            replace HBe := Lib.hid (HBe.out.trans hbn)
            have hz5 := HBe.out.size
            clear hBn hbn hkn
            go_wp2_with fail
            refine (writeString_any _ _ _ [10] _ HB.out (by first | omega | (simp only [List.length_append, List.length_cons, List.length_nil]; omega)) (by omega)).mono ?_
            rintro e w6 ⟨rfl, hBn, hbn, hkn⟩
            replace HB := Lib.hid hBn
            replace HX := Lib.hid (HX.out.others hkn (by omega) (by decide))
            replace HBe := Lib.hid (HBe.out.trans hbn)
            have hz6 := HBe.out.size
            clear hBn hbn hkn
            have HBF := Lib.hid (show Bld w.heap.size w.heap.size (showL (l.take (k + 1))) _ by rw [HSH.out, HE.out]; simpa only [List.append_assoc] using HB.out)
            go_wp2
            go_roundw
            case rel => exact ⟨k + 1, by omega, by go_num, HTK1, HBF, HBe.out⟩
            case measure => simp [intOf]; omega
          · have HE := Lib.hid (show showA a = wordOf a.k ++ (32 :: Lib.itoa a.p) ++ [10] by unfold showA lineOf lineN lineP lineT; rw [bN, bP, bT]; simp)
            have hp0 := (HPT.out.2.2.1 bP)
            have hpl := Lib.itoa_length_le a.p (by omega) (by omega)
            have x0 := HX.out.cell 0 rfl
            have x1 := HX.out.cell 1 rfl
            have x2 := HX.out.cell 2 rfl
            have x3 := HX.out.cell 3 rfl
            have hx := HX.out.lt
            go_wp2_with (go_at_call 17; refine (has_any a.k _).mono ?_; rintro e w' ⟨rfl, rfl⟩; rw [hasN_eq, hasP_eq, hasT_eq, bN, bP, bT])
            refine (writeString_any _ _ _ (wordOf a.k) _ HB.out (by first | omega | (simp only [List.length_append, List.length_cons, List.length_nil]; omega)) (by omega)).mono ?_
            rintro e w3 ⟨rfl, hBn, hbn, hkn⟩
            replace HB := Lib.hid hBn
            replace HX := Lib.hid (HX.out.others hkn (by omega) (by decide))
            replace HBe := Lib.hid (HBe.out.trans hbn)
            have hz3 := HBe.out.size
            clear hBn hbn hkn
            clear x0 x1 x2 x3 hx
            clear hwd
            have x0 := HX.out.cell 0 rfl
            have x1 := HX.out.cell 1 rfl
            have x2 := HX.out.cell 2 rfl
            have x3 := HX.out.cell 3 rfl
            have hx := HX.out.lt
            go_wp2_with fail
            refine (itoa_any a.p _ (by omega) (by omega) (HT.out.belowS HBe.out)).mono ?_
            rintro e w4 ⟨rfl, hbn⟩
            replace HB := Lib.hid (HB.out.belowS hbn)
            replace HX := Lib.hid (HX.out.belowS hbn)
            replace HBe := Lib.hid (HBe.out.trans (hbn.mono (Below.size HBe.out)))
            have hz4 := HBe.out.size
            clear hbn
            clear x0 x1 x2 x3 hx
            go_wp2_with fail
            rw [cat32]
            refine (writeString_any _ _ _ (32 :: Lib.itoa a.p) _ HB.out (by first | omega | (simp only [List.length_append, List.length_cons, List.length_nil]; omega)) (by omega)).mono ?_
            rintro e w5 ⟨rfl, hBn, hbn, hkn⟩
            replace HB := Lib.hid hBn
            replace HX := Lib.hid (HX.out.others hkn (by omega) (by decide))
            replace HBe := Lib.hid (HBe.out.trans hbn)
            have hz5 := HBe.out.size
            clear hBn hbn hkn
            go_wp2_with fail
            refine (writeString_any _ _ _ [10] _ HB.out (by first | omega | (simp only [List.length_append, List.length_cons, List.length_nil]; omega)) (by omega)).mono ?_
            rintro e w6 ⟨rfl, hBn, hbn, hkn⟩
            replace HB := Lib.hid hBn
            replace HX := Lib.hid (HX.out.others hkn (by omega) (by decide))
            replace HBe := Lib.hid (HBe.out.trans hbn)
            have hz6 := HBe.out.size
            clear hBn hbn hkn
            have HBF := Lib.hid (show Bld w.heap.size w.heap.size (showL (l.take (k + 1))) _ by rw [HSH.out, HE.out]; simpa only [List.append_assoc] using HB.out)
            go_wp2
            go_roundw
            case rel => exact ⟨k + 1, by omega, by go_num, HTK1, HBF, HBe.out⟩
            case measure => simp [intOf]; omega
          · have HE := Lib.hid (show showA a = wordOf a.k ++ (32 :: Lib.itoa a.n) ++ (32 :: Lib.itoa a.p) ++ [10] by unfold showA lineOf lineN lineP lineT; rw [bN, bP, bT]; simp)
            have hn0 := (HPT.out.2.1 bN)
            have hnl := Lib.itoa_length_le a.n (by omega) (by omega)
            have hp0 := (HPT.out.2.2.1 bP)
            have hpl := Lib.itoa_length_le a.p (by omega) (by omega)
            have x0 := HX.out.cell 0 rfl
            have x1 := HX.out.cell 1 rfl
            have x2 := HX.out.cell 2 rfl
            have x3 := HX.out.cell 3 rfl
            have hx := HX.out.lt
            go_wp2_with (go_at_call 17; refine (has_any a.k _).mono ?_; rintro e w' ⟨rfl, rfl⟩; rw [hasN_eq, hasP_eq, hasT_eq, bN, bP, bT])
            refine (writeString_any _ _ _ (wordOf a.k) _ HB.out (by first | omega | (simp only [List.length_append, List.length_cons, List.length_nil]; omega)) (by omega)).mono ?_
            rintro e w3 ⟨rfl, hBn, hbn, hkn⟩
            replace HB := Lib.hid hBn
            replace HX := Lib.hid (HX.out.others hkn (by omega) (by decide))
            replace HBe := Lib.hid (HBe.out.trans hbn)
            have hz3 := HBe.out.size
            clear hBn hbn hkn
            clear x0 x1 x2 x3 hx
            clear hwd
            have x0 := HX.out.cell 0 rfl
            have x1 := HX.out.cell 1 rfl
            have x2 := HX.out.cell 2 rfl
            have x3 := HX.out.cell 3 rfl
            have hx := HX.out.lt
            go_wp2_with fail
            refine (itoa_any a.n _ (by omega) (by omega) (HT.out.belowS HBe.out)).mono ?_
            rintro e w4 ⟨rfl, hbn⟩
            replace HB := Lib.hid (HB.out.belowS hbn)
            replace HX := Lib.hid (HX.out.belowS hbn)
            replace HBe := Lib.hid (HBe.out.trans (hbn.mono (Below.size HBe.out)))
            have hz4 := HBe.out.size
            clear hbn
            clear x0 x1 x2 x3 hx
            go_wp2_with fail
            rw [cat32]
            refine (writeString_any _ _ _ (32 :: Lib.itoa a.n) _ HB.out (by first | omega | (simp only [List.length_append, List.length_cons, List.length_nil]; omega)) (by omega)).mono ?_
            rintro e w5 ⟨rfl, hBn, hbn, hkn⟩
            replace HB := Lib.hid hBn
            replace HX := Lib.hid (HX.out.others hkn (by omega) (by decide))
            replace HBe := Lib.hid (HBe.out.trans hbn)
            have hz5 := HBe.out.size
            clear hBn hbn hkn
            have x0 := HX.out.cell 0 rfl
            have x1 := HX.out.cell 1 rfl
            have x2 := HX.out.cell 2 rfl
            have x3 := HX.out.cell 3 rfl
            have hx := HX.out.lt
            go_wp2_with fail
            refine (itoa_any a.p _ (by omega) (by omega) (HT.out.belowS HBe.out)).mono ?_
            rintro e w6 ⟨rfl, hbn⟩
            replace HB := Lib.hid (HB.out.belowS hbn)
            replace HX := Lib.hid (HX.out.belowS hbn)
            replace HBe := Lib.hid (HBe.out.trans (hbn.mono (Below.size HBe.out)))
            have hz6 := HBe.out.size
            clear hbn
            clear x0 x1 x2 x3 hx
            go_wp2_with fail
            rw [cat32]
            refine (writeString_any _ _ _ (32 :: Lib.itoa a.p) _ HB.out (by first | omega | (simp only [List.length_append, List.length_cons, List.length_nil]; omega)) (by omega)).mono ?_
            rintro e w7 ⟨rfl, hBn, hbn, hkn⟩
            replace HB := Lib.hid hBn
            replace HX := Lib.hid (HX.out.others hkn (by omega) (by decide))
            replace HBe := Lib.hid (HBe.out.trans hbn)
            have hz7 := HBe.out.size
            clear hBn hbn hkn
            go_wp2_with fail
            refine (writeString_any _ _ _ [10] _ HB.out (by first | omega | (simp only [List.length_append, List.length_cons, List.length_nil]; omega)) (by omega)).mono ?_
            rintro e w8 ⟨rfl, hBn, hbn, hkn⟩
            replace HB := Lib.hid hBn
            replace HX := Lib.hid (HX.out.others hkn (by omega) (by decide))
            replace HBe := Lib.hid (HBe.out.trans hbn)
            have hz8 := HBe.out.size
            clear hBn hbn hkn
            have HBF := Lib.hid (show Bld w.heap.size w.heap.size (showL (l.take (k + 1))) _ by rw [HSH.out, HE.out]; simpa only [List.append_assoc] using HB.out)
            go_wp2
            go_roundw
            case rel => exact ⟨k + 1, by omega, by go_num, HTK1, HBF, HBe.out⟩
            case measure => simp [intOf]; omega
          · have HE := Lib.hid (show showA a = wordOf a.k ++ [10] by unfold showA lineOf lineN lineP lineT; rw [bN, bP, bT]; simp)
            have x0 := HX.out.cell 0 rfl
            have x1 := HX.out.cell 1 rfl
            have x2 := HX.out.cell 2 rfl
            have x3 := HX.out.cell 3 rfl
            have hx := HX.out.lt
            go_wp2_with (go_at_call 17; refine (has_any a.k _).mono ?_; rintro e w' ⟨rfl, rfl⟩; rw [hasN_eq, hasP_eq, hasT_eq, bN, bP, bT])
            refine (writeString_any _ _ _ (wordOf a.k) _ HB.out (by first | omega | (simp only [List.length_append, List.length_cons, List.length_nil]; omega)) (by omega)).mono ?_
            rintro e w3 ⟨rfl, hBn, hbn, hkn⟩
            replace HB := Lib.hid hBn
            replace HX := Lib.hid (HX.out.others hkn (by omega) (by decide))
            replace HBe := Lib.hid (HBe.out.trans hbn)
            have hz3 := HBe.out.size
            clear hBn hbn hkn
            clear x0 x1 x2 x3 hx
            clear hwd
            go_wp2_with fail
            refine (writeString_any _ _ _ [10] _ HB.out (by first | omega | (simp only [List.length_append, List.length_cons, List.length_nil]; omega)) (by omega)).mono ?_
            rintro e w4 ⟨rfl, hBn, hbn, hkn⟩
            replace HB := Lib.hid hBn
            replace HX := Lib.hid (HX.out.others hkn (by omega) (by decide))
            replace HBe := Lib.hid (HBe.out.trans hbn)
            have hz4 := HBe.out.size
            clear hBn hbn hkn
            have HBF := Lib.hid (show Bld w.heap.size w.heap.size (showL (l.take (k + 1))) _ by rw [HSH.out, HE.out]; simpa only [List.append_assoc] using HB.out)
            go_wp2
            go_roundw
            case rel => exact ⟨k + 1, by omega, by go_num, HTK1, HBF, HBe.out⟩
            case measure => simp [intOf]; omega
        · have HBX := Lib.hid (HBAD.out hc)
          obtain ⟨q, hq⟩ : ∃ q, q = lineCode a := ⟨_, rfl⟩
          rw [← hq]
          have hq0 : ¬ q = 0 := by rw [hq]; exact hc
          have hq1 : (q != 0) = true := by simpa using hq0
          have HQ := Lib.hid (show showR l = ([], k, q) by rw [HBX.out, hq])
          clear hq hc HBAD HBX hq0
          go_wp2
          go_ret3
          exact ⟨by rw [HQ.out]; rfl, HBe.out⟩
      · obtain rfl : k = l.length := by omega
        have HS := Lib.hid (show showR l = (showL l, 0, 0) from showR_ok (by omega) (by have := HO.out; rwa [List.take_length] at this))
        have HBF := Lib.hid (show Bld w.heap.size w.heap.size (showL l) wr by have := HB.out; rwa [List.take_length] at this)
        clear HO HB
        go_wp2_with (go_at_call 21; refine (Builder_String_any_k _ _ _ _ HBF.out (by omega)).mono ?_; rintro e w1 ⟨rfl, -, hb1, -⟩)
        have HBE := Lib.hid (HBe.out.trans hb1)
        go_ret3
        exact ⟨by rw [HS.out]; rfl, HBE.out⟩
end Go.Proofs.YtodcebhfkmlmgaaDoor
