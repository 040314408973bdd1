/- ballot: find, Check: what they compute. -/
import Derived.Test.YtialhdmdeggenaaDoorChk
import Derived.Test.YtialhdmdeggenaaDoorBas
import Derived.Deep.RegionLaw
set_option linter.unusedVariables false
set_option linter.unusedSimpArgs false
attribute [local go_sem ↓] Go.wp_at_zero Go.wp_at_succ
namespace Go.Proofs.YtialhdmdeggenaaDoor
open Go Go.RowKit

def RSlot : Rel Slt where
  size := 3
  rd := fun G w cs x => ∃ v, cs = [.int .i64 x.a, .int .i64 x.r, v] ∧ RdB G w v x.d
  len := fun ⟨_, h, _⟩ => by simp [h]
  keep := fun ⟨v, h, hr⟩ hk hg => ⟨v, h, hr.keep hk hg⟩
  low := fun ⟨v, h, hr⟩ => ⟨v, h, hr.low (by decide)⟩
theorem RdS.slot {G : Nat → Prop} {w : World} {l : List Slt} {ad : Option Addr} {n cap : Nat} (h : RdS RSlot G w (.slice ad n cap) l) (j : Nat) (hj : j < l.length) :
    ∃ b o v, ad = some ⟨b, o, none⟩ ∧ G b ∧ w.cell? ⟨b, o + j * 3, none⟩ = some (.int .i64 l[j].a) ∧ w.cell? ⟨b, o + j * 3 + 1, none⟩ = some (.int .i64 l[j].r) ∧ w.cell? ⟨b, o + j * 3 + 2, none⟩ = some v ∧ RdB G w v l[j].d := by
  obtain ⟨b, o, cs, ha, hb, hc, v, rfl, hr⟩ := h.at j hj
  exact ⟨b, o, v, ha, hb, hc 0 _ rfl, hc 1 _ rfl, hc 2 _ rfl, hr⟩
/-- The place of the first datum of a kind; -1: there is none. -/
def idxP {α : Type} (p : α → Bool) (l : List α) : Int := if l.findIdx p < l.length then (l.findIdx p : Int) else -1
theorem idxP_hit {α : Type} {p : α → Bool} {l : List α} {k : Nat} (hk : k < l.length) (hno : ∀ j, j < k → ∀ x, l[j]? = some x → p x = false) (h : p l[k] = true) : idxP p l = k := by
  have e : l.findIdx p = k := (List.findIdx_eq hk).2 ⟨h, fun j hj => hno j hj _ (by simp)⟩
  unfold idxP; rw [e, if_pos hk]
theorem idxP_miss {α : Type} {p : α → Bool} {l : List α} (hno : ∀ j, j < l.length → ∀ x, l[j]? = some x → p x = false) : idxP p l = -1 := by
  have e : l.findIdx p = l.length := List.findIdx_eq_length.2 fun x hx => by
    obtain ⟨j, hj, rfl⟩ := List.mem_iff_getElem.1 hx
    exact hno j hj _ (by simp [hj])
  unfold idxP; rw [e, if_neg (by omega)]
theorem idxP_ge {α : Type} {p : α → Bool} {l : List α} : (0 ≤ idxP p l) ↔ ∃ x ∈ l, p x = true := by
  unfold idxP
  constructor
  · intro h
    by_cases hl : l.findIdx p < l.length
    · exact ⟨_, List.getElem_mem hl, List.findIdx_getElem⟩
    · rw [if_neg hl] at h; omega
  · rintro ⟨x, hx, hp⟩
    rw [if_pos (List.findIdx_lt_length_of_exists ⟨x, hx, hp⟩)]; omega
theorem idxP_neg {α : Type} {p : α → Bool} {l : List α} (h : idxP p l < 0) : idxP p l = -1 := by
  unfold idxP at *; split at h <;> simp_all <;> omega
theorem idxP_at {α : Type} {p : α → Bool} {l : List α} (h : 0 ≤ idxP p l) : ∃ k, ∃ hk : k < l.length, idxP p l = k ∧ p l[k] = true ∧ ∀ j, j < k → ∀ x, l[j]? = some x → p x = false := by
  unfold idxP at *
  by_cases hl : l.findIdx p < l.length
  · refine ⟨l.findIdx p, hl, by rw [if_pos hl], List.findIdx_getElem, fun j hj x hx => ?_⟩
    have := List.not_of_lt_findIdx (p := p) (xs := l) (i := j) hj
    rw [List.getElem?_eq_getElem (by omega)] at hx
    simp only [Option.some.injEq] at hx
    rw [hx] at this; simpa using this
  · rw [if_neg hl] at h; omega

def isAR (a r : Int) (s : Slt) : Bool := decide (s.a = a ∧ s.r = r)
theorem findClo_any {G : Nat → Prop} (x : Slt) (a r : Int) (vx : Value) (b b' : Nat) (w : World) (hx : RdB G w vx x.d)
    (c0 : w.cell? ⟨b, 0, none⟩ = some (.int .i64 a)) (c1 : w.cell? ⟨b', 0, none⟩ = some (.int .i64 r)) :
    Calls Tryd.prog 63 #[.agg #[.int .i64 x.a, .int .i64 x.r, vx], .pointer (some ⟨b, 0, none⟩), .pointer (some ⟨b', 0, none⟩)] w fun e w' => e = .returned (.bool (isAR a r x)) ∧ Below w.heap.size w w' := by
  obtain ⟨ad, cap, rfl, -, -⟩ := hx.form
  have hR := (Below.refl w.heap.size w).alloc (Nat.le_refl _) (.cells #[.int .i64 x.a, .int .i64 x.r, .slice ad x.d.length cap] 47)
  have hb := World.block_lt_of_cell? w _ c0
  have hb' := World.block_lt_of_cell? w _ c1
  simp only at hb hb'
  have hb2 : b ≠ w.heap.size := by omega
  have hb2' : b' ≠ w.heap.size := by omega
  go_enter Tryd.func63, Tryd.ntmps63
  by_cases h1 : x.a = a
  · by_cases h2 : x.r = r
    · have HR := Lib.hid (show isAR a r x = true by unfold isAR; simp [h1, h2])
      have e1 : (x.a == a) = true := by simp [h1]
      have e2 : (x.r == r) = true := by simp [h2]
      clear h1 h2
      go_wp2
      go_ret
      exact ⟨ret_boolH HR.out, hR⟩
    · have HR := Lib.hid (show isAR a r x = false by unfold isAR; simp [h2])
      have e1 : (x.a == a) = true := by simp [h1]
      have e2 : (x.r == r) = false := by simp [h2]
      clear h1 h2
      go_wp2
      go_ret
      exact ⟨ret_boolH HR.out, hR⟩
  · have HR := Lib.hid (show isAR a r x = false by unfold isAR; simp [h1])
    have e1 : (x.a == a) = false := by simp [h1]
    clear h1
    go_wp2
    go_ret
    exact ⟨ret_boolH HR.out, hR⟩

set_option maxRecDepth 100000 in
set_option maxHeartbeats 1000000 in
theorem findIndex_any {G : Nat → Prop} {l : List Slt} (a r : Int) (v : Value) (b b' : Nat) (w : World) (h : RdS RSlot G w v l)
    (hb : BoxAt w b [.int .i64 a] 3) (hb' : BoxAt w b' [.int .i64 r] 3) :
    Calls Tryd.prog 62 #[v, .func (.func 63) #[] #[.pointer (some ⟨b, 0, none⟩), .pointer (some ⟨b', 0, none⟩)]] w fun e w' => e = .returned (.int .i64 (idxP (isAR a r) l)) ∧ Below w.heap.size w w' := by
  obtain ⟨ad, cap, rfl, h1, h2⟩ := h.form
  unfold maxLen at h2
  have HB := Lib.hid hb
  have HB' := Lib.hid hb'
  have HV := Lib.hid h
  clear hb hb' h
  go_enter Tryd.func62, Tryd.ntmps62
  go_wp2
  go_loopw [8] (fun i wr => ∃ k : Nat, k ≤ l.length ∧ i = .int .i64 k ∧ (∀ j, j < k → ∀ x, l[j]? = some x → isAR a r x = false) ∧ Below w.heap.size w wr) (fun i _ => l.length - (intOf i).toNat)
  case atStart => exact ⟨0, Nat.zero_le _, rfl, fun j hj => (by omega), Below.refl _ _⟩
  case round =>
    obtain ⟨k, hk, rfl, hno, hB⟩ := hrel
    have HN := Lib.hid hno; clear hno
    by_cases hlt : k < l.length
    · obtain ⟨bb, o, vx, rfl, -, e0, e1, e2, hx⟩ := (HV.out.below hB (fun _ h => h)).slot k hlt
      have HX := Lib.hid hx
      have q0 := (HB.out.belowS hB).cell 0 rfl
      have q1 := (HB'.out.belowS hB).cell 0 rfl
      have i0 : (0 : Int) ≤ (k : Int) := by omega
      have i1 : (k : Int) < (l.length : Int) := by omega
      clear hx
      by_cases he : isAR a r l[k] = true
      · have hr := Lib.hid (idxP_hit hlt HN.out he)
        have HE := Lib.hid he
        clear he
        go_wp2_with fail
        refine (findClo_any (l[k]) a r vx b b' _ HX.out q0 q1).mono ?_
        rintro e w' ⟨rfl, hb2⟩
        rw [HE.out]
        go_wp2
        go_ret
        exact ⟨ret_intH hr.out, hB.trans (hb2.mono hB.size)⟩
      · have HE := Lib.hid (show isAR a r l[k] = false by simpa using he)
        clear he
        go_wp2_with fail
        refine (findClo_any (l[k]) a r vx b b' _ HX.out q0 q1).mono ?_
        rintro e w' ⟨rfl, hb2⟩
        rw [HE.out]
        clear q0 q1 e0 e1 e2
        go_wp2
        go_roundw
        case rel =>
          refine ⟨k + 1, by omega, by go_num, fun j hj x hx => ?_, hB.trans (hb2.mono hB.size)⟩
          rcases Nat.lt_or_ge j k with h | h
          · exact HN.out j h x hx
          · obtain rfl : j = k := by omega
            rw [List.getElem?_eq_getElem hlt] at hx
            simp only [Option.some.injEq] at hx
            rw [← hx]; exact HE.out
        case measure => simp [intOf]; omega
    · obtain rfl : k = l.length := by omega
      have hr := Lib.hid (idxP_miss HN.out)
      go_wp2
      go_ret
      exact ⟨ret_intH hr.out, hB⟩

theorem find_any {G : Nat → Prop} {l : List Slt} (a r : Int) (v : Value) (w : World) (h : RdS RSlot G w v l) :
    Calls Tryd.prog 40 #[v, .int .i64 a, .int .i64 r] w fun e w' => e = .returned (.int .i64 (idxP (isAR a r) l)) ∧ Below w.heap.size w w' := by
  have hmf : ∀ (fn : Fn) (first cap : Array Value) (w : World), (Instr.makeFunc fn first cap).run Tryd.prog w = .ok (.func fn first cap) w := fun _ _ _ _ => rfl
  have hb := (Below.refl w.heap.size w).alloc (Nat.le_refl _) (.cells #[.int .i64 a] 3)
  have hb2 := hb.alloc (by simp) (.cells #[.int .i64 r] 3)
  have HB := Lib.hid ((BoxAt.new w [.int .i64 a] 3).alloc (.cells #[.int .i64 r] 3))
  have HB' := Lib.hid (BoxAt.newAt (w.alloc (.cells #[.int .i64 a] 3)) [.int .i64 r] 3 (n := w.heap.size + 1) (by simp))
  have HV := Lib.hid (h.below hb2 (fun _ h => h))
  have HB2 := Lib.hid hb2
  clear hb hb2 h
  go_enter Tryd.func40, Tryd.ntmps40
  go_wp2_with fail
  refine (findIndex_any a r _ _ _ _ HV.out HB.out HB'.out).mono ?_
  rintro e w' ⟨rfl, hb3⟩
  have HB3 := Lib.hid (HB2.out.trans (hb3.mono (by simp; omega)))
  clear hb3
  go_wp2
  go_ret
  exact ⟨rfl, HB3.out⟩

/-- May a table be? -/
def sltOk (s : Slt) : Bool := decide (sltCode s.a s.r s.d.length = 0)
def keyS (s : Slt) : Int × Int := (s.a, s.r)
def balTo (l : List Slt) (k : Nat) : Prop := (∀ x ∈ l.take k, sltOk x = true) ∧ ((l.take k).map keyS).Nodup
def balOk (l : List Slt) : Bool := decide (l.length ≤ 400 ∧ (∀ x ∈ l, sltOk x = true) ∧ (l.map keyS).Nodup)
def balCode (l : List Slt) : Int := if balOk l then 0 else 12
theorem balCode_or (l : List Slt) : balCode l = 0 ∨ balCode l = 12 := by unfold balCode; split <;> simp
theorem balTo_zero (l : List Slt) : balTo l 0 := by simp [balTo]
theorem key_in {l : List Slt} {s : Slt} : (∃ x ∈ l, isAR s.a s.r x = true) ↔ keyS s ∈ l.map keyS := by
  simp only [List.mem_map, isAR, keyS, decide_eq_true_eq, Prod.mk.injEq]
theorem balTo_succ {l : List Slt} {k : Nat} (hk : k < l.length) (h : balTo l k) (h1 : sltOk l[k] = true) (h2 : ¬ 0 ≤ idxP (isAR l[k].a l[k].r) (l.take k)) : balTo l (k + 1) := by
  unfold balTo at *
  rw [idxP_ge, key_in] at h2
  rw [List.take_succ_eq_append_getElem hk]
  refine ⟨fun t ht => ?_, ?_⟩
  · rcases List.mem_append.1 ht with ht | ht
    · exact h.1 t ht
    · simp at ht; subst ht; exact h1
  · rw [List.map_append, List.nodup_append]
    refine ⟨h.2, by simp, fun a ha b hb => ?_⟩
    simp only [List.map_cons, List.map_nil, List.mem_singleton] at hb
    subst hb; exact fun e => h2 (e ▸ ha)
theorem balCode_bad {l : List Slt} {k : Nat} (hk : k < l.length) (h1 : sltOk l[k] = false) : balCode l = 12 := by
  unfold balCode balOk; rw [if_neg]; simp only [decide_eq_true_eq]; rintro ⟨_, h, _⟩; have := h _ (List.getElem_mem hk); simp_all
theorem balCode_twice {l : List Slt} {k : Nat} (hk : k < l.length) (h1 : 0 ≤ idxP (isAR l[k].a l[k].r) (l.take k)) : balCode l = 12 := by
  unfold balCode balOk; rw [if_neg]; simp only [decide_eq_true_eq]; rintro ⟨_, _, h⟩
  rw [idxP_ge] at h1
  obtain ⟨x, hx, hp⟩ := h1
  obtain ⟨j, hj, e⟩ := List.mem_iff_getElem.1 hx
  simp at hj e
  have := List.nodup_iff_pairwise_ne.1 h
  have := List.pairwise_iff_getElem.1 this j k (by simp; omega) (by simpa using hk) (by omega)
  simp only [List.getElem_map] at this
  subst e
  simp only [isAR, decide_eq_true_eq] at hp
  exact this (by unfold keyS; rw [hp.1, hp.2])
theorem balCode_long {l : List Slt} (h : 400 < l.length) : balCode l = 12 := by
  unfold balCode balOk; rw [if_neg]; simp only [decide_eq_true_eq]; omega
theorem balCode_ok {l : List Slt} (h0 : l.length ≤ 400) (h : balTo l l.length) : balCode l = 0 := by
  unfold balCode balOk; rw [if_pos]
  simp only [decide_eq_true_eq]
  unfold balTo at h
  rw [List.take_length] at h
  exact ⟨h0, h⟩

set_option maxRecDepth 100000 in
set_option maxHeartbeats 2000000 in
theorem bcheck_any {G : Nat → Prop} {l : List Slt} (v : Value) (w : World) (h : RdS RSlot G w v l) :
    Calls Tryd.prog 25 #[v] w fun e w' => e = .returned (.int .i64 (balCode l)) ∧ Below w.heap.size w w' := by
  obtain ⟨ad, cap, rfl, h1, h2⟩ := h.form
  unfold maxLen at h2
  by_cases h4 : 400 < l.length
  · have i4 : (400 : Int) < (l.length : Int) := by omega
    have HR := Lib.hid (balCode_long h4)
    clear h4
    go_enter Tryd.func25, Tryd.ntmps25
    go_wp2
    go_ret
    exact ⟨ret_intH HR.out, Below.refl _ _⟩
  have i4 : ¬ (400 : Int) < (l.length : Int) := by omega
  have l4 : l.length ≤ 400 := by omega
  clear h4
  go_enter Tryd.func25, Tryd.ntmps25
  go_wp2
  go_loopw [10] (fun i wr => ∃ k : Nat, k ≤ l.length ∧ i = .int .i64 k ∧ balTo l k ∧ Below w.heap.size w wr) (fun i _ => l.length - (intOf i).toNat)
  case atStart => exact ⟨0, Nat.zero_le _, rfl, balTo_zero l, Below.refl _ _⟩
  case round =>
    obtain ⟨k, hk, rfl, hto, hB⟩ := hrel
    have HTO := Lib.hid hto
    clear hto
    by_cases hlt : k < l.length
    · have hr := h.below hB (fun _ h => h)
      obtain ⟨b, o, vd, rfl, -, e0, e1, e2, hd⟩ := hr.slot k hlt
      obtain ⟨ad2, cap2, rfl, -, -⟩ := hd.form
      have i0 : (0 : Int) ≤ (k : Int) := by omega
      have i1 : (k : Int) < (l.length : Int) := by omega
      have i2 : (k : Int) ≤ (cap : Int) := by omega
      have hB1 := hB.alloc hB.size (.cells #[.int .i64 l[k].a, .int .i64 l[k].r, .slice ad2 l[k].d.length cap2] 47)
      have HT := Lib.hid ((hr.take k hk).keep (Keep.alloc G wr (.cells #[.int .i64 l[k].a, .int .i64 l[k].r, .slice ad2 l[k].d.length cap2] 47)) (fun _ h => h))
      have HX := Lib.hid (BoxAt.new wr [.int .i64 l[k].a, .int .i64 l[k].r, .slice ad2 l[k].d.length cap2] 47)
      have hsz := hB.size
      clear hr hd
      by_cases c1 : sltOk l[k] = true
      · have C1 := Lib.hid (show sltCode l[k].a l[k].r l[k].d.length = 0 by unfold sltOk at c1; simpa using c1)
        have C1' := Lib.hid c1
        clear c1
        by_cases c2 : 0 ≤ idxP (isAR l[k].a l[k].r) (l.take k)
        · have HR := Lib.hid (balCode_twice hlt c2)
          obtain ⟨iz, hiz, hiz0⟩ : ∃ iz : Int, idxP (isAR l[k].a l[k].r) (l.take k) = iz ∧ 0 ≤ iz := ⟨_, rfl, c2⟩
          have HIZ := Lib.hid hiz
          have HB1 := Lib.hid hB1
          clear c2 hiz hB1
          go_wp2_with fail
          generalize wr.alloc (.cells #[.int .i64 l[k].a, .int .i64 l[k].r, .slice ad2 l[k].d.length cap2] 47) = wa at *
          have bxa := HX.out
          have pa0 := bxa.cell 0 rfl
          have pa1 := bxa.cell 1 rfl
          have pa2 := bxa.cell 2 rfl
          clear bxa
          go_region_held3 (fun w' => w'.cell? ⟨wr.heap.size, 0, none⟩ = some (.int .i64 l[k].a) ∧ w'.cell? ⟨wr.heap.size, 1, none⟩ = some (.int .i64 l[k].r) ∧ w'.cell? ⟨wr.heap.size, 2, none⟩ = some (.slice ad2 l[k].d.length cap2)) (go_keep)
            (first
            | (go_at_call 43; refine (cslot_any _ _ _ _ _ _).mono ?_; rintro e w1 ⟨rfl, hb⟩; have hb1 : Below wa.heap.size wa w1 := (by first | exact hb | exact (Below.refl _ _).drew.trans hb); have HB2 := Lib.hid (HB1.out.trans (hb1.mono HB1.out.size)); have bq := HX.out.belowS hb1; have q0 := bq.cell 0 rfl; have q1 := bq.cell 1 rfl; have q2 := bq.cell 2 rfl; have HX1 := Lib.hid bq; have HT1 := Lib.hid (HT.out.below hb1 (fun _ h => h)); clear bq hb hb1; rw [C1.out])
            | (go_at_call 40; refine (find_any _ _ _ _ (by first | exact HT1.out | exact HT1.out.keep (Keep.drew _ _) (fun _ h => h))).mono ?_; rintro e w3 ⟨rfl, hb3⟩; have hb4 : Below w1.heap.size w1 w3 := (by first | exact hb3 | exact (Below.refl _ _).drew.trans hb3); have HB3 := Lib.hid (HB2.out.trans (hb4.mono HB2.out.size)); have bq3 := HX1.out.belowS hb4; have r0 := bq3.cell 0 rfl; have r1 := bq3.cell 1 rfl; have r2 := bq3.cell 2 rfl; clear hb3 hb4 bq3; rw [HIZ.out]))
          all_goals
            go_wp2
            go_ret
            exact ⟨ret_intH HR.out, HB3.out⟩
        · have HR := Lib.hid (balTo_succ hlt HTO.out C1'.out c2)
          have hiz := idxP_neg (by omega : idxP (isAR l[k].a l[k].r) (l.take k) < 0)
          have HIZ := Lib.hid hiz
          have HB1 := Lib.hid hB1
          clear c2 hiz hB1
          go_wp2_with fail
          generalize wr.alloc (.cells #[.int .i64 l[k].a, .int .i64 l[k].r, .slice ad2 l[k].d.length cap2] 47) = wa at *
          have bxa := HX.out
          have pa0 := bxa.cell 0 rfl
          have pa1 := bxa.cell 1 rfl
          have pa2 := bxa.cell 2 rfl
          clear bxa
          go_region_held3 (fun w' => w'.cell? ⟨wr.heap.size, 0, none⟩ = some (.int .i64 l[k].a) ∧ w'.cell? ⟨wr.heap.size, 1, none⟩ = some (.int .i64 l[k].r) ∧ w'.cell? ⟨wr.heap.size, 2, none⟩ = some (.slice ad2 l[k].d.length cap2)) (go_keep)
            (first
            | (go_at_call 43; refine (cslot_any _ _ _ _ _ _).mono ?_; rintro e w1 ⟨rfl, hb⟩; have hb1 : Below wa.heap.size wa w1 := (by first | exact hb | exact (Below.refl _ _).drew.trans hb); have HB2 := Lib.hid (HB1.out.trans (hb1.mono HB1.out.size)); have bq := HX.out.belowS hb1; have q0 := bq.cell 0 rfl; have q1 := bq.cell 1 rfl; have q2 := bq.cell 2 rfl; have HX1 := Lib.hid bq; have HT1 := Lib.hid (HT.out.below hb1 (fun _ h => h)); clear bq hb hb1; rw [C1.out])
            | (go_at_call 40; refine (find_any _ _ _ _ (by first | exact HT1.out | exact HT1.out.keep (Keep.drew _ _) (fun _ h => h))).mono ?_; rintro e w3 ⟨rfl, hb3⟩; have hb4 : Below w1.heap.size w1 w3 := (by first | exact hb3 | exact (Below.refl _ _).drew.trans hb3); have HB3 := Lib.hid (HB2.out.trans (hb4.mono HB2.out.size)); have bq3 := HX1.out.belowS hb4; have r0 := bq3.cell 0 rfl; have r1 := bq3.cell 1 rfl; have r2 := bq3.cell 2 rfl; clear hb3 hb4 bq3; rw [HIZ.out]))
          all_goals
            go_wp2
            go_roundw
            case rel => exact ⟨k + 1, by omega, by go_num, HR.out, HB3.out⟩
            case measure => simp [intOf]; omega
      · have HR := Lib.hid (balCode_bad hlt (by simpa using c1))
        obtain ⟨cv, hcv, hcv'⟩ : ∃ cv : Int, sltCode l[k].a l[k].r l[k].d.length = cv ∧ (cv = 2 ∨ cv = 4) := ⟨_, rfl, by
          unfold sltOk at c1; simp only [decide_eq_true_eq] at c1; revert c1; unfold sltCode; split; simp; split <;> simp⟩
        have C1 := Lib.hid hcv
        have HB1 := Lib.hid hB1
        clear c1 hcv hB1
        go_wp2_with fail
        generalize wr.alloc (.cells #[.int .i64 l[k].a, .int .i64 l[k].r, .slice ad2 l[k].d.length cap2] 47) = wa at *
        have bxa := HX.out
        have pa0 := bxa.cell 0 rfl
        have pa1 := bxa.cell 1 rfl
        have pa2 := bxa.cell 2 rfl
        clear bxa
        rcases hcv' with rfl | rfl
        all_goals
          have hcne : True := trivial
          refine wp_region_held_drew (S := fun w' => w'.cell? ⟨wr.heap.size, 0, none⟩ = some (.int .i64 l[k].a) ∧ w'.cell? ⟨wr.heap.size, 1, none⟩ = some (.int .i64 l[k].r) ∧ w'.cell? ⟨wr.heap.size, 2, none⟩ = some (.slice ad2 l[k].d.length cap2)) (by kernel_rfl) (by exact ⟨pa0, pa1, pa2⟩) (fun hHeld => ?_)
          refine wpAnyH_take (i := 0) (v := .agg #[.int .i64 l[k].a, .int .i64 l[k].r, .slice ad2 l[k].d.length cap2]) rfl (by kernel_rfl) (by kernel_rfl) (by kernel_rfl) (fun _ _ _ h => h) (Or.inl ⟨by rfl, fun w hSw => ?_⟩) hHeld ?_
          · (try dsimp only at hSw); go_split_ands; go_simp; all_goals (try rfl)
          try simp only [Act.put, List.getElem_toArray, List.getElem_cons_succ, List.getElem_cons_zero, List.setIfInBounds_toArray, List.set_cons_zero, List.set_cons_succ]
          refine wpAnyH_ready (rs := [1]) (by kernel_rfl) (by simp) ?_
          refine AllReadyH.cons rfl (fun K hK => ?_) ?_
          · rw [if_pos (by rfl)]
            go_simp
            go_at_call 43
            refine (cslot_any _ _ _ _ _ _).mono ?_
            rintro e w1 ⟨rfl, hb⟩
            have hb1 : Below wa.heap.size wa w1 := (by first | exact hb | exact (Below.refl _ _).drew.trans hb)
            have HB2 := Lib.hid (HB1.out.trans (hb1.mono HB1.out.size))
            have bq := HX.out.belowS hb1
            have q0 := bq.cell 0 rfl
            have q1 := bq.cell 1 rfl
            have q2 := bq.cell 2 rfl
            clear bq hb hb1
            rw [C1.out]
            show K _ _
            refine hK.out _ _ (by exact ⟨q0, q1, q2⟩) (fun hHeld => ?_)
            clear hK K
            try simp only [Act.put, List.getElem_toArray, List.getElem_cons_succ, List.getElem_cons_zero, List.setIfInBounds_toArray, List.set_cons_zero, List.set_cons_succ]
            refine wpAnyH_take (i := 2) (v := .bool true) rfl (by kernel_rfl) (by kernel_rfl) (by kernel_rfl) (fun _ _ _ h => h) (Or.inl ⟨by rfl, fun w hSw => ?_⟩) hHeld ?_
            · (try dsimp only at hSw); go_split_ands; go_simp; all_goals (try rfl)
            try simp only [Act.put, List.getElem_toArray, List.getElem_cons_succ, List.getElem_cons_zero, List.setIfInBounds_toArray, List.set_cons_zero, List.set_cons_succ]
            refine wpAnyH_take (i := 3) (v := .bool true) rfl (by kernel_rfl) (by kernel_rfl) (by kernel_rfl) (fun _ _ _ h => h) (Or.inl ⟨by rfl, fun w hSw => ?_⟩) hHeld ?_
            · (try dsimp only at hSw); go_split_ands; go_simp; all_goals (try rfl)
            try simp only [Act.put, List.getElem_toArray, List.getElem_cons_succ, List.getElem_cons_zero, List.setIfInBounds_toArray, List.set_cons_zero, List.set_cons_succ]
            refine wpAnyH_take (i := 4) (v := undef) rfl (by kernel_rfl) (by kernel_rfl) (by kernel_rfl) (fun _ _ _ h => h) (Or.inr ⟨by rfl, rfl⟩) hHeld ?_
            try simp only [Act.put, List.getElem_toArray, List.getElem_cons_succ, List.getElem_cons_zero, List.setIfInBounds_toArray, List.set_cons_zero, List.set_cons_succ]
            refine wpAnyH_take (i := 5) (v := undef) rfl (by kernel_rfl) (by kernel_rfl) (by kernel_rfl) (fun _ _ _ h => h) (Or.inr ⟨by rfl, rfl⟩) hHeld ?_
            try simp only [Act.put, List.getElem_toArray, List.getElem_cons_succ, List.getElem_cons_zero, List.setIfInBounds_toArray, List.set_cons_zero, List.set_cons_succ]
            refine wpAnyH_take (i := 6) (v := undef) rfl (by kernel_rfl) (by kernel_rfl) (by kernel_rfl) (fun _ _ _ h => h) (Or.inr ⟨by rfl, rfl⟩) hHeld ?_
            try simp only [Act.put, List.getElem_toArray, List.getElem_cons_succ, List.getElem_cons_zero, List.setIfInBounds_toArray, List.set_cons_zero, List.set_cons_succ]
            refine wpAnyH_take (i := 7) (v := undef) rfl (by kernel_rfl) (by kernel_rfl) (by kernel_rfl) (fun _ _ _ h => h) (Or.inr ⟨by rfl, rfl⟩) hHeld ?_
            try simp only [Act.put, List.getElem_toArray, List.getElem_cons_succ, List.getElem_cons_zero, List.setIfInBounds_toArray, List.set_cons_zero, List.set_cons_succ]
            refine wpAnyH_take (i := 8) (v := undef) rfl (by kernel_rfl) (by kernel_rfl) (by kernel_rfl) (fun _ _ _ h => h) (Or.inr ⟨by rfl, rfl⟩) hHeld ?_
            try simp only [Act.put, List.getElem_toArray, List.getElem_cons_succ, List.getElem_cons_zero, List.setIfInBounds_toArray, List.set_cons_zero, List.set_cons_succ]
            refine wpAnyH_take (i := 9) (v := undef) rfl (by kernel_rfl) (by kernel_rfl) (by kernel_rfl) (fun _ _ _ h => h) (Or.inr ⟨by rfl, rfl⟩) hHeld ?_
            try simp only [Act.put, List.getElem_toArray, List.getElem_cons_succ, List.getElem_cons_zero, List.setIfInBounds_toArray, List.set_cons_zero, List.set_cons_succ]
            refine wpAnyH_take (i := 10) (v := undef) rfl (by kernel_rfl) (by kernel_rfl) (by kernel_rfl) (fun _ _ _ h => h) (Or.inr ⟨by rfl, rfl⟩) hHeld ?_
            try simp only [Act.put, List.getElem_toArray, List.getElem_cons_succ, List.getElem_cons_zero, List.setIfInBounds_toArray, List.set_cons_zero, List.set_cons_succ]
            refine wpAnyH_take (i := 11) (v := undef) rfl (by kernel_rfl) (by kernel_rfl) (by kernel_rfl) (fun _ _ _ h => h) (Or.inr ⟨by rfl, rfl⟩) hHeld ?_
            try simp only [Act.put, List.getElem_toArray, List.getElem_cons_succ, List.getElem_cons_zero, List.setIfInBounds_toArray, List.set_cons_zero, List.set_cons_succ]
            refine wpAnyH_take (i := 12) (v := undef) rfl (by kernel_rfl) (by kernel_rfl) (by kernel_rfl) (fun _ _ _ h => h) (Or.inr ⟨by rfl, rfl⟩) hHeld ?_
            try simp only [Act.put, List.getElem_toArray, List.getElem_cons_succ, List.getElem_cons_zero, List.setIfInBounds_toArray, List.set_cons_zero, List.set_cons_succ]
            refine wpAnyH_take (i := 13) (v := .bool true) rfl (by kernel_rfl) (by kernel_rfl) (by kernel_rfl) (fun _ _ _ h => h) (Or.inl ⟨by rfl, fun w hSw => ?_⟩) hHeld ?_
            · (try dsimp only at hSw); go_split_ands; go_simp; all_goals (try rfl)
            try simp only [Act.put, List.getElem_toArray, List.getElem_cons_succ, List.getElem_cons_zero, List.setIfInBounds_toArray, List.set_cons_zero, List.set_cons_succ]
            refine wpAnyH_done (by kernel_rfl) ?_ _
            go_wp2
            go_ret
            exact ⟨ret_intH HR.out, HB2.out⟩
          exact AllReadyH.nil
    · have HR := Lib.hid (balCode_ok l4 (by have e : l.length = k := (by omega); rw [e]; exact HTO.out))
      go_wp2
      go_ret
      exact ⟨ret_intH HR.out, hB⟩
end Go.Proofs.YtialhdmdeggenaaDoor
