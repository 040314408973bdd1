/- LinesJoin: the walk. -/
import Derived.Test.YtodcebhfkmlmgaaDoorActLaw
import Derived.Test.YtodcebhfkmlmgaaDoorReadL
set_option linter.unusedVariables false
set_option linter.unusedSimpArgs false
namespace Go.Proofs.YtodcebhfkmlmgaaDoor
open Go Go.RowKit

def flowA : LAct := ⟨10, 0, 0, []⟩
theorem flowA_ok : lineCode flowA = 0 := by unfold flowA; rw [code_flow]; simp
theorem flowA_ne (l : List LAct) : 0 < (showL (l ++ [flowA])).length := by
  rw [showL_append, List.length_append]
  have := List.length_pos_iff.2 (showL_ne (a := flowA) (l := []))
  omega
theorem cat_toList (a b : List UInt8) : a ++ b = ((⟨a.toArray⟩ : ByteArray) ++ ⟨b.toArray⟩).toList := by
  rw [ByteArray.toList_eq]
  show _ = (⟨a.toArray⟩ ++ ⟨b.toArray⟩ : ByteArray).data.toList
  rw [ByteArray.data_append]
  simp
theorem acts_flat : ∀ (l : List LAct) (vals : List Value), vals.length = l.length * 4 → (∀ j x, l[j]? = some x → (vals.drop (j * 4)).take 4 = actCells x) → vals = l.flatMap actCells
  | [], vals, hl, _ => List.eq_nil_of_length_eq_zero (by simpa using hl)
  | a :: l, vals, hl, h => by
    have h0 := h 0 a rfl
    simp only [Nat.zero_mul, List.drop_zero] at h0
    have hl' : vals.length = l.length * 4 + 4 := by rw [hl, List.length_cons]; omega
    have ih := acts_flat l (vals.drop 4) (by rw [List.length_drop, hl']; omega) (fun j x hx => by
      have := h (j + 1) x (by simpa using hx)
      rw [List.drop_drop]
      have e : 4 + j * 4 = (j + 1) * 4 := by omega
      rw [e]; exact this)
    rw [List.flatMap_cons, ← ih, ← h0, List.take_append_drop]
theorem acts_own {G : Nat → Prop} {base e : Nat} {w : World} {v : Value} {l : List LAct} (h : LstO RAct G base e w v l) : w.ownsRow base e 4 v l.length (l.flatMap actCells) := by
  obtain ⟨vals, h1, h2⟩ := h
  have := acts_flat l vals h1.1 (fun j x hx => h2 j x hx)
  rw [← this]; exact h1
theorem acts_one (l : List LAct) : ∀ u ∈ l.flatMap actCells, u.oneCell' = true := by
  intro u hu
  obtain ⟨a, -, hu⟩ := List.mem_flatMap.1 hu
  simp only [actCells, List.mem_cons, List.not_mem_nil, or_false] at hu
  rcases hu with rfl | rfl | rfl | rfl <;> rfl
theorem acts_sl {G : Nat → Prop} {w : World} {v : Value} {l : List LAct} (h : RdS RAct G w v l) : SlCells w v l.length 4 (l.flatMap actCells) := by
  obtain ⟨vals, h1, h2, -⟩ := h.flatOf (by decide) (fun {G w cs x} hr u hu => acts_one [x] u (by have hr' : cs = actCells x := hr; subst hr'; simpa using hu))
  obtain ⟨ad, c, k1, k2, k3, k4⟩ := h1
  have := acts_flat l vals k3 (fun j x hx => h2 j x hx)
  rw [← this]; exact ⟨ad, c, k1, k2, k3, k4⟩
theorem acts_lst {base e : Nat} {w : World} {v : Value} {l : List LAct} (h : w.ownsRow base e 4 v l.length (l.flatMap actCells)) : LstO RAct (fun _ => False) base e w v l :=
  ⟨_, h, fun j x hx => by
    have hj : j < l.length := by
      rcases Nat.lt_or_ge j l.length with h | h
      · exact h
      · simp [List.getElem?_eq_none h] at hx
    show ((l.flatMap actCells).drop (j * 4)).take 4 = actCells x
    apply List.ext_getElem?
    intro t
    rcases Nat.lt_or_ge t 4 with ht | ht
    · rw [List.getElem?_take_of_lt ht, List.getElem?_drop, actsCells_at hj ht]
      rw [List.getElem?_eq_getElem hj] at hx
      rw [Option.some.inj hx]
    · rw [List.getElem?_eq_none (by simp; omega), List.getElem?_eq_none (by simpa [actCells] using ht)]⟩
set_option maxRecDepth 100000 in
set_option maxHeartbeats 8000000 in
theorem linesJoin_walk (v : Value) (l : List FeatD) (v2 : Value) (m : List FeatD) (w : World) (hv : RdS RFeat (fun _ => True) w v l) (hv2 : RdS RFeat (fun _ => True) w v2 m) (ht : TabL w) :
    Calls Tryd.prog 4 #[v, v2] w fun e w' => e = .returned (.bool true) ∧ Below w.heap.size w w' := by
  obtain ⟨ad, cap, rfl, -, hm1⟩ := hv.form
  obtain ⟨ad2, cap2, rfl, -, hm2⟩ := hv2.form
  unfold maxLen at hm1 hm2
  have HT := Lib.hid ht
  have HV := Lib.hid hv
  have HV2 := Lib.hid hv2
  clear ht hv hv2
  go_enter Tryd.func4, Tryd.ntmps4
  by_cases c1 : l.length ≤ 12 <;> by_cases c2 : m.length ≤ 12
  · go_wp2_with fail
    go_loopw [5, 7] (fun o i wr => ∃ (k : Nat) (ado : Option Addr) (capo : Nat), k ≤ l.length ∧ i = .int .i64 k ∧ o = .slice ado k capo ∧ Hid (LstO RAct (fun _ => False) w.heap.size 25 wr (.slice ado k capo) (actsL (l.take k))) ∧ Hid (Below w.heap.size w wr)) (fun _ i _ => l.length - (intOf i).toNat)
    case atStart => exact ⟨0, none, 0, Nat.zero_le _, rfl, rfl, Lib.hid (LstO.nil _ _ _ _ _), Lib.hid (Below.refl _ _)⟩
    case round =>
      obtain ⟨k, ado, capo, hk, rfl, rfl, HL, HBk⟩ := hrel
      have hzk := HBk.out.size
      by_cases hlt : k < l.length
      · have k0 : (0 : Int) ≤ (k : Int) := by omega
        have k1 : (k : Int) < (l.length : Int) := by omega
        have k2 : (k : Int) < 12 := by omega
        have kl : k < l.length := by omega
        have wk : IntKind.i64.wrap ((k : Int) + 1) = (k : Int) + 1 := IntWalk.i64_in _ (by omega)
        have HSU := Lib.hid (actsL_succ kl)
        have HKL := Lib.hid (show (actsL (l.take k)).length = k by rw [actsL_len, List.length_take]; omega)
        obtain ⟨b, o, rfl, e0, e1, e2, e3, hfo⟩ := (HV.out.below HBk.out (fun _ h => h)).feat k kl
        generalize l[k] = f at *
        have HFO := Lib.hid hfo
        clear hfo
        go_wp2_with fail
        refine (act_any f _ HFO.out).mono ?_
        rintro e w91 ⟨rfl, hb1⟩
        have HBk1 := Lib.hid (HBk.out.trans (hb1.mono hzk))
        have HL1 := Lib.hid (HL.out.below hb1)
        have hz1 := HBk1.out.size
        generalize featA f = a at *
        clear hb1 e0 e1 e2 e3 HL HBk
        go_upto_region 7 with fail
        obtain ⟨w92, hwl⟩ : ∃ w92, w92 = (w91.alloc (.cells #[.int .i64 a.k, .int .i64 a.n, .int .i64 a.p, strV a.t] 25)) := ⟨_, rfl⟩
        have hBl : Below w91.heap.size w91 w92 := by rw [hwl]; exact ((Below.refl _ _).alloc (by first | exact Nat.le_refl _ | (simp; done) | (simp; omega)) _)
        have HX := Lib.hid (show BoxAt w92 w91.heap.size [.int .i64 a.k, .int .i64 a.n, .int .i64 a.p, strV a.t] 25 by rw [hwl]; exact BoxAt.new w91 [.int .i64 a.k, .int .i64 a.n, .int .i64 a.p, strV a.t] _)
        rw [← hwl]
        replace HL1 := Lib.hid (HL1.out.below hBl)
        replace HBk1 := Lib.hid (HBk1.out.trans (hBl.mono HBk1.out.size))
        clear hwl hBl
        have x0 := HX.out.cell 0 rfl
        have x1 := HX.out.cell 1 rfl
        have x2 := HX.out.cell 2 rfl
        have x3 := HX.out.cell 3 rfl
        have zx := HX.out.lt
        have hz2 := HBk1.out.size
        obtain ⟨vals, hv⟩ := HL1.out.valsOf
        have hvlt := hv.lt
        have HLv := Lib.hid hv
        clear hv HL1
        go_wp2_with (at_builtin; refine wpList_append_one rfl _ _ 32 rfl elemAct w.heap.size _ k vals rfl (by have h := (HLv.out.alloc (.cells #[.int .i64 a.k, .int .i64 a.n, .int .i64 a.p, strV a.t] 25)).own; rw [HKL.out] at h; exact h) w92.heap.size 25 [.int .i64 a.k, .int .i64 a.n, .int .i64 a.p, strV a.t] rfl (BoxAt.new w92 [.int .i64 a.k, .int .i64 a.n, .int .i64 a.p, strV a.t] _) rfl (by simp [Value.oneCell']) (by unfold maxLen; omega) (by omega) (by simp; omega) ?_; intro g cap6 w6 hown6 hgr6 hat6 hlt6)
        have hP := (HLv.out.alloc (.cells #[.int .i64 a.k, .int .i64 a.n, .int .i64 a.p, strV a.t] 25)).push (x := a) rfl (by rw [HKL.out]; exact hown6) hgr6 hat6
        rw [HKL.out, ← HSU.out] at hP
        have HP := Lib.hid hP
        have HB6 := Lib.hid ((HBk1.out.alloc hz2 (.cells #[.int .i64 a.k, .int .i64 a.n, .int .i64 a.p, strV a.t] 25)).grown hgr6 (by simp; omega) (fun k hk => by have := (hvlt _ hk).1; omega))
        clear hP hown6 hgr6 hat6
        go_wp2
        go_roundw
        case rel => exact ⟨k + 1, some ⟨g, 0, none⟩, cap6, by omega, by go_num, rfl, HP, HB6⟩
        case measure => simp [intOf]; omega
      · obtain rfl : k = l.length := by omega
        have k1 : ¬ ((l.length : Nat) : Int) < (l.length : Int) := by omega
        have HL5 := HL
        have HV2b := Lib.hid (HV2.out.below HBk.out (fun _ h => h))
        have HB5 := HBk
        obtain ⟨wo, rfl⟩ : ∃ wo : World, wo = wr := ⟨_, rfl⟩
        clear HL HBk
        go_wp2_with fail
        go_loopw [6, 9] (fun o i wr => ∃ (k : Nat) (ado : Option Addr) (capo : Nat), k ≤ m.length ∧ i = .int .i64 k ∧ o = .slice ado k capo ∧ Hid (LstO RAct (fun _ => False) wo.heap.size 25 wr (.slice ado k capo) (actsL (m.take k))) ∧ Hid (Below wo.heap.size wo wr)) (fun _ i _ => m.length - (intOf i).toNat)
        case atStart => exact ⟨0, none, 0, Nat.zero_le _, rfl, rfl, Lib.hid (LstO.nil _ _ _ _ _), Lib.hid (Below.refl _ _)⟩
        case round =>
          obtain ⟨k, ado, capo, hk, rfl, rfl, HL, HBk⟩ := hrel
          have hzk := HBk.out.size
          by_cases hlt : k < m.length
          · have k0 : (0 : Int) ≤ (k : Int) := by omega
            have k1 : (k : Int) < (m.length : Int) := by omega
            have k2 : (k : Int) < 12 := by omega
            have kl : k < m.length := by omega
            have wk : IntKind.i64.wrap ((k : Int) + 1) = (k : Int) + 1 := IntWalk.i64_in _ (by omega)
            have HSU := Lib.hid (actsL_succ kl)
            have HKL := Lib.hid (show (actsL (m.take k)).length = k by rw [actsL_len, List.length_take]; omega)
            obtain ⟨b, o, rfl, e0, e1, e2, e3, hfo⟩ := (HV2b.out.below HBk.out (fun _ h => h)).feat k kl
            generalize m[k] = f at *
            have HFO := Lib.hid hfo
            clear hfo
            go_wp2_with fail
            refine (act_any f _ HFO.out).mono ?_
            rintro e w91 ⟨rfl, hb1⟩
            have HBk1 := Lib.hid (HBk.out.trans (hb1.mono hzk))
            have HL1 := Lib.hid (HL.out.below hb1)
            have hz1 := HBk1.out.size
            generalize featA f = a at *
            clear hb1 e0 e1 e2 e3 HL HBk
            go_upto_region 12 with fail
            obtain ⟨w92, hwl⟩ : ∃ w92, w92 = (w91.alloc (.cells #[.int .i64 a.k, .int .i64 a.n, .int .i64 a.p, strV a.t] 25)) := ⟨_, rfl⟩
            have hBl : Below w91.heap.size w91 w92 := by rw [hwl]; exact ((Below.refl _ _).alloc (by first | exact Nat.le_refl _ | (simp; done) | (simp; omega)) _)
            have HX := Lib.hid (show BoxAt w92 w91.heap.size [.int .i64 a.k, .int .i64 a.n, .int .i64 a.p, strV a.t] 25 by rw [hwl]; exact BoxAt.new w91 [.int .i64 a.k, .int .i64 a.n, .int .i64 a.p, strV a.t] _)
            rw [← hwl]
            replace HL1 := Lib.hid (HL1.out.below hBl)
            replace HBk1 := Lib.hid (HBk1.out.trans (hBl.mono HBk1.out.size))
            clear hwl hBl
            have x0 := HX.out.cell 0 rfl
            have x1 := HX.out.cell 1 rfl
            have x2 := HX.out.cell 2 rfl
            have x3 := HX.out.cell 3 rfl
            have zx := HX.out.lt
            have hz2 := HBk1.out.size
            obtain ⟨vals, hv⟩ := HL1.out.valsOf
            have hvlt := hv.lt
            have HLv := Lib.hid hv
            clear hv HL1
            go_wp2_with (at_builtin; refine wpList_append_one rfl _ _ 32 rfl elemAct wo.heap.size _ k vals rfl (by have h := (HLv.out.alloc (.cells #[.int .i64 a.k, .int .i64 a.n, .int .i64 a.p, strV a.t] 25)).own; rw [HKL.out] at h; exact h) w92.heap.size 25 [.int .i64 a.k, .int .i64 a.n, .int .i64 a.p, strV a.t] rfl (BoxAt.new w92 [.int .i64 a.k, .int .i64 a.n, .int .i64 a.p, strV a.t] _) rfl (by simp [Value.oneCell']) (by unfold maxLen; omega) (by omega) (by simp; omega) ?_; intro g cap6 w6 hown6 hgr6 hat6 hlt6)
            have hP := (HLv.out.alloc (.cells #[.int .i64 a.k, .int .i64 a.n, .int .i64 a.p, strV a.t] 25)).push (x := a) rfl (by rw [HKL.out]; exact hown6) hgr6 hat6
            rw [HKL.out, ← HSU.out] at hP
            have HP := Lib.hid hP
            have HB6 := Lib.hid ((HBk1.out.alloc hz2 (.cells #[.int .i64 a.k, .int .i64 a.n, .int .i64 a.p, strV a.t] 25)).grown hgr6 (by simp; omega) (fun k hk => by have := (hvlt _ hk).1; omega))
            clear hP hown6 hgr6 hat6
            go_wp2
            go_roundw
            case rel => exact ⟨k + 1, some ⟨g, 0, none⟩, cap6, by omega, by go_num, rfl, HP, HB6⟩
            case measure => simp [intOf]; omega
          · obtain rfl : k = m.length := by omega
            have k1 : ¬ ((m.length : Nat) : Int) < (m.length : Int) := by omega
            have HKA := Lib.hid (show (actsL (l.take l.length)).length = l.length by rw [actsL_len, List.length_take]; omega)
            have HKB := Lib.hid (show (actsL (m.take m.length)).length = m.length by rw [actsL_len, List.length_take]; omega)
            have HOA := Lib.hid (actsL_ok (l.take l.length))
            have HOB := Lib.hid (actsL_ok (m.take m.length))
            obtain ⟨wz, rfl⟩ : ∃ wz : World, wz = wr := ⟨_, rfl⟩
            generalize hla : actsL (l.take l.length) = la at *
            generalize hlb : actsL (m.take m.length) = lb at *
            clear hla hlb
            obtain ⟨vals, hv⟩ := HL.out.valsOf
            have hvlt := hv.lt
            have HLv := Lib.hid hv
            clear hv HL
            go_wp2_with (at_builtin; refine wpList_append_one rfl _ _ 32 rfl elemAct wo.heap.size _ m.length vals rfl (by have h := (HLv.out.alloc (.cells #[.int .i64 10, .int .i64 0, .int .i64 0, .string ⟨#[]⟩] 25)).own; rw [HKB.out] at h; exact h) wz.heap.size 25 [.int .i64 10, .int .i64 0, .int .i64 0, .string ⟨#[]⟩] rfl (BoxAt.new wz [.int .i64 10, .int .i64 0, .int .i64 0, .string ⟨#[]⟩] _) rfl (by simp [Value.oneCell']) (by unfold maxLen; omega) (by omega) (by simp; omega) ?_; intro g cap6 w6 hown6 hgr6 hat6 hlt6)
            have hP := (HLv.out.alloc (.cells #[.int .i64 10, .int .i64 0, .int .i64 0, .string ⟨#[]⟩] 25)).push (x := flowA) rfl (by rw [HKB.out]; exact hown6) hgr6 hat6
            rw [HKB.out] at hP
            have HP := Lib.hid hP
            have HBk6 := Lib.hid ((HBk.out.alloc hzk (.cells #[.int .i64 10, .int .i64 0, .int .i64 0, .string ⟨#[]⟩] 25)).grown hgr6 (by simp; omega) (fun k hk => by have := (hvlt _ hk).1; omega))
            have HA := Lib.hid (HL5.out.below HBk6.out)
            have HB := Lib.hid (HB5.out.trans (HBk6.out.mono HB5.out.size))
            clear hP hown6 hgr6 hat6 HLv HBk6 HBk HL5 HB5
            have HSA := Lib.hid (showR_ok (l := la) (by rw [HKA.out]; omega) HOA.out)
            have HKC := Lib.hid (show (lb ++ [flowA]).length = m.length + 1 by rw [List.length_append, HKB.out]; rfl)
            have HOC := Lib.hid (show ∀ a ∈ lb ++ [flowA], lineCode a = 0 by
              intro a ha
              rcases List.mem_append.1 ha with h | h
              · exact HOB.out a h
              · obtain rfl := List.mem_singleton.1 h; exact flowA_ok)
            have HNE := Lib.hid (flowA_ne lb)
            generalize lb ++ [flowA] = lc at *
            have HSC := Lib.hid (showR_ok (l := lc) (by rw [HKC.out]; omega) HOC.out)
            have HSS := Lib.hid ((showR_ok (l := la ++ lc) (by rw [List.length_append, HKA.out, HKC.out]; omega) (fun a ha => (List.mem_append.1 ha).elim (HOA.out a) (HOC.out a))).trans (by rw [showL_append]))
            go_wp2_with fail
            refine (lshow_any _ _ (HA.out.rd (G' := fun _ => True) (by decide) (fun _ _ _ => trivial) (fun _ _ _ => trivial)) (HT.out.belowS HB.out)).mono ?_
            rintro e w7 ⟨rfl, hb_s⟩
            rw [HSA.out]
            replace HA := Lib.hid (HA.out.below hb_s)
            replace HP := Lib.hid (HP.out.below hb_s)
            replace HB := Lib.hid (HB.out.trans (hb_s.mono HB.out.size))
            clear hb_s
            go_wp2_with fail
            refine (lshow_any _ _ (HP.out.rd (G' := fun _ => True) (by decide) (fun _ _ _ => trivial) (fun _ _ _ => trivial)) (HT.out.belowS HB.out)).mono ?_
            rintro e w8 ⟨rfl, hb_s⟩
            rw [HSC.out]
            replace HA := Lib.hid (HA.out.below hb_s)
            replace HP := Lib.hid (HP.out.below hb_s)
            replace HB := Lib.hid (HB.out.trans (hb_s.mono HB.out.size))
            clear hb_s
            go_wp2_with (first | (at_builtin; refine wpList_append_sl rfl _ _ 32 rfl elemAct w8.heap.size (.slice none 0 0) rfl 0 [] (World.ownsRow_nil _ _ _ _) _ rfl la.length (la.flatMap actCells) (acts_sl (HA.out.rd (G' := fun _ => True) (by decide) (fun _ _ _ => trivial) (fun _ _ _ => trivial))) (acts_one la) (by rw [HKA.out]; unfold maxLen; omega) (by rw [HKA.out]; omega) (Nat.le_refl _) ?_; intro v9 w9 hown9 hgr9; rw [Nat.zero_add, List.nil_append] at hown9; have hb9 : Below w8.heap.size w8 w9 := (Below.refl _ _).grown hgr9 (Nat.le_refl _) (fun k hk => by simp [Value.ownBlock] at hk)) | (at_builtin; refine wpList_append_sl rfl _ _ 32 rfl elemAct w8.heap.size v9 rfl la.length _ hown9 _ rfl lc.length (lc.flatMap actCells) (acts_sl ((HP.out.below hb9).rd (G' := fun _ => True) (by decide) (fun _ _ _ => trivial) (fun _ _ _ => trivial))) (acts_one lc) (by rw [HKA.out, HKC.out]; unfold maxLen; omega) (by rw [HKA.out, HKC.out]; omega) hb9.size ?_; intro v10 w10 hown10 hgr10))
            have hb10 : Below w8.heap.size w8 w10 := hb9.grown hgr10 hb9.size (fun k hk => (hown9.lt k hk).1)
            rw [← List.length_append, ← List.flatMap_append] at hown10
            have HQ := Lib.hid (acts_lst hown10)
            replace HB := Lib.hid (HB.out.trans (hb10.mono HB.out.size))
            clear hown9 hown10 hgr9 hgr10 hb9 hb10 HA HP
            go_wp2_with fail
            refine (lshow_any _ _ (HQ.out.rd (G' := fun _ => True) (by decide) (fun _ _ _ => trivial) (fun _ _ _ => trivial)) (HT.out.belowS HB.out)).mono ?_
            rintro e w11 ⟨rfl, hb11⟩
            rw [HSS.out]
            replace HB := Lib.hid (HB.out.trans (hb11.mono HB.out.size))
            clear hb11 HQ
            have hl1 := showL_len HOA.out
            have hl2 := showL_len HOC.out
            rw [HKA.out] at hl1
            rw [HKC.out] at hl2
            have hne := HNE.out
            have hcl : ¬ 9223372036854775807 < (showL la).length + (showL lc).length := by omega
            have hcc := cat_toList (showL la) (showL lc)
            clear hl1 hl2
            generalize showL lc = sc at *
            generalize showL la = sa at *
            go_wp2
            go_ret
            exact ⟨rfl, HB.out⟩
  · go_wp2_with fail
    go_loopw [5, 7] (fun o i wr => ∃ (k : Nat) (ado : Option Addr) (capo : Nat), k ≤ l.length ∧ i = .int .i64 k ∧ o = .slice ado k capo ∧ Hid (LstO RAct (fun _ => False) w.heap.size 25 wr (.slice ado k capo) (actsL (l.take k))) ∧ Hid (Below w.heap.size w wr)) (fun _ i _ => l.length - (intOf i).toNat)
    case atStart => exact ⟨0, none, 0, Nat.zero_le _, rfl, rfl, Lib.hid (LstO.nil _ _ _ _ _), Lib.hid (Below.refl _ _)⟩
    case round =>
      obtain ⟨k, ado, capo, hk, rfl, rfl, HL, HBk⟩ := hrel
      have hzk := HBk.out.size
      by_cases hlt : k < l.length
      · have k0 : (0 : Int) ≤ (k : Int) := by omega
        have k1 : (k : Int) < (l.length : Int) := by omega
        have k2 : (k : Int) < 12 := by omega
        have kl : k < l.length := by omega
        have wk : IntKind.i64.wrap ((k : Int) + 1) = (k : Int) + 1 := IntWalk.i64_in _ (by omega)
        have HSU := Lib.hid (actsL_succ kl)
        have HKL := Lib.hid (show (actsL (l.take k)).length = k by rw [actsL_len, List.length_take]; omega)
        obtain ⟨b, o, rfl, e0, e1, e2, e3, hfo⟩ := (HV.out.below HBk.out (fun _ h => h)).feat k kl
        generalize l[k] = f at *
        have HFO := Lib.hid hfo
        clear hfo
        go_wp2_with fail
        refine (act_any f _ HFO.out).mono ?_
        rintro e w91 ⟨rfl, hb1⟩
        have HBk1 := Lib.hid (HBk.out.trans (hb1.mono hzk))
        have HL1 := Lib.hid (HL.out.below hb1)
        have hz1 := HBk1.out.size
        generalize featA f = a at *
        clear hb1 e0 e1 e2 e3 HL HBk
        go_upto_region 7 with fail
        obtain ⟨w92, hwl⟩ : ∃ w92, w92 = (w91.alloc (.cells #[.int .i64 a.k, .int .i64 a.n, .int .i64 a.p, strV a.t] 25)) := ⟨_, rfl⟩
        have hBl : Below w91.heap.size w91 w92 := by rw [hwl]; exact ((Below.refl _ _).alloc (by first | exact Nat.le_refl _ | (simp; done) | (simp; omega)) _)
        have HX := Lib.hid (show BoxAt w92 w91.heap.size [.int .i64 a.k, .int .i64 a.n, .int .i64 a.p, strV a.t] 25 by rw [hwl]; exact BoxAt.new w91 [.int .i64 a.k, .int .i64 a.n, .int .i64 a.p, strV a.t] _)
        rw [← hwl]
        replace HL1 := Lib.hid (HL1.out.below hBl)
        replace HBk1 := Lib.hid (HBk1.out.trans (hBl.mono HBk1.out.size))
        clear hwl hBl
        have x0 := HX.out.cell 0 rfl
        have x1 := HX.out.cell 1 rfl
        have x2 := HX.out.cell 2 rfl
        have x3 := HX.out.cell 3 rfl
        have zx := HX.out.lt
        have hz2 := HBk1.out.size
        obtain ⟨vals, hv⟩ := HL1.out.valsOf
        have hvlt := hv.lt
        have HLv := Lib.hid hv
        clear hv HL1
        go_wp2_with (at_builtin; refine wpList_append_one rfl _ _ 32 rfl elemAct w.heap.size _ k vals rfl (by have h := (HLv.out.alloc (.cells #[.int .i64 a.k, .int .i64 a.n, .int .i64 a.p, strV a.t] 25)).own; rw [HKL.out] at h; exact h) w92.heap.size 25 [.int .i64 a.k, .int .i64 a.n, .int .i64 a.p, strV a.t] rfl (BoxAt.new w92 [.int .i64 a.k, .int .i64 a.n, .int .i64 a.p, strV a.t] _) rfl (by simp [Value.oneCell']) (by unfold maxLen; omega) (by omega) (by simp; omega) ?_; intro g cap6 w6 hown6 hgr6 hat6 hlt6)
        have hP := (HLv.out.alloc (.cells #[.int .i64 a.k, .int .i64 a.n, .int .i64 a.p, strV a.t] 25)).push (x := a) rfl (by rw [HKL.out]; exact hown6) hgr6 hat6
        rw [HKL.out, ← HSU.out] at hP
        have HP := Lib.hid hP
        have HB6 := Lib.hid ((HBk1.out.alloc hz2 (.cells #[.int .i64 a.k, .int .i64 a.n, .int .i64 a.p, strV a.t] 25)).grown hgr6 (by simp; omega) (fun k hk => by have := (hvlt _ hk).1; omega))
        clear hP hown6 hgr6 hat6
        go_wp2
        go_roundw
        case rel => exact ⟨k + 1, some ⟨g, 0, none⟩, cap6, by omega, by go_num, rfl, HP, HB6⟩
        case measure => simp [intOf]; omega
      · obtain rfl : k = l.length := by omega
        have k1 : ¬ ((l.length : Nat) : Int) < (l.length : Int) := by omega
        have HL5 := HL
        have HV2b := Lib.hid (HV2.out.below HBk.out (fun _ h => h))
        have HB5 := HBk
        obtain ⟨wo, rfl⟩ : ∃ wo : World, wo = wr := ⟨_, rfl⟩
        clear HL HBk
        obtain ⟨N2, hN⟩ : ∃ N2 : Nat, N2 = 12 := ⟨_, rfl⟩
        have N2a : N2 ≤ 12 := by omega
        have N2b : 12 ≤ N2 := by omega
        clear hN
        go_wp2_with fail
        go_loopw [6, 9] (fun o i wr => ∃ (k : Nat) (ado : Option Addr) (capo : Nat), k ≤ N2 ∧ i = .int .i64 k ∧ o = .slice ado k capo ∧ Hid (LstO RAct (fun _ => False) wo.heap.size 25 wr (.slice ado k capo) (actsL (m.take k))) ∧ Hid (Below wo.heap.size wo wr)) (fun _ i _ => N2 - (intOf i).toNat)
        case atStart => exact ⟨0, none, 0, Nat.zero_le _, rfl, rfl, Lib.hid (LstO.nil _ _ _ _ _), Lib.hid (Below.refl _ _)⟩
        case round =>
          obtain ⟨k, ado, capo, hk, rfl, rfl, HL, HBk⟩ := hrel
          have hzk := HBk.out.size
          by_cases hlt : k < N2
          · have k0 : (0 : Int) ≤ (k : Int) := by omega
            have k1 : (k : Int) < (m.length : Int) := by omega
            have k2 : (k : Int) < 12 := by omega
            have kl : k < m.length := by omega
            have wk : IntKind.i64.wrap ((k : Int) + 1) = (k : Int) + 1 := IntWalk.i64_in _ (by omega)
            have HSU := Lib.hid (actsL_succ kl)
            have HKL := Lib.hid (show (actsL (m.take k)).length = k by rw [actsL_len, List.length_take]; omega)
            obtain ⟨b, o, rfl, e0, e1, e2, e3, hfo⟩ := (HV2b.out.below HBk.out (fun _ h => h)).feat k kl
            generalize m[k] = f at *
            have HFO := Lib.hid hfo
            clear hfo
            go_wp2_with fail
            refine (act_any f _ HFO.out).mono ?_
            rintro e w91 ⟨rfl, hb1⟩
            have HBk1 := Lib.hid (HBk.out.trans (hb1.mono hzk))
            have HL1 := Lib.hid (HL.out.below hb1)
            have hz1 := HBk1.out.size
            generalize featA f = a at *
            clear hb1 e0 e1 e2 e3 HL HBk
            go_upto_region 12 with fail
            obtain ⟨w92, hwl⟩ : ∃ w92, w92 = (w91.alloc (.cells #[.int .i64 a.k, .int .i64 a.n, .int .i64 a.p, strV a.t] 25)) := ⟨_, rfl⟩
            have hBl : Below w91.heap.size w91 w92 := by rw [hwl]; exact ((Below.refl _ _).alloc (by first | exact Nat.le_refl _ | (simp; done) | (simp; omega)) _)
            have HX := Lib.hid (show BoxAt w92 w91.heap.size [.int .i64 a.k, .int .i64 a.n, .int .i64 a.p, strV a.t] 25 by rw [hwl]; exact BoxAt.new w91 [.int .i64 a.k, .int .i64 a.n, .int .i64 a.p, strV a.t] _)
            rw [← hwl]
            replace HL1 := Lib.hid (HL1.out.below hBl)
            replace HBk1 := Lib.hid (HBk1.out.trans (hBl.mono HBk1.out.size))
            clear hwl hBl
            have x0 := HX.out.cell 0 rfl
            have x1 := HX.out.cell 1 rfl
            have x2 := HX.out.cell 2 rfl
            have x3 := HX.out.cell 3 rfl
            have zx := HX.out.lt
            have hz2 := HBk1.out.size
            obtain ⟨vals, hv⟩ := HL1.out.valsOf
            have hvlt := hv.lt
            have HLv := Lib.hid hv
            clear hv HL1
            go_wp2_with (at_builtin; refine wpList_append_one rfl _ _ 32 rfl elemAct wo.heap.size _ k vals rfl (by have h := (HLv.out.alloc (.cells #[.int .i64 a.k, .int .i64 a.n, .int .i64 a.p, strV a.t] 25)).own; rw [HKL.out] at h; exact h) w92.heap.size 25 [.int .i64 a.k, .int .i64 a.n, .int .i64 a.p, strV a.t] rfl (BoxAt.new w92 [.int .i64 a.k, .int .i64 a.n, .int .i64 a.p, strV a.t] _) rfl (by simp [Value.oneCell']) (by unfold maxLen; omega) (by omega) (by simp; omega) ?_; intro g cap6 w6 hown6 hgr6 hat6 hlt6)
            have hP := (HLv.out.alloc (.cells #[.int .i64 a.k, .int .i64 a.n, .int .i64 a.p, strV a.t] 25)).push (x := a) rfl (by rw [HKL.out]; exact hown6) hgr6 hat6
            rw [HKL.out, ← HSU.out] at hP
            have HP := Lib.hid hP
            have HB6 := Lib.hid ((HBk1.out.alloc hz2 (.cells #[.int .i64 a.k, .int .i64 a.n, .int .i64 a.p, strV a.t] 25)).grown hgr6 (by simp; omega) (fun k hk => by have := (hvlt _ hk).1; omega))
            clear hP hown6 hgr6 hat6
            go_wp2
            go_roundw
            case rel => exact ⟨k + 1, some ⟨g, 0, none⟩, cap6, by omega, by go_num, rfl, HP, HB6⟩
            case measure => simp [intOf]; omega
          · obtain rfl : N2 = k := by omega
            have k1 : (N2 : Int) < (m.length : Int) := by omega
            have k2 : ¬ (N2 : Int) < 12 := by omega
            have HKA := Lib.hid (show (actsL (l.take l.length)).length = l.length by rw [actsL_len, List.length_take]; omega)
            have HKB := Lib.hid (show (actsL (m.take N2)).length = N2 by rw [actsL_len, List.length_take]; omega)
            have HOA := Lib.hid (actsL_ok (l.take l.length))
            have HOB := Lib.hid (actsL_ok (m.take N2))
            obtain ⟨wz, rfl⟩ : ∃ wz : World, wz = wr := ⟨_, rfl⟩
            generalize hla : actsL (l.take l.length) = la at *
            generalize hlb : actsL (m.take N2) = lb at *
            clear hla hlb
            obtain ⟨vals, hv⟩ := HL.out.valsOf
            have hvlt := hv.lt
            have HLv := Lib.hid hv
            clear hv HL
            go_wp2_with (at_builtin; refine wpList_append_one rfl _ _ 32 rfl elemAct wo.heap.size _ N2 vals rfl (by have h := (HLv.out.alloc (.cells #[.int .i64 10, .int .i64 0, .int .i64 0, .string ⟨#[]⟩] 25)).own; rw [HKB.out] at h; exact h) wz.heap.size 25 [.int .i64 10, .int .i64 0, .int .i64 0, .string ⟨#[]⟩] rfl (BoxAt.new wz [.int .i64 10, .int .i64 0, .int .i64 0, .string ⟨#[]⟩] _) rfl (by simp [Value.oneCell']) (by unfold maxLen; omega) (by omega) (by simp; omega) ?_; intro g cap6 w6 hown6 hgr6 hat6 hlt6)
            have hP := (HLv.out.alloc (.cells #[.int .i64 10, .int .i64 0, .int .i64 0, .string ⟨#[]⟩] 25)).push (x := flowA) rfl (by rw [HKB.out]; exact hown6) hgr6 hat6
            rw [HKB.out] at hP
            have HP := Lib.hid hP
            have HBk6 := Lib.hid ((HBk.out.alloc hzk (.cells #[.int .i64 10, .int .i64 0, .int .i64 0, .string ⟨#[]⟩] 25)).grown hgr6 (by simp; omega) (fun k hk => by have := (hvlt _ hk).1; omega))
            have HA := Lib.hid (HL5.out.below HBk6.out)
            have HB := Lib.hid (HB5.out.trans (HBk6.out.mono HB5.out.size))
            clear hP hown6 hgr6 hat6 HLv HBk6 HBk HL5 HB5
            have HSA := Lib.hid (showR_ok (l := la) (by rw [HKA.out]; omega) HOA.out)
            have HKC := Lib.hid (show (lb ++ [flowA]).length = N2 + 1 by rw [List.length_append, HKB.out]; rfl)
            have HOC := Lib.hid (show ∀ a ∈ lb ++ [flowA], lineCode a = 0 by
              intro a ha
              rcases List.mem_append.1 ha with h | h
              · exact HOB.out a h
              · obtain rfl := List.mem_singleton.1 h; exact flowA_ok)
            have HNE := Lib.hid (flowA_ne lb)
            generalize lb ++ [flowA] = lc at *
            have HSC := Lib.hid (showR_ok (l := lc) (by rw [HKC.out]; omega) HOC.out)
            have HSS := Lib.hid ((showR_ok (l := la ++ lc) (by rw [List.length_append, HKA.out, HKC.out]; omega) (fun a ha => (List.mem_append.1 ha).elim (HOA.out a) (HOC.out a))).trans (by rw [showL_append]))
            go_wp2_with fail
            refine (lshow_any _ _ (HA.out.rd (G' := fun _ => True) (by decide) (fun _ _ _ => trivial) (fun _ _ _ => trivial)) (HT.out.belowS HB.out)).mono ?_
            rintro e w7 ⟨rfl, hb_s⟩
            rw [HSA.out]
            replace HA := Lib.hid (HA.out.below hb_s)
            replace HP := Lib.hid (HP.out.below hb_s)
            replace HB := Lib.hid (HB.out.trans (hb_s.mono HB.out.size))
            clear hb_s
            go_wp2_with fail
            refine (lshow_any _ _ (HP.out.rd (G' := fun _ => True) (by decide) (fun _ _ _ => trivial) (fun _ _ _ => trivial)) (HT.out.belowS HB.out)).mono ?_
            rintro e w8 ⟨rfl, hb_s⟩
            rw [HSC.out]
            replace HA := Lib.hid (HA.out.below hb_s)
            replace HP := Lib.hid (HP.out.below hb_s)
            replace HB := Lib.hid (HB.out.trans (hb_s.mono HB.out.size))
            clear hb_s
            go_wp2_with (first | (at_builtin; refine wpList_append_sl rfl _ _ 32 rfl elemAct w8.heap.size (.slice none 0 0) rfl 0 [] (World.ownsRow_nil _ _ _ _) _ rfl la.length (la.flatMap actCells) (acts_sl (HA.out.rd (G' := fun _ => True) (by decide) (fun _ _ _ => trivial) (fun _ _ _ => trivial))) (acts_one la) (by rw [HKA.out]; unfold maxLen; omega) (by rw [HKA.out]; omega) (Nat.le_refl _) ?_; intro v9 w9 hown9 hgr9; rw [Nat.zero_add, List.nil_append] at hown9; have hb9 : Below w8.heap.size w8 w9 := (Below.refl _ _).grown hgr9 (Nat.le_refl _) (fun k hk => by simp [Value.ownBlock] at hk)) | (at_builtin; refine wpList_append_sl rfl _ _ 32 rfl elemAct w8.heap.size v9 rfl la.length _ hown9 _ rfl lc.length (lc.flatMap actCells) (acts_sl ((HP.out.below hb9).rd (G' := fun _ => True) (by decide) (fun _ _ _ => trivial) (fun _ _ _ => trivial))) (acts_one lc) (by rw [HKA.out, HKC.out]; unfold maxLen; omega) (by rw [HKA.out, HKC.out]; omega) hb9.size ?_; intro v10 w10 hown10 hgr10))
            have hb10 : Below w8.heap.size w8 w10 := hb9.grown hgr10 hb9.size (fun k hk => (hown9.lt k hk).1)
            rw [← List.length_append, ← List.flatMap_append] at hown10
            have HQ := Lib.hid (acts_lst hown10)
            replace HB := Lib.hid (HB.out.trans (hb10.mono HB.out.size))
            clear hown9 hown10 hgr9 hgr10 hb9 hb10 HA HP
            go_wp2_with fail
            refine (lshow_any _ _ (HQ.out.rd (G' := fun _ => True) (by decide) (fun _ _ _ => trivial) (fun _ _ _ => trivial)) (HT.out.belowS HB.out)).mono ?_
            rintro e w11 ⟨rfl, hb11⟩
            rw [HSS.out]
            replace HB := Lib.hid (HB.out.trans (hb11.mono HB.out.size))
            clear hb11 HQ
            have hl1 := showL_len HOA.out
            have hl2 := showL_len HOC.out
            rw [HKA.out] at hl1
            rw [HKC.out] at hl2
            have hne := HNE.out
            have hcl : ¬ 9223372036854775807 < (showL la).length + (showL lc).length := by omega
            have hcc := cat_toList (showL la) (showL lc)
            clear hl1 hl2
            generalize showL lc = sc at *
            generalize showL la = sa at *
            go_wp2
            go_ret
            exact ⟨rfl, HB.out⟩
  · obtain ⟨N1, hN⟩ : ∃ N1 : Nat, N1 = 12 := ⟨_, rfl⟩
    have N1a : N1 ≤ 12 := by omega
    have N1b : 12 ≤ N1 := by omega
    clear hN
    go_wp2_with fail
    go_loopw [5, 7] (fun o i wr => ∃ (k : Nat) (ado : Option Addr) (capo : Nat), k ≤ N1 ∧ i = .int .i64 k ∧ o = .slice ado k capo ∧ Hid (LstO RAct (fun _ => False) w.heap.size 25 wr (.slice ado k capo) (actsL (l.take k))) ∧ Hid (Below w.heap.size w wr)) (fun _ i _ => N1 - (intOf i).toNat)
    case atStart => exact ⟨0, none, 0, Nat.zero_le _, rfl, rfl, Lib.hid (LstO.nil _ _ _ _ _), Lib.hid (Below.refl _ _)⟩
    case round =>
      obtain ⟨k, ado, capo, hk, rfl, rfl, HL, HBk⟩ := hrel
      have hzk := HBk.out.size
      by_cases hlt : k < N1
      · have k0 : (0 : Int) ≤ (k : Int) := by omega
        have k1 : (k : Int) < (l.length : Int) := by omega
        have k2 : (k : Int) < 12 := by omega
        have kl : k < l.length := by omega
        have wk : IntKind.i64.wrap ((k : Int) + 1) = (k : Int) + 1 := IntWalk.i64_in _ (by omega)
        have HSU := Lib.hid (actsL_succ kl)
        have HKL := Lib.hid (show (actsL (l.take k)).length = k by rw [actsL_len, List.length_take]; omega)
        obtain ⟨b, o, rfl, e0, e1, e2, e3, hfo⟩ := (HV.out.below HBk.out (fun _ h => h)).feat k kl
        generalize l[k] = f at *
        have HFO := Lib.hid hfo
        clear hfo
        go_wp2_with fail
        refine (act_any f _ HFO.out).mono ?_
        rintro e w91 ⟨rfl, hb1⟩
        have HBk1 := Lib.hid (HBk.out.trans (hb1.mono hzk))
        have HL1 := Lib.hid (HL.out.below hb1)
        have hz1 := HBk1.out.size
        generalize featA f = a at *
        clear hb1 e0 e1 e2 e3 HL HBk
        go_upto_region 7 with fail
        obtain ⟨w92, hwl⟩ : ∃ w92, w92 = (w91.alloc (.cells #[.int .i64 a.k, .int .i64 a.n, .int .i64 a.p, strV a.t] 25)) := ⟨_, rfl⟩
        have hBl : Below w91.heap.size w91 w92 := by rw [hwl]; exact ((Below.refl _ _).alloc (by first | exact Nat.le_refl _ | (simp; done) | (simp; omega)) _)
        have HX := Lib.hid (show BoxAt w92 w91.heap.size [.int .i64 a.k, .int .i64 a.n, .int .i64 a.p, strV a.t] 25 by rw [hwl]; exact BoxAt.new w91 [.int .i64 a.k, .int .i64 a.n, .int .i64 a.p, strV a.t] _)
        rw [← hwl]
        replace HL1 := Lib.hid (HL1.out.below hBl)
        replace HBk1 := Lib.hid (HBk1.out.trans (hBl.mono HBk1.out.size))
        clear hwl hBl
        have x0 := HX.out.cell 0 rfl
        have x1 := HX.out.cell 1 rfl
        have x2 := HX.out.cell 2 rfl
        have x3 := HX.out.cell 3 rfl
        have zx := HX.out.lt
        have hz2 := HBk1.out.size
        obtain ⟨vals, hv⟩ := HL1.out.valsOf
        have hvlt := hv.lt
        have HLv := Lib.hid hv
        clear hv HL1
        go_wp2_with (at_builtin; refine wpList_append_one rfl _ _ 32 rfl elemAct w.heap.size _ k vals rfl (by have h := (HLv.out.alloc (.cells #[.int .i64 a.k, .int .i64 a.n, .int .i64 a.p, strV a.t] 25)).own; rw [HKL.out] at h; exact h) w92.heap.size 25 [.int .i64 a.k, .int .i64 a.n, .int .i64 a.p, strV a.t] rfl (BoxAt.new w92 [.int .i64 a.k, .int .i64 a.n, .int .i64 a.p, strV a.t] _) rfl (by simp [Value.oneCell']) (by unfold maxLen; omega) (by omega) (by simp; omega) ?_; intro g cap6 w6 hown6 hgr6 hat6 hlt6)
        have hP := (HLv.out.alloc (.cells #[.int .i64 a.k, .int .i64 a.n, .int .i64 a.p, strV a.t] 25)).push (x := a) rfl (by rw [HKL.out]; exact hown6) hgr6 hat6
        rw [HKL.out, ← HSU.out] at hP
        have HP := Lib.hid hP
        have HB6 := Lib.hid ((HBk1.out.alloc hz2 (.cells #[.int .i64 a.k, .int .i64 a.n, .int .i64 a.p, strV a.t] 25)).grown hgr6 (by simp; omega) (fun k hk => by have := (hvlt _ hk).1; omega))
        clear hP hown6 hgr6 hat6
        go_wp2
        go_roundw
        case rel => exact ⟨k + 1, some ⟨g, 0, none⟩, cap6, by omega, by go_num, rfl, HP, HB6⟩
        case measure => simp [intOf]; omega
      · obtain rfl : N1 = k := by omega
        have k1 : (N1 : Int) < (l.length : Int) := by omega
        have k2 : ¬ (N1 : Int) < 12 := by omega
        have HL5 := HL
        have HV2b := Lib.hid (HV2.out.below HBk.out (fun _ h => h))
        have HB5 := HBk
        obtain ⟨wo, rfl⟩ : ∃ wo : World, wo = wr := ⟨_, rfl⟩
        clear HL HBk
        go_wp2_with fail
        go_loopw [6, 9] (fun o i wr => ∃ (k : Nat) (ado : Option Addr) (capo : Nat), k ≤ m.length ∧ i = .int .i64 k ∧ o = .slice ado k capo ∧ Hid (LstO RAct (fun _ => False) wo.heap.size 25 wr (.slice ado k capo) (actsL (m.take k))) ∧ Hid (Below wo.heap.size wo wr)) (fun _ i _ => m.length - (intOf i).toNat)
        case atStart => exact ⟨0, none, 0, Nat.zero_le _, rfl, rfl, Lib.hid (LstO.nil _ _ _ _ _), Lib.hid (Below.refl _ _)⟩
        case round =>
          obtain ⟨k, ado, capo, hk, rfl, rfl, HL, HBk⟩ := hrel
          have hzk := HBk.out.size
          by_cases hlt : k < m.length
          · have k0 : (0 : Int) ≤ (k : Int) := by omega
            have k1 : (k : Int) < (m.length : Int) := by omega
            have k2 : (k : Int) < 12 := by omega
            have kl : k < m.length := by omega
            have wk : IntKind.i64.wrap ((k : Int) + 1) = (k : Int) + 1 := IntWalk.i64_in _ (by omega)
            have HSU := Lib.hid (actsL_succ kl)
            have HKL := Lib.hid (show (actsL (m.take k)).length = k by rw [actsL_len, List.length_take]; omega)
            obtain ⟨b, o, rfl, e0, e1, e2, e3, hfo⟩ := (HV2b.out.below HBk.out (fun _ h => h)).feat k kl
            generalize m[k] = f at *
            have HFO := Lib.hid hfo
            clear hfo
            go_wp2_with fail
            refine (act_any f _ HFO.out).mono ?_
            rintro e w91 ⟨rfl, hb1⟩
            have HBk1 := Lib.hid (HBk.out.trans (hb1.mono hzk))
            have HL1 := Lib.hid (HL.out.below hb1)
            have hz1 := HBk1.out.size
            generalize featA f = a at *
            clear hb1 e0 e1 e2 e3 HL HBk
            go_upto_region 12 with fail
            obtain ⟨w92, hwl⟩ : ∃ w92, w92 = (w91.alloc (.cells #[.int .i64 a.k, .int .i64 a.n, .int .i64 a.p, strV a.t] 25)) := ⟨_, rfl⟩
            have hBl : Below w91.heap.size w91 w92 := by rw [hwl]; exact ((Below.refl _ _).alloc (by first | exact Nat.le_refl _ | (simp; done) | (simp; omega)) _)
            have HX := Lib.hid (show BoxAt w92 w91.heap.size [.int .i64 a.k, .int .i64 a.n, .int .i64 a.p, strV a.t] 25 by rw [hwl]; exact BoxAt.new w91 [.int .i64 a.k, .int .i64 a.n, .int .i64 a.p, strV a.t] _)
            rw [← hwl]
            replace HL1 := Lib.hid (HL1.out.below hBl)
            replace HBk1 := Lib.hid (HBk1.out.trans (hBl.mono HBk1.out.size))
            clear hwl hBl
            have x0 := HX.out.cell 0 rfl
            have x1 := HX.out.cell 1 rfl
            have x2 := HX.out.cell 2 rfl
            have x3 := HX.out.cell 3 rfl
            have zx := HX.out.lt
            have hz2 := HBk1.out.size
            obtain ⟨vals, hv⟩ := HL1.out.valsOf
            have hvlt := hv.lt
            have HLv := Lib.hid hv
            clear hv HL1
            go_wp2_with (at_builtin; refine wpList_append_one rfl _ _ 32 rfl elemAct wo.heap.size _ k vals rfl (by have h := (HLv.out.alloc (.cells #[.int .i64 a.k, .int .i64 a.n, .int .i64 a.p, strV a.t] 25)).own; rw [HKL.out] at h; exact h) w92.heap.size 25 [.int .i64 a.k, .int .i64 a.n, .int .i64 a.p, strV a.t] rfl (BoxAt.new w92 [.int .i64 a.k, .int .i64 a.n, .int .i64 a.p, strV a.t] _) rfl (by simp [Value.oneCell']) (by unfold maxLen; omega) (by omega) (by simp; omega) ?_; intro g cap6 w6 hown6 hgr6 hat6 hlt6)
            have hP := (HLv.out.alloc (.cells #[.int .i64 a.k, .int .i64 a.n, .int .i64 a.p, strV a.t] 25)).push (x := a) rfl (by rw [HKL.out]; exact hown6) hgr6 hat6
            rw [HKL.out, ← HSU.out] at hP
            have HP := Lib.hid hP
            have HB6 := Lib.hid ((HBk1.out.alloc hz2 (.cells #[.int .i64 a.k, .int .i64 a.n, .int .i64 a.p, strV a.t] 25)).grown hgr6 (by simp; omega) (fun k hk => by have := (hvlt _ hk).1; omega))
            clear hP hown6 hgr6 hat6
            go_wp2
            go_roundw
            case rel => exact ⟨k + 1, some ⟨g, 0, none⟩, cap6, by omega, by go_num, rfl, HP, HB6⟩
            case measure => simp [intOf]; omega
          · obtain rfl : k = m.length := by omega
            have k1 : ¬ ((m.length : Nat) : Int) < (m.length : Int) := by omega
            have HKA := Lib.hid (show (actsL (l.take N1)).length = N1 by rw [actsL_len, List.length_take]; omega)
            have HKB := Lib.hid (show (actsL (m.take m.length)).length = m.length by rw [actsL_len, List.length_take]; omega)
            have HOA := Lib.hid (actsL_ok (l.take N1))
            have HOB := Lib.hid (actsL_ok (m.take m.length))
            obtain ⟨wz, rfl⟩ : ∃ wz : World, wz = wr := ⟨_, rfl⟩
            generalize hla : actsL (l.take N1) = la at *
            generalize hlb : actsL (m.take m.length) = lb at *
            clear hla hlb
            obtain ⟨vals, hv⟩ := HL.out.valsOf
            have hvlt := hv.lt
            have HLv := Lib.hid hv
            clear hv HL
            go_wp2_with (at_builtin; refine wpList_append_one rfl _ _ 32 rfl elemAct wo.heap.size _ m.length vals rfl (by have h := (HLv.out.alloc (.cells #[.int .i64 10, .int .i64 0, .int .i64 0, .string ⟨#[]⟩] 25)).own; rw [HKB.out] at h; exact h) wz.heap.size 25 [.int .i64 10, .int .i64 0, .int .i64 0, .string ⟨#[]⟩] rfl (BoxAt.new wz [.int .i64 10, .int .i64 0, .int .i64 0, .string ⟨#[]⟩] _) rfl (by simp [Value.oneCell']) (by unfold maxLen; omega) (by omega) (by simp; omega) ?_; intro g cap6 w6 hown6 hgr6 hat6 hlt6)
            have hP := (HLv.out.alloc (.cells #[.int .i64 10, .int .i64 0, .int .i64 0, .string ⟨#[]⟩] 25)).push (x := flowA) rfl (by rw [HKB.out]; exact hown6) hgr6 hat6
            rw [HKB.out] at hP
            have HP := Lib.hid hP
            have HBk6 := Lib.hid ((HBk.out.alloc hzk (.cells #[.int .i64 10, .int .i64 0, .int .i64 0, .string ⟨#[]⟩] 25)).grown hgr6 (by simp; omega) (fun k hk => by have := (hvlt _ hk).1; omega))
            have HA := Lib.hid (HL5.out.below HBk6.out)
            have HB := Lib.hid (HB5.out.trans (HBk6.out.mono HB5.out.size))
            clear hP hown6 hgr6 hat6 HLv HBk6 HBk HL5 HB5
            have HSA := Lib.hid (showR_ok (l := la) (by rw [HKA.out]; omega) HOA.out)
            have HKC := Lib.hid (show (lb ++ [flowA]).length = m.length + 1 by rw [List.length_append, HKB.out]; rfl)
            have HOC := Lib.hid (show ∀ a ∈ lb ++ [flowA], lineCode a = 0 by
              intro a ha
              rcases List.mem_append.1 ha with h | h
              · exact HOB.out a h
              · obtain rfl := List.mem_singleton.1 h; exact flowA_ok)
            have HNE := Lib.hid (flowA_ne lb)
            generalize lb ++ [flowA] = lc at *
            have HSC := Lib.hid (showR_ok (l := lc) (by rw [HKC.out]; omega) HOC.out)
            have HSS := Lib.hid ((showR_ok (l := la ++ lc) (by rw [List.length_append, HKA.out, HKC.out]; omega) (fun a ha => (List.mem_append.1 ha).elim (HOA.out a) (HOC.out a))).trans (by rw [showL_append]))
            go_wp2_with fail
            refine (lshow_any _ _ (HA.out.rd (G' := fun _ => True) (by decide) (fun _ _ _ => trivial) (fun _ _ _ => trivial)) (HT.out.belowS HB.out)).mono ?_
            rintro e w7 ⟨rfl, hb_s⟩
            rw [HSA.out]
            replace HA := Lib.hid (HA.out.below hb_s)
            replace HP := Lib.hid (HP.out.below hb_s)
            replace HB := Lib.hid (HB.out.trans (hb_s.mono HB.out.size))
            clear hb_s
            go_wp2_with fail
            refine (lshow_any _ _ (HP.out.rd (G' := fun _ => True) (by decide) (fun _ _ _ => trivial) (fun _ _ _ => trivial)) (HT.out.belowS HB.out)).mono ?_
            rintro e w8 ⟨rfl, hb_s⟩
            rw [HSC.out]
            replace HA := Lib.hid (HA.out.below hb_s)
            replace HP := Lib.hid (HP.out.below hb_s)
            replace HB := Lib.hid (HB.out.trans (hb_s.mono HB.out.size))
            clear hb_s
            go_wp2_with (first | (at_builtin; refine wpList_append_sl rfl _ _ 32 rfl elemAct w8.heap.size (.slice none 0 0) rfl 0 [] (World.ownsRow_nil _ _ _ _) _ rfl la.length (la.flatMap actCells) (acts_sl (HA.out.rd (G' := fun _ => True) (by decide) (fun _ _ _ => trivial) (fun _ _ _ => trivial))) (acts_one la) (by rw [HKA.out]; unfold maxLen; omega) (by rw [HKA.out]; omega) (Nat.le_refl _) ?_; intro v9 w9 hown9 hgr9; rw [Nat.zero_add, List.nil_append] at hown9; have hb9 : Below w8.heap.size w8 w9 := (Below.refl _ _).grown hgr9 (Nat.le_refl _) (fun k hk => by simp [Value.ownBlock] at hk)) | (at_builtin; refine wpList_append_sl rfl _ _ 32 rfl elemAct w8.heap.size v9 rfl la.length _ hown9 _ rfl lc.length (lc.flatMap actCells) (acts_sl ((HP.out.below hb9).rd (G' := fun _ => True) (by decide) (fun _ _ _ => trivial) (fun _ _ _ => trivial))) (acts_one lc) (by rw [HKA.out, HKC.out]; unfold maxLen; omega) (by rw [HKA.out, HKC.out]; omega) hb9.size ?_; intro v10 w10 hown10 hgr10))
            have hb10 : Below w8.heap.size w8 w10 := hb9.grown hgr10 hb9.size (fun k hk => (hown9.lt k hk).1)
            rw [← List.length_append, ← List.flatMap_append] at hown10
            have HQ := Lib.hid (acts_lst hown10)
            replace HB := Lib.hid (HB.out.trans (hb10.mono HB.out.size))
            clear hown9 hown10 hgr9 hgr10 hb9 hb10 HA HP
            go_wp2_with fail
            refine (lshow_any _ _ (HQ.out.rd (G' := fun _ => True) (by decide) (fun _ _ _ => trivial) (fun _ _ _ => trivial)) (HT.out.belowS HB.out)).mono ?_
            rintro e w11 ⟨rfl, hb11⟩
            rw [HSS.out]
            replace HB := Lib.hid (HB.out.trans (hb11.mono HB.out.size))
            clear hb11 HQ
            have hl1 := showL_len HOA.out
            have hl2 := showL_len HOC.out
            rw [HKA.out] at hl1
            rw [HKC.out] at hl2
            have hne := HNE.out
            have hcl : ¬ 9223372036854775807 < (showL la).length + (showL lc).length := by omega
            have hcc := cat_toList (showL la) (showL lc)
            clear hl1 hl2
            generalize showL lc = sc at *
            generalize showL la = sa at *
            go_wp2
            go_ret
            exact ⟨rfl, HB.out⟩
  · obtain ⟨N1, hN⟩ : ∃ N1 : Nat, N1 = 12 := ⟨_, rfl⟩
    have N1a : N1 ≤ 12 := by omega
    have N1b : 12 ≤ N1 := by omega
    clear hN
    go_wp2_with fail
    go_loopw [5, 7] (fun o i wr => ∃ (k : Nat) (ado : Option Addr) (capo : Nat), k ≤ N1 ∧ i = .int .i64 k ∧ o = .slice ado k capo ∧ Hid (LstO RAct (fun _ => False) w.heap.size 25 wr (.slice ado k capo) (actsL (l.take k))) ∧ Hid (Below w.heap.size w wr)) (fun _ i _ => N1 - (intOf i).toNat)
    case atStart => exact ⟨0, none, 0, Nat.zero_le _, rfl, rfl, Lib.hid (LstO.nil _ _ _ _ _), Lib.hid (Below.refl _ _)⟩
    case round =>
      obtain ⟨k, ado, capo, hk, rfl, rfl, HL, HBk⟩ := hrel
      have hzk := HBk.out.size
      by_cases hlt : k < N1
      · have k0 : (0 : Int) ≤ (k : Int) := by omega
        have k1 : (k : Int) < (l.length : Int) := by omega
        have k2 : (k : Int) < 12 := by omega
        have kl : k < l.length := by omega
        have wk : IntKind.i64.wrap ((k : Int) + 1) = (k : Int) + 1 := IntWalk.i64_in _ (by omega)
        have HSU := Lib.hid (actsL_succ kl)
        have HKL := Lib.hid (show (actsL (l.take k)).length = k by rw [actsL_len, List.length_take]; omega)
        obtain ⟨b, o, rfl, e0, e1, e2, e3, hfo⟩ := (HV.out.below HBk.out (fun _ h => h)).feat k kl
        generalize l[k] = f at *
        have HFO := Lib.hid hfo
        clear hfo
        go_wp2_with fail
        refine (act_any f _ HFO.out).mono ?_
        rintro e w91 ⟨rfl, hb1⟩
        have HBk1 := Lib.hid (HBk.out.trans (hb1.mono hzk))
        have HL1 := Lib.hid (HL.out.below hb1)
        have hz1 := HBk1.out.size
        generalize featA f = a at *
        clear hb1 e0 e1 e2 e3 HL HBk
        go_upto_region 7 with fail
        obtain ⟨w92, hwl⟩ : ∃ w92, w92 = (w91.alloc (.cells #[.int .i64 a.k, .int .i64 a.n, .int .i64 a.p, strV a.t] 25)) := ⟨_, rfl⟩
        have hBl : Below w91.heap.size w91 w92 := by rw [hwl]; exact ((Below.refl _ _).alloc (by first | exact Nat.le_refl _ | (simp; done) | (simp; omega)) _)
        have HX := Lib.hid (show BoxAt w92 w91.heap.size [.int .i64 a.k, .int .i64 a.n, .int .i64 a.p, strV a.t] 25 by rw [hwl]; exact BoxAt.new w91 [.int .i64 a.k, .int .i64 a.n, .int .i64 a.p, strV a.t] _)
        rw [← hwl]
        replace HL1 := Lib.hid (HL1.out.below hBl)
        replace HBk1 := Lib.hid (HBk1.out.trans (hBl.mono HBk1.out.size))
        clear hwl hBl
        have x0 := HX.out.cell 0 rfl
        have x1 := HX.out.cell 1 rfl
        have x2 := HX.out.cell 2 rfl
        have x3 := HX.out.cell 3 rfl
        have zx := HX.out.lt
        have hz2 := HBk1.out.size
        obtain ⟨vals, hv⟩ := HL1.out.valsOf
        have hvlt := hv.lt
        have HLv := Lib.hid hv
        clear hv HL1
        go_wp2_with (at_builtin; refine wpList_append_one rfl _ _ 32 rfl elemAct w.heap.size _ k vals rfl (by have h := (HLv.out.alloc (.cells #[.int .i64 a.k, .int .i64 a.n, .int .i64 a.p, strV a.t] 25)).own; rw [HKL.out] at h; exact h) w92.heap.size 25 [.int .i64 a.k, .int .i64 a.n, .int .i64 a.p, strV a.t] rfl (BoxAt.new w92 [.int .i64 a.k, .int .i64 a.n, .int .i64 a.p, strV a.t] _) rfl (by simp [Value.oneCell']) (by unfold maxLen; omega) (by omega) (by simp; omega) ?_; intro g cap6 w6 hown6 hgr6 hat6 hlt6)
        have hP := (HLv.out.alloc (.cells #[.int .i64 a.k, .int .i64 a.n, .int .i64 a.p, strV a.t] 25)).push (x := a) rfl (by rw [HKL.out]; exact hown6) hgr6 hat6
        rw [HKL.out, ← HSU.out] at hP
        have HP := Lib.hid hP
        have HB6 := Lib.hid ((HBk1.out.alloc hz2 (.cells #[.int .i64 a.k, .int .i64 a.n, .int .i64 a.p, strV a.t] 25)).grown hgr6 (by simp; omega) (fun k hk => by have := (hvlt _ hk).1; omega))
        clear hP hown6 hgr6 hat6
        go_wp2
        go_roundw
        case rel => exact ⟨k + 1, some ⟨g, 0, none⟩, cap6, by omega, by go_num, rfl, HP, HB6⟩
        case measure => simp [intOf]; omega
      · obtain rfl : N1 = k := by omega
        have k1 : (N1 : Int) < (l.length : Int) := by omega
        have k2 : ¬ (N1 : Int) < 12 := by omega
        have HL5 := HL
        have HV2b := Lib.hid (HV2.out.below HBk.out (fun _ h => h))
        have HB5 := HBk
        obtain ⟨wo, rfl⟩ : ∃ wo : World, wo = wr := ⟨_, rfl⟩
        clear HL HBk
        obtain ⟨N2, hN⟩ : ∃ N2 : Nat, N2 = 12 := ⟨_, rfl⟩
        have N2a : N2 ≤ 12 := by omega
        have N2b : 12 ≤ N2 := by omega
        clear hN
        go_wp2_with fail
        go_loopw [6, 9] (fun o i wr => ∃ (k : Nat) (ado : Option Addr) (capo : Nat), k ≤ N2 ∧ i = .int .i64 k ∧ o = .slice ado k capo ∧ Hid (LstO RAct (fun _ => False) wo.heap.size 25 wr (.slice ado k capo) (actsL (m.take k))) ∧ Hid (Below wo.heap.size wo wr)) (fun _ i _ => N2 - (intOf i).toNat)
        case atStart => exact ⟨0, none, 0, Nat.zero_le _, rfl, rfl, Lib.hid (LstO.nil _ _ _ _ _), Lib.hid (Below.refl _ _)⟩
        case round =>
          obtain ⟨k, ado, capo, hk, rfl, rfl, HL, HBk⟩ := hrel
          have hzk := HBk.out.size
          by_cases hlt : k < N2
          · have k0 : (0 : Int) ≤ (k : Int) := by omega
            have k1 : (k : Int) < (m.length : Int) := by omega
            have k2 : (k : Int) < 12 := by omega
            have kl : k < m.length := by omega
            have wk : IntKind.i64.wrap ((k : Int) + 1) = (k : Int) + 1 := IntWalk.i64_in _ (by omega)
            have HSU := Lib.hid (actsL_succ kl)
            have HKL := Lib.hid (show (actsL (m.take k)).length = k by rw [actsL_len, List.length_take]; omega)
            obtain ⟨b, o, rfl, e0, e1, e2, e3, hfo⟩ := (HV2b.out.below HBk.out (fun _ h => h)).feat k kl
            generalize m[k] = f at *
            have HFO := Lib.hid hfo
            clear hfo
            go_wp2_with fail
            refine (act_any f _ HFO.out).mono ?_
            rintro e w91 ⟨rfl, hb1⟩
            have HBk1 := Lib.hid (HBk.out.trans (hb1.mono hzk))
            have HL1 := Lib.hid (HL.out.below hb1)
            have hz1 := HBk1.out.size
            generalize featA f = a at *
            clear hb1 e0 e1 e2 e3 HL HBk
            go_upto_region 12 with fail
            obtain ⟨w92, hwl⟩ : ∃ w92, w92 = (w91.alloc (.cells #[.int .i64 a.k, .int .i64 a.n, .int .i64 a.p, strV a.t] 25)) := ⟨_, rfl⟩
            have hBl : Below w91.heap.size w91 w92 := by rw [hwl]; exact ((Below.refl _ _).alloc (by first | exact Nat.le_refl _ | (simp; done) | (simp; omega)) _)
            have HX := Lib.hid (show BoxAt w92 w91.heap.size [.int .i64 a.k, .int .i64 a.n, .int .i64 a.p, strV a.t] 25 by rw [hwl]; exact BoxAt.new w91 [.int .i64 a.k, .int .i64 a.n, .int .i64 a.p, strV a.t] _)
            rw [← hwl]
            replace HL1 := Lib.hid (HL1.out.below hBl)
            replace HBk1 := Lib.hid (HBk1.out.trans (hBl.mono HBk1.out.size))
            clear hwl hBl
            have x0 := HX.out.cell 0 rfl
            have x1 := HX.out.cell 1 rfl
            have x2 := HX.out.cell 2 rfl
            have x3 := HX.out.cell 3 rfl
            have zx := HX.out.lt
            have hz2 := HBk1.out.size
            obtain ⟨vals, hv⟩ := HL1.out.valsOf
            have hvlt := hv.lt
            have HLv := Lib.hid hv
            clear hv HL1
            go_wp2_with (at_builtin; refine wpList_append_one rfl _ _ 32 rfl elemAct wo.heap.size _ k vals rfl (by have h := (HLv.out.alloc (.cells #[.int .i64 a.k, .int .i64 a.n, .int .i64 a.p, strV a.t] 25)).own; rw [HKL.out] at h; exact h) w92.heap.size 25 [.int .i64 a.k, .int .i64 a.n, .int .i64 a.p, strV a.t] rfl (BoxAt.new w92 [.int .i64 a.k, .int .i64 a.n, .int .i64 a.p, strV a.t] _) rfl (by simp [Value.oneCell']) (by unfold maxLen; omega) (by omega) (by simp; omega) ?_; intro g cap6 w6 hown6 hgr6 hat6 hlt6)
            have hP := (HLv.out.alloc (.cells #[.int .i64 a.k, .int .i64 a.n, .int .i64 a.p, strV a.t] 25)).push (x := a) rfl (by rw [HKL.out]; exact hown6) hgr6 hat6
            rw [HKL.out, ← HSU.out] at hP
            have HP := Lib.hid hP
            have HB6 := Lib.hid ((HBk1.out.alloc hz2 (.cells #[.int .i64 a.k, .int .i64 a.n, .int .i64 a.p, strV a.t] 25)).grown hgr6 (by simp; omega) (fun k hk => by have := (hvlt _ hk).1; omega))
            clear hP hown6 hgr6 hat6
            go_wp2
            go_roundw
            case rel => exact ⟨k + 1, some ⟨g, 0, none⟩, cap6, by omega, by go_num, rfl, HP, HB6⟩
            case measure => simp [intOf]; omega
          · obtain rfl : N2 = k := by omega
            have k1 : (N2 : Int) < (m.length : Int) := by omega
            have k2 : ¬ (N2 : Int) < 12 := by omega
            have HKA := Lib.hid (show (actsL (l.take N1)).length = N1 by rw [actsL_len, List.length_take]; omega)
            have HKB := Lib.hid (show (actsL (m.take N2)).length = N2 by rw [actsL_len, List.length_take]; omega)
            have HOA := Lib.hid (actsL_ok (l.take N1))
            have HOB := Lib.hid (actsL_ok (m.take N2))
            obtain ⟨wz, rfl⟩ : ∃ wz : World, wz = wr := ⟨_, rfl⟩
            generalize hla : actsL (l.take N1) = la at *
            generalize hlb : actsL (m.take N2) = lb at *
            clear hla hlb
            obtain ⟨vals, hv⟩ := HL.out.valsOf
            have hvlt := hv.lt
            have HLv := Lib.hid hv
            clear hv HL
            go_wp2_with (at_builtin; refine wpList_append_one rfl _ _ 32 rfl elemAct wo.heap.size _ N2 vals rfl (by have h := (HLv.out.alloc (.cells #[.int .i64 10, .int .i64 0, .int .i64 0, .string ⟨#[]⟩] 25)).own; rw [HKB.out] at h; exact h) wz.heap.size 25 [.int .i64 10, .int .i64 0, .int .i64 0, .string ⟨#[]⟩] rfl (BoxAt.new wz [.int .i64 10, .int .i64 0, .int .i64 0, .string ⟨#[]⟩] _) rfl (by simp [Value.oneCell']) (by unfold maxLen; omega) (by omega) (by simp; omega) ?_; intro g cap6 w6 hown6 hgr6 hat6 hlt6)
            have hP := (HLv.out.alloc (.cells #[.int .i64 10, .int .i64 0, .int .i64 0, .string ⟨#[]⟩] 25)).push (x := flowA) rfl (by rw [HKB.out]; exact hown6) hgr6 hat6
            rw [HKB.out] at hP
            have HP := Lib.hid hP
            have HBk6 := Lib.hid ((HBk.out.alloc hzk (.cells #[.int .i64 10, .int .i64 0, .int .i64 0, .string ⟨#[]⟩] 25)).grown hgr6 (by simp; omega) (fun k hk => by have := (hvlt _ hk).1; omega))
            have HA := Lib.hid (HL5.out.below HBk6.out)
            have HB := Lib.hid (HB5.out.trans (HBk6.out.mono HB5.out.size))
            clear hP hown6 hgr6 hat6 HLv HBk6 HBk HL5 HB5
            have HSA := Lib.hid (showR_ok (l := la) (by rw [HKA.out]; omega) HOA.out)
            have HKC := Lib.hid (show (lb ++ [flowA]).length = N2 + 1 by rw [List.length_append, HKB.out]; rfl)
            have HOC := Lib.hid (show ∀ a ∈ lb ++ [flowA], lineCode a = 0 by
              intro a ha
              rcases List.mem_append.1 ha with h | h
              · exact HOB.out a h
              · obtain rfl := List.mem_singleton.1 h; exact flowA_ok)
            have HNE := Lib.hid (flowA_ne lb)
            generalize lb ++ [flowA] = lc at *
            have HSC := Lib.hid (showR_ok (l := lc) (by rw [HKC.out]; omega) HOC.out)
            have HSS := Lib.hid ((showR_ok (l := la ++ lc) (by rw [List.length_append, HKA.out, HKC.out]; omega) (fun a ha => (List.mem_append.1 ha).elim (HOA.out a) (HOC.out a))).trans (by rw [showL_append]))
            go_wp2_with fail
            refine (lshow_any _ _ (HA.out.rd (G' := fun _ => True) (by decide) (fun _ _ _ => trivial) (fun _ _ _ => trivial)) (HT.out.belowS HB.out)).mono ?_
            rintro e w7 ⟨rfl, hb_s⟩
            rw [HSA.out]
            replace HA := Lib.hid (HA.out.below hb_s)
            replace HP := Lib.hid (HP.out.below hb_s)
            replace HB := Lib.hid (HB.out.trans (hb_s.mono HB.out.size))
            clear hb_s
            go_wp2_with fail
            refine (lshow_any _ _ (HP.out.rd (G' := fun _ => True) (by decide) (fun _ _ _ => trivial) (fun _ _ _ => trivial)) (HT.out.belowS HB.out)).mono ?_
            rintro e w8 ⟨rfl, hb_s⟩
            rw [HSC.out]
            replace HA := Lib.hid (HA.out.below hb_s)
            replace HP := Lib.hid (HP.out.below hb_s)
            replace HB := Lib.hid (HB.out.trans (hb_s.mono HB.out.size))
            clear hb_s
            go_wp2_with (first | (at_builtin; refine wpList_append_sl rfl _ _ 32 rfl elemAct w8.heap.size (.slice none 0 0) rfl 0 [] (World.ownsRow_nil _ _ _ _) _ rfl la.length (la.flatMap actCells) (acts_sl (HA.out.rd (G' := fun _ => True) (by decide) (fun _ _ _ => trivial) (fun _ _ _ => trivial))) (acts_one la) (by rw [HKA.out]; unfold maxLen; omega) (by rw [HKA.out]; omega) (Nat.le_refl _) ?_; intro v9 w9 hown9 hgr9; rw [Nat.zero_add, List.nil_append] at hown9; have hb9 : Below w8.heap.size w8 w9 := (Below.refl _ _).grown hgr9 (Nat.le_refl _) (fun k hk => by simp [Value.ownBlock] at hk)) | (at_builtin; refine wpList_append_sl rfl _ _ 32 rfl elemAct w8.heap.size v9 rfl la.length _ hown9 _ rfl lc.length (lc.flatMap actCells) (acts_sl ((HP.out.below hb9).rd (G' := fun _ => True) (by decide) (fun _ _ _ => trivial) (fun _ _ _ => trivial))) (acts_one lc) (by rw [HKA.out, HKC.out]; unfold maxLen; omega) (by rw [HKA.out, HKC.out]; omega) hb9.size ?_; intro v10 w10 hown10 hgr10))
            have hb10 : Below w8.heap.size w8 w10 := hb9.grown hgr10 hb9.size (fun k hk => (hown9.lt k hk).1)
            rw [← List.length_append, ← List.flatMap_append] at hown10
            have HQ := Lib.hid (acts_lst hown10)
            replace HB := Lib.hid (HB.out.trans (hb10.mono HB.out.size))
            clear hown9 hown10 hgr9 hgr10 hb9 hb10 HA HP
            go_wp2_with fail
            refine (lshow_any _ _ (HQ.out.rd (G' := fun _ => True) (by decide) (fun _ _ _ => trivial) (fun _ _ _ => trivial)) (HT.out.belowS HB.out)).mono ?_
            rintro e w11 ⟨rfl, hb11⟩
            rw [HSS.out]
            replace HB := Lib.hid (HB.out.trans (hb11.mono HB.out.size))
            clear hb11 HQ
            have hl1 := showL_len HOA.out
            have hl2 := showL_len HOC.out
            rw [HKA.out] at hl1
            rw [HKC.out] at hl2
            have hne := HNE.out
            have hcl : ¬ 9223372036854775807 < (showL la).length + (showL lc).length := by omega
            have hcc := cat_toList (showL la) (showL lc)
            clear hl1 hl2
            generalize showL lc = sc at *
            generalize showL la = sa at *
            go_wp2
            go_ret
            exact ⟨rfl, HB.out⟩
end Go.Proofs.YtodcebhfkmlmgaaDoor
