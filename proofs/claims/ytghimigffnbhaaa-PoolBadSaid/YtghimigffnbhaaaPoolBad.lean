/- PoolBad: the walk. -/
import Derived.Test.YtghimigffnbhaaaSealLast
import Derived.Test.YtghimigffnbhaaaLst2
import Derived.Deep.RegionLaw
import Derived.Deep.DeepCutAuto
import Derived.Deep.CutBlock
set_option linter.unusedVariables false
set_option linter.unusedSimpArgs false
namespace Go.Proofs.Ytghimigffnbhaaa
open Go Go.RowKit

theorem addCode_bad {n : Int} {l : List (List UInt8)} (t : List UInt8) (h : poolOk n l = false) : addCode n l t = 12 := by unfold addCode; rw [if_pos h]
theorem sealCode_bad {n : Int} {l : List (List UInt8)} (a : Int) (h : poolOk n l = false) : sealCode n l a = 12 := by unfold sealCode; rw [if_pos h]
theorem poolCode_bad {n : Int} {l : List (List UInt8)} (h : poolOk n l = false) : poolCode n l = 12 := by unfold poolCode; rw [h]; rfl
theorem poolOk_0 (l : List (List UInt8)) : poolOk 0 l = false := by unfold poolOk; simp
theorem poolOk_big (l : List (List UInt8)) : poolOk 1048578 l = false := by unfold poolOk; simp
theorem poolOk_twice {n : Int} {l : List (List UInt8)} (h : 0 < l.length) : poolOk n (l ++ [l[0]]) = false := by
  unfold poolOk
  simp only [decide_eq_false_iff_not]
  rintro ⟨-, -, -, -, hd⟩
  rw [List.nodup_append] at hd
  exact hd.2.2 l[0] (List.getElem_mem h) l[0] (by simp) rfl
theorem poolOk_empty (n : Int) : poolOk n [[]] = false := by unfold poolOk; simp [txOk]


theorem appStepA {w5 wx w9 : World} {g9 cap9 n : Nat} {T : TypeId} {vals : List Value} (hx : Below w5.heap.size w5 wx) (hown : w9.ownsRow w5.heap.size T 1 (.slice (some ⟨g9, 0, none⟩) (0 + n) cap9) (0 + n) ([] ++ vals))
    (hgr : wx.grownBy w9 (Value.slice none 0 0).ownBlock) : w9.ownsRow w5.heap.size T 1 (.slice (some ⟨g9, 0, none⟩) n cap9) n vals ∧ Below w5.heap.size w5 w9 := by
  simp only [Nat.zero_add, List.nil_append] at hown
  exact ⟨hown, hx.grown hgr hx.size (by simp [Value.ownBlock])⟩
theorem appStepB {w5 w9 wy w10 : World} {v9 : Value} {n g10 cap10 : Nat} {T : TypeId} {P : List (List UInt8)} {x : List UInt8} (hn : P.length = n) (hy : Below w9.heap.size w9 wy) (hb9 : Below w5.heap.size w5 w9) (hO : w9.ownsRow w5.heap.size T 1 v9 n (P.map fun s => strV s))
    (hown : w10.ownsRow w5.heap.size T 1 (.slice (some ⟨g10, 0, none⟩) (n + 1) cap10) (n + 1) ((P.map fun s => strV s) ++ [strV x])) (hgr : wy.grownBy w10 v9.ownBlock) :
    RdT (fun b => w5.heap.size ≤ b) w10 (.slice (some ⟨g10, 0, none⟩) (n + 1) cap10) (P ++ [x]) ∧ Below w5.heap.size w5 w10 := by
  have hby := hb9.trans (hy.mono hb9.size)
  exact ⟨RdS.of_owns (n := n + 1) (by simpa using hown) (fun _ h => h), hby.grown hgr hby.size (fun k hk => (hO.lt k hk).1)⟩

set_option maxRecDepth 100000 in
set_option maxHeartbeats 8000000 in
theorem poolBad_case (which q : Int) (hq : pickedZ which 4 = q) (hqc : q = 0 ∨ q = 1 ∨ q = 2 ∨ q = 3) (v : Value) (l : List (List UInt8)) (w : World) (h : RdT (fun _ => True) w v l) (hl : ∀ t ∈ l, t.length ≤ 9223372036854775807)
    (h1 : -9223372036854775808 ≤ which) (h2 : which ≤ 9223372036854775807) (hz : l.length * 16 ≤ reachBytes) :
    Calls Try.prog 8 #[v, .int .i64 which] w fun e w' => e = .returned (.bool true) ∧ Below w.heap.size w w' := by
  have hz' : l.length * 16 ≤ 140737488351232 := hz
  have HQ := Lib.hid hq
  clear hq hz
  go_enter Try.func8, Try.ntmps8
  go_wp2_with (at_builtin; refine wpList_append_sl rfl _ _ 29 rfl elemT w.heap.size _ rfl 1 [strV [97]] (by exact lit_owns _ _ _) _ rfl l.length (l.map (fun s => strV s)) (by exact RdS.slCells (h.keep (Keep.alloc _ _ _) (fun _ h => h))) (oneCell_map _ _ (fun _ => rfl)) (by unfold maxLen; omega) (by omega) (by simp) ?_; intro v3 w3 hown3 hgr3)
  have hB3 : Below w.heap.size w w3 := ((Below.refl _ w).alloc (Nat.le_refl _) _).grown hgr3 (by simp) (fun k hk => ownBlock_ge (lit_owns w (strV [97]) 9) k hk)
  have hV : RdT (fun b => w.heap.size ≤ b) w3 v3 ([97] :: l) := RdS.of_owns (n := 1 + l.length) (by simpa using hown3) (fun _ h => h)
  clear hown3 hgr3
  have hs3 : ∀ t ∈ ([97] :: l), t.length ≤ 9223372036854775807 := fun t ht => by
    rcases List.mem_cons.1 ht with rfl | ht
    · decide
    · exact hl t ht
  have K := kpool_any v3 3 w3 hV hs3 (by decide) (by decide)
  rw [show (1 : Int) + pickedZ 3 99 = 4 by rw [picked_3_99]; rfl] at K
  have hm := poolFold_a (n := 4) (by decide) (by decide) l
  have hok := poolFold_ok (n := 4) (([97] :: l).take 30) (by decide) (by decide)
  generalize poolFold 4 (([97] :: l).take 30) = P at *
  have hlen : P.length ≠ 0 := fun e => by rw [List.eq_nil_of_length_eq_zero e] at hm; simp at hm
  have hl40 : P.length ≤ 40 := by unfold poolOk at hok; simp only [decide_eq_true_eq] at hok; exact hok.2.2.1
  have HPC := Lib.hid (show poolCode 4 P = 0 by unfold poolCode; rw [hok]; rfl)
  have i0 : ((P.length : Int) == 0) = false := by rw [beq_eq_false_iff_ne]; omega
  have i1 : 0 < P.length := by omega
  have HK := Lib.hid K
  clear K hm hok hV hs3
  refine HK.out.mono ?_
  rintro e w4 ⟨v4, rfl, hP, hb4⟩
  obtain ⟨ad4, cap4, rfl, -, -⟩ := hP.form
  have HP4 := Lib.hid (hP.low (by decide))
  have hB4 := hB3.trans (hb4.mono hB3.size)
  have z4 := hB4.size
  clear hP hb4
  go_wp2_with fail
  refine (pcheck_any _ _ _ (HP4.out.keep (Keep.alloc _ _ _) (fun _ h => h))).mono ?_
  rintro e w5 ⟨rfl, hb5⟩
  rw [HPC.out]
  have hb5' : Below w4.heap.size w4 w5 := ((Below.refl _ _).alloc (Nat.le_refl _) _).trans (hb5.mono (by simp))
  have bp := (BoxAt.new w4 [.int .i64 4, .slice ad4 P.length cap4] 31).belowS hb5
  have HP5 := Lib.hid (HP4.out.below hb5' (fun _ h => h))
  have HB5 := Lib.hid (hB4.trans (hb5'.mono z4))
  have p0 := bp.cell 0 rfl
  have p1 := bp.cell 1 rfl
  have pf0 := bp.free 0
  have pf1 := bp.free 1
  have zp := bp.lt
  have z5 := HB5.out.size
  clear hb5 hb5' hB4 hB3
  obtain ⟨b, o, rfl, -, hc0⟩ := HP5.out.cell 0 i1
  simp only [Nat.add_zero] at hc0
  have zb := World.block_lt_of_cell? _ _ hc0
  simp only at zb
  have HSL := Lib.hid (RdS.slCells HP5.out)
  go_upto_block 0 with (go_at_call 16; refine (picked_any _ _ _ h1 h2 (by omega) (by omega)).mono ?_; rintro e w' ⟨rfl, rfl⟩; rw [HQ.out])
  go_cut [] (fun wx => ∃ (n6 : Int) (P6 : List (List UInt8)) (ad6 : Option Addr) (cap6 : Nat), BoxAt wx w4.heap.size [.int .i64 n6, .slice ad6 P6.length cap6] 31 ∧ RdT (fun b => b ≠ w4.heap.size) wx (.slice ad6 P6.length cap6) P6 ∧ poolOk n6 P6 = false ∧ Below w.heap.size w wx)
  case first =>
    rcases hqc with e | e | e | e
    · have e0 : (q == 0) = true := by rw [e]; rfl
      clear e
      go_wp2
      go_meet
      exact ⟨0, P, some ⟨b, o, none⟩, cap4, bp.set 0 _, HP5.out.keep (Keep.setCell (by simp) _) (fun b hb => by have := hb.2; omega), poolOk_0 P, HB5.out.setCell (by simp; omega) _⟩
    · have e0 : (q == 0) = false := by rw [e]; rfl
      have e1 : (q == 1) = true := by rw [e]; rfl
      clear e
      go_wp2
      go_meet
      exact ⟨1048578, P, some ⟨b, o, none⟩, cap4, bp.set 0 _, HP5.out.keep (Keep.setCell (by simp) _) (fun b hb => by have := hb.2; omega), poolOk_big P, HB5.out.setCell (by simp; omega) _⟩
    · have e0 : (q == 0) = false := by rw [e]; rfl
      have e1 : (q == 1) = false := by rw [e]; rfl
      have e2 : (q == 2) = true := by rw [e]; rfl
      clear e
      go_wp2_with fail
      go_region_law
        (first
          | ((refine step_append_oneG (by rfl) _ _ _ (by rfl) elemT w5.heap.size (.slice (some ⟨g9, 0, none⟩) P.length cap9) P.length (P.map fun s => strV s) (by rfl) (by first | exact HO9.out | exact HO9.out.alloc _) _ 9 [strV P[0]] (by rfl) (by first | exact HBL9.out | exact BoxAt.new _ [_] _) rfl (by simp [Value.oneCell']) (by unfold maxLen; omega) (by omega) (by first | omega | (simp; omega)) ?_; intro g10 cap10 w10 hown10 hgr10 hat10 hlt10;
              obtain ⟨hR10, hb10⟩ := appStepB (P := P) rfl (by first | exact Below.refl _ _ | exact (Below.refl _ _).alloc (Nat.le_refl _) _) HB9.out HO9.out hown10 hgr10; have HR10 := Lib.hid hR10; have HB10 := Lib.hid hb10; have t0 := ((bcellAt hb10 _ zp).1 0).trans p0; have t1 := ((bcellAt hb10 _ zp).1 1).trans p1; have tf1 := ((bcellAt hb10 _ zp).2 1).trans pf1; clear hown10 hgr10 hat10 hR10 hb10))
          | ((refine step_append_at1 (by rfl) _ _ _ (by rfl) elemT w5.heap.size (.slice none 0 0) 0 [] (by rfl) (by exact World.ownsRow_nil _ _ _ _) _ P.length (P.map fun s => strV s) (by rfl) (by first | exact HSL.out | exact HSL.out.drew | exact HSL.out.below ((Below.refl _ _).alloc (Nat.le_refl _) _) | exact HSL.out.below ((Below.refl _ _).drew.alloc (Nat.le_refl _) _)) (oneCell_map _ _ (fun _ => rfl)) i1 (by unfold maxLen; omega) (by omega) (by first | omega | (simp; done) | (simp; omega)) ?_; intro g9 cap9 w9 hown9 hgr9 hat9 hlt9;
              obtain ⟨hO9, hb9⟩ := appStepA (by first | exact Below.refl _ _ | exact (Below.refl _ _).drew | exact (Below.refl _ _).alloc (Nat.le_refl _) _ | exact (Below.refl _ _).drew.alloc (Nat.le_refl _) _) hown9 hgr9; (try (have HBL9 := Lib.hid ((BoxAt.new w5 [strV P[0]] 9).grown hgr9 (by simp [Value.ownBlock])))); (try (have HBL9 := Lib.hid ((BoxAt.new w5.drew [strV P[0]] 9).grown hgr9 (by simp [Value.ownBlock])))); have HO9 := Lib.hid hO9; have HB9 := Lib.hid hb9; have s0 := ((bcellAt hb9 _ zp).1 0).trans p0; have s1 := ((bcellAt hb9 _ zp).1 1).trans p1; have sf1 := ((bcellAt hb9 _ zp).2 1).trans pf1; have sc := ((bcellAt hb9 _ zb).1 o).trans hc0; have z9 := hb9.size; clear hown9 hgr9 hat9 hO9 hb9)))
      all_goals
        have bp10 := bp.belowS HB10.out
        have zz := HB10.out.size
        go_wp2_with fail
        go_meet
        refine ⟨4, P ++ [P[0]], some ⟨g10, 0, none⟩, cap10, ?_, ?_, poolOk_twice i1, ?_⟩
        · rw [List.length_append]; exact bp10.set 1 _
        · rw [List.length_append]; exact HR10.out.keep (Keep.setCell (by simp; omega) _) (fun b hb => by omega)
        · exact (HB5.out.trans (HB10.out.mono HB5.out.size)).setCell (by simp; omega) _
    · have e0 : (q == 0) = false := by rw [e]; rfl
      have e1 : (q == 1) = false := by rw [e]; rfl
      have e2 : (q == 2) = false := by rw [e]; rfl
      clear e
      go_wp2
      go_meet
      refine ⟨4, [[]], some ⟨w5.heap.size, 0, none⟩, 1, ?_, ?_, poolOk_empty 4, ?_⟩
      · exact (bp.set 1 _).alloc _
      · have := lit_owns (w5.setCell ⟨w4.heap.size, 1, none⟩ (.slice (some ⟨w5.heap.size, 0, none⟩) 1 1)) (strV []) 9
        exact RdS.of_owns (base := w5.heap.size) (l := [[]]) (n := 1) (by simpa using this) (fun b hb => by omega)
      · exact (HB5.out.setCell (by simp; omega) _).alloc (by simp; omega) _
  case rest =>
    obtain ⟨n6, P6, ad6, cap6, bq, hr6, hbad, hB6⟩ := hcut
    have HR6 := Lib.hid hr6
    have HB6 := Lib.hid hB6
    have HBAD := Lib.hid hbad
    have p0 := bq.cell 0 rfl
    have p1 := bq.cell 1 rfl
    have z6 := bq.lt
    have z7 := hB6.size
    clear hr6 hB6 hbad
    go_wp2_with fail
    refine (padd_no (addCode_bad _ HBAD.out) (by decide) HR6.out).mono ?_
    rintro e w7 ⟨ad7, cap7, rfl, hb7⟩
    have bq7 := bq.belowS hb7
    have HR7 := Lib.hid (HR6.out.below hb7 (fun _ h => h))
    have HB7 := Lib.hid (HB6.out.trans (hb7.mono HB6.out.size))
    clear p0 p1 hb7
    have p0 := bq7.cell 0 rfl
    have p1 := bq7.cell 1 rfl
    have y7 := bq7.lt
    go_wp2_with fail
    refine (pseal_no (HR7.out.keep (Keep.alloc _ _ _) (fun _ h => h)) (sealCode_bad _ HBAD.out) (by decide)).mono ?_
    rintro e w8 ⟨rfl, hb8⟩
    have bq8 := (bq7.alloc _).belowS hb8
    have hb8' : Below w7.heap.size w7 w8 := ((Below.refl _ _).alloc (Nat.le_refl _) _).trans (hb8.mono (by simp))
    have HR8 := Lib.hid (HR7.out.below hb8' (fun _ h => h))
    have HB8 := Lib.hid (HB7.out.trans (hb8'.mono HB7.out.size))
    clear p0 p1 hb8 hb8'
    have p0 := bq8.cell 0 rfl
    have p1 := bq8.cell 1 rfl
    have y8 := bq8.lt
    go_wp2_with fail
    refine (pcheck_any _ _ _ (HR8.out.keep ((Keep.alloc _ _ _).trans (Keep.alloc _ _ _)) (fun _ h => h))).mono ?_
    rintro e w9 ⟨rfl, hb9⟩
    rw [poolCode_bad HBAD.out]
    have hB9 : Below w.heap.size w w9 := ((HB8.out.alloc HB8.out.size _).alloc (by have := HB8.out.size; simp; omega) _).trans (hb9.mono (by have := HB8.out.size; simp; omega))
    go_wp2
    go_ret
    exact ⟨rfl, hB9⟩
theorem poolBad_walk (v : Value) (l : List (List UInt8)) (which : Int) (w : World) (h : RdT (fun _ => True) w v l) (hl : ∀ t ∈ l, t.length ≤ 9223372036854775807)
    (hz : l.length * 16 ≤ reachBytes) (h1 : -9223372036854775808 ≤ which) (h2 : which ≤ 9223372036854775807) :
    Calls Try.prog 8 #[v, .int .i64 which] w fun e w' => e = .returned (.bool true) ∧ Below w.heap.size w w' := by
  obtain ⟨p1, p2⟩ := pickedZ_range which 4 (by omega)
  exact poolBad_case which _ rfl (by omega) v l w h hl h1 h2 hz
end Go.Proofs.Ytghimigffnbhaaa
