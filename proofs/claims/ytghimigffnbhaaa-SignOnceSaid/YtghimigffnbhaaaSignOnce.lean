/- SignOnce: the walk. -/
import Derived.Test.YtghimigffnbhaaaSignsKeep
import Derived.Test.YtghimigffnbhaaaLst2
set_option linter.unusedVariables false
set_option linter.unusedSimpArgs false
attribute [local go_sem ↓] Go.wp_at_zero Go.wp_at_succ
namespace Go.Proofs.Ytghimigffnbhaaa
open Go Go.RowKit

theorem signAdd_twice (L : List Sgn) (s : Sgn) : signAdd (signAdd L s) s = signAdd L s := by
  have h : s ∈ signAdd L s := (signAdd_mem L s s).2 (.inr rfl)
  generalize signAdd L s = M at *
  unfold signAdd
  rw [if_pos h]
theorem signAdd_at (L : List Sgn) (s : Sgn) {k : Nat} (hk : k < L.length) : ∃ h : k < (signAdd L s).length, (signAdd L s)[k] = L[k] := by
  unfold signAdd
  split
  · exact ⟨hk, rfl⟩
  · exact ⟨by simp; omega, by rw [List.getElem_append_left]⟩
theorem signAdd_len_eq (L : List Sgn) (s : Sgn) : (((signAdd L s).length : Int) == (L.length : Int)) = decide (s ∈ L) := by
  unfold signAdd
  split
  · rename_i h; simp [h]
  · rename_i h
    simp only [h, decide_false, beq_eq_false_iff_ne, ne_eq, List.length_append, List.length_cons, List.length_nil]
    omega
theorem signs_dup {M : List Sgn} {s : Sgn} (h : s ∈ M) : signsCode (M ++ [s]) = 12 := by
  have hk : M.length < (M ++ [s]).length := by simp
  refine signsCode_twice (k := M.length) hk ?_
  simp [h]
theorem RSign_one {G : Nat → Prop} {w : World} {cs : List Value} {x : Sgn} (h : RSign.rd G w cs x) : ∀ u ∈ cs, u.oneCell' = true := by
  obtain ⟨v, rfl, hr⟩ := h
  obtain ⟨ad, cap, rfl, _⟩ := hr.form
  intro u hu
  simp only [List.mem_cons, List.not_mem_nil, or_false] at hu
  rcases hu with rfl | rfl | rfl | rfl <;> rfl

theorem onceStep {w w8 wx w9 : World} {X g2 g9 cap9 : Nat} {cs : List Value} {T T2 : TypeId} {M : List Sgn} {vals : List Value} {v2 : Value} {d : Bytes} (hx : Below w8.heap.size w8 wx) (hX : BoxAt w8 X cs T)
    (hvr : ∀ j x, M[j]? = some x → RSign.rd (fun b => True ∧ b < w8.heap.size) w8 ((vals.drop (j * RSign.size)).take RSign.size) x) (hd : RdB (fun b => b = g2) w8 v2 d) (hB : Below w.heap.size w w8)
    (hown : w9.ownsRow w8.heap.size T2 4 (.slice (some ⟨g9, 0, none⟩) (0 + M.length) cap9) (0 + M.length) ([] ++ vals)) (hgr : wx.grownBy w9 (Value.slice none 0 0).ownBlock) (hat : (Value.slice none 0 0).ownBlock = some g9 ∨ g9 = wx.heap.size) :
    BoxAt w9 X cs T ∧ LstV RSign (fun b => (True ∧ b < w8.heap.size) ∨ w8.heap.size ≤ b) w8.heap.size T2 w9 (.slice (some ⟨g9, 0, none⟩) M.length cap9) M vals ∧ RdB (fun b => b = g2) w9 v2 d ∧ Below w.heap.size w w9 ∧ w8.heap.size ≤ w9.heap.size ∧
      (∀ k, (Value.slice (some ⟨g9, 0, none⟩) M.length cap9).ownBlock = some k → w8.heap.size ≤ k) := by
  simp only [Nat.zero_add, List.nil_append] at hown
  have hs := hx.size
  have hg : w8.heap.size ≤ g9 := by
    rcases hat with e | e
    · simp [Value.ownBlock] at e
    · omega
  have hvx : ∀ j x, M[j]? = some x → RSign.rd (fun b => True ∧ b < w8.heap.size) wx ((vals.drop (j * RSign.size)).take RSign.size) x := fun j x h => RSign.keep (hvr j x h) (Keep.below hx) (fun _ h => h)
  have hL := LstV.ofAppend (R := RSign) (G := fun _ => True) (H := w8.heap.size) hvx hs hown hgr (by simp [Value.ownBlock]) hg
  have hBx := hB.trans (hx.mono hB.size)
  exact ⟨(hX.belowS hx).grown hgr (by simp [Value.ownBlock]), hL, (hd.below hx (fun _ h => h)).keep (Keep.grown hgr (by simp [Value.ownBlock])) (fun _ h => h), hBx.grown hgr hBx.size (by simp [Value.ownBlock]), Nat.le_trans hs hgr.size, fun k hk => (hL.lt k hk).1⟩
theorem onceStep2 {w w8 w9 wy w10 : World} {g2 g9 cap9 g10 cap10 : Nat} {T2 : TypeId} {M : List Sgn} {vals : List Value} {s : Sgn} {v2 : Value} (hy : Below w9.heap.size w9 wy)
    (hL : LstV RSign (fun b => (True ∧ b < w8.heap.size) ∨ w8.heap.size ≤ b) w8.heap.size T2 w9 (.slice (some ⟨g9, 0, none⟩) M.length cap9) M vals) (hd : RdB (fun b => b = g2) w9 v2 s.2.2.2) (hB : Below w.heap.size w w9) (hw : w.heap.size ≤ w8.heap.size) (hg2 : g2 < w8.heap.size) (hs : w8.heap.size ≤ w9.heap.size)
    (hown : w10.ownsRow w8.heap.size T2 4 (.slice (some ⟨g10, 0, none⟩) (M.length + 1) cap10) (M.length + 1) (vals ++ [.int .i64 s.1, .int .i64 s.2.1, .int .i64 s.2.2.1, v2]))
    (hgr : wy.grownBy w10 (Value.slice (some ⟨g9, 0, none⟩) M.length cap9).ownBlock) (hat : (Value.slice (some ⟨g9, 0, none⟩) M.length cap9).ownBlock = some g10 ∨ g10 = wy.heap.size) :
    RdS RSign (fun _ => True) w10 (.slice (some ⟨g10, 0, none⟩) (M.length + 1) cap10) (M ++ [s]) ∧ Below w.heap.size w w10 := by
  have hlt := hL.lt
  have hs2 := hy.size
  have hP := (hL.below hy).push (x := s) (cs := [.int .i64 s.1, .int .i64 s.2.1, .int .i64 s.2.2.1, v2])
    ⟨_, rfl, hd.keep (Keep.below hy) (fun b hb => by subst hb; exact ⟨.inl ⟨trivial, hg2⟩, by omega, fun e => by have := (hlt _ e).1; omega⟩)⟩ hown hgr hat
  have hBy := hB.trans (hy.mono hB.size)
  exact ⟨hP.rd (by decide) (fun _ _ _ => trivial) (fun _ _ _ => trivial), hBy.grown hgr hBy.size (fun k hk => by have := (hlt _ hk).1; omega)⟩

set_option maxRecDepth 100000 in
set_option maxHeartbeats 8000000 in
theorem signOnce_walk (v : Value) (l : List Int) (n : Int) (w : World) (h : RdI (fun _ => True) w v l) (hb : ∀ x ∈ l, -9223372036854775808 ≤ x ∧ x ≤ 9223372036854775807)
    (h1 : -9223372036854775808 ≤ n) (h2 : n ≤ 9223372036854775807) :
    Calls Try.prog 12 #[v, .int .i64 n] w fun e w' => e = .returned (.bool true) ∧ Below w.heap.size w w' := by
  have HOK := Lib.hid (signsAll_ok (l.take 30))
  have hlen : (signsAll (l.take 30)).length ≤ 30 := by have := signsAll_len (l.take 30); simp at this; omega
  generalize hL : signsAll (l.take 30) = L at *
  have HLE := Lib.hid hL
  clear hL
  have hMl : (signAdd L (sgnOf n 3)).length ≤ 31 := by have := signAdd_len L (sgnOf n 3); omega
  have hMm : sgnOf n 3 ∈ signAdd L (sgnOf n 3) := (signAdd_mem L _ _).2 (.inr rfl)
  have HM0 := Lib.hid (show 0 < (signAdd L (sgnOf n 3)).length from List.length_pos_of_mem hMm)
  have HMM := Lib.hid (signAdd_twice L (sgnOf n 3))
  have HDUP := Lib.hid (signs_dup hMm)
  have HAT := Lib.hid (fun k (hk : k < L.length) => signAdd_at L (sgnOf n 3) hk)
  have hee := signAdd_len_eq L (sgnOf n 3)
  have HB1 := Lib.hid (show decide ((sgnOf n 3).1 = -1 ∨ sgnOf n 3 ∈ L) = decide (sgnOf n 3 ∈ L) by simp only [sgnOf_node, false_or])
  have HB2 := Lib.hid (show decide ((sgnOf n 3).1 = -1 ∨ sgnOf n 3 ∈ signAdd L (sgnOf n 3)) = true by simp [hMm])
  have HOKM := Lib.hid (signAdd_ok HOK.out (sgnOf_ok n 3))
  have HSM := Lib.hid (show signsCode (signAdd L (sgnOf n 3)) = 0 by unfold signsCode; rw [if_pos HOKM.out])
  generalize hM' : signAdd L (sgnOf n 3) = M at *
  have HME := Lib.hid hM'
  generalize hB' : decide (sgnOf n 3 ∈ L) = B at *
  have HEE := Lib.hid hee
  clear hM' hMm hB' hee
  have hM0 : 0 < M.length := HM0.out
  go_enter Try.func12, Try.ntmps12
  go_wp2_with fail
  refine (signs_any _ _ h hb).mono ?_
  rintro e w1 ⟨ad1, cap1, rfl, hr1, hb1⟩
  rw [HLE.out] at hr1 ⊢
  have HL1 := Lib.hid (hr1.low (by decide))
  have HB1' := Lib.hid hb1
  clear hr1 hb1
  go_wp2_with (go_at_call 16; refine (picked_any _ _ _ (by omega) (by omega) (by omega) (by omega)).mono ?_; rintro e w' ⟨rfl, rfl⟩)
  refine (slot_any _ _ _ h1 h2).mono ?_
  rintro e w2 ⟨g2, rfl, hd2, hg2, hgl2, hb2⟩
  have HL2 := Lib.hid (HL1.out.below hb2 (fun _ h => h))
  have HB2' := Lib.hid (HB1'.out.trans (hb2.mono HB1'.out.size))
  have HD2' := Lib.hid hd2
  have z2 := hb2.size
  clear hd2 hb2
  go_wp2_with fail
  refine (sadd_ok (sgnOf n 3) _ _ _ (HL2.out.keep (Keep.alloc _ _ _) (fun _ h => h)) (HD2'.out.keep (Keep.alloc _ _ _) (fun _ h => h)) (by omega) HOK.out (sgnOf_ok _ _)).mono ?_
  rintro e w4 ⟨ad4, cap4, rfl, hr4, hb4⟩
  rw [HME.out] at hr4 ⊢
  have bx := (BoxAt.new w2 [.int .i64 (pickedZ n 4), .int .i64 (pickedZ n 3), .int .i64 (1 + pickedZ n 5), .slice (some ⟨g2, 0, none⟩) 32 32] 55).belowS hb4
  have hb4' : Below w2.heap.size w2 w4 := ((Below.refl _ w2).alloc (Nat.le_refl _) _).trans (hb4.mono (by simp))
  have HX := Lib.hid bx
  have HL3 := Lib.hid (HL2.out.below hb4' (fun _ h => h))
  have HD3 := Lib.hid (HD2'.out.below hb4' (fun _ h => h))
  have HR3 := Lib.hid (hr4.mono (G' := fun b => w2.heap.size < b) (fun b hb => by have h := hb; simp at h; omega))
  have HB3 := Lib.hid (HB2'.out.trans (hb4'.mono HB2'.out.size))
  have p0 := bx.cell 0 rfl
  have p1 := bx.cell 1 rfl
  have p2 := bx.cell 2 rfl
  have p3 := bx.cell 3 rfl
  clear hr4 hb4 hb4' bx
  go_wp2_with fail
  refine (sadd_ok (sgnOf n 3) _ _ _ HR3.out HD3.out (by omega) HOKM.out (sgnOf_ok _ _)).mono ?_
  rintro e w5 ⟨ad5, cap5, rfl, hr5, hb5⟩
  rw [HMM.out] at hr5 ⊢
  have bx := HX.out.belowS hb5
  have HX5 := Lib.hid bx
  have HL5 := Lib.hid (HL3.out.below hb5 (fun _ h => h))
  have HD5 := Lib.hid (HD3.out.below hb5 (fun _ h => h))
  have HR5 := Lib.hid (HR3.out.below hb5 (fun _ h => h))
  have HB5 := Lib.hid (HB3.out.trans (hb5.mono HB3.out.size))
  clear hr5 hb5 p0 p1 p2 p3
  have p0 := bx.cell 0 rfl
  have p1 := bx.cell 1 rfl
  have p2 := bx.cell 2 rfl
  have p3 := bx.cell 3 rfl
  clear bx
  go_wp2_with fail
  refine (signed_ok (sgnOf n 3) _ _ _ _ HL5.out HD5.out HOK.out badOk_m1 (sgnOf_ok _ _)).mono ?_
  rintro e w6 ⟨rfl, hb6⟩
  rw [HB1.out]
  have bx := HX5.out.belowS hb6
  have HX6 := Lib.hid bx
  have HL6 := Lib.hid (HL5.out.below hb6 (fun _ h => h))
  have HD6 := Lib.hid (HD5.out.below hb6 (fun _ h => h))
  have HR6 := Lib.hid (HR5.out.below hb6 (fun _ h => h))
  have HB6 := Lib.hid (HB5.out.trans (hb6.mono HB5.out.size))
  clear hb6 p0 p1 p2 p3
  have p0 := bx.cell 0 rfl
  have p1 := bx.cell 1 rfl
  have p2 := bx.cell 2 rfl
  have p3 := bx.cell 3 rfl
  clear bx
  go_wp2_with fail
  refine (signed_ok (sgnOf n 3) _ _ _ _ HR6.out HD6.out HOKM.out badOk_m1 (sgnOf_ok _ _)).mono ?_
  rintro e w7 ⟨rfl, hb7⟩
  rw [HB2.out]
  have HX7 := Lib.hid (HX6.out.belowS hb7)
  have HL7 := Lib.hid (HL6.out.below hb7 (fun _ h => h))
  have HR7 := Lib.hid (HR6.out.below hb7 (fun _ h => h))
  have HD7 := Lib.hid (HD6.out.below hb7 (fun _ h => h))
  have HB7 := Lib.hid (HB6.out.trans (hb7.mono HB6.out.size))
  clear hb7 p0 p1 p2 p3
  have hee := HEE.out
  cases B
  all_goals
    go_wp2
    go_loopw [15] (fun i wr => ∃ k : Nat, k ≤ L.length ∧ i = .int .i64 k ∧ Below w7.heap.size w7 wr) (fun i _ => L.length - (intOf i).toNat)
    case atStart => exact ⟨0, Nat.zero_le _, rfl, Below.refl _ _⟩
    case round =>
      obtain ⟨k, hk, rfl, hB⟩ := hrel
      have HBr := Lib.hid hB
      by_cases hlt : k < L.length
      · obtain ⟨bx, ox, vx, rfl, -, x0, x1, x2, x3, hdx⟩ := (HL7.out.below hB (fun _ h => h)).sign k hlt
        obtain ⟨hkm, hek⟩ := HAT.out k hlt
        obtain ⟨b_y, oy, vy, rfl, -, y0, y1, y2, y3, hdy⟩ := (HR7.out.below hB (fun _ h => h)).sign k hkm
        rw [hek] at y0 y1 y2 hdy
        obtain ⟨adx, cpx, rfl, -, -⟩ := hdx.form
        obtain ⟨ady, cpy, rfl, -, -⟩ := hdy.form
        have HX' := Lib.hid hdx
        have HY' := Lib.hid hdy
        have i0 : (0 : Int) ≤ (k : Int) := by omega
        have i1 : (k : Int) < (L.length : Int) := by omega
        have i2 : (k : Int) < (M.length : Int) := by omega
        have zx := World.block_lt_of_cell? _ _ x0
        have zy := World.block_lt_of_cell? _ _ y0
        simp only at zx zy
        have hself := Lib.hid (show decide (L[k].2.1 = L[k].2.1 ∧ L[k].2.2.1 = L[k].2.2.1 ∧ L[k].2.2.2 = L[k].2.2.2) = true by simp)
        clear hdx hdy hek hB
        go_wp2_with fail
        go_region_held3 (fun w' => w'.cell? ⟨bx, ox + k * 4, none⟩ = some (Value.int .i64 L[k].1) ∧ w'.cell? ⟨bx, ox + k * 4 + 1, none⟩ = some (Value.int .i64 L[k].2.1) ∧ w'.cell? ⟨bx, ox + k * 4 + 2, none⟩ = some (Value.int .i64 L[k].2.2.1) ∧ w'.cell? ⟨bx, ox + k * 4 + 3, none⟩ = some (Value.slice adx L[k].2.2.2.length cpx) ∧ w'.cell? ⟨b_y, oy + k * 4, none⟩ = some (Value.int .i64 L[k].1) ∧ w'.cell? ⟨b_y, oy + k * 4 + 1, none⟩ = some (Value.int .i64 L[k].2.1) ∧ w'.cell? ⟨b_y, oy + k * 4 + 2, none⟩ = some (Value.int .i64 L[k].2.2.1) ∧ w'.cell? ⟨b_y, oy + k * 4 + 3, none⟩ = some (Value.slice ady L[k].2.2.2.length cpy))
          (go_keep)
          ((go_at_call 28; refine (sameSlot_any _ _ _ _ L[k].2.2.2 L[k].2.2.2 _ _ _ (by first | exact HX'.out | exact HX'.out.keep (Keep.drew _ _) (fun _ h => h)) (by first | exact HY'.out | exact HY'.out.keep (Keep.drew _ _) (fun _ h => h))).mono ?_; rintro e w8 ⟨rfl, hb8⟩; have hb8' : Below wr.heap.size wr w8 := (by first | exact hb8 | exact (Below.refl _ _).drew.trans hb8); have hR8 := HBr.out.trans (hb8'.mono HBr.out.size); have r0 := ((bcellAt hb8' _ zx).1 _).trans x0; have r1 := ((bcellAt hb8' _ zx).1 _).trans x1; have r2 := ((bcellAt hb8' _ zx).1 _).trans x2; have r3 := ((bcellAt hb8' _ zx).1 _).trans x3; have t0 := ((bcellAt hb8' _ zy).1 _).trans y0; have t1 := ((bcellAt hb8' _ zy).1 _).trans y1; have t2 := ((bcellAt hb8' _ zy).1 _).trans y2; have t3 := ((bcellAt hb8' _ zy).1 _).trans y3; clear hb8 hb8'))
        all_goals
          go_wp2
          go_roundw
          case rel => exact ⟨k + 1, by omega, by go_num, hR8⟩
          case measure => simp [intOf]; omega
      · have t1 : ¬ (k : Int) < (L.length : Int) := by omega
        have HXr := Lib.hid (HX7.out.belowS hB)
        have HRr := Lib.hid (HR7.out.below hB (fun _ h => h))
        have HDr := Lib.hid (HD7.out.below hB (fun _ h => h))
        have HBB := Lib.hid (HB7.out.trans (hB.mono HB7.out.size))
        have q0 := HXr.out.cell 0 rfl
        have q1 := HXr.out.cell 1 rfl
        have q2 := HXr.out.cell 2 rfl
        have q3 := HXr.out.cell 3 rfl
        clear hB
        go_wp2_with fail
        go_region_law
          (first
            | ((refine step_append_at1 (by rfl) _ _ _ (by rfl) elemSign w8.heap.size (.slice none 0 0) 0 [] (by rfl) (by exact World.ownsRow_nil _ _ _ _) _ M.length vals (by rfl) (by first | exact HSL.out | exact HSL.out.drew | exact HSL.out.below ((Below.refl _ _).alloc (Nat.le_refl _) _) | exact HSL.out.drew.below ((Below.refl _ _).alloc (Nat.le_refl _) _)) HV1.out hM0 (by unfold maxLen; omega) (by omega) (by simp) ?_; intro g9 cap9 w9 hown9 hgr9 hat9 hlt9;
                obtain ⟨hX9, hL9, hD9, hB9, hs9, hgl9⟩ := onceStep (by first | exact Below.refl _ _ | exact (Below.refl _ _).drew | exact (Below.refl _ _).alloc (Nat.le_refl _) _ | exact (Below.refl _ _).drew.alloc (Nat.le_refl _) _) HX8.out HVR.out HD8.out HB8.out hown9 hgr9 hat9; have HL9 := Lib.hid hL9; have HD9 := Lib.hid hD9; have HB9 := Lib.hid hB9; have HX9 := Lib.hid hX9;
                (try (have HBL9 := Lib.hid ((BoxAt.new w8 [.int .i64 (pickedZ n 4), .int .i64 (pickedZ n 3), .int .i64 (1 + pickedZ n 5), .slice (some ⟨g2, 0, none⟩) 32 32] 55).grown hgr9 (by simp [Value.ownBlock])))); have s0 := hX9.cell 0 rfl; have s1 := hX9.cell 1 rfl; have s2 := hX9.cell 2 rfl; have s3 := hX9.cell 3 rfl; have zX9 := hX9.lt; clear hL9 hX9 hown9 hgr9 hat9 hB9 hD9))
            | ((refine step_append_oneG (by rfl) _ _ _ (by rfl) elemSign w8.heap.size (.slice (some ⟨g9, 0, none⟩) M.length cap9) M.length vals (by rfl) (by first | exact HL9.out.own | exact (HL9.out.alloc _).own | exact (HL9.out.drew.alloc _).own | exact (HL9.out.alloc _).drew.own) _ 55 [.int .i64 (pickedZ n 4), .int .i64 (pickedZ n 3), .int .i64 (1 + pickedZ n 5), .slice (some ⟨g2, 0, none⟩) 32 32] (by rfl) (by first | exact HBL9.out | exact BoxAt.new _ [_, _, _, _] _ | exact (BoxAt.new _ [_, _, _, _] _).drew) rfl (by simp [Value.oneCell']) (by unfold maxLen; omega) (by omega) (by first | omega | (simp; omega)) ?_; intro g10 cap10 w10 hown10 hgr10 hat10 hlt10;
                obtain ⟨hR10, hB10⟩ := onceStep2 (s := sgnOf n 3) (by first | exact Below.refl _ _ | exact (Below.refl _ _).alloc (Nat.le_refl _) _ | exact (Below.refl _ _).drew.alloc (Nat.le_refl _) _) HL9.out HD9.out HB9.out HB8.out.size (by omega) hs9 hown10 hgr10 hat10; have HR10 := Lib.hid hR10; have HB10 := Lib.hid hB10; clear hR10 hown10 hgr10 hat10 hB10))
            | ((go_simp; go_at_call 30; refine (scheck_any (G := fun _ => True) (l := M ++ [sgnOf n 3]) _ _ (by first | exact HR10.out | exact HR10.out.keep (Keep.drew _ _) (fun _ h => h))).mono ?_; rintro e w11 ⟨rfl, hb11⟩; rw [HDUP.out]; have hB11 : Below w.heap.size w w11 := (by first | exact HB10.out.trans (hb11.mono HB10.out.size) | exact HB10.out.trans ((Below.refl _ _).drew.trans hb11 |>.mono HB10.out.size))))
            | ((go_simp; go_at_call 30; refine (scheck_any (l := M) _ _ (by first | exact HRr.out | exact HRr.out.keep (Keep.drew _ _) (fun _ h => h))).mono ?_; rintro e w8 ⟨rfl, hb8⟩; rw [HSM.out]; have hb8' : Below wr.heap.size wr w8 := (by first | exact hb8 | exact (Below.refl _ _).drew.trans hb8); have hx8 := HXr.out.belowS hb8'; have HX8 := Lib.hid hx8; have HD8 := Lib.hid (HDr.out.below hb8' (fun _ h => h)); have HB8 := Lib.hid (HBB.out.trans (hb8'.mono HBB.out.size)); have hr8 := (HRr.out.below hb8' (fun _ h => h)).low (by decide);
                obtain ⟨vals, hsl, hvr, hv1⟩ := RdS.flatOf (hr8.mono (G' := fun b => True ∧ b < w8.heap.size) (fun b hb => ⟨trivial, hb.2⟩)) (by decide) RSign_one; have HSL := Lib.hid hsl; have HVR := Lib.hid hvr; have HV1 := Lib.hid hv1; have zg := hgl2; have q0 := hx8.cell 0 rfl; have q1 := hx8.cell 1 rfl; have q2 := hx8.cell 2 rfl; have q3 := hx8.cell 3 rfl; have z8 := hb8'.size; have z8' := hx8.lt; clear hb8 hb8' hx8 hr8 hsl hvr hv1)))
        all_goals
          go_wp2
          go_ret
          exact ⟨rfl, hB11⟩
end Go.Proofs.Ytghimigffnbhaaa
