/- seal.Proven, sheaveskeep.signedBy: what they compute. -/
import Derived.Test.YtialhdmdeggenaaDoorPrvLaw
import Derived.Test.YtialhdmdeggenaaDoorChk3
import Derived.Test.YtialhdmdeggenaaDoorBas
set_option linter.unusedVariables false
set_option linter.unusedSimpArgs false
attribute [local go_sem ↓] Go.wp_at_zero Go.wp_at_succ
namespace Go.Proofs.YtialhdmdeggenaaDoor
open Go Go.RowKit

theorem elemInt : ElemOk Tryd.prog 29 3 1 8 := elemOk_of (z := .int .i64 0) (by kernel_rfl) (by kernel_rfl) rfl (by decide)
abbrev intVs (l : List Int) : List Value := l.map (Value.int .i64)
/-- slices.Clone of numbers: the call's own. -/
theorem cloneI_any {G : Nat → Prop} {l : List Int} (v : Value) (w : World) (h : RdI G w v l) (hsz : l.length * 8 ≤ 140737488355328) :
    Calls Tryd.prog 38 #[v] w fun e w' => ∃ v', e = .returned v' ∧ w'.ownsRow w.heap.size 3 1 v' l.length (intVs l) ∧ Below w.heap.size w w' := by
  obtain ⟨ad, cap, rfl, h1, h2, h0⟩ := h.form0
  unfold maxLen at h2
  rcases ad with _ | ad
  · have hl : l = [] := List.eq_nil_of_length_eq_zero (by have := h0 rfl; omega)
    subst hl
    obtain rfl := h0 rfl
    have he := fun w' => Lib.run_eql_slice_nil (P := Tryd.prog) w' 29 3 none 0 0 0 0 Tryd.underlying29
    go_enter Tryd.func38, Tryd.ntmps38
    go_wp2
    go_ret
    exact ⟨_, rfl, World.ownsRow_nil _ _ _ _, Below.refl _ _⟩
  · have he := fun w' => Lib.run_eql_slice_nil (P := Tryd.prog) w' 29 3 (some ad) l.length cap 0 0 Tryd.underlying29
    go_enter Tryd.func38, Tryd.ntmps38
    go_wp2_with (at_builtin; refine wpList_append_sl rfl _ _ 29 rfl elemInt w.heap.size _ rfl 0 [] (World.ownsRow_made w #[] 0 (Nat.le_refl _) (Nat.zero_le _) rfl) _ rfl l.length _ (h.keep (Keep.alloc G _ _) (fun _ h => h)).slCells (oneCell_map _ _ (fun _ => rfl)) (by unfold maxLen; omega) (by omega) (by simp) ?_; intro v' w' hown hgr)
    go_ret
    refine ⟨_, rfl, ?_, (((Below.refl _ _).alloc (Nat.le_refl _) _).grown hgr (by simp) (ownBlock_ge (World.ownsRow_made (e := 3) (size := 1) w #[] 0 (Nat.le_refl _) (Nat.zero_le _) rfl)))⟩
    simpa using hown
theorem crt_partsP {c : Crt} (h : crtCode c = 0) : hdrCode c.h = 0 ∧ c.vs.length ≤ 4 := by
  unfold crtCode at h
  by_cases h1 : hdrCode c.h = 0
  · by_cases h2 : 4 < c.vs.length
    · simp [h1, h2] at h
    · exact ⟨h1, by omega⟩
  · simp [h1] at h
theorem prvAll_take {L : List Sgn} {rogue : Int} {h : Hdr} {ns : List Int} {k : Nat} (hk : ns.length ≤ k) (ha : ∀ n ∈ ns.take k, n = rogue ∨ signOfN h n ∈ L) : prvAll L rogue h ns = true := by
  rw [List.take_of_length_le hk] at ha
  unfold prvAll; rw [List.all_eq_true]; intro n hn; simpa using ha n hn
theorem prvAll_no {L : List Sgn} {rogue : Int} {h : Hdr} {ns : List Int} {k : Nat} (hk : k < ns.length) (hn : ¬ (ns[k] = rogue ∨ signOfN h ns[k] ∈ L)) : prvAll L rogue h ns = false := by
  unfold prvAll
  rw [List.all_eq_false]
  exact ⟨ns[k], List.getElem_mem hk, by simpa using hn⟩
theorem take_all {p : Int → Prop} {ns : List Int} {k : Nat} (hk : k < ns.length) (ha : ∀ n ∈ ns.take k, p n) (h1 : p ns[k]) : ∀ n ∈ ns.take (k + 1), p n := by
  rw [List.take_succ_eq_append_getElem hk]
  intro n hn
  rcases List.mem_append.1 hn with hn | hn
  · exact ha n hn
  · rw [List.mem_singleton.1 hn]; exact h1
set_option maxRecDepth 100000 in
set_option maxHeartbeats 4000000 in
theorem proven_any {G G' : Nat → Prop} {L : List Sgn} (rogue : Int) (c : Crt) (v vb vp vv : Value) (w : World) (hl : RdS RSign G w v L) (hb : RdBB G' w vb c.h.bs) (hp : RdBB G' w vp c.h.ps) (hv : RdI G' w vv c.vs) (ht : Tabs w) :
    Calls Tryd.prog 18 #[v, .int .i64 rogue, .agg #[.int .i64 c.h.a, .int .i64 c.h.r, vb, vp, vv]] w fun e w' => e = .returned (.int .i64 (prvC L rogue c)) ∧ Below w.heap.size w w' := by
  obtain ⟨⟨a, r, bs, ps⟩, vs⟩ := c
  simp only at *
  obtain ⟨adb, capb, rfl, -, -⟩ := hb.form
  obtain ⟨adp, capp, rfl, -, -⟩ := hp.form
  obtain ⟨adv, capv, rfl, hvc1, hvc2⟩ := hv.form
  have hb1 := (Below.refl w.heap.size w).alloc (Nat.le_refl _) (.cells #[.int .i64 a, .int .i64 r, .slice adb bs.length capb, .slice adp ps.length capp, .slice adv vs.length capv] 32)
  have HX := Lib.hid (BoxAt.new w [.int .i64 a, .int .i64 r, .slice adb bs.length capb, .slice adp ps.length capp, .slice adv vs.length capv] 32)
  have HB := Lib.hid hb1
  have HL := Lib.hid (hl.below hb1 (fun _ h => h))
  have HBB := Lib.hid (hb.below hb1 (fun _ h => h))
  have HPP := Lib.hid (hp.below hb1 (fun _ h => h))
  have HVV := Lib.hid (hv.below hb1 (fun _ h => h))
  have HT := Lib.hid (ht.belowS hb1)
  have HC := Lib.hid (show prvC L rogue ⟨⟨a, r, bs, ps⟩, vs⟩ = if signsCode L ≠ 0 then signsCode L else if badOk rogue = false then 2 else if crtCode ⟨⟨a, r, bs, ps⟩, vs⟩ ≠ 0 then crtCode ⟨⟨a, r, bs, ps⟩, vs⟩ else if prvAll L rogue ⟨a, r, bs, ps⟩ (vs ++ [a]) = true then 0 else 11 from rfl)
  generalize prvC L rogue ⟨⟨a, r, bs, ps⟩, vs⟩ = code at *
  clear hb1 hl hb hp hv ht
  go_enter Tryd.func18, Tryd.ntmps18
  go_wp2_with fail
  refine (scheck_any _ _ HL.out).mono ?_
  rintro e w1 ⟨rfl, hb1⟩
  have HB1 := Lib.hid (HB.out.trans (hb1.mono HB.out.size))
  have HX1 := Lib.hid (HX.out.belowS hb1)
  have HL1 := Lib.hid (HL.out.below hb1 (fun _ h => h))
  have HBB1 := Lib.hid (HBB.out.below hb1 (fun _ h => h))
  have HPP1 := Lib.hid (HPP.out.below hb1 (fun _ h => h))
  have HVV1 := Lib.hid (HVV.out.below hb1 (fun _ h => h))
  have HT1 := Lib.hid (HT.out.belowS hb1)
  clear hb1 HB HX HL HBB HPP HVV HT
  by_cases h1 : signsCode L = 0
  · have H1 := Lib.hid h1
    rw [h1]
    cases h2 : badOk rogue
    · have HR := Lib.hid (show code = 2 by rw [HC.out, if_neg (by simp [h1]), if_pos h2])
      have H2 := Lib.hid h2
      clear h1 h2
      go_wp2_with (go_at_call 36; refine (bad_any _ _).mono ?_; rintro e w' ⟨rfl, rfl⟩; rw [H2.out])
      go_ret
      exact ⟨ret_intH HR.out, HB1.out⟩
    · have H2 := Lib.hid h2
      have bx := HX1.out
      have x0 := bx.cell 0 rfl
      have x1 := bx.cell 1 rfl
      have x2 := bx.cell 2 rfl
      have x3 := bx.cell 3 rfl
      have x4 := bx.cell 4 rfl
      have zx := bx.lt
      clear bx h1 h2
      go_wp2_with (go_at_call 36; refine (bad_any _ _).mono ?_; rintro e w' ⟨rfl, rfl⟩; rw [H2.out])
      refine (ccert_any a r _ _ _ w1 HBB1.out HPP1.out HVV1.out).mono ?_
      rintro e w2 ⟨rfl, hb2⟩
      have HB2 := Lib.hid (HB1.out.trans (hb2.mono HB1.out.size))
      have HX2 := Lib.hid (HX1.out.belowS hb2)
      have HL2 := Lib.hid (HL1.out.below hb2 (fun _ h => h))
      have HBB2 := Lib.hid (HBB1.out.below hb2 (fun _ h => h))
      have HPP2 := Lib.hid (HPP1.out.below hb2 (fun _ h => h))
      have HVV2 := Lib.hid (HVV1.out.below hb2 (fun _ h => h))
      have HT2 := Lib.hid (HT1.out.belowS hb2)
      clear hb2 HB1 HX1 HL1 HBB1 HPP1 HVV1 HT1 x0 x1 x2 x3 x4
      by_cases h3 : crtCode ⟨⟨a, r, bs, ps⟩, vs⟩ = 0
      · have HR := Lib.hid (show code = if prvAll L rogue ⟨a, r, bs, ps⟩ (vs ++ [a]) = true then 0 else 11 by rw [HC.out, if_neg (by simp [H1.out]), if_neg (by simp [H2.out]), if_neg (by simp [h3])])
        obtain ⟨hh0, hv4⟩ := crt_partsP h3
        simp only at hh0 hv4
        have HH0 := Lib.hid hh0
        rw [h3]
        have bx := HX2.out
        have x0 := bx.cell 0 rfl
        have x1 := bx.cell 1 rfl
        have x2 := bx.cell 2 rfl
        have x3 := bx.cell 3 rfl
        have HDL := Lib.hid (hdrSum_length ⟨a, r, bs, ps⟩)
        have HSG := Lib.hid (show ∀ n, signOfN ⟨a, r, bs, ps⟩ n = (n, a, r, hdrSum ⟨a, r, bs, ps⟩) from fun _ => rfl)
        clear bx h3 hh0
        go_wp2_with fail
        refine (headerDigest_ok ⟨a, r, bs, ps⟩ _ _ w2 HBB2.out HPP2.out HH0.out HT2.out).mono ?_
        rintro e w3 ⟨vd, rfl, hd, hb3⟩
        obtain ⟨add, capd, rfl, -, -⟩ := hd.form
        rw [HDL.out] at hd ⊢
        generalize hdrSum ⟨a, r, bs, ps⟩ = D at *
        have HB3 := Lib.hid (HB2.out.trans (hb3.mono HB2.out.size))
        have HX3 := Lib.hid (HX2.out.belowS hb3)
        have hba := (Below.refl w3.heap.size w3).alloc (Nat.le_refl _) (.cells #[.int .i64 a, .int .i64 r, .slice add 32 capd] 47)
        have HZa := Lib.hid (BoxAt.new w3 [.int .i64 a, .int .i64 r, .slice add 32 capd] 47)
        have HXa := Lib.hid (HX3.out.belowS hba)
        have HDa := Lib.hid (hd.below hba (fun _ h => h))
        have HLa := Lib.hid ((HL2.out.below hb3 (fun _ h => h)).below hba (fun _ h => h))
        have HVa := Lib.hid ((HVV2.out.below hb3 (fun _ h => h)).below hba (fun _ h => h))
        have HBa := Lib.hid (HB3.out.trans (hba.mono HB3.out.size))
        have bx := HX3.out
        have y0 := bx.cell 0 rfl
        have y1 := bx.cell 1 rfl
        have za : w3.heap.size < (w3.alloc (.cells #[.int .i64 a, .int .i64 r, .slice add 32 capd] 47)).heap.size := by simp
        have zx3 := bx.lt
        clear hd hb3 hba bx x0 x1 x2 x3 HX2 HL2 HBB2 HPP2 HVV2 HT2 HX3
        go_upto_region 11 with (fail)
        generalize w3.alloc (.cells #[.int .i64 a, .int .i64 r, .slice add 32 capd] 47) = wa at *
        have bx := HXa.out
        have z0 := bx.cell 0 rfl
        have z4 := bx.cell 4 rfl
        have zBa := HBa.out.size
        clear bx y0 y1
        go_region_held3 (fun w' => w'.cell? ⟨w.heap.size, 0, none⟩ = some (.int .i64 a) ∧ w'.cell? ⟨w.heap.size, 4, none⟩ = some (.slice adv vs.length capv)) (go_keep)
          (first
            | ((refine step_append_one (by rfl) _ _ _ (by rfl) elemInt wa.heap.size (.slice ad5 vs.length cap5) vs.length (intVs vs) (by rfl) (by first | exact ownsRow_below HO5.out ((Below.refl _ _).alloc (Nat.le_refl _) _) | exact ownsRow_below HO5.out ((Below.refl _ _).drew.alloc (Nat.le_refl _) _) | exact HO5.out | exact HO5.out.drew) _ 3 [.int .i64 a] (by rfl) (by first | exact BoxAt.new _ [_] _ | exact (BoxAt.new _ [_] _).drew | exact HBL5.out) rfl (by simp [Value.oneCell']) (by unfold maxLen; omega) (by omega) (by first | omega | (simp; omega)) ?_; intro g6 cap6 w6 hown6 hgr6 hat6 hlt6;
                have hkg : Keep (fun b => b < wa.heap.size) wa w6 := (by first | exact ((KP5.out.trans (Keep.alloc _ _ _)).trans (Keep.grown hgr6 (fun k hk hb => by have := ownBlock_ge HO5.out _ hk; omega))) | exact (KP5.out.trans (Keep.grown hgr6 (fun k hk hb => by have := ownBlock_ge HO5.out _ hk; omega))));
                have r0 := hkg _ _ _ (by omega) z0; have r4 := hkg _ _ _ (by omega) z4))
            | (go_at_call 38; refine (cloneI_any (l := vs) (.slice adv vs.length capv) _ (by first | exact HVa.out | exact HVa.out.keep (Keep.drew _ _) (fun _ h => h) | exact HVa.out.keep (Keep.alloc _ _ _) (fun _ h => h) | exact (HVa.out.keep (Keep.drew _ _) (fun _ h => h)).keep (Keep.alloc _ _ _) (fun _ h => h)) (by omega)).mono ?_; rintro e w5 ⟨v5, rfl, hown5, hb5⟩;
                obtain ⟨ad5, cap5, rfl⟩ := ownsRow_form hown5;
                have HO5 := Lib.hid (show w5.ownsRow wa.heap.size 3 1 (.slice ad5 vs.length cap5) vs.length (intVs vs) from ownsRow_mono hown5 (by simp));
                have KP5 := Lib.hid (show Keep (fun b => b < wa.heap.size) wa w5 from by first | exact Keep.belowB hb5 (fun _ h => h) | exact Keep.belowB ((Below.refl _ _).drew.trans hb5) (fun _ h => h) | exact (Keep.alloc _ _ _).trans (Keep.belowB hb5 (fun _ h => by simp; omega)) | exact ((Keep.drew _ _).trans (Keep.alloc _ _ _)).trans (Keep.belowB hb5 (fun _ h => by simp; omega)));
                have HB5 := Lib.hid (show Below w.heap.size w w5 from by first | exact HBa.out.drew.trans (hb5.mono zBa) | exact HBa.out.trans (hb5.mono zBa) | exact (HBa.out.drew.alloc zBa _).trans (hb5.mono (by simp; omega)) | exact (HBa.out.alloc zBa _).trans (hb5.mono (by simp; omega)));
                have s5 := HB5.out.size; have s5a : wa.heap.size ≤ w5.heap.size := (by have := hb5.size; first | exact this | (simp at this; omega));
                (try have HBL5 := Lib.hid ((BoxAt.newAt wa.drew [.int .i64 a] 3 (n := wa.heap.size) rfl).belowS hb5));
                have q0 := KP5.out _ _ _ (by omega) z0; have q4 := KP5.out _ _ _ (by omega) z4; clear hb5 hown5))
        all_goals
          have hB6 : Below w.heap.size w w6 := (by first | exact (HB5.out.alloc s5 _).grown hgr6 (by simp; omega) (fun k hk => by have := ownBlock_ge HO5.out _ hk; omega) | exact HB5.out.grown hgr6 (by omega) (fun k hk => by have := ownBlock_ge HO5.out _ hk; omega))
          have HB6 := Lib.hid hB6
          have HN6 := Lib.hid (show RdI (fun _ => True) w6 (.slice (some ⟨g6, 0, none⟩) (vs.length + 1) cap6) (vs ++ [a]) from RdS.of_owns (f := Value.int .i64) (by simpa [intVs] using hown6) (fun _ _ => trivial))
          have HL6 := Lib.hid ((HLa.out.low (by decide)).keep (hkg.mono (fun x hx => hx.2)) (fun _ h => h))
          have HD6 := Lib.hid ((HDa.out.low (by decide)).keep (hkg.mono (fun x hx => hx.2)) (fun _ h => h))
          have bza := HZa.out
          have c0 := hkg _ _ _ za (bza.cell 0 rfl)
          have c1 := hkg _ _ _ za (bza.cell 1 rfl)
          have c2 := hkg _ _ _ za (bza.cell 2 rfl)
          have zc := World.block_lt_of_cell? w6 _ c0
          simp only at zc
          have hz6 := hB6.size
          have hnl : (vs ++ [a]).length = vs.length + 1 := by simp
          have HNL := Lib.hid hnl
          have HC0 := Lib.hid c0
          have HC1 := Lib.hid c1
          have HC2 := Lib.hid c2
          generalize vs ++ [a] = ns at *
          clear hB6 hown6 hgr6 hat6 bza c0 c1 c2 hnl hkg
          go_wp2_with fail
          go_loopw [50] (fun i wr => ∃ k : Nat, k ≤ ns.length ∧ i = .int .i64 k ∧ (∀ n ∈ ns.take k, n = rogue ∨ signOfN ⟨a, r, bs, ps⟩ n ∈ L) ∧ Below w6.heap.size w6 wr) (fun i _ => ns.length - (intOf i).toNat)
          case atStart => exact ⟨0, Nat.zero_le _, rfl, fun n hn => by simp at hn, Below.refl _ _⟩
          case round =>
            obtain ⟨k, hk, rfl, hall, hB⟩ := hrel
            have HA := Lib.hid hall
            have hzr := hB.size
            have HBr := Lib.hid hB
            have hnl := HNL.out
            clear hall
            by_cases hlt : k < ns.length
            · have k0 : (0 : Int) ≤ (k : Int) := by omega
              have k1 : (k : Int) < (vs.length : Int) + 1 := by omega
              obtain ⟨b, o, hab, -, hcell⟩ := (HN6.out.below hB (fun _ h => h)).cell k hlt
              simp only [Option.some.injEq, Addr.mk.injEq, and_true] at hab
              obtain ⟨rfl, rfl⟩ := hab
              have HTA := Lib.hid (fun (h : ns[k] = rogue ∨ signOfN ⟨a, r, bs, ps⟩ ns[k] ∈ L) => take_all (p := fun n => n = rogue ∨ signOfN ⟨a, r, bs, ps⟩ n ∈ L) hlt HA.out h)
              have HNO := Lib.hid (fun (h : ¬ (ns[k] = rogue ∨ signOfN ⟨a, r, bs, ps⟩ ns[k] ∈ L)) => prvAll_no (h := ⟨a, r, bs, ps⟩) hlt h)
              have d0 := ((bcellAt hB _ zc).1 0).trans HC0.out
              have d1 := ((bcellAt hB _ zc).1 1).trans HC1.out
              have d2 := ((bcellAt hB _ zc).1 2).trans HC2.out
              have HLr := Lib.hid (HL6.out.below hB (fun _ h => h))
              have HDr := Lib.hid (HD6.out.below hB (fun _ h => h))
              generalize ns[k] = n at *
              simp only [Nat.zero_add] at hcell
              clear hB hnl
              by_cases hr : n = rogue
              · have HN := Lib.hid (HTA.out (.inl hr))
                have e1 : (n != rogue) = false := by simp [hr]
                have e2 : (n == rogue) = true := by simp [hr]
                clear hr
                go_wp2
                go_roundw
                case rel => exact ⟨k + 1, by omega, by go_num, HN.out, HBr.out⟩
                case measure => simp [intOf]; omega
              · have e1 : (n != rogue) = true := by simpa using hr
                have e2 : (n == rogue) = false := by simpa using hr
                have HRN := Lib.hid hr
                clear hr
                by_cases hm : signOfN ⟨a, r, bs, ps⟩ n ∈ L
                · have HN := Lib.hid (HTA.out (.inr hm))
                  have HM := Lib.hid (show decide (((n, a, r, D) : Sgn) ∈ L) = true by rw [← HSG.out n]; simpa using hm)
                  clear hm
                  go_wp2_with fail
                  refine (shas_any (n, a, r, D) _ _ _ HLr.out HDr.out).mono ?_
                  rintro e w8 ⟨rfl, hb8⟩
                  rw [HM.out]
                  have HB8 := Lib.hid (HBr.out.trans (hb8.mono hzr))
                  clear hb8 d0 d1 d2
                  go_wp2
                  go_roundw
                  case rel => exact ⟨k + 1, by omega, by go_num, HN.out, HB8.out⟩
                  case measure => simp [intOf]; omega
                · have HM := Lib.hid (show decide (((n, a, r, D) : Sgn) ∈ L) = false by rw [← HSG.out n]; simpa using hm)
                  have HP := Lib.hid (show code = 11 by rw [HR.out, HNO.out (fun h => h.elim HRN.out hm)]; rfl)
                  clear hm
                  go_wp2_with fail
                  refine (shas_any (n, a, r, D) _ _ _ HLr.out HDr.out).mono ?_
                  rintro e w8 ⟨rfl, hb8⟩
                  rw [HM.out]
                  have HB8 := Lib.hid (HBr.out.trans (hb8.mono hzr))
                  clear hb8 d0 d1 d2
                  go_wp2
                  go_ret
                  exact ⟨ret_intH HP.out, HB6.out.trans (HB8.out.mono hz6)⟩
            · have HP := Lib.hid (show code = 0 by rw [HR.out, if_pos (prvAll_take (k := k) (by omega) HA.out)])
              have k1 : ¬ (k : Int) < (vs.length : Int) + 1 := by omega
              clear hB
              go_wp2
              go_ret
              exact ⟨ret_intH HP.out, HB6.out.trans (HBr.out.mono hz6)⟩
      · have HR := Lib.hid (show code = crtCode ⟨⟨a, r, bs, ps⟩, vs⟩ by rw [HC.out, if_neg (by simp [H1.out]), if_neg (by simp [H2.out]), if_pos h3])
        have hne : (crtCode ⟨⟨a, r, bs, ps⟩, vs⟩ != 0) = true := by simpa using h3
        clear h3
        go_wp2
        go_ret
        exact ⟨ret_intH HR.out, HB2.out⟩
  · have HR := Lib.hid (show code = signsCode L by rw [HC.out, if_pos h1])
    have hne : (signsCode L != 0) = true := by simpa using h1
    clear h1
    go_wp2
    go_ret
    exact ⟨ret_intH HR.out, HB1.out⟩
end Go.Proofs.YtialhdmdeggenaaDoor
