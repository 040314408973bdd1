/- ProvenAll: the walk. -/
import Derived.Test.YtialhdmdeggenaaDoorCrtH
import Derived.Test.YtialhdmdeggenaaDoorOpenS
set_option linter.unusedVariables false
set_option linter.unusedSimpArgs false
attribute [local go_sem ↓] Go.wp_at_zero Go.wp_at_succ
namespace Go.Proofs.YtialhdmdeggenaaDoor
open Go Go.RowKit

set_option maxRecDepth 100000 in
set_option maxHeartbeats 8000000 in
theorem provenAll_case (K A B C n : Int) (vt : Value) (w : World) (hvt : vt.oneCell' = true) (a1 : -9223372036854775808 ≤ A) (a2 : A ≤ 9223372036854775807) (b1 : -9223372036854775808 ≤ B) (b2 : B ≤ 9223372036854775807) (c1 : -9223372036854775808 ≤ C) (c2 : C ≤ 9223372036854775807)
    (n1 : -9223372036854775808 ≤ n) (n2 : n ≤ 9223372036854775807) (ht : Tabs w) :
    Calls Tryd.prog 3 #[.agg #[.int .i64 K, .int .i64 A, .int .i64 B, .int .i64 C, vt], .int .i64 n] w fun e w' => e = .returned (.bool true) ∧ Below w.heap.size w w' := by
  have hl3 := voters_len3 C
  have hl4 := voters_len4 C
  have hk4 : 0 < (votersL C).length := by omega
  have hnl : (votersL C ++ [(hdrOf A B C).a]).length = (votersL C).length + 1 := by simp
  obtain ⟨r1, r2⟩ := pickedZ_range n (((votersL C).length : Int) + 1) (by omega)
  obtain ⟨j, hj, hjz⟩ : ∃ j : Nat, j < (votersL C ++ [(hdrOf A B C).a]).length ∧ pickedZ n (((votersL C).length : Int) + 1) = (j : Int) := ⟨(pickedZ n (((votersL C).length : Int) + 1)).toNat, by omega, by omega⟩
  have HJZ := Lib.hid hjz
  have HOK := Lib.hid (hdrOf_ok A B C)
  have HT0 := Lib.hid ht
  have HAR := Lib.hid (all_range A B C)
  have HLaw := Lib.hid (provenAll_law A B C ((votersL C ++ [(hdrOf A B C).a])[j]) (List.getElem_mem hj))
  have HS3 := Lib.hid (all_three A B C)
  clear ht hjz
  go_enter Tryd.func3, Tryd.ntmps3
  go_upto_region 1 with fail
  go_cut [5] (fun p wx => ∃ (X g cap : Nat) (adb : Option Addr) (capb : Nat) (adp : Option Addr) (capp : Nat), p = .pointer (some ⟨X, 0, none⟩) ∧ w.heap.size ≤ X ∧ w.heap.size ≤ g ∧ g ≠ X ∧
      BoxAt wx X [.int .i64 (hdrOf A B C).a, .int .i64 (hdrOf A B C).r, .slice adb (hdrOf A B C).bs.length capb, .slice adp (hdrOf A B C).ps.length capp, .slice (some ⟨g, 0, none⟩) (votersL C).length cap] 32 ∧
      RdBB (fun b => b ≠ X ∧ b ≠ g) wx (.slice adb (hdrOf A B C).bs.length capb) (hdrOf A B C).bs ∧ RdBB (fun b => b ≠ X ∧ b ≠ g) wx (.slice adp (hdrOf A B C).ps.length capp) (hdrOf A B C).ps ∧
      RdI (fun b => b = g) wx (.slice (some ⟨g, 0, none⟩) (votersL C).length cap) (votersL C) ∧ (∀ j, wx.frozen? ⟨g, j, none⟩ = false) ∧ Below w.heap.size w wx)
  case first =>
    go_region_held3 (fun w' => w'.cell? ⟨w.heap.size, 0, none⟩ = some (.int .i64 K) ∧ w'.cell? ⟨w.heap.size, 1, none⟩ = some (.int .i64 A) ∧ w'.cell? ⟨w.heap.size, 2, none⟩ = some (.int .i64 B) ∧ w'.cell? ⟨w.heap.size, 3, none⟩ = some (.int .i64 C) ∧ w'.cell? ⟨w.heap.size, 4, none⟩ = some vt) (go_keep)
      (first
        | ((go_at_call 15; refine (header_any _ _ _ _ _ _ a1 a2 b1 b2 c1 c2 hvt).mono ?_; rintro e wh ⟨adb, capb, adp, capp, rfl, hbb, hpp, hbh⟩; (try (have qh0 := bcellAt hbh w.heap.size ?_; rotate_left; (first | omega | (simp <;> omega)); have kh0 := qh0.1; have fh0 := qh0.2; clear qh0)); (try (have qh1 := bcellAt hbh (w.heap.size + 1) ?_; rotate_left; (first | omega | (simp <;> omega)); have kh1 := qh1.1; have fh1 := qh1.2; clear qh1)); (try (have qh2 := bcellAt hbh wv.heap.size ?_; rotate_left; (first | omega | (simp <;> omega)); have kh2 := qh2.1; have fh2 := qh2.2; clear qh2)); have HBB := Lib.hid hbb; have HPP := Lib.hid hpp; have sh := hbh.size; (try simp at sh); have nh : w.heap.size < wh.heap.size := (by omega); have nh2 : wh.heap.size ≠ w.heap.size := (by omega); clear hbb hpp))
        | ((go_at_call 16; refine (voters_any _ _ c1 c2).mono ?_; rintro e wv ⟨vv, rfl, hov, hbv⟩; (try (have qv0 := bcellAt hbv w.heap.size ?_; rotate_left; (first | omega | (simp <;> omega)); have kv0 := qv0.1; have fv0 := qv0.2; clear qv0)); (try (have qv1 := bcellAt hbv (w.heap.size + 1) ?_; rotate_left; (first | omega | (simp <;> omega)); have kv1 := qv1.1; have fv1 := qv1.2; clear qv1)); (try (have qv2 := bcellAt hbv wh.heap.size ?_; rotate_left; (first | omega | (simp <;> omega)); have kv2 := qv2.1; have fv2 := qv2.2; clear qv2)); obtain ⟨g, capg, rfl, hgb, hgl, hgf⟩ := RdS.free_of_own hov (by omega); have HOV := Lib.hid hov; have HGF := Lib.hid hgf; have sv := hbv.size; (try simp at sv); have nv : w.heap.size < wv.heap.size := (by omega); have nv2 : wv.heap.size ≠ w.heap.size := (by omega); clear hov hgf)))
    all_goals
      have hw1 : w.heap.size < wh.heap.size := nh
      have hB1 : Below w.heap.size w wh := Below.trans (by repeat (first | with_reducible exact Below.refl _ _ | with_reducible refine Below.drew ?_ | with_reducible refine Below.alloc ?_ (by first | omega | (simp <;> omega)) _)) (hbh.mono (by first | omega | (simp <;> omega)))
      have hB2 : Below w.heap.size w wv := Below.trans (by repeat (first | with_reducible exact hB1 | with_reducible refine Below.drew ?_ | with_reducible refine Below.alloc ?_ (by first | omega | (simp <;> omega)) _)) (hbv.mono (by first | omega | (simp <;> omega)))
      have hbl := HBB.out.low (by decide)
      have hpl := HPP.out.low (by decide)
      have hvl := (RdS.of_owns (G := fun _ => True) HOV.out (fun _ _ => trivial)).atBlock
      have hgf := HGF.out
      simp at hgb hbl hpl
      go_wp2_with fail
      go_meet
    · refine ⟨wv.heap.size, g, capg, adb, capb, adp, capp, rfl, by omega, by omega, by omega, BoxAt.new wv [_, _, _, _, _] _, hbl.keep ?_ (fun b hb => ⟨by omega, by omega⟩), hpl.keep ?_ (fun b hb => ⟨by omega, by omega⟩), hvl.keep ?_ (fun b hb => hb), fun j => ?_, ?_⟩
      · repeat (first | with_reducible exact Keep.refl _ _ | with_reducible refine Keep.setCell' ?_ (by first | (simp; done) | (simp; omega)) _ | with_reducible refine Keep.alloc' ?_ _ | with_reducible refine Keep.drew' ?_ | with_reducible refine Keep.trans ?_ (Keep.below hbv))
      · repeat (first | with_reducible exact Keep.refl _ _ | with_reducible refine Keep.setCell' ?_ (by first | (simp; done) | (simp; omega)) _ | with_reducible refine Keep.alloc' ?_ _ | with_reducible refine Keep.drew' ?_ | with_reducible refine Keep.trans ?_ (Keep.below hbv))
      · repeat (first | with_reducible exact Keep.refl _ _ | with_reducible refine Keep.setCell' ?_ (by first | (simp; done) | (simp; omega)) _ | with_reducible refine Keep.alloc' ?_ _ | with_reducible refine Keep.drew' ?_ | with_reducible refine Keep.trans ?_ (Keep.below hbv))
      · rw [((Below.refl wv.heap.size wv).alloc (Nat.le_refl _) _).frozen (p := ⟨g, j, none⟩) hgl]; exact hgf j
      · exact hB2.alloc (by omega) _
    · refine ⟨wh.heap.size, g, capg, adb, capb, adp, capp, rfl, by omega, by omega, by omega, BoxAt.set5 ((BoxAt.new wh [_, _, _, _, _] _).below hbv (by simp)) _ _ _ _ _, hbl.keep ?_ (fun b hb => ⟨by omega, by omega⟩), hpl.keep ?_ (fun b hb => ⟨by omega, by omega⟩), hvl.keep ?_ (fun b hb => hb), fun j => ?_, ?_⟩
      · repeat (first | with_reducible exact Keep.refl _ _ | with_reducible refine Keep.setCell' ?_ (by first | (simp; done) | (simp; omega)) _ | with_reducible refine Keep.alloc' ?_ _ | with_reducible refine Keep.drew' ?_ | with_reducible refine Keep.trans ?_ (Keep.below hbv))
      · repeat (first | with_reducible exact Keep.refl _ _ | with_reducible refine Keep.setCell' ?_ (by first | (simp; done) | (simp; omega)) _ | with_reducible refine Keep.alloc' ?_ _ | with_reducible refine Keep.drew' ?_ | with_reducible refine Keep.trans ?_ (Keep.below hbv))
      · repeat (first | with_reducible exact Keep.refl _ _ | with_reducible refine Keep.setCell' ?_ (by first | (simp; done) | (simp; omega)) _ | with_reducible refine Keep.alloc' ?_ _ | with_reducible refine Keep.drew' ?_ | with_reducible refine Keep.trans ?_ (Keep.below hbv))
      · simp only [World.frozen?_setCell]; with_reducible exact hgf j
      · repeat (first | with_reducible exact hB2 | with_reducible refine Below.setCell ?_ (by first | omega | (simp <;> omega)) _)
    · refine ⟨w.heap.size + 1, g, capg, adb, capb, adp, capp, rfl, by omega, by omega, by omega, BoxAt.set5 (((BoxAt.newAt (w.alloc _) [_, _, _, _, _] _ (by simp)).drew.below hbh (by simp)).below hbv (by omega)) _ _ _ _ _, hbl.keep ?_ (fun b hb => ⟨by omega, by omega⟩), hpl.keep ?_ (fun b hb => ⟨by omega, by omega⟩), hvl.keep ?_ (fun b hb => hb), fun j => ?_, ?_⟩
      · repeat (first | with_reducible exact Keep.refl _ _ | with_reducible refine Keep.setCell' ?_ (by first | (simp; done) | (simp; omega)) _ | with_reducible refine Keep.alloc' ?_ _ | with_reducible refine Keep.drew' ?_ | with_reducible refine Keep.trans ?_ (Keep.below hbv))
      · repeat (first | with_reducible exact Keep.refl _ _ | with_reducible refine Keep.setCell' ?_ (by first | (simp; done) | (simp; omega)) _ | with_reducible refine Keep.alloc' ?_ _ | with_reducible refine Keep.drew' ?_ | with_reducible refine Keep.trans ?_ (Keep.below hbv))
      · repeat (first | with_reducible exact Keep.refl _ _ | with_reducible refine Keep.setCell' ?_ (by first | (simp; done) | (simp; omega)) _ | with_reducible refine Keep.alloc' ?_ _ | with_reducible refine Keep.drew' ?_ | with_reducible refine Keep.trans ?_ (Keep.below hbv))
      · simp only [World.frozen?_setCell]; with_reducible exact hgf j
      · repeat (first | with_reducible exact hB2 | with_reducible refine Below.setCell ?_ (by first | omega | (simp <;> omega)) _)
  case rest =>
    obtain ⟨X, g, cap, adb, capb, adp, capp, rfl, hXw, hgw, hgX, bX, hbb, hpp, hvv, hgf, hB⟩ := hcut
    have HBB := Lib.hid hbb
    have HPP := Lib.hid hpp
    have HVV := Lib.hid hvv
    have HBX := Lib.hid bX
    have HGF := Lib.hid hgf
    have x0 := bX.cell 0 rfl
    have x1 := bX.cell 1 rfl
    have x2 := bX.cell 2 rfl
    have x3 := bX.cell 3 rfl
    have x4 := bX.cell 4 rfl
    have z := bX.lt
    have z0 := hB.size
    have HB := Lib.hid hB
    obtain ⟨-, hlc, hcm, -⟩ := HVV.out.len
    unfold maxLen at hcm
    have zg : g < wc.heap.size := World.block_lt_of_cell? wc _ (HVV.out.cells 0 (by omega))
    clear hbb hpp hvv bX hgf hB x1 x2 x3
    go_upto_region 2 with fail
    generalize wc = wa at *
    go_cut [6] (fun p wx => ∃ (g6 cap6 : Nat), p = .slice (some ⟨g6, 0, none⟩) ((votersL C).length + 1) cap6 ∧ RdI (fun b => wa.heap.size ≤ b) wx (.slice (some ⟨g6, 0, none⟩) ((votersL C).length + 1) cap6) (votersL C ++ [(hdrOf A B C).a]) ∧ Below wa.heap.size wa wx)
    case first =>
      go_region_held3 (fun w' => w'.cell? ⟨X, 0, none⟩ = some (.int .i64 (hdrOf A B C).a) ∧ w'.cell? ⟨X, 4, none⟩ = some (.slice (some ⟨g, 0, none⟩) (votersL C).length cap)) (go_keep)
        (first
          | ((refine step_append_one (by rfl) _ _ _ (by rfl) elemInt wa.heap.size (.slice (some ⟨g5, 0, none⟩) (votersL C).length cap5) (votersL C).length (intVs (votersL C)) (by rfl) (by first | exact ownsRow_below HO5.out ((Below.refl _ _).alloc (Nat.le_refl _) _) | exact ownsRow_below HO5.out ((Below.refl _ _).drew.alloc (Nat.le_refl _) _) | exact HO5.out | exact HO5.out.drew) _ 3 [.int .i64 (hdrOf A B C).a] (by rfl) (by first | exact BoxAt.new _ [_] _ | exact (BoxAt.new _ [_] _).drew | exact HBL5.out) rfl (by simp [Value.oneCell']) (by unfold maxLen; omega) (by omega) (by first | omega | (simp; omega)) ?_; intro g6 cap6 w6 hown6 hgr6 hat6 hlt6;
              have hkg : Keep (fun b => b < wa.heap.size) wa w6 := (by first | exact ((KP5.out.trans (Keep.alloc _ _ _)).trans (Keep.grown hgr6 (fun k hk hb => by have := ownBlock_ge HO5.out _ hk; omega))) | exact (KP5.out.trans (Keep.grown hgr6 (fun k hk hb => by have := ownBlock_ge HO5.out _ hk; omega))));
              have r0 := hkg _ _ _ (by omega) x0; have r4 := hkg _ _ _ (by omega) x4))
          | ((refine step_append_at1 (by rfl) _ _ 29 (by rfl) elemInt wa.heap.size (.slice none 0 0) 0 [] (by rfl) (World.ownsRow_nil _ _ _ _) (.slice (some ⟨g, 0, none⟩) (votersL C).length cap) (votersL C).length (intVs (votersL C)) (by rfl) (by first | exact HVV.out.slCells | exact (HVV.out.keep (Keep.drew _ _) (fun _ h => h)).slCells | exact (HVV.out.keep (Keep.alloc _ _ _) (fun _ h => h)).slCells | exact ((HVV.out.keep (Keep.drew _ _) (fun _ h => h)).keep (Keep.alloc _ _ _) (fun _ h => h)).slCells) (oneCell_map _ _ (fun _ => rfl)) (by omega) (by unfold maxLen; omega) (by omega) (by first | omega | (simp; done) | (simp; omega)) ?_; intro g5 cap5 w5 hown5 hgr5 hat5 hlt5;
              simp only [Nat.zero_add, List.nil_append] at hown5 ⊢;
              have HO5 := Lib.hid (show w5.ownsRow wa.heap.size 3 1 (.slice (some ⟨g5, 0, none⟩) (votersL C).length cap5) (votersL C).length (intVs (votersL C)) from hown5);
              have KP5 := Lib.hid (show Keep (fun b => b < wa.heap.size) wa w5 from by first | exact Keep.grown hgr5 (fun k hk => by simp [Value.ownBlock] at hk) | exact (Keep.drew _ _).trans (Keep.grown hgr5 (fun k hk => by simp [Value.ownBlock] at hk)) | exact (Keep.alloc _ _ _).trans (Keep.grown hgr5 (fun k hk => by simp [Value.ownBlock] at hk)) | exact ((Keep.drew _ _).trans (Keep.alloc _ _ _)).trans (Keep.grown hgr5 (fun k hk => by simp [Value.ownBlock] at hk)));
              have HB5 := Lib.hid (show Below wa.heap.size wa w5 from by first | exact (Below.refl _ _).grown hgr5 (by simp) (fun k hk => by simp [Value.ownBlock] at hk) | exact (Below.refl _ _).drew.grown hgr5 (by simp) (fun k hk => by simp [Value.ownBlock] at hk) | exact ((Below.refl _ _).alloc (Nat.le_refl _) _).grown hgr5 (by simp) (fun k hk => by simp [Value.ownBlock] at hk) | exact ((Below.refl _ _).drew.alloc (by simp) _).grown hgr5 (by simp) (fun k hk => by simp [Value.ownBlock] at hk));
              have s5 := HB5.out.size;
              (try have HBL5 := Lib.hid ((BoxAt.newAt wa.drew [.int .i64 (hdrOf A B C).a] 3 (n := wa.heap.size) rfl).grown hgr5 (by simp [Value.ownBlock])));
              have q0 := KP5.out _ _ _ (by omega) x0; have q4 := KP5.out _ _ _ (by omega) x4; clear hown5)))
      all_goals
        have hB6 : Below wa.heap.size wa w6 := (by first | exact (HB5.out.alloc s5 _).grown hgr6 (by simp; omega) (fun k hk => by have := ownBlock_ge HO5.out _ hk; omega) | exact HB5.out.grown hgr6 (by omega) (fun k hk => by have := ownBlock_ge HO5.out _ hk; omega))
        have hN6 : RdI (fun b => wa.heap.size ≤ b) w6 (.slice (some ⟨g6, 0, none⟩) ((votersL C).length + 1) cap6) (votersL C ++ [(hdrOf A B C).a]) := RdS.of_owns (f := Value.int .i64) (by simpa [intVs] using hown6) (fun _ h => h)
        go_wp2_with fail
        go_meet
        exact ⟨g6, cap6, rfl, hN6, hB6⟩
    case rest =>
      obtain ⟨g6, cap6, rfl, hN, hB6⟩ := hcut
      have bX := HBX.out.belowS hB6
      have HX1 := Lib.hid bX
      have HBB1 := Lib.hid (HBB.out.below hB6 (fun _ h => h))
      have HPP1 := Lib.hid (HPP.out.below hB6 (fun _ h => h))
      have HVV1 := Lib.hid (HVV.out.below hB6 (fun _ h => h))
      have HN1 := Lib.hid hN
      have HB1 := Lib.hid (HB.out.trans (hB6.mono z0))
      have x0 := bX.cell 0 rfl
      have x1 := bX.cell 1 rfl
      have x2 := bX.cell 2 rfl
      have x3 := bX.cell 3 rfl
      have zx := bX.lt
      clear hN hB6 bX HBB HPP HVV HB HBX
      go_wp2_with fail
      refine (signedBy_any (G := fun _ => True) (hdrOf A B C) (votersL C ++ [(hdrOf A B C).a]) _ _ _ _ (HBB1.out.mono (fun _ _ => trivial)) (HPP1.out.mono (fun _ _ => trivial)) HN1.out (HT0.out.belowS HB1.out) HOK.out HAR.out (by omega)).mono ?_
      rintro e w2 ⟨vL, rfl, hL, hb2⟩
      have hs3 := HS3.out
      have HP1 := Lib.hid HLaw.out.1
      have HP2 := Lib.hid HLaw.out.2.1
      have HP3 := Lib.hid HLaw.out.2.2
      have HL2 := Lib.hid (hL.mono (G' := fun _ => True) (fun _ _ => trivial))
      generalize signedL (hdrOf A B C) (votersL C ++ [(hdrOf A B C).a]) = L1 at *
      obtain ⟨adL, capL, rfl, -, -⟩ := HL2.out.form
      have t3 : ¬ ((L1.length : Int) < 3) := by omega
      have HX2 := Lib.hid (HX1.out.belowS hb2)
      have HBB2 := Lib.hid (HBB1.out.below hb2 (fun _ h => h))
      have HPP2 := Lib.hid (HPP1.out.below hb2 (fun _ h => h))
      have HVV2 := Lib.hid (HVV1.out.below hb2 (fun _ h => h))
      have HN2 := Lib.hid (HN1.out.below hb2 (fun _ h => h))
      have HB2 := Lib.hid (HB1.out.trans (hb2.mono HB1.out.size))
      clear hL hb2 x0 x1 x2 x3 HX1 HBB1 HPP1 HVV1 HN1 HB1 HLaw HS3 hs3
      have bX := HX2.out
      have x0 := bX.cell 0 rfl
      have x1 := bX.cell 1 rfl
      have x2 := bX.cell 2 rfl
      have x3 := bX.cell 3 rfl
      have x4 := bX.cell 4 rfl
      clear bX
      go_wp2_with fail
      refine (proven_any (G' := fun _ => True) (-1) ⟨hdrOf A B C, votersL C⟩ _ _ _ _ _ HL2.out (HBB2.out.mono (fun _ _ => trivial)) (HPP2.out.mono (fun _ _ => trivial)) (HVV2.out.mono (fun _ _ => trivial)) (HT0.out.belowS HB2.out)).mono ?_
      rintro e w3 ⟨rfl, hb3⟩
      rw [HP1.out]
      have HX3 := Lib.hid (HX2.out.belowS hb3)
      have HBB3 := Lib.hid (HBB2.out.below hb3 (fun _ h => h))
      have HPP3 := Lib.hid (HPP2.out.below hb3 (fun _ h => h))
      have HVV3 := Lib.hid (HVV2.out.below hb3 (fun _ h => h))
      have HN3 := Lib.hid (HN2.out.below hb3 (fun _ h => h))
      have HB3 := Lib.hid (HB2.out.trans (hb3.mono HB2.out.size))
      clear hb3 x0 x1 x2 x3 x4 HX2 HBB2 HPP2 HVV2 HN2 HB2
      have hcj := HN3.out.cells j hj
      simp only [Nat.zero_add] at hcj
      have j0 : (0 : Int) ≤ (j : Int) := by omega
      have j1 : (j : Int) < ((votersL C).length : Int) + 1 := by omega
      generalize (votersL C ++ [(hdrOf A B C).a])[j] = kk at *
      go_wp2_with fail
      refine (picked_any n (((votersL C).length : Int) + 1) _ n1 n2 (by omega) (by omega)).mono ?_
      rintro e w' ⟨rfl, rfl⟩
      rw [HJZ.out]
      go_wp2_with fail
      have hz3 := HB3.out.size
      go_loopw [9, 10] (fun v i wr => ∃ k : Nat, k ≤ (votersL C).length + 1 ∧ i = .int .i64 k ∧ wr.ownsRow w3.heap.size 3 1 v (lessN (votersL C ++ [(hdrOf A B C).a]) kk k).length ((lessN (votersL C ++ [(hdrOf A B C).a]) kk k).map (Value.int .i64)) ∧ Below w3.heap.size w3 wr) (fun _ i _ => (votersL C).length + 1 - (intOf i).toNat)
      case atStart => exact ⟨0, Nat.zero_le _, rfl, World.ownsRow_nil _ _ _ _, Below.refl _ _⟩
      case round =>
        obtain ⟨k, hk, rfl, hown, hB⟩ := hrel
        have HO := Lib.hid hown
        clear hown
        have hz := hB.size
        have i0 : (0 : Int) ≤ (k : Int) := by omega
        by_cases hlt : k < (votersL C).length + 1
        · have i1 : (k : Int) < ((votersL C).length : Int) + 1 := by omega
          have hkl : k < (votersL C ++ [(hdrOf A B C).a]).length := by omega
          have hck := (HN3.out.below hB (fun _ h => h)).cells k hkl
          simp only [Nat.zero_add] at hck
          by_cases e : (votersL C ++ [(hdrOf A B C).a])[k] = kk
          · have hb : ((votersL C ++ [(hdrOf A B C).a])[k] != kk) = false := by simp [e]
            have HS := Lib.hid (lessN_skip hkl e)
            clear e
            generalize (votersL C ++ [(hdrOf A B C).a])[k] = m at *
            go_wp2
            go_roundw
            case rel => exact ⟨k + 1, by omega, by go_num, by rw [HS.out]; exact HO.out, hB⟩
            case measure => simp [intOf]; omega
          · have hb : ((votersL C ++ [(hdrOf A B C).a])[k] != kk) = true := by rw [bne_iff_ne]; exact e
            have HS := Lib.hid (lessN_put hkl e)
            have hl := lessN_len (votersL C ++ [(hdrOf A B C).a]) kk k
            clear e
            generalize (votersL C ++ [(hdrOf A B C).a])[k] = m at *
            go_wp2_with (at_builtin; refine wpList_append_sl rfl _ _ 29 rfl elemInt w3.heap.size _ rfl (lessN (votersL C ++ [(hdrOf A B C).a]) kk k).length ((lessN (votersL C ++ [(hdrOf A B C).a]) kk k).map (Value.int .i64)) (HO.out.alloc _) _ rfl 1 [.int .i64 m] (by exact slCells_new _ [_] _ 1 rfl) (by simp [Value.oneCell']) (by unfold maxLen; omega) (by omega) (by simp; omega) ?_; intro v' w' hown' hgr)
            have hB' : Below w3.heap.size w3 w' := (hB.alloc hz _).grown hgr (by simp; omega) (ownBlock_ge HO.out)
            go_roundw
            case rel => exact ⟨k + 1, by omega, by go_num, by rw [HS.out]; simpa using hown', hB'⟩
            case measure => simp [intOf]; omega
        · have i1 : ¬ (k : Int) < ((votersL C).length : Int) + 1 := by omega
          obtain rfl : k = (votersL C ++ [(hdrOf A B C).a]).length := by omega
          have ho := HO.out
          rw [lessN_all] at ho
          have hlw := lessN_len (votersL C ++ [(hdrOf A B C).a]) kk (votersL C ++ [(hdrOf A B C).a]).length
          rw [lessN_all] at hlw
          have har : ∀ x ∈ (votersL C ++ [(hdrOf A B C).a]).filter (fun m => !decide (m = kk)), 0 ≤ x ∧ x < 4 := fun x hx => HAR.out x (List.mem_filter.1 hx).1
          have HAR4 := Lib.hid har
          have hrd := RdS.of_owns (f := Value.int .i64) (G := fun _ => True) ho (fun _ _ => trivial)
          have HR4 := Lib.hid hrd
          generalize (votersL C ++ [(hdrOf A B C).a]).filter (fun m => !decide (m = kk)) = F at *
          have HX4 := Lib.hid (HX3.out.belowS hB)
          have HBB4 := Lib.hid (HBB3.out.below hB (fun _ h => h))
          have HPP4 := Lib.hid (HPP3.out.below hB (fun _ h => h))
          have HVV4 := Lib.hid (HVV3.out.below hB (fun _ h => h))
          have HB4 := Lib.hid (HB3.out.trans (hB.mono HB3.out.size))
          clear ho hrd har hB
          have bX := HX4.out
          have x0 := bX.cell 0 rfl
          have x1 := bX.cell 1 rfl
          have x2 := bX.cell 2 rfl
          have x3 := bX.cell 3 rfl
          have zx := bX.lt
          clear bX
          go_wp2_with fail
          refine (signedBy_any (G := fun _ => True) (hdrOf A B C) F _ _ _ _ (HBB4.out.mono (fun _ _ => trivial)) (HPP4.out.mono (fun _ _ => trivial)) HR4.out (HT0.out.belowS HB4.out) HOK.out HAR4.out (by omega)).mono ?_
          rintro e w5 ⟨vM, rfl, hM, hb5⟩
          have HM5 := Lib.hid (hM.mono (G' := fun _ => True) (fun _ _ => trivial))
          generalize signedL (hdrOf A B C) F = M at *
          obtain ⟨adM, capM, rfl, -, -⟩ := HM5.out.form
          have HX5 := Lib.hid (HX4.out.belowS hb5)
          have HBB5 := Lib.hid (HBB4.out.below hb5 (fun _ h => h))
          have HPP5 := Lib.hid (HPP4.out.below hb5 (fun _ h => h))
          have HVV5 := Lib.hid (HVV4.out.below hb5 (fun _ h => h))
          have HB5 := Lib.hid (HB4.out.trans (hb5.mono HB4.out.size))
          clear hM hb5 x0 x1 x2 x3 zx
          have bX := HX5.out
          have x0 := bX.cell 0 rfl
          have x1 := bX.cell 1 rfl
          have x2 := bX.cell 2 rfl
          have x3 := bX.cell 3 rfl
          have x4 := bX.cell 4 rfl
          have zx := bX.lt
          clear bX
          go_wp2_with fail
          refine (proven_any (G' := fun _ => True) (-1) ⟨hdrOf A B C, votersL C⟩ _ _ _ _ _ HM5.out (HBB5.out.mono (fun _ _ => trivial)) (HPP5.out.mono (fun _ _ => trivial)) (HVV5.out.mono (fun _ _ => trivial)) (HT0.out.belowS HB5.out)).mono ?_
          rintro e w6 ⟨rfl, hb6⟩
          rw [HP2.out]
          have HM6 := Lib.hid (HM5.out.below hb6 (fun _ h => h))
          have HX6 := Lib.hid (HX5.out.belowS hb6)
          have HBB6 := Lib.hid (HBB5.out.below hb6 (fun _ h => h))
          have HPP6 := Lib.hid (HPP5.out.below hb6 (fun _ h => h))
          have HVV6 := Lib.hid (HVV5.out.below hb6 (fun _ h => h))
          have HB6 := Lib.hid (HB5.out.trans (hb6.mono HB5.out.size))
          clear hb6 x0 x1 x2 x3 x4 zx
          have bX := HX6.out
          have x0 := bX.cell 0 rfl
          have x1 := bX.cell 1 rfl
          have x2 := bX.cell 2 rfl
          have x3 := bX.cell 3 rfl
          have x4 := bX.cell 4 rfl
          clear bX
          go_wp2_with fail
          refine (proven_any (G' := fun _ => True) kk ⟨hdrOf A B C, votersL C⟩ _ _ _ _ _ HM6.out (HBB6.out.mono (fun _ _ => trivial)) (HPP6.out.mono (fun _ _ => trivial)) (HVV6.out.mono (fun _ _ => trivial)) (HT0.out.belowS HB6.out)).mono ?_
          rintro e w7 ⟨rfl, hb7⟩
          rw [HP3.out]
          go_wp2
          go_ret
          exact ⟨rfl, HB6.out.trans (hb7.mono HB6.out.size)⟩

theorem provenAll_walk (vt : Value) (r : RawD) (n : Int) (w : World) (hr : RawOk (fun _ => True) w vt r) (n1 : -9223372036854775808 ≤ n) (n2 : n ≤ 9223372036854775807) (ht : Tabs w) :
    Calls Tryd.prog 3 #[.agg #[.int .i64 r.k, .int .i64 r.a, .int .i64 r.b, .int .i64 r.c, vt], .int .i64 n] w fun e w' => e = .returned (.bool true) ∧ Below w.heap.size w w' :=
  provenAll_case r.k r.a r.b r.c n vt w hr.one hr.2.1.1 hr.2.1.2 hr.2.2.1.1 hr.2.2.1.2 hr.2.2.2.1.1 hr.2.2.2.1.2 n1 n2 ht
end Go.Proofs.YtialhdmdeggenaaDoor
