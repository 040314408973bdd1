/- ProofBytes: the walk. -/
import Derived.Test.YtgkmgdkmafbohaaEncC
import Derived.Test.YtgkmgdkmafbohaaHdrLaw
import Derived.Test.YtgkmgdkmafbohaaCertL
import Derived.Test.YtgkmgdkmafbohaaOpenS
import Derived.Test.YtgkmgdkmafbohaaSameB
import Derived.Deep.QuietTactic
import Derived.BigQuiet
set_option linter.unusedVariables false
set_option linter.unusedSimpArgs false
attribute [local go_sem ↓] Go.wp_at_zero Go.wp_at_succ
namespace Go.Proofs.Ytgkmgdkmafbohaa
open Go Go.RowKit

theorem proof_bytes (h : Hdr) (vs : List Int) : encL ⟨0, 0, 4, bat0, hdr0, slt0, ⟨h, vs⟩, 0⟩ = byteZ 4 :: ((byteZ 0 :: byteZ 0 :: putHeaderL h) ++ (byteZ vs.length :: vs.map byteZ)) := rfl
theorem offer_bytes (h : Hdr) : encL ⟨0, 0, 2, bat0, h, slt0, crt0, 0⟩ = byteZ 2 :: (byteZ 0 :: byteZ 0 :: putHeaderL h) := rfl

theorem pb_at {q c : UInt8} {PH rest : Bytes} {n : Nat} (hn : n = PH.length + 1) (h : n < (q :: (PH ++ c :: rest)).length) : (q :: (PH ++ c :: rest))[n] = c := by
  subst hn; simp
theorem pb_at2 {q c : UInt8} {PH rest : Bytes} {n i : Nat} (hn : n = PH.length + 1 + 1 + i) (hi : i < rest.length) (h : n < (q :: (PH ++ c :: rest)).length) : (q :: (PH ++ c :: rest))[n] = rest[i] := by
  subst hn
  simp only [show PH.length + 1 + 1 + i = (PH.length + (i + 1)) + 1 by omega, List.getElem_cons_succ]
  rw [List.getElem_append_right (by omega)]
  simp
set_option maxRecDepth 100000 in
set_option maxHeartbeats 8000000 in
theorem proofBytes_case (K A B C : Int) (vt : Value) (w : World) (hvt : vt.oneCell' = true) (a1 : -9223372036854775808 ≤ A) (a2 : A ≤ 9223372036854775807) (b1 : -9223372036854775808 ≤ B) (b2 : B ≤ 9223372036854775807) (c1 : -9223372036854775808 ≤ C) (c2 : C ≤ 9223372036854775807) :
    Calls Try.prog 9 #[.agg #[.int .i64 K, .int .i64 A, .int .i64 B, .int .i64 C, vt]] w fun e w' => e = .returned (.bool true) ∧ Below w.heap.size w w' := by
  have hl3 := voters_len3 C
  have hl4 := voters_len4 C
  go_enter Try.func9, Try.ntmps9
  go_upto_region 1 with fail
  go_cut [3] (fun p wx => ∃ (X g cap : Nat) (adb : Option Addr) (capb : Nat) (adp : Option Addr) (capp : Nat), p = .pointer (some ⟨X, 0, none⟩) ∧ w.heap.size ≤ X ∧ w.heap.size ≤ g ∧ g ≠ X ∧
      BoxAt wx X [.int .i64 (hdrOf A B C).a, .int .i64 (hdrOf A B C).r, .slice adb (hdrOf A B C).bs.length capb, .slice adp (hdrOf A B C).ps.length capp, .slice (some ⟨g, 0, none⟩) (votersL C).length cap] 40 ∧
      RdBB (fun b => b ≠ X ∧ b ≠ g) wx (.slice adb (hdrOf A B C).bs.length capb) (hdrOf A B C).bs ∧ RdBB (fun b => b ≠ X ∧ b ≠ g) wx (.slice adp (hdrOf A B C).ps.length capp) (hdrOf A B C).ps ∧
      RdI (fun b => b = g) wx (.slice (some ⟨g, 0, none⟩) (votersL C).length cap) (votersL C) ∧ (∀ j, wx.frozen? ⟨g, j, none⟩ = false) ∧ Below w.heap.size w wx)
  case first =>
    go_region_held3 (fun w' => w'.cell? ⟨w.heap.size, 0, none⟩ = some (.int .i64 K) ∧ w'.cell? ⟨w.heap.size, 1, none⟩ = some (.int .i64 A) ∧ w'.cell? ⟨w.heap.size, 2, none⟩ = some (.int .i64 B) ∧ w'.cell? ⟨w.heap.size, 3, none⟩ = some (.int .i64 C) ∧ w'.cell? ⟨w.heap.size, 4, none⟩ = some vt) (go_keep)
      (first
        | ((go_at_call 23; refine (header_any _ _ _ _ _ _ a1 a2 b1 b2 c1 c2 hvt).mono ?_; rintro e wh ⟨adb, capb, adp, capp, rfl, hbb, hpp, hbh⟩; (try (have qh0 := bcellAt hbh w.heap.size ?_; rotate_left; (first | omega | (simp <;> omega)); have kh0 := qh0.1; have fh0 := qh0.2; clear qh0)); (try (have qh1 := bcellAt hbh (w.heap.size + 1) ?_; rotate_left; (first | omega | (simp <;> omega)); have kh1 := qh1.1; have fh1 := qh1.2; clear qh1)); (try (have qh2 := bcellAt hbh wv.heap.size ?_; rotate_left; (first | omega | (simp <;> omega)); have kh2 := qh2.1; have fh2 := qh2.2; clear qh2)); have HBB := Lib.hid hbb; have HPP := Lib.hid hpp; have sh := hbh.size; (try simp at sh); have nh : w.heap.size < wh.heap.size := (by omega); have nh2 : wh.heap.size ≠ w.heap.size := (by omega); clear hbb hpp))
        | ((go_at_call 24; refine (voters_any _ _ c1 c2).mono ?_; rintro e wv ⟨vv, rfl, hov, hbv⟩; (try (have qv0 := bcellAt hbv w.heap.size ?_; rotate_left; (first | omega | (simp <;> omega)); have kv0 := qv0.1; have fv0 := qv0.2; clear qv0)); (try (have qv1 := bcellAt hbv (w.heap.size + 1) ?_; rotate_left; (first | omega | (simp <;> omega)); have kv1 := qv1.1; have fv1 := qv1.2; clear qv1)); (try (have qv2 := bcellAt hbv wh.heap.size ?_; rotate_left; (first | omega | (simp <;> omega)); have kv2 := qv2.1; have fv2 := qv2.2; clear qv2)); obtain ⟨g, capg, rfl, hgb, hgl, hgf⟩ := RdS.free_of_own hov (by omega); have HOV := Lib.hid hov; have HGF := Lib.hid hgf; have sv := hbv.size; (try simp at sv); have nv : w.heap.size < wv.heap.size := (by omega); have nv2 : wv.heap.size ≠ w.heap.size := (by omega); clear hov hgf)))
    all_goals
      have hw1 : w.heap.size < wh.heap.size := nh
      have hB1 : Below w.heap.size w wh := Below.trans (by repeat (first | with_reducible exact Below.refl _ _ | with_reducible refine Below.drew ?_ | with_reducible refine Below.alloc ?_ (by first | omega | (simp <;> omega)) _)) (hbh.mono (by first | omega | (simp <;> omega)))
      have hB2 : Below w.heap.size w wv := Below.trans (by repeat (first | with_reducible exact hB1 | with_reducible refine Below.drew ?_ | with_reducible refine Below.alloc ?_ (by first | omega | (simp <;> omega)) _)) (hbv.mono (by first | omega | (simp <;> omega)))
      have hbl := HBB.out.low (by decide)
      have hpl := HPP.out.low (by decide)
      have hvl := (RdS.of_owns (G := fun _ => True) HOV.out (fun _ _ => trivial)).atBlock
      have hgf := HGF.out
      simp at hgb hbl hpl
      go_wp2_with fail
      go_meet
    · refine ⟨wv.heap.size, g, capg, adb, capb, adp, capp, rfl, by omega, by omega, by omega, BoxAt.new wv [_, _, _, _, _] _, hbl.keep ?_ (fun b hb => ⟨by omega, by omega⟩), hpl.keep ?_ (fun b hb => ⟨by omega, by omega⟩), hvl.keep ?_ (fun b hb => hb), fun j => ?_, ?_⟩
      · repeat (first | with_reducible exact Keep.refl _ _ | with_reducible refine Keep.setCell' ?_ (by first | (simp; done) | (simp; omega)) _ | with_reducible refine Keep.alloc' ?_ _ | with_reducible refine Keep.drew' ?_ | with_reducible refine Keep.trans ?_ (Keep.below hbv))
      · repeat (first | with_reducible exact Keep.refl _ _ | with_reducible refine Keep.setCell' ?_ (by first | (simp; done) | (simp; omega)) _ | with_reducible refine Keep.alloc' ?_ _ | with_reducible refine Keep.drew' ?_ | with_reducible refine Keep.trans ?_ (Keep.below hbv))
      · repeat (first | with_reducible exact Keep.refl _ _ | with_reducible refine Keep.setCell' ?_ (by first | (simp; done) | (simp; omega)) _ | with_reducible refine Keep.alloc' ?_ _ | with_reducible refine Keep.drew' ?_ | with_reducible refine Keep.trans ?_ (Keep.below hbv))
      · rw [((Below.refl wv.heap.size wv).alloc (Nat.le_refl _) _).frozen (p := ⟨g, j, none⟩) hgl]; exact hgf j
      · exact hB2.alloc (by omega) _
    · refine ⟨wh.heap.size, g, capg, adb, capb, adp, capp, rfl, by omega, by omega, by omega, BoxAt.set5 ((BoxAt.new wh [_, _, _, _, _] _).below hbv (by simp)) _ _ _ _ _, hbl.keep ?_ (fun b hb => ⟨by omega, by omega⟩), hpl.keep ?_ (fun b hb => ⟨by omega, by omega⟩), hvl.keep ?_ (fun b hb => hb), fun j => ?_, ?_⟩
      · repeat (first | with_reducible exact Keep.refl _ _ | with_reducible refine Keep.setCell' ?_ (by first | (simp; done) | (simp; omega)) _ | with_reducible refine Keep.alloc' ?_ _ | with_reducible refine Keep.drew' ?_ | with_reducible refine Keep.trans ?_ (Keep.below hbv))
      · repeat (first | with_reducible exact Keep.refl _ _ | with_reducible refine Keep.setCell' ?_ (by first | (simp; done) | (simp; omega)) _ | with_reducible refine Keep.alloc' ?_ _ | with_reducible refine Keep.drew' ?_ | with_reducible refine Keep.trans ?_ (Keep.below hbv))
      · repeat (first | with_reducible exact Keep.refl _ _ | with_reducible refine Keep.setCell' ?_ (by first | (simp; done) | (simp; omega)) _ | with_reducible refine Keep.alloc' ?_ _ | with_reducible refine Keep.drew' ?_ | with_reducible refine Keep.trans ?_ (Keep.below hbv))
      · simp only [World.frozen?_setCell]; with_reducible exact hgf j
      · repeat (first | with_reducible exact hB2 | with_reducible refine Below.setCell ?_ (by first | omega | (simp <;> omega)) _)
    · refine ⟨w.heap.size + 1, g, capg, adb, capb, adp, capp, rfl, by omega, by omega, by omega, BoxAt.set5 (((BoxAt.newAt (w.alloc _) [_, _, _, _, _] _ (by simp)).drew.below hbh (by simp)).below hbv (by omega)) _ _ _ _ _, hbl.keep ?_ (fun b hb => ⟨by omega, by omega⟩), hpl.keep ?_ (fun b hb => ⟨by omega, by omega⟩), hvl.keep ?_ (fun b hb => hb), fun j => ?_, ?_⟩
      · repeat (first | with_reducible exact Keep.refl _ _ | with_reducible refine Keep.setCell' ?_ (by first | (simp; done) | (simp; omega)) _ | with_reducible refine Keep.alloc' ?_ _ | with_reducible refine Keep.drew' ?_ | with_reducible refine Keep.trans ?_ (Keep.below hbv))
      · repeat (first | with_reducible exact Keep.refl _ _ | with_reducible refine Keep.setCell' ?_ (by first | (simp; done) | (simp; omega)) _ | with_reducible refine Keep.alloc' ?_ _ | with_reducible refine Keep.drew' ?_ | with_reducible refine Keep.trans ?_ (Keep.below hbv))
      · repeat (first | with_reducible exact Keep.refl _ _ | with_reducible refine Keep.setCell' ?_ (by first | (simp; done) | (simp; omega)) _ | with_reducible refine Keep.alloc' ?_ _ | with_reducible refine Keep.drew' ?_ | with_reducible refine Keep.trans ?_ (Keep.below hbv))
      · simp only [World.frozen?_setCell]; with_reducible exact hgf j
      · repeat (first | with_reducible exact hB2 | with_reducible refine Below.setCell ?_ (by first | omega | (simp <;> omega)) _)
  case rest =>
    obtain ⟨X, g, cap, adb, capb, adp, capp, rfl, hXw, hgw, hgX, bX, hbb, hpp, hvv, hgf, hB⟩ := hcut
    have hcrt := crtOf_ok A B C
    have hok := hdrOf_ok A B C
    generalize hdrOf A B C = H at *
    generalize votersL C = V at *
    obtain ⟨n1, n2, n3, n4, n5, n6⟩ := hdrCode_iff hok
    have HPHL := Lib.hid (show (byteZ 0 :: byteZ 0 :: putHeaderL H).length ≤ 700 ∧ 2 ≤ (byteZ 0 :: byteZ 0 :: putHeaderL H).length by
      have e1 := putDigestsL_len ((digCode_zero _).1 n5).1 (by omega)
      have e2 := putDigestsL_len ((digCode_zero _).1 n6).1 (by omega)
      have e3 : (byteZ 0 :: byteZ 0 :: putHeaderL H).length = 2 + (1 + (3 + ((putDigestsL H.bs).length + (putDigestsL H.ps).length))) := by simp only [putHeaderL, List.length_append, List.length_cons, List.length_nil, wideL]; omega
      omega)
    have HC1 := Lib.hid (show msgCode ⟨0, 0, 4, bat0, hdr0, slt0, ⟨H, V⟩, 0⟩ = 0 by rw [msgCode_proof rfl rfl]; exact hcrt)
    have HC2 := Lib.hid (show msgCode ⟨0, 0, 2, bat0, H, slt0, crt0, 0⟩ = 0 by rw [msgCode_offer rfl rfl]; exact hok)
    have HBB := Lib.hid hbb
    have HPP := Lib.hid hpp
    have HVV := Lib.hid hvv
    have HBX := Lib.hid bX
    have HBW := Lib.hid hB
    have x0 := bX.cell 0 rfl
    have x1 := bX.cell 1 rfl
    have x2 := bX.cell 2 rfl
    have x3 := bX.cell 3 rfl
    have x4 := bX.cell 4 rfl
    have z0 := hB.size
    clear hbb hpp hvv bX hgf hok hcrt n1 n2 n5 n6 hB
    go_wp2_with fail
    refine (wencode_ok (G := fun _ => True) ⟨0, 0, 4, bat0, hdr0, slt0, ⟨H, V⟩, 0⟩ { mv0 with cbs := .slice adb H.bs.length capb, cps := .slice adp H.ps.length capp, vs := .slice (some ⟨g, 0, none⟩) V.length cap } _ (rdM_proof _ _ _ (HBB.out.mono (fun _ _ => trivial)) (HPP.out.mono (fun _ _ => trivial)) (HVV.out.mono (fun _ _ => trivial))) (msgOk_proof (by show H.bs.length + H.ps.length ≤ 9223372036854775807; omega)) HC1.out).mono ?_
    rintro e w3 ⟨v3, rfl, hown3, hb3⟩
    obtain ⟨ad3, cap3, rfl⟩ := ownsRow_form hown3
    have HR3 := Lib.hid ((show RdB (fun b => wc.heap.size ≤ b) w3 _ (encL ⟨0, 0, 4, bat0, hdr0, slt0, ⟨H, V⟩, 0⟩) from RdS.of_owns hown3 (fun _ h => h)).low (by decide))
    have bX3 := HBX.out.belowS hb3
    have HB3 := Lib.hid (HBW.out.trans (hb3.mono z0))
    have HBB3 := Lib.hid (HBB.out.below hb3 (fun _ h => h))
    have HPP3 := Lib.hid (HPP.out.below hb3 (fun _ h => h))
    have HVV3 := Lib.hid (HVV.out.below hb3 (fun _ h => h))
    have HBX3 := Lib.hid bX3
    clear x0 x1 x2 x3 x4 hown3 hb3
    have x0 := bX3.cell 0 rfl
    have x1 := bX3.cell 1 rfl
    have x2 := bX3.cell 2 rfl
    have x3 := bX3.cell 3 rfl
    have x4 := bX3.cell 4 rfl
    clear bX3
    go_wp2_with fail
    refine (wencode_ok (G := fun _ => True) ⟨0, 0, 2, bat0, H, slt0, crt0, 0⟩ { mv0 with bs := .slice adb H.bs.length capb, ps := .slice adp H.ps.length capp } _ (rdM_offer _ _ _ (HBB3.out.mono (fun _ _ => trivial)) (HPP3.out.mono (fun _ _ => trivial))) (msgOk_offer (by omega)) HC2.out).mono ?_
    rintro e w4 ⟨v4, rfl, hown4, hb4⟩
    obtain ⟨ad4, cap4, rfl⟩ := ownsRow_form hown4
    have HR4 := Lib.hid (show RdB (fun _ => True) w4 _ (encL ⟨0, 0, 2, bat0, H, slt0, crt0, 0⟩) from RdS.of_owns hown4 (fun _ _ => trivial))
    have HS3 := Lib.hid (HR3.out.below hb4 (fun _ h => h))
    have bX4 := HBX3.out.belowS hb4
    have HB4 := Lib.hid (HB3.out.trans (hb4.mono HB3.out.size))
    have HVV4 := Lib.hid (HVV3.out.below hb4 (fun _ h => h))
    clear x0 x1 x2 x3 x4 hown4 hb4
    have x4 := bX4.cell 4 rfl
    have zX := bX4.lt
    rw [proof_bytes] at HS3 ⊢
    rw [offer_bytes] at HR4 ⊢
    have hPH : (byteZ 0 :: byteZ 0 :: putHeaderL H).length ≤ 700 ∧ 2 ≤ (byteZ 0 :: byteZ 0 :: putHeaderL H).length := HPHL.out
    clear HPHL
    generalize byteZ 0 :: byteZ 0 :: putHeaderL H = PH at *
    obtain ⟨b3, o3, rfl, -, -⟩ := HS3.out.cell 0 (by simp)
    obtain ⟨b4, o4, rfl, -, -⟩ := HR4.out.cell 0 (by simp)
    have hL1 : (byteZ 4 :: (PH ++ byteZ ↑V.length :: List.map byteZ V)).length = (byteZ 2 :: PH).length + 1 + V.length := by simp; omega
    have c0 : w4.cell? ⟨b3, o3, none⟩ = some (.int .u8 4) := by have := HS3.out.cells 0 (by simp); simpa [show (byteZ 4).toNat = 4 from rfl] using this
    have hN2e : (byteZ 2 :: PH).length = PH.length + 1 := rfl
    have cn : ∀ n, n = PH.length + 1 → w4.cell? ⟨b3, o3 + n, none⟩ = some (.int .u8 (IntKind.u8.wrap (V.length : Int))) := fun n hn => by
      rw [HS3.out.cells n (by rw [hL1, hN2e]; omega), pb_at hn]
      rw [byteZ_toNat, u8_wrap]
    have ci : ∀ n i (hi : i < V.length), n = PH.length + 1 + 1 + i → w4.cell? ⟨b3, o3 + n, none⟩ = some (.int .u8 (IntKind.u8.wrap V[i])) := fun n i hi hn => by
      rw [HS3.out.cells n (by rw [hL1, hN2e]; omega), pb_at2 hn (by simpa using hi)]
      simp [byteZ_toNat, u8_wrap]
    obtain ⟨f1, f2, -⟩ : _ ∧ _ ∧ True := ⟨HS3.out.len.2.1, HR4.out.len.2.1, trivial⟩
    have f3 := HS3.out.len.2.2.1
    have f4 := HR4.out.len.2.2.1
    unfold maxLen at f3 f4
    generalize (byteZ 4 :: (PH ++ byteZ ↑V.length :: List.map byteZ V)).length = N1 at *
    generalize (byteZ 2 :: PH).length = N2 at *
    have HL1 := Lib.hid hL1
    have HN2 := Lib.hid hN2e
    have eA : ((N1 : Int) != (N2 : Int) + 1 + (V.length : Int)) = false := by simp; omega
    have m1 : N2 ≤ 701 := by omega
    have m2 : 3 ≤ N2 := by omega
    have m3 : N2 < N1 := by omega
    have m4 : N2 ≤ cap3 := by omega
    have m5 : 1 < cap3 := by omega
    have m6 : 1 < cap4 := by omega
    have m7 : N1 ≤ 710 := by omega
    have CN := Lib.hid cn
    have CI := Lib.hid ci
    have HMM := Lib.hid (show N1 = N2 + 1 + V.length from hL1)
    clear cn ci hL1 hN2e
    go_wp2_with fail
    go_loopw [9] (fun i wr => ∃ k n : Nat, k ≤ V.length ∧ i = .int .i64 k ∧ wr = w4.drewN n) (fun i _ => V.length - (intOf i).toNat)
    case atStart => exact ⟨0, 0, Nat.zero_le _, rfl, rfl⟩
    case round =>
      obtain ⟨k, n, hk, rfl, rfl⟩ := hrel
      by_cases hlt : k < V.length
      · obtain ⟨bv, ov, hav, -, hcv⟩ := HVV4.out.cell k hlt
        simp only [Option.some.injEq, Addr.mk.injEq, and_true] at hav
        obtain ⟨rfl, rfl⟩ := hav
        simp only [Nat.zero_add] at hcv
        have hci := CI.out (N2 + 1 + k) k hlt (by have := HN2.out; omega)
        have i0 : (0 : Int) ≤ (k : Int) := by omega
        have i1 : (k : Int) < (V.length : Int) := by omega
        have i2 : N2 + 1 + k < N1 := by have := HMM.out; omega
        have i3 : (N2 : Int) + 1 + (k : Int) < (N1 : Int) := by omega
        have i4 : (0 : Int) ≤ (N2 : Int) + 1 + (k : Int) := by omega
        have i5 : ((N2 : Int) + 1 + (k : Int)).toNat = N2 + 1 + k := by omega
        have l1 : IntKind.i64.wrap ((N2 : Int) + 1) = (N2 : Int) + 1 := IntWalk.i64_in _ (by omega)
        have l2 : IntKind.i64.wrap ((N2 : Int) + 1 + (k : Int)) = (N2 : Int) + 1 + (k : Int) := IntWalk.i64_in _ (by omega)
        go_wp2_with fail
        go_region_held3 (fun w' => w'.cell? ⟨X, 4, none⟩ = some (.slice (some ⟨g, 0, none⟩) V.length cap) ∧ w'.cell? ⟨b3, o3 + (N2 + 1 + k), none⟩ = some (.int .u8 (IntKind.u8.wrap V[k])) ∧ w'.cell? ⟨g, k, none⟩ = some (.int .i64 V[k])) (go_keep) (first | (fail))
        all_goals
          go_wp2
          go_roundw
          case rel => exact ⟨k + 1, _, by omega, by go_num, rfl⟩
          case measure => simp [intOf]; omega
      · have t1 : ¬ (k : Int) < (V.length : Int) := by omega
        have cn2 := CN.out N2 (HN2.out)
        have j1 : (1 : Int) ≤ (N2 : Int) := by omega
        have j2 : (N2 : Int) ≤ (cap3 : Int) := by omega
        have j3 : (1 : Int) ≤ (cap4 : Int) := by omega
        have j4 : (N2 : Int) < (N1 : Int) := by omega
        have j5 : (1 : Int) ≤ (N2 : Int) := by omega
        have j6 : 0 < N1 := by omega
        have j7 : ¬ cap3 = 1 := by omega
        have j8 : ¬ cap4 = 1 := by omega
        have hx := HS3.out.drop 1 (by simp)
        have hx2 := hx.take (N2 - 1) (by simp; have := HN2.out; omega)
        have hy := HR4.out.drop 1 (by simp)
        have HSX := Lib.hid (show ∀ n' c', n' = N2 - 1 → c' = cap3 - 1 → RdB (fun _ => True) w4 (.slice (some ⟨b3, o3 + 1, none⟩) n' c') PH from fun n' c' e1 e2 => by
          subst e1 e2
          have e : ((byteZ 4 :: (PH ++ byteZ ↑V.length :: List.map byteZ V)).drop 1).take (N2 - 1) = PH := by
            rw [HN2.out]; simp
          rw [e] at hx2
          simp only [flat, Nat.mul_one] at hx2
          exact hx2.mono (fun _ _ => trivial))
        have HSY := Lib.hid (show ∀ n' c', n' = N2 - 1 → c' = cap4 - 1 → RdB (fun _ => True) w4 (.slice (some ⟨b4, o4 + 1, none⟩) n' c') PH from fun n' c' e1 e2 => by
          subst e1 e2
          simp only [flat, Nat.mul_one, List.drop_succ_cons, List.drop_zero] at hy
          exact hy)
        clear hx hx2 hy
        go_wp2_with fail
        go_region_held3 (fun w' => w'.cell? ⟨X, 4, none⟩ = some (.slice (some ⟨g, 0, none⟩) V.length cap) ∧ w'.cell? ⟨b3, o3 + N2, none⟩ = some (.int .u8 (IntKind.u8.wrap (V.length : Int))) ∧ w'.cell? ⟨b3, o3, none⟩ = some (.int .u8 4)) (go_keep)
          (first
            | (go_at_call 21; refine (same_any (l := PH) (m := PH) _ _ _ ((HSX.out _ _ (by omega) (by omega)).below (below_drewN (Below.refl _ _) (n + 1)) (fun _ h => h)) ((HSY.out _ _ (by omega) (by omega)).below (below_drewN (Below.refl _ _) (n + 1)) (fun _ h => h))).mono ?_; rintro e w' ⟨rfl, rfl⟩; rw [decide_eq_true (rfl : PH = PH)]))
        all_goals
          go_wp2
          go_ret
          exact ⟨rfl, below_drewN HB4.out _⟩
theorem proofBytes_walk (vt : Value) (r : RawD) (w : World) (hr : RawOk (fun _ => True) w vt r) :
    Calls Try.prog 9 #[.agg #[.int .i64 r.k, .int .i64 r.a, .int .i64 r.b, .int .i64 r.c, vt]] w fun e w' => e = .returned (.bool true) ∧ Below w.heap.size w w' :=
  proofBytes_case r.k r.a r.b r.c vt w hr.one hr.2.1.1 hr.2.1.2 hr.2.2.1.1 hr.2.2.1.2 hr.2.2.2.1.1 hr.2.2.2.1.2
end Go.Proofs.Ytgkmgdkmafbohaa
