/- BundleBytes: the walk. -/
import Derived.Test.YtgkmgdkmafbohaaEncC
import Derived.Test.YtgkmgdkmafbohaaBatch
import Derived.Test.YtgkmgdkmafbohaaOpenS
import Derived.Test.YtgkmgdkmafbohaaSameB
set_option linter.unusedVariables false
set_option linter.unusedSimpArgs false
namespace Go.Proofs.Ytgkmgdkmafbohaa
open Go Go.RowKit

theorem batTx_txLen (l : List Bytes) : ∀ t ∈ batTx l, txLen t = true := fun t ht => by
  unfold batTx at ht
  obtain ⟨s, -, rfl⟩ := List.mem_map.1 ht
  unfold txLen; simpa using txOf_ok s
theorem batOf_txs (A B : Int) (l : List Bytes) : (∀ t ∈ (batOf A B l).txs, txLen t = true) ∧ 1 ≤ (batOf A B l).txs.length ∧ (batOf A B l).txs.length ≤ 4 := by
  unfold batOf
  by_cases h : l.length = 0
  · rw [if_pos h]; exact ⟨fun t ht => by simp at ht; subst ht; rfl, by simp, by simp⟩
  · rw [if_neg h]; exact ⟨batTx_txLen l, by unfold batTx; simp; omega, by unfold batTx; simp; omega⟩
theorem batOf_ok (A B : Int) (l : List Bytes) : batCode (batOf A B l) = 0 := by
  obtain ⟨h1, h2, h3⟩ := batOf_txs A B l
  obtain ⟨pa1, pa2⟩ := pickedZ_range A 4 (by omega)
  obtain ⟨pb1, pb2⟩ := pickedZ_range B 9 (by omega)
  exact bat_ok_at (a := pickedZ A 4) (n := 1 + pickedZ B 9) (by unfold nodeOk; simp; omega) (by unfold countOk; simp; omega) h2 h3 (fun j t ht => h1 t (List.mem_of_getElem? ht))
theorem bundle_lits (a n : Int) (m : Nat) (a0 : 0 ≤ a) (a1 : a < 4) (n0 : 1 ≤ n) (n1 : n ≤ 9) (hm : m ≤ 4) :
    [Value.int .u8 1, .int .u8 0, .int .u8 0, .int .u8 a, .int .u8 0, .int .u8 0, .int .u8 n, .int .u8 (m : Int)] = byteVs [byteZ 1, byteZ 0, byteZ 0, byteZ a, byteZ (n / 65536), byteZ (n / 256), byteZ n, byteZ m] := by
  simp only [byteVs, List.map_cons, List.map_nil, byteZ_toNat, show a % 256 = a by omega, show n / 65536 % 256 = 0 by omega, show n / 256 % 256 = 0 by omega, show n % 256 = n by omega, show (1 : Int) % 256 = 1 by decide, show (0 : Int) % 256 = 0 by decide, show (m : Int) % 256 = (m : Int) by omega]

set_option maxRecDepth 100000 in
set_option maxHeartbeats 8000000 in
theorem bundleBytes_case {G : Nat → Prop} (K A B C : Int) (vt : Value) (l : List Bytes) (w : World) (hr : RdT G w vt l) (hs : ∀ t ∈ l, t.length ≤ 9223372036854775807) (a1 : -9223372036854775808 ≤ A) (a2 : A ≤ 9223372036854775807) (b1 : -9223372036854775808 ≤ B) (b2 : B ≤ 9223372036854775807) (c1 : -9223372036854775808 ≤ C) (c2 : C ≤ 9223372036854775807) :
    Calls Try.prog 7 #[.agg #[.int .i64 K, .int .i64 A, .int .i64 B, .int .i64 C, vt]] w fun e w' => e = .returned (.bool true) ∧ Below w.heap.size w w' := by
  have hBa := fun (q : World) (hq : Below w.heap.size w q) => batch_any K A B C vt l q a1 a2 b1 b2 (hr.below hq (fun _ h => h)) hs
  have hok := batOf_ok A B l
  obtain ⟨t1, t2, t3⟩ := batOf_txs A B l
  have hn9 : 1 ≤ (batOf A B l).n ∧ (batOf A B l).n ≤ 9 ∧ 0 ≤ (batOf A B l).a ∧ (batOf A B l).a < 4 := by
    obtain ⟨x1, x2⟩ := pickedZ_range B 9 (by omega)
    obtain ⟨x3, x4⟩ := pickedZ_range A 4 (by omega)
    refine ⟨?_, ?_, x3, x4⟩
    · show 1 ≤ 1 + pickedZ B 9; omega
    · show 1 + pickedZ B 9 ≤ 9; omega
  have hone : vt.oneCell' = true := by obtain ⟨ad, cap, rfl, _⟩ := hr.form; rfl
  generalize batOf A B l = T at *
  obtain ⟨n0, n1, p0, p1⟩ := hn9
  have HC := Lib.hid (show msgCode ⟨0, 0, 1, T, hdr0, slt0, crt0, 0⟩ = 0 by rw [msgCode_bundle rfl rfl]; exact hok)
  have HBA := Lib.hid hBa
  have T1 := Lib.hid t1
  clear hBa hok t1 hr hs
  go_enter Try.func7, Try.ntmps7
  go_wp2_with fail
  refine (HBA.out _ ((Below.refl _ _).alloc (Nat.le_refl _) _)).mono ?_
  rintro e w2 ⟨ad, cap, rfl, htx, hb2⟩
  have HTX := Lib.hid htx
  have hB2 : Below w.heap.size w w2 := ((Below.refl _ _).alloc (Nat.le_refl _) _).trans (hb2.mono (by simp))
  have HB2 := Lib.hid hB2
  have z2 := hB2.size
  clear htx hb2 hB2
  go_wp2_with fail
  refine (wencode_ok (G := fun _ => True) ⟨0, 0, 1, T, hdr0, slt0, crt0, 0⟩ { mv0 with tx := .slice ad T.txs.length cap } _ (rdM_bundle _ _ _ (HTX.out.keep (Keep.alloc _ _ _) (fun _ _ => trivial))) (msgOk_bundle (fun x hx => by have := T1.out x hx; unfold txLen at this; simp at this; omega)) HC.out).mono ?_
  rintro e w3 ⟨v3, rfl, hown, hb3⟩
  obtain ⟨ad3, cap3, rfl⟩ := ownsRow_form hown
  have HR := Lib.hid ((show RdB (fun _ => True) w3 _ (encL ⟨0, 0, 1, T, hdr0, slt0, crt0, 0⟩) from RdS.of_owns hown (fun _ _ => trivial)).low (by decide))
  have bx := (BoxAt.new w2 [.int .i64 T.a, .int .i64 T.n, .slice ad T.txs.length cap] 34).belowS hb3
  have HB3 := Lib.hid ((HB2.out.alloc z2 _).trans (hb3.mono (by simp; omega)))
  have HTX3 := Lib.hid ((HTX.out.keep (G' := fun _ => True) (Keep.alloc _ _ _) (fun _ _ => trivial)).below hb3 (fun _ h => h) |>.low (by decide))
  have y0 := bx.cell 0 rfl
  have y1 := bx.cell 1 rfl
  have y2 := bx.cell 2 rfl
  have zX := bx.lt
  have HBX := Lib.hid bx
  clear hown bx hb3
  go_upto_region 4 with fail
  obtain ⟨wa, hwa⟩ : ∃ wa, wa = w3.alloc (.cells #[.int .u8 1, .int .u8 0, .int .u8 0, .int .u8 T.a, .int .u8 0, .int .u8 0, .int .u8 T.n, .int .u8 (T.txs.length : Int)] 5) := ⟨_, rfl⟩
  have hA0 : AppB w3.heap.size 5 wa (.slice (some ⟨w3.heap.size, 0, none⟩) 8 8) wa (.slice (some ⟨w3.heap.size, 0, none⟩) 8 8) [byteZ 1, byteZ 0, byteZ 0, byteZ T.a, byteZ (T.n / 65536), byteZ (T.n / 256), byteZ T.n, byteZ T.txs.length] := by
    refine AppB.refl ?_
    rw [← bundle_lits T.a T.n T.txs.length p0 p1 n0 n1 t3, hwa]
    exact lit_ownsN w3 [_, _, _, _, _, _, _, _] _
  have hba : Below w3.heap.size w3 wa := by rw [hwa]; exact (Below.refl _ _).alloc (Nat.le_refl _) _
  have hsa : w3.heap.size < wa.heap.size := by rw [hwa]; simp
  rw [← hwa]
  have HA0 := Lib.hid hA0
  have HBXA := Lib.hid (HBX.out.belowS hba)
  have HTXA := Lib.hid (HTX3.out.below hba (fun _ h => h))
  have HRA := Lib.hid (HR.out.below hba (fun _ h => h))
  have HBA2 := Lib.hid (HB3.out.trans (hba.mono HB3.out.size))
  have hXv : (.slice (some ⟨w3.heap.size, 0, none⟩) 8 8 : Value).ownBlock ≠ some w2.heap.size := by simp [Value.ownBlock]; omega
  have HGV := Lib.hid (show ∀ b, (True ∧ b < w3.heap.size) → (.slice (some ⟨w3.heap.size, 0, none⟩) 8 8 : Value).ownBlock ≠ some b from fun b hb => by have := hb.2; simp [Value.ownBlock]; omega)
  clear hwa hA0 hba y0 y1 y2
  go_wp2_with fail
  go_loopw [6, 7] (fun vw i wr => ∃ k : Nat, k ≤ T.txs.length ∧ i = .int .i64 k ∧ AppB w3.heap.size 5 wa (.slice (some ⟨w3.heap.size, 0, none⟩) 8 8) wr vw ([byteZ 1, byteZ 0, byteZ 0, byteZ T.a, byteZ (T.n / 65536), byteZ (T.n / 256), byteZ T.n, byteZ T.txs.length] ++ putTxs (T.txs.take k))) (fun _ i _ => T.txs.length - (intOf i).toNat)
  case atStart => exact ⟨0, Nat.zero_le _, rfl, HA0.out.list (by simp [putTxs])⟩
  case round =>
    obtain ⟨k, hk, rfl, hR⟩ := hrel
    have HRR := Lib.hid hR
    have bxr := hR.box HBXA.out hXv
    have y2 := bxr.cell 2 rfl
    have hs := hR.size
    by_cases hlt : k < T.txs.length
    · obtain ⟨b, o, rfl, hG, hcA⟩ := HTXA.out.cell k hlt
      have hc := (hR.keepG HGV.out) _ _ _ hG hcA
      have HGb := Lib.hid hG
      have htk := T1.out T.txs[k] (List.getElem_mem hlt)
      have hpl : (putTxs (T.txs.take k)).length ≤ 84 := by
        have := putTxs_len (l := T.txs.take k) (fun t ht => T1.out t (List.mem_of_mem_take ht))
        rw [List.length_take] at this; omega
      have hll : ([byteZ 1, byteZ 0, byteZ 0, byteZ T.a, byteZ (T.n / 65536), byteZ (T.n / 256), byteZ T.n, byteZ T.txs.length] ++ putTxs (T.txs.take k)).length ≤ 100 := by
        rw [List.length_append]; show 8 + _ ≤ 100; omega
      have HPS := Lib.hid (putTxs_succ hlt)
      have i0 : (0 : Int) ≤ (k : Int) := by omega
      have i1 : (k : Int) < (T.txs.length : Int) := by omega
      have HCA := Lib.hid hcA
      clear hR hpl bxr hG hcA
      generalize hD : T.txs[k] = D at *
      generalize hLk : [byteZ 1, byteZ 0, byteZ 0, byteZ T.a, byteZ (T.n / 65536), byteZ (T.n / 256), byteZ T.n, byteZ T.txs.length] ++ putTxs (T.txs.take k) = Lk at *
      have HLk := Lib.hid hLk
      have d0 : 1 ≤ D.length ∧ D.length ≤ 20 := by unfold txLen at htk; simpa using htk
      obtain ⟨d0, d1⟩ := d0
      have zb := World.block_lt_of_cell? _ _ hc
      simp only at zb
      clear hD hLk htk
      go_wp2_with fail
      go_region_held3 (fun w' => w'.cell? ⟨w2.heap.size, 2, none⟩ = some (.slice (some ⟨b, o, none⟩) T.txs.length cap) ∧ w'.cell? ⟨b, o + k, none⟩ = some (strV D)) (go_keep)
        (first
          | (refine step_append_strat (by rfl) _ _ 26 9 (by rfl) elemB info_u8z Try.underlying9 w3.heap.size g2 cap2 (Lk.length + 1) (by rfl) (byteVs Lk ++ [.int .u8 (IntKind.u8.wrap (D.length : Int))]) HO2.out D (by rfl) (by omega) (by omega) (by omega) ?_; intro g3 cap3' w5 hown3 hgr3 hat3; have HO3 := Lib.hid hown3; have HG3 := Lib.hid hgr3; have HT3 := Lib.hid hat3; have hA2 := HA1.out.trans (AppB.ofStr (s := D) (l := Lk ++ [byteZ D.length]) (n := Lk.length + 1) (by simp) (by have := hown3; rw [show [Value.int .u8 (IntKind.u8.wrap (D.length : Int))] = byteVs [byteZ D.length] by simp [byteVs, byteZ_toNat, u8_wrap]] at this; simpa [byteVs] using this) hgr3 hat3); have HA2 := Lib.hid hA2; have bx2 := hA2.box HBXA.out hXv; have u2 := bx2.cell 2 rfl; have hc3 := (hA2.keepG HGV.out) _ _ _ HGb.out HCA.out; clear hA2 bx2 hown3 hgr3 hat3)
          | (refine step_append_at1 (by rfl) _ _ _ (by rfl) elemB w3.heap.size _ Lk.length (byteVs Lk) (by rfl) (by exact ownsRow_below HRR.out.own (by repeat (first | with_reducible exact Below.refl _ _ | with_reducible refine Below.drew ?_ | with_reducible refine Below.alloc ?_ (by first | omega | (simp <;> omega)) _))) _ 1 [.int .u8 (IntKind.u8.wrap (D.length : Int))] (by rfl) (by first | exact (BoxAt.new _ [_] _).slCellsN rfl | exact ((BoxAt.new _ [_] _).drew).slCellsN rfl) (by simp [Value.oneCell']) (by decide) (by unfold maxLen; omega) (by omega) (by first | omega | (simp; omega)) ?_; intro g2 cap2 w4 hown hgr hat hlt2; have HO2 := Lib.hid hown; have HG2 := Lib.hid hgr; have HT2 := Lib.hid hat; have hA1 := HRR.out.trans (AppB.of rfl rfl hown (show [Value.int .u8 (IntKind.u8.wrap (D.length : Int))] = byteVs [byteZ D.length] by simp [byteVs, byteZ_toNat, u8_wrap]) hgr hat rfl (by repeat (first | with_reducible exact Below.refl _ _ | with_reducible refine Below.drew ?_ | with_reducible refine Below.alloc ?_ (by first | omega | (simp <;> omega)) _))); have HA1 := Lib.hid hA1; have bx1 := hA1.box HBXA.out hXv; have q2 := bx1.cell 2 rfl; have s2 := hA1.size; have hc2 := (hA1.keepG HGV.out) _ _ _ HGb.out HCA.out; clear hA1 bx1 hown hgr hat))
      all_goals
        go_wp2
        go_roundw
        case rel => exact ⟨k + 1, by omega, by go_num, HA2.out.list (by rw [HPS.out, ← HLk.out]; simp)⟩
        case measure => simp [intOf]; omega
    · have hke : k = T.txs.length := by omega
      subst hke
      rw [List.take_length] at HRR
      have hm : RdB (fun _ => True) wr _ (encL ⟨0, 0, 1, T, hdr0, slt0, crt0, 0⟩) := (HRR.out.list (show _ = encL ⟨0, 0, 1, T, hdr0, slt0, crt0, 0⟩ from rfl)).rd (fun _ _ => trivial)
      have HM := Lib.hid hm
      have hx := HRA.out.keep (G' := fun _ => True) (hR.keepG HGV.out) (fun _ _ => trivial)
      have HXX := Lib.hid hx
      have hfin := hR.bel HBA2.out (by omega) (fun k hk => by simp [Value.ownBlock] at hk; omega)
      have t9 : ¬ (T.txs.length : Int) < (T.txs.length : Int) := by omega
      clear hm hx hR bxr
      go_wp2_with (go_at_call 21; refine (same_any (l := encL ⟨0, 0, 1, T, hdr0, slt0, crt0, 0⟩) (m := encL ⟨0, 0, 1, T, hdr0, slt0, crt0, 0⟩) _ _ _ HXX.out HM.out).mono ?_; rintro e w' ⟨rfl, rfl⟩; rw [decide_eq_true rfl])
      go_ret
      exact ⟨rfl, hfin⟩
theorem bundleBytes_walk (vt : Value) (r : RawD) (w : World) (hr : RawOk (fun _ => True) w vt r) :
    Calls Try.prog 7 #[.agg #[.int .i64 r.k, .int .i64 r.a, .int .i64 r.b, .int .i64 r.c, vt]] w fun e w' => e = .returned (.bool true) ∧ Below w.heap.size w w' :=
  bundleBytes_case r.k r.a r.b r.c vt r.txs w hr.2.2.2.2.1 hr.2.2.2.2.2 hr.2.1.1 hr.2.1.2 hr.2.2.1.1 hr.2.2.1.2 hr.2.2.2.1.1 hr.2.2.2.1.2
end Go.Proofs.Ytgkmgdkmafbohaa
