/- sheaveskeep.signedBy: what it computes. -/
import Derived.Test.YtialhdmdeggenaaDoorPrvLaw
set_option linter.unusedVariables false
set_option linter.unusedSimpArgs false
attribute [local go_sem ↓] Go.wp_at_zero Go.wp_at_succ
namespace Go.Proofs.YtialhdmdeggenaaDoor
open Go Go.RowKit

theorem signedL_take {h : Hdr} {ns : List Int} {k : Nat} (hk : k < ns.length) : signedL h (ns.take (k + 1)) = signAdd (signedL h (ns.take k)) (signOfN h ns[k]) := by
  unfold signedL; rw [List.take_succ_eq_append_getElem hk, List.map_append, List.foldl_append]; rfl
set_option maxRecDepth 100000 in
set_option maxHeartbeats 4000000 in
theorem signedBy_any {G G' : Nat → Prop} (h : Hdr) (ns : List Int) (vb vp vn : Value) (w : World) (hb : RdBB G w vb h.bs) (hp : RdBB G w vp h.ps) (hn : RdI G' w vn ns) (ht : Tabs w) (hc : hdrCode h = 0) (hr : ∀ n ∈ ns, 0 ≤ n ∧ n < 4) (hlen : ns.length ≤ 100) :
    Calls Tryd.prog 17 #[.agg #[.int .i64 h.a, .int .i64 h.r, vb, vp], vn] w fun e w' => ∃ v', e = .returned v' ∧ RdS RSign (fun b => w.heap.size ≤ b) w' v' (signedL h ns) ∧ Below w.heap.size w w' := by
  obtain ⟨adb, capb, rfl, -, -⟩ := hb.form
  obtain ⟨adp, capp, rfl, -, -⟩ := hp.form
  obtain ⟨adn, capn, rfl, hn1, hn2⟩ := hn.form
  unfold maxLen at hn2
  have hb1 := (Below.refl w.heap.size w).alloc (Nat.le_refl _) (.cells #[.int .i64 h.a, .int .i64 h.r, .slice adb h.bs.length capb, .slice adp h.ps.length capp] 27)
  have HX := Lib.hid (BoxAt.new w [.int .i64 h.a, .int .i64 h.r, .slice adb h.bs.length capb, .slice adp h.ps.length capp] 27)
  have HB := Lib.hid hb1
  have HBB := Lib.hid (hb.below hb1 (fun _ h => h))
  have HPP := Lib.hid (hp.below hb1 (fun _ h => h))
  have HN := Lib.hid (hn.below hb1 (fun _ h => h))
  have HT := Lib.hid (ht.belowS hb1)
  have HC := Lib.hid hc
  have HRA := Lib.hid hr
  have HSG := Lib.hid (fun k => signedL_ok (ns := ns.take k) hc (fun n hn => hr n (List.mem_of_mem_take hn)))
  have HSL := Lib.hid (fun k => signedL_le h (ns.take k))
  have HSN := Lib.hid (fun k (hk : k < ns.length) => signedL_take (h := h) hk)
  have HSO := Lib.hid (fun k (hk : k < ns.length) => signOfN_ok hc (hr _ (List.getElem_mem hk)).1 (hr _ (List.getElem_mem hk)).2)
  have HSZ := Lib.hid (show ns.take ns.length = ns from List.take_length)
  have HDL := Lib.hid (hdrSum_length h)
  have HSD := Lib.hid (show ∀ n, signOfN h n = (n, h.a, h.r, hdrSum h) from fun _ => rfl)
  have HS0 := Lib.hid (show signedL h (ns.take 0) = [] from rfl)
  clear hb1 hb hp hn ht hc hr
  go_enter Tryd.func17, Tryd.ntmps17
  go_wp2_with fail
  refine (headerDigest_ok h _ _ _ HBB.out HPP.out HC.out HT.out).mono ?_
  rintro e w1 ⟨vd, rfl, hd, hb2⟩
  obtain ⟨add, capd, rfl, -, -⟩ := hd.form
  have HD1 := Lib.hid (hd.mono (G' := fun _ => True) (fun _ _ => trivial))
  have HB1 := Lib.hid (HB.out.trans (hb2.mono HB.out.size))
  have HX1 := Lib.hid (HX.out.belowS hb2)
  have HN1 := Lib.hid (HN.out.below hb2 (fun _ h => h))
  rw [HDL.out]
  have hd1 := HD1.out
  rw [HDL.out] at hd1
  have HD1 := Lib.hid hd1
  have z1 := HX1.out.lt
  clear hd hd1 hb2 HX HBB HPP HN HT HB
  go_wp2_with fail
  go_loopw [7, 8] (fun o i wr => ∃ (k : Nat) (L : List Sgn) (ad : Option Addr) (cap : Nat), k ≤ ns.length ∧ i = .int .i64 k ∧ o = .slice ad L.length cap ∧ L = signedL h (ns.take k) ∧ RdS RSign (fun b => w.heap.size ≤ b) wr (.slice ad L.length cap) L ∧ Below w1.heap.size w1 wr) (fun _ i _ => ns.length - (intOf i).toNat)
  case atStart => exact ⟨0, [], none, 0, Nat.zero_le _, rfl, rfl, HS0.out.symm, RdS.nil _ _ _, Below.refl _ _⟩
  case round =>
    obtain ⟨k, L, ad, cap, hk, rfl, rfl, hLe, hL, hB⟩ := hrel
    have HL := Lib.hid hL
    have HLE := Lib.hid hLe
    have hz := hB.size
    have HBr := Lib.hid hB
    have hLl : L.length ≤ 100 := by rw [hLe]; have := HSL.out k; simp at this; omega
    clear hL hLe
    by_cases hlt : k < ns.length
    · have t1 : (k : Int) < (ns.length : Int) := by omega
      have i0 : (0 : Int) ≤ (k : Int) := by omega
      obtain ⟨b, o, rfl, -, hcc⟩ := (HN1.out.below hB (fun _ h => h)).cell k hlt
      have HOK := Lib.hid (show signsOk L = true by rw [HLE.out]; exact HSG.out k)
      have HS := Lib.hid (show signedL h (ns.take (k + 1)) = signAdd L (signOfN h ns[k]) by rw [HSN.out k hlt, HLE.out])
      have HO := Lib.hid (HSO.out k hlt)
      have HXr := Lib.hid (HX1.out.belowS hB)
      have HDr := Lib.hid (HD1.out.below hB (fun _ h => h))
      have bx := HXr.out
      have x0 := bx.cell 0 rfl
      have x1 := bx.cell 1 rfl
      have zb := World.block_lt_of_cell? wr _ hcc
      have zx := bx.lt
      simp only at zb
      clear hB bx
      generalize ns[k] = n at *
      go_wp2_with fail
      go_region_held3 (fun w' => w'.cell? ⟨b, o + k, none⟩ = some (.int .i64 n) ∧ w'.cell? ⟨w.heap.size, 0, none⟩ = some (.int .i64 h.a) ∧ w'.cell? ⟨w.heap.size, 1, none⟩ = some (.int .i64 h.r)) (go_keep)
        ((go_at_call 34; refine (sadd_ok (signOfN h n) _ _ _ (by first | exact HL.out | exact HL.out.keep (Keep.drew _ _) (fun _ h => h)) (by first | exact HDr.out | exact HDr.out.keep (Keep.drew _ _) (fun _ h => h)) (by omega) HOK.out HO.out).mono ?_; rintro e w3 ⟨ad3, cap3, rfl, hr3, hb3⟩; have hb3' : Below wr.heap.size wr w3 := (by first | exact hb3 | exact (Below.refl _ _).drew.trans hb3); have HL3 := Lib.hid (hr3.mono (G' := fun b => w.heap.size ≤ b) (fun b hb => by have := HB1.out.size; simp at hb; omega)); have HB3 := Lib.hid (HBr.out.trans (hb3'.mono hz)); have r0 := ((bcellAt hb3' b zb).1 (o + k)).trans hcc; have r1 := ((bcellAt hb3' _ zx).1 0).trans x0; have r2 := ((bcellAt hb3' _ zx).1 1).trans x1; clear hr3 hb3 hb3'))
      all_goals
        go_wp2
        go_roundw
        case rel => exact ⟨k + 1, signAdd L (signOfN h n), ad3, cap3, by omega, by go_num, rfl, HS.out.symm, HL3.out, HB3.out⟩
        case measure => simp [intOf]; omega
    · have HQ := Lib.hid (show signedL h ns = L by rw [HLE.out, show k = ns.length by omega, HSZ.out])
      have t1 : ¬ (k : Int) < (ns.length : Int) := by omega
      clear hB
      go_wp2
      go_ret
      exact ⟨_, rfl, by rw [HQ.out]; exact HL.out, HB1.out.trans (HBr.out.mono HB1.out.size)⟩
end Go.Proofs.YtialhdmdeggenaaDoor
