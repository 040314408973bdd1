/- TableAll: the walk. -/
import Derived.Test.YtialhdmdeggenaaDoorCastApart
set_option linter.unusedVariables false
set_option linter.unusedSimpArgs false
attribute [local go_sem ↓] Go.wp_at_zero Go.wp_at_succ
namespace Go.Proofs.YtialhdmdeggenaaDoor
open Go Go.RowKit

def rawT : RawD := ⟨0, 0, 0, 0, []⟩
/-- Is one the first of its author and round, so far? -/
def firstTo (l : List RawD) (i j : Nat) : Bool := (l.take j).all fun q => !decide ((hdrR q).a = (hdrR (l.getD i rawT)).a ∧ (hdrR q).r = (hdrR (l.getD i rawT)).r)
theorem firstTo_zero (l : List RawD) (i : Nat) : firstTo l i 0 = true := by simp [firstTo]
theorem firstTo_succ {l : List RawD} {i j : Nat} (hj : j < l.length) : firstTo l i (j + 1) = (firstTo l i j && !decide ((hdrR l[j]).a = (hdrR (l.getD i rawT)).a ∧ (hdrR l[j]).r = (hdrR (l.getD i rawT)).r)) := by
  unfold firstTo
  rw [List.take_succ_eq_append_getElem hj, List.all_append]
  simp
theorem firstTo_new {l : List RawD} {i : Nat} (hi : i < l.length) (h30 : i < 30) : firstTo l i i = isNew l i l[i] := by
  have e : l.getD i rawT = l[i] := by simp [hi]
  unfold firstTo isNew
  rw [e, Bool.eq_iff_iff]
  have hk := table_key l (hdrR l[i]).a (hdrR l[i]).r i (by omega) (by omega)
  simp only [List.all_eq_true, Bool.not_eq_true', decide_eq_false_iff_not, hk]
  constructor
  · rintro h ⟨j, x, hj, hx, h1, h2⟩
    refine h x ?_ ⟨h1, h2⟩
    exact List.mem_of_getElem? (by rw [List.getElem?_take_of_lt hj]; exact hx)
  · intro h x hx hh
    obtain ⟨j, hj, rfl⟩ := List.mem_iff_getElem.1 hx
    simp only [List.length_take] at hj
    exact h ⟨j, _, by omega, by simp, hh⟩
set_option maxRecDepth 100000 in
set_option maxHeartbeats 8000000 in
theorem tableAll_walk (v : Value) (l : List RawD) (w : World) (hv : RdS RRaw (fun _ => True) w v l) (ht : Tabs w) :
    Calls Tryd.prog 9 #[v] w fun e w' => e = .returned (.bool true) ∧ Below w.heap.size w w' := by
  obtain ⟨adv, capv, rfl, hcv, hcm⟩ := hv.form
  unfold maxLen at hcm
  have HV := Lib.hid hv
  have HT := Lib.hid ht
  have HN8 := Lib.hid (voted_nil 0 1)
  clear hv ht
  go_enter Tryd.func9, Tryd.ntmps9
  go_wp2_with fail
  refine (table_any _ _ HV.out HT.out).mono ?_
  rintro e w1 ⟨v1, rfl, h1, hb1⟩
  obtain ⟨ad1, cap1, rfl, -, -⟩ := h1.form
  have HFI := Lib.hid (fun (k : Nat) (hk : k < l.length) (h30 : k < 30) (hn : isNew l k l[k] = true) => voted_first hk h30 hn)
  have HTO := Lib.hid (fun (k : Nat) (hk : min l.length 30 = k) => tableL_to (l := l) hk)
  have HL1 := Lib.hid h1
  have HB1 := Lib.hid hb1
  have HV1 := Lib.hid (HV.out.below hb1 (fun _ h => h))
  have HT1 := Lib.hid (HT.out.belowS hb1)
  generalize tableL l = t at *
  clear h1 hb1 HV HT
  go_wp2_with fail
  go_loopw [4, 5] (fun n i wr => ∃ k : Nat, k ≤ l.length ∧ k ≤ 30 ∧ i = .int .i64 k ∧ n = .int .i64 ((tableTo l k).length : Nat) ∧ Below w1.heap.size w1 wr) (fun _ i _ => 30 - (intOf i).toNat)
  case atStart => exact ⟨0, Nat.zero_le _, by omega, rfl, rfl, Below.refl _ _⟩
  case round =>
    obtain ⟨k, hk, hk30, rfl, rfl, hB⟩ := hrel
    have hz := hB.size
    have HBr := Lib.hid hB
    have hlen := tableTo_len l k
    generalize hN : (tableTo l k).length = N at *
    have HNN := Lib.hid hN
    clear hN
    by_cases hlt : k < l.length
    · have t1 : (k : Int) < (l.length : Int) := by omega
      by_cases h30 : (k : Int) < 30
      · obtain ⟨b, o, vt, rfl, hG, e0, e1, e2, e3, e4, hr⟩ := (HV1.out.below hB (fun _ h => h)).raw k hlt
        have h30' : k < 30 := by omega
        have i0 : (0 : Int) ≤ (k : Int) := by omega
        have HVr := Lib.hid (HV1.out.below hB (fun _ h => h))
        have HLr := Lib.hid (HL1.out.below hB (fun _ h => h))
        have HTr := Lib.hid (HT1.out.belowS hB)
        have HRr := Lib.hid hr
        have HSU := Lib.hid (tableTo_succ hlt h30')
        have HNW := Lib.hid (firstTo_new hlt h30')
        have HFS := Lib.hid (fun (j : Nat) (hj : j < l.length) => firstTo_succ (i := k) hj)
        have HFZ := Lib.hid (firstTo_zero l k)
        have HGD := Lib.hid (show l.getD k rawT = l[k] by simp [hlt])
        have HVF := Lib.hid (fun hn => HFI.out k hlt h30' hn)
        have HOK := Lib.hid (hdrR_ok l[k])
        generalize hlk : l[k] = r at *
        obtain ⟨wo, rfl⟩ : ∃ wo : World, wo = wr := ⟨_, rfl⟩
        clear hB hr hlk
        go_wp2_with fail
        refine (headerR_any r vt wo HRr.out).mono ?_
        rintro e w2 ⟨adb, capb, adp, capp, rfl, hbb, hpp, hb2⟩
        generalize hrh : hdrR r = h at *
        have HRH := Lib.hid hrh
        have hba := (Below.refl w2.heap.size w2).alloc (Nat.le_refl _) (.cells #[.int .i64 h.a, .int .i64 h.r, .slice adb h.bs.length capb, .slice adp h.ps.length capp] 27)
        have hb2a := hb2.trans (hba.mono hb2.size)
        have HZ := Lib.hid (BoxAt.new w2 [.int .i64 h.a, .int .i64 h.r, .slice adb h.bs.length capb, .slice adp h.ps.length capp] 27)
        have HBB := Lib.hid (hbb.below hba (fun _ h => h))
        have HPP := Lib.hid (hpp.below hba (fun _ h => h))
        have HV3 := Lib.hid (HVr.out.below hb2a (fun _ h => h))
        have HL3 := Lib.hid (HLr.out.below hb2a (fun _ h => h))
        have HT3 := Lib.hid (HTr.out.belowS hb2a)
        have HB3 := Lib.hid (HBr.out.trans (hb2a.mono hz))
        clear hbb hpp hb2 hba hb2a e0 e1 e2 e3 e4 hrh HVr HLr HTr HRr
        go_upto_region 7 with (fail)
        generalize w2.alloc (.cells #[.int .i64 h.a, .int .i64 h.r, .slice adb h.bs.length capb, .slice adp h.ps.length capp] 27) = w3 at *
        have z3 := HB3.out.size
        go_wp2_with fail
        go_loopw [7, 8] (fun f u wr => ∃ j : Nat, j ≤ k ∧ u = .int .i64 j ∧ f = .bool (firstTo l k j) ∧ Below w3.heap.size w3 wr) (fun _ u _ => k - (intOf u).toNat)
        case atStart => exact ⟨0, Nat.zero_le _, rfl, by rw [HFZ.out], Below.refl _ _⟩
        case round =>
          obtain ⟨j, hj, rfl, rfl, hB⟩ := hrel
          have HBj := Lib.hid hB
          have hzj := hB.size
          by_cases hjk : j < k
          · have j1 : (j : Int) < (k : Int) := by omega
            have j0 : (0 : Int) ≤ (j : Int) := by omega
            have j2 : (j : Int) < (l.length : Int) := by omega
            have hjl : j < l.length := by omega
            obtain ⟨b', o', vq, hab, -, g0, g1, g2, g3, g4, hq⟩ := (HV3.out.below hB (fun _ h => h)).raw j hjl
            simp only [Option.some.injEq, Addr.mk.injEq, and_true] at hab
            obtain ⟨rfl, rfl⟩ := hab
            have HQ := Lib.hid hq
            have HFJ := Lib.hid (HFS.out j hjl)
            have HZj := Lib.hid (HZ.out.belowS hB)
            have HGR := Lib.hid (show (hdrR (l.getD k rawT)).a = h.a ∧ (hdrR (l.getD k rawT)).r = h.r by rw [HGD.out, HRH.out]; exact ⟨rfl, rfl⟩)
            generalize hlj : l[j] = q at *
            clear hB hq hlj
            go_wp2_with fail
            refine (headerR_any q vq _ HQ.out).mono ?_
            rintro e w5 ⟨aeb, caeb, aep, caep, rfl, hbb, hpp, hb5⟩
            generalize hqg : hdrR q = g at *
            have hba := (Below.refl w5.heap.size w5).alloc (Nat.le_refl _) (.cells #[.int .i64 g.a, .int .i64 g.r, .slice aeb g.bs.length caeb, .slice aep g.ps.length caep] 27)
            have hb5a := hb5.trans (hba.mono hb5.size)
            have HWa := Lib.hid (BoxAt.new w5 [.int .i64 g.a, .int .i64 g.r, .slice aeb g.bs.length caeb, .slice aep g.ps.length caep] 27)
            have HZa := Lib.hid (HZj.out.belowS hb5a)
            have HBa := Lib.hid (HBj.out.trans (hb5a.mono hzj))
            clear hbb hpp hb5 hba hb5a g0 g1 g2 g3 g4 HZj HQ hqg
            go_upto_region 12 with (fail)
            generalize w5.alloc (.cells #[.int .i64 g.a, .int .i64 g.r, .slice aeb g.bs.length caeb, .slice aep g.ps.length caep] 27) = wa at *
            have bw := HWa.out
            have y0 := bw.cell 0 rfl
            have y1 := bw.cell 1 rfl
            have bz := HZa.out
            have z0 := bz.cell 0 rfl
            have z1 := bz.cell 1 rfl
            clear bw bz
            cases hf : firstTo l k j
            · have HR := Lib.hid (show firstTo l k (j + 1) = false by rw [HFJ.out, hf]; rfl)
              clear hf
              go_wp2
              go_roundw
              case rel => exact ⟨j + 1, by omega, by go_num, by rw [HR.out], HBa.out⟩
              case measure => simp [intOf]; omega
            · by_cases ha : g.a = h.a
              · by_cases hb : g.r = h.r
                · have HR := Lib.hid (show firstTo l k (j + 1) = false by rw [HFJ.out, hf, HGR.out.1, HGR.out.2]; simp [ha, hb])
                  have n1 : (g.a != h.a) = false := by simp [ha]
                  have n2 : (g.r != h.r) = false := by simp [hb]
                  clear hf ha hb
                  go_wp2
                  go_roundw
                  case rel => exact ⟨j + 1, by omega, by go_num, by rw [HR.out], HBa.out⟩
                  case measure => simp [intOf]; omega
                · have HR := Lib.hid (show firstTo l k (j + 1) = true by rw [HFJ.out, hf, HGR.out.1, HGR.out.2]; simp [hb])
                  have n1 : (g.a != h.a) = false := by simp [ha]
                  have n2 : (g.r != h.r) = true := by simpa using hb
                  clear hf ha hb
                  go_wp2
                  go_roundw
                  case rel => exact ⟨j + 1, by omega, by go_num, by rw [HR.out], HBa.out⟩
                  case measure => simp [intOf]; omega
              · have HR := Lib.hid (show firstTo l k (j + 1) = true by rw [HFJ.out, hf, HGR.out.1, HGR.out.2]; simp [ha])
                have n1 : (g.a != h.a) = true := by simpa using ha
                clear hf ha
                go_wp2
                go_roundw
                case rel => exact ⟨j + 1, by omega, by go_num, by rw [HR.out], HBa.out⟩
                case measure => simp [intOf]; omega
          · obtain rfl : j = k := by omega
            have HZj := Lib.hid (HZ.out.belowS hB)
            have HBBj := Lib.hid (HBB.out.below hB (fun _ h => h))
            have HPPj := Lib.hid (HPP.out.below hB (fun _ h => h))
            have HLj := Lib.hid (HL3.out.below hB (fun _ h => h))
            have HTj := Lib.hid (HT3.out.belowS hB)
            have HBj := Lib.hid (HB3.out.trans (hB.mono z3))
            clear hB
            cases hf : firstTo l j j
            · have HR := Lib.hid (show (tableTo l (j + 1)).length = N by rw [HSU.out, ← HNW.out, hf]; exact HNN.out)
              clear hf
              go_wp2
              go_roundw
              case rel => exact ⟨j + 1, by omega, by omega, by go_num, by rw [HR.out], HBj.out⟩
              case measure => simp [intOf]; omega
            · have hn : isNew l j r = true := by rw [← HNW.out, hf]
              have HR := Lib.hid (show (tableTo l (j + 1)).length = N + 1 by rw [HSU.out, if_pos hn]; simp [HNN.out])
              obtain ⟨hvc, hvd⟩ := HVF.out hn
              have HVC := Lib.hid hvc
              have HVD := Lib.hid hvd
              have bz := HZj.out
              have z0 := bz.cell 0 rfl
              have z1 := bz.cell 1 rfl
              have z2 := bz.cell 2 rfl
              have z3 := bz.cell 3 rfl
              clear hf hn hvc hvd bz
              go_wp2_with fail
              refine (headerDigest_ok h _ _ _ HBBj.out HPPj.out HOK.out HTj.out).mono ?_
              rintro e w6 ⟨v6, rfl, h6, hb6⟩
              obtain ⟨ad6, cap6, rfl, -, -⟩ := h6.form
              have HD6 := Lib.hid (h6.mono (G' := fun _ => True) (fun _ _ => trivial))
              have bz := HZj.out.belowS hb6
              have HL6 := Lib.hid (HLj.out.below hb6 (fun _ h => h))
              have HB6 := Lib.hid (HBj.out.trans (hb6.mono HBj.out.size))
              clear z0 z1 z2 z3
              have z0 := bz.cell 0 rfl
              have z1 := bz.cell 1 rfl
              clear bz h6 hb6
              go_wp2_with fail
              refine (voted_any h.a h.r _ w6 HL6.out).mono ?_
              rw [HVC.out, HVD.out]
              rintro e w7 ⟨v7, rfl, h7, hb7⟩
              obtain ⟨ad7, cap7, rfl, -, -⟩ := h7.form
              have HX7 := Lib.hid h7
              have HD7 := Lib.hid (HD6.out.below hb7 (fun _ h => h))
              have HB7 := Lib.hid (HB6.out.trans (hb7.mono HB6.out.size))
              generalize hdrSum h = D at *
              clear h7 hb7 z0 z1
              go_wp2_with fail
              refine (same_any (l := D) (m := D) _ _ w7 HD7.out HX7.out).mono ?_
              rintro e w' ⟨rfl, rfl⟩
              rw [decide_eq_true (rfl : D = D)]
              have l1 : IntKind.i64.wrap ((N : Int) + 1) = (N : Int) + 1 := IntWalk.i64_in _ (by omega)
              go_wp2
              go_roundw
              case rel => exact ⟨j + 1, by omega, by omega, by go_num, by rw [HR.out]; go_num, HB7.out⟩
              case measure => simp [intOf]; omega
      · have HQ := Lib.hid (show t.length = N by rw [HTO.out k (by omega)]; exact HNN.out)
        have HLr := Lib.hid (HL1.out.below hB (fun _ h => h))
        have hB2 := Lib.hid (HB1.out.trans (hB.mono HB1.out.size))
        clear hB
        go_wp2_with fail
        refine (voted_any (G := fun _ => True) (l := []) 0 1 _ _ (RdS.nil _ _ _)).mono ?_
        rw [HN8.out]
        rintro e w6 ⟨v6, rfl, h6, hb6⟩
        have HB6 := Lib.hid (hB2.out.trans (hb6.mono hB2.out.size))
        have hq : ((N : Int) == (t.length : Int)) = true := by rw [HQ.out]; simp
        clear h6 hb6
        go_wp2
        go_ret
        exact ⟨rfl, HB6.out⟩
    · have HQ := Lib.hid (show t.length = N by rw [HTO.out k (by omega)]; exact HNN.out)
      have t1 : ¬ (k : Int) < (l.length : Int) := by omega
      have HLr := Lib.hid (HL1.out.below hB (fun _ h => h))
      have hB2 := Lib.hid (HB1.out.trans (hB.mono HB1.out.size))
      clear hB
      go_wp2_with fail
      refine (voted_any (G := fun _ => True) (l := []) 0 1 _ _ (RdS.nil _ _ _)).mono ?_
      rw [HN8.out]
      rintro e w6 ⟨v6, rfl, h6, hb6⟩
      have HB6 := Lib.hid (hB2.out.trans (hb6.mono hB2.out.size))
      have hq : ((N : Int) == (t.length : Int)) = true := by rw [HQ.out]; simp
      clear h6 hb6
      go_wp2
      go_ret
      exact ⟨rfl, HB6.out⟩
end Go.Proofs.YtialhdmdeggenaaDoor
