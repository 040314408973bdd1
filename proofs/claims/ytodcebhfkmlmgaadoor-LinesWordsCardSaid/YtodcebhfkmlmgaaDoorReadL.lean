/- lines.Read: what it makes. -/
import Derived.Test.YtodcebhfkmlmgaaDoorOneL
set_option linter.unusedVariables false
set_option linter.unusedSimpArgs false
namespace Go.Proofs.YtodcebhfkmlmgaaDoor
open Go Go.RowKit

theorem readGo_end (f i : Nat) (out : List LAct) : readGo (f + 1) [] i out = (out, 0, 0) := by rw [readGo, if_pos rfl]
theorem readGo_size {s : List UInt8} (h : s ≠ []) (i : Nat) (out : List LAct) : readGo (0 + 1) s i out = ([], i, 1) := by rw [readGo, if_neg h, if_pos rfl]
theorem readGo_torn {s : List UInt8} (h : s ≠ []) {f : Nat} (hf : f ≠ 0) (i : Nat) (out : List LAct) (h1 : (cutN s).2.2 = false) : readGo (f + 1) s i out = ([], i, 4) := by rw [readGo, if_neg h, if_neg hf, if_pos h1]
theorem readGo_form {s : List UInt8} (h : s ≠ []) {f : Nat} (hf : f ≠ 0) (i : Nat) (out : List LAct) (h1 : (cutN s).2.2 = true) (h2 : (oneL (cutN s).1).2 = false) : readGo (f + 1) s i out = ([], i, 4) := by rw [readGo, if_neg h, if_neg hf, if_neg (by simp [h1]), if_pos h2]
theorem readGo_code {s : List UInt8} (h : s ≠ []) {f : Nat} (hf : f ≠ 0) (i : Nat) (out : List LAct) (h1 : (cutN s).2.2 = true) (h2 : (oneL (cutN s).1).2 = true) (h3 : lineCode (oneL (cutN s).1).1 ≠ 0) : readGo (f + 1) s i out = ([], i, lineCode (oneL (cutN s).1).1) := by rw [readGo, if_neg h, if_neg hf, if_neg (by simp [h1]), if_neg (by simp [h2]), if_pos h3]
theorem readGo_next {s : List UInt8} (h : s ≠ []) {f : Nat} (hf : f ≠ 0) (i : Nat) (out : List LAct) (h1 : (cutN s).2.2 = true) (h2 : (oneL (cutN s).1).2 = true) (h3 : lineCode (oneL (cutN s).1).1 = 0) : readGo (f + 1) s i out = readGo f (cutN s).2.1 (i + 1) (out ++ [(oneL (cutN s).1).1]) := by rw [readGo, if_neg h, if_neg hf, if_neg (by simp [h1]), if_neg (by simp [h2]), if_neg (by simp [h3])]
theorem elemAct : ElemOk Tryd.prog 32 25 4 40 := elemOk_of (z := .agg #[.int .i64 0, .int .i64 0, .int .i64 0, .string ⟨#[]⟩]) (by kernel_rfl) (by kernel_rfl) rfl (by decide)
set_option maxRecDepth 100000 in
set_option maxHeartbeats 8000000 in
theorem lread_any (s : List UInt8) (w : World) (hs : s.length ≤ 1100000000) (ht : TabR w) :
    Calls Tryd.prog 15 #[strV s] w fun e w' => ∃ v', e = .returned (.tuple #[v', .int .i64 ((readL s).2.1 : Int), .int .i64 (readL s).2.2]) ∧ RdS RAct (fun b => w.heap.size ≤ b) w' v' (readL s).1 ∧ Below w.heap.size w w' := by
  have HT := Lib.hid ht
  clear ht
  go_enter Tryd.func15, Tryd.ntmps15
  go_wp2_with fail
  go_loopw [0, 5, 6] (fun x o i wr => ∃ (k : Nat) (cur : List UInt8) (out : List LAct) (ado : Option Addr) (capo : Nat), x = strV cur ∧ i = .int .i64 k ∧ k ≤ 3000 ∧ cur.length ≤ s.length ∧ out.length ≤ k ∧ o = .slice ado out.length capo ∧ Hid (LstO RAct (fun _ => False) w.heap.size 25 wr (.slice ado out.length capo) out) ∧ Hid (readGo (3001 - k) cur k out = readL s) ∧ Hid (Below w.heap.size w wr)) (fun _ _ i _ => 3001 - (intOf i).toNat)
  case atStart => exact ⟨0, s, [], none, 0, rfl, rfl, by omega, Nat.le_refl _, by simp, rfl, Lib.hid (LstO.nil _ _ _ _ _), Lib.hid rfl, Lib.hid (Below.refl _ _)⟩
  case round =>
    obtain ⟨k, cur, out, ado, capo, rfl, rfl, hk, hcl, hol, rfl, HL, HR, HB⟩ := hrel
    by_cases hcur : cur = []
    · subst hcur
      have HRR := Lib.hid (show readL s = (out, 0, 0) by rw [← HR.out, show 3001 - k = (3000 - k) + 1 by omega, readGo_end])
      have HRD := Lib.hid (HL.out.rd (G' := fun b => w.heap.size ≤ b) (by decide) (fun b h1 h2 => h1) (fun b h1 _ => h1.elim))
      go_wp2
      go_ret3
      exact ⟨_, by rw [HRR.out]; rfl, by rw [HRR.out]; exact HRD.out, HB.out⟩
    · have hcb : (cur == []) = false := by simpa using hcur
      have k0 : (0 : Int) ≤ (k : Int) := by omega
      have wk : IntKind.i64.wrap ((k : Int) + 1) = (k : Int) + 1 := IntWalk.i64_in _ (by omega)
      have hl1 := cutN_len1 cur
      have hl2 := cutN_len cur
      go_wp2_with fail
      refine (cut_any10 cur _ (by omega) (HT.out.belowS HB.out)).mono ?_
      rintro e w1 ⟨rfl, hb1⟩
      replace HL := Lib.hid (HL.out.below hb1)
      replace HB := Lib.hid (HB.out.trans (hb1.mono HB.out.size))
      clear hb1
      have HZ0 := HB.out.size
      by_cases hk3 : k = 3000
      · have HRR := Lib.hid (show readL s = ([], k, 1) by rw [← HR.out, show 3001 - k = 0 + 1 by omega, readGo_size hcur])
        subst hk3
        go_wp2
        go_ret3
        exact ⟨_, by rw [HRR.out]; rfl, by rw [HRR.out]; exact RdS.nil _ _ _, HB.out⟩
      · have k3 : ¬ (k : Int) = 3000 := by omega
        have k4 : ((k : Int) == 3000) = false := by simpa using k3
        obtain ⟨f, hf⟩ : ∃ f, 3001 - k = f + 1 := ⟨3000 - k, by omega⟩
        have hf0 : f ≠ 0 := by omega
        have hfk : 3001 - (k + 1) = f := by omega
        have HFK := Lib.hid hfk
        rw [hf] at HR
        have HT1 := Lib.hid (fun h1 : (cutN cur).2.2 = false => (HR.out.symm.trans (readGo_torn hcur hf0 k out h1)))
        have HT2 := Lib.hid (fun (h1 : (cutN cur).2.2 = true) h2 => (HR.out.symm.trans (readGo_form hcur hf0 k out h1 h2)))
        have HT3 := Lib.hid (fun (h1 : (cutN cur).2.2 = true) h2 h3 => (HR.out.symm.trans (readGo_code hcur hf0 k out h1 h2 h3)))
        have HT4 := Lib.hid (fun (h1 : (cutN cur).2.2 = true) h2 h3 => (readGo_next hcur hf0 k out h1 h2 h3).symm.trans HR.out)
        clear HR hf hf0 hfk hcb hcur
        generalize (cutN cur).1 = ln at *
        generalize (cutN cur).2.1 = rs at *
        generalize (cutN cur).2.2 = en at *
        cases en with
        | false =>
          have HRR := Lib.hid (HT1.out rfl)
          clear HT1 HT2 HT3 HT4
          go_wp2
          go_ret3
          exact ⟨_, by rw [HRR.out]; rfl, by rw [HRR.out]; exact RdS.nil _ _ _, HB.out⟩
        | true =>
          clear HT1
          go_wp2_with fail
          refine (lone_any ln _ (by omega) (HT.out.belowS HB.out)).mono ?_
          rintro e w2 ⟨rfl, hb2⟩
          replace HL := Lib.hid (HL.out.below hb2)
          replace HB := Lib.hid (HB.out.trans (hb2.mono HB.out.size))
          clear hb2
          obtain ⟨a, ok, hone⟩ : ∃ a ok, oneL ln = (a, ok) := ⟨_, _, rfl⟩
          rw [hone] at HT2 HT3 HT4 ⊢
          clear hone
          simp only at HT2 HT3 HT4 ⊢
          go_upto_region 11 with fail
          obtain ⟨w3, hwl⟩ : ∃ w3, w3 = (w2.alloc (.cells #[.int .i64 a.k, .int .i64 a.n, .int .i64 a.p, strV a.t] 25)) := ⟨_, rfl⟩
          have hBl : Below w2.heap.size w2 w3 := by rw [hwl]; exact ((Below.refl _ _).alloc (by first | exact Nat.le_refl _ | (simp; done) | (simp; omega)) _)
          have HX := Lib.hid (show BoxAt w3 w2.heap.size [.int .i64 a.k, .int .i64 a.n, .int .i64 a.p, strV a.t] 25 by rw [hwl]; exact BoxAt.new w2 [.int .i64 a.k, .int .i64 a.n, .int .i64 a.p, strV a.t] _)
          rw [← hwl]
          replace HL := Lib.hid (HL.out.below hBl)
          replace HB := Lib.hid (HB.out.trans (hBl.mono HB.out.size))
          clear hwl hBl
          have HZ1 := HB.out.size
          cases ok with
          | false =>
            have HRR := Lib.hid (HT2.out (by trivial) (by trivial))
            clear HT2 HT3 HT4
            go_wp2
            go_ret3
            exact ⟨_, by rw [HRR.out]; rfl, by rw [HRR.out]; exact RdS.nil _ _ _, HB.out⟩
          | true =>
            have HCE := Lib.hid (check_eq a)
            have x0 := HX.out.cell 0 rfl
            have x1 := HX.out.cell 1 rfl
            have x2 := HX.out.cell 2 rfl
            have x3 := HX.out.cell 3 rfl
            have zx := HX.out.lt
            clear HT2
            go_wp2_with fail
            refine (lcheck_any a.k a.n a.p ⟨a.t.toArray⟩ _).mono ?_
            rintro e w4 ⟨rfl, hb4⟩
            rw [HCE.out]
            replace HL := Lib.hid (HL.out.below hb4)
            replace HB := Lib.hid (HB.out.trans (hb4.mono HB.out.size))
            replace HX := Lib.hid (HX.out.belowS hb4)
            have HZ2 := HB.out.size
            clear hb4 x0 x1 x2 x3 zx
            by_cases hq : lineCode a = 0
            · have HNX := Lib.hid (HT4.out (by trivial) (by trivial) hq)
              rw [hq]
              clear HT3 HT4 hq
              have x0 := HX.out.cell 0 rfl
              have x1 := HX.out.cell 1 rfl
              have x2 := HX.out.cell 2 rfl
              have x3 := HX.out.cell 3 rfl
              have zx := HX.out.lt
              obtain ⟨vals, hv⟩ := HL.out.valsOf
              have hvlt := hv.lt
              have HLv := Lib.hid hv
              clear hv
              go_wp2_with (at_builtin; refine wpList_append_one rfl _ _ 32 rfl elemAct w.heap.size _ out.length vals rfl ((HLv.out.alloc (.cells #[.int .i64 a.k, .int .i64 a.n, .int .i64 a.p, strV a.t] 25)).own) w4.heap.size 25 [.int .i64 a.k, .int .i64 a.n, .int .i64 a.p, strV a.t] rfl (BoxAt.new w4 [.int .i64 a.k, .int .i64 a.n, .int .i64 a.p, strV a.t] _) rfl (by simp [Value.oneCell']) (by unfold maxLen; omega) (by omega) (by simp; omega) ?_; intro g cap6 w6 hown6 hgr6 hat6 hlt6)
              have hP := (HLv.out.alloc (.cells #[.int .i64 a.k, .int .i64 a.n, .int .i64 a.p, strV a.t] 25)).push (x := a) rfl hown6 hgr6 hat6
              have hlen : (out ++ [a]).length = out.length + 1 := by simp
              have HP := Lib.hid (show LstO RAct (fun _ => False) w.heap.size 25 w6 (.slice (some ⟨g, 0, none⟩) (out ++ [a]).length cap6) (out ++ [a]) by rw [hlen]; exact hP)
              have HB6 := Lib.hid ((HB.out.alloc HZ2 (.cells #[.int .i64 a.k, .int .i64 a.n, .int .i64 a.p, strV a.t] 25)).grown hgr6 (by simp; omega) (fun k hk => (hvlt _ hk).1))
              have HN2 := Lib.hid (show readGo (3001 - (k + 1)) rs (k + 1) (out ++ [a]) = readL s by rw [HFK.out]; exact HNX.out)
              clear hP hown6 hgr6 hat6
              go_wp2
              go_roundw
              case rel => exact ⟨k + 1, rs, out ++ [a], some ⟨g, 0, none⟩, cap6, rfl, by go_num, by omega, by omega, by rw [hlen]; omega, by rw [hlen], HP, HN2, HB6⟩
              case measure => simp [intOf]; omega
            · have HRR := Lib.hid (HT3.out (by trivial) (by trivial) hq)
              obtain ⟨q, hqq⟩ : ∃ q, q = lineCode a := ⟨_, rfl⟩
              rw [← hqq] at HRR ⊢
              have hq0 : ¬ q = 0 := by rw [hqq]; exact hq
              have hq1 : (q != 0) = true := by simpa using hq0
              clear HT3 HT4 hqq hq hq0
              go_wp2
              go_ret3
              exact ⟨_, by rw [HRR.out]; rfl, by rw [HRR.out]; exact RdS.nil _ _ _, HB.out⟩
end Go.Proofs.YtodcebhfkmlmgaaDoor
