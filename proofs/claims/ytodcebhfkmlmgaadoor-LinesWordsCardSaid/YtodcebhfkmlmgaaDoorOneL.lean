/- lines.one: what it computes. -/
import Derived.Test.YtodcebhfkmlmgaaDoorNum
set_option linter.unusedVariables false
set_option linter.unusedSimpArgs false
namespace Go.Proofs.YtodcebhfkmlmgaaDoor
open Go Go.RowKit

theorem spl_mem : ∀ (s : List UInt8), ∀ x ∈ spl s, x.length ≤ s.length
  | [], x, hx => by simp [spl] at hx; simp [hx]
  | c :: r, x, hx => by
    rw [spl] at hx
    split at hx
    · rcases List.mem_cons.1 hx with rfl | h
      · simp
      · have := spl_mem r x h; simp; omega
    · rcases List.mem_cons.1 hx with rfl | h
      · cases hq : spl r with
        | nil => simp
        | cons y t => have := spl_mem r y (by rw [hq]; simp); simp; omega
      · have := spl_mem r x (List.mem_of_mem_tail h); simp; omega
theorem lunhex_l (y : List UInt8) (w : World) (hs : y.length ≤ 4294967296) :
    Calls Tryd.prog 30 #[strV y] w fun e w' => e = .returned (.tuple #[strV (unhexL y).1, .bool (unhexL y).2]) ∧ Below w.heap.size w w' := by
  have := lunhex_any ⟨y.toArray⟩ w (by show y.toArray.size ≤ _; simpa using hs)
  have e : (⟨y.toArray⟩ : ByteArray).data.toList = y := by simp
  rwa [e] at this
theorem kind_combos {K : Int} (h0 : 0 ≤ K) (h1 : K ≤ 10) : (K = 0 ∧ actN K = false ∧ actP K = false ∧ actT K = false) ∨ (K ≠ 0 ∧ actN K = true ∧ actP K = false ∧ actT K = true) ∨ (K ≠ 0 ∧ actN K = true ∧ actP K = false ∧ actT K = false) ∨ (K ≠ 0 ∧ actN K = false ∧ actP K = true ∧ actT K = false) ∨ (K ≠ 0 ∧ actN K = true ∧ actP K = true ∧ actT K = false) ∨ (K ≠ 0 ∧ actN K = false ∧ actP K = false ∧ actT K = false) := by
  unfold actN actP actT
  simp only [decide_eq_true_eq, decide_eq_false_iff_not]
  omega
theorem kindGo_hit (w : List UInt8) (n : Nat) (h : wordsL.getD (n + 1) [] = w) : kindGo w (n + 1) = ((n + 1 : Nat) : Int) := by rw [kindGo, if_pos h]
theorem kindGo_miss (w : List UInt8) (n : Nat) (h : ¬ wordsL.getD (n + 1) [] = w) : kindGo w (n + 1) = kindGo w n := by rw [kindGo, if_neg h]
set_option maxRecDepth 100000 in
set_option maxHeartbeats 8000000 in
theorem lone_any (s : List UInt8) (w : World) (hs : s.length ≤ 1100000000) (ht : TabR w) :
    Calls Tryd.prog 23 #[strV s] w fun e w' => e = .returned (.tuple #[actV (oneL s).1, .bool (oneL s).2]) ∧ Below w.heap.size w w' := by
  have HT := Lib.hid ht
  have hpl := spl_len s
  obtain ⟨p0, ps, hsp⟩ : ∃ p0 ps, spl s = p0 :: ps := by
    cases hq : spl s with
    | nil => exact absurd hq (spl_ne s)
    | cons a b => exact ⟨a, b, rfl⟩
  have HONE := Lib.hid (show oneL s = oneW p0 ps by unfold oneL; rw [hsp]; rfl)
  rw [hsp, List.length_cons] at hpl
  have HSP := Lib.hid hsp
  clear hsp ht
  go_enter Tryd.func23, Tryd.ntmps23
  go_upto_region 1 with fail
  obtain ⟨w1, hwl⟩ : ∃ w1, w1 = (w.alloc (.cells #[.int .i64 0, .int .i64 0, .int .i64 0, .string ⟨#[]⟩] 25)) := ⟨_, rfl⟩
  have hBl : Below w.heap.size w w1 := by rw [hwl]; exact ((Below.refl _ _).alloc (by first | exact Nat.le_refl _ | (simp; done) | (simp; omega)) _)
  have HT1 := Lib.hid (HT.out.belowS hBl)
  have H2 := Lib.hid (show BoxAt w1 w.heap.size [.int .i64 0, .int .i64 0, .int .i64 0, .string ⟨#[]⟩] 25 by rw [hwl]; exact BoxAt.new w [.int .i64 0, .int .i64 0, .int .i64 0, .string ⟨#[]⟩] _)
  have HB := Lib.hid hBl
  rw [← hwl]
  clear hwl hBl
  have hz1 := H2.out.lt
  go_wp2_with fail
  refine (split_any32 s _ (by omega) HT1.out).mono ?_
  rintro e w2 ⟨rfl, hbx, hb2⟩
  rw [HSP.out] at hbx ⊢
  simp only [List.length_cons]
  have HP := Lib.hid hbx
  replace H2 := Lib.hid (H2.out.belowS hb2)
  replace HB := Lib.hid (HB.out.trans (hb2.mono (Nat.le_of_lt hz1)))
  have HT2 := Lib.hid (HT1.out.l.belowS hb2)
  have hz2 := HP.out.lt
  clear hbx hb2
  go_upto_region 3 with fail
  obtain ⟨w3, hwl⟩ : ∃ w3, w3 = (w2.alloc (.cells #[.int .i64 0, .int .i64 0, .int .i64 0, .string ⟨#[]⟩] 25)) := ⟨_, rfl⟩
  have hBl : Below w2.heap.size w2 w3 := by rw [hwl]; exact ((Below.refl _ _).alloc (by first | exact Nat.le_refl _ | (simp; done) | (simp; omega)) _)
  have HT3 := Lib.hid (HT2.out.belowS hBl)
  have H5 := Lib.hid (show BoxAt w3 w2.heap.size [.int .i64 0, .int .i64 0, .int .i64 0, .string ⟨#[]⟩] 25 by rw [hwl]; exact BoxAt.new w2 [.int .i64 0, .int .i64 0, .int .i64 0, .string ⟨#[]⟩] _)
  rw [← hwl]
  replace H2 := Lib.hid (H2.out.belowS hBl)
  replace HP := Lib.hid (HP.out.belowS hBl)
  replace HB := Lib.hid (HB.out.trans (hBl.mono HB.out.size))
  clear hwl hBl
  have wd0 := HT3.out.word (k := 0) (by omega)
  have wd1 := HT3.out.word (k := 1) (by omega)
  have wd2 := HT3.out.word (k := 2) (by omega)
  have wd3 := HT3.out.word (k := 3) (by omega)
  have wd4 := HT3.out.word (k := 4) (by omega)
  have wd5 := HT3.out.word (k := 5) (by omega)
  have wd6 := HT3.out.word (k := 6) (by omega)
  have wd7 := HT3.out.word (k := 7) (by omega)
  have wd8 := HT3.out.word (k := 8) (by omega)
  have wd9 := HT3.out.word (k := 9) (by omega)
  have wd10 := HT3.out.word (k := 10) (by omega)
  obtain ⟨Tw, hbw⟩ := HT3.out.words
  have hwl := hbw.lt
  have hwn : 0 < w1.heap.size := by have h1 := (World.block_lt_of_cell? w _ (HT.out.l.word (k := 0) (by omega))); simp only at h1; omega
  have HB3 := Lib.hid HB.out
  have hz3 := H5.out.lt
  go_wp2_with fail
  clear hwl hwn hbw wd0 wd1 wd2 wd3 wd4 wd5 wd6 wd7 wd8 wd9 wd10
  go_loopw [18] (fun i wr => ∃ k : Nat, k ≤ 11 ∧ i = .int .i64 k ∧ Hid (BoxAt wr w2.heap.size [.int .i64 (kindGo p0 (k - 1)), .int .i64 0, .int .i64 0, .string ⟨#[]⟩] 25) ∧ Hid (BoxAt wr w.heap.size [.int .i64 0, .int .i64 0, .int .i64 0, .string ⟨#[]⟩] 25) ∧ Hid (BoxAt wr w1.heap.size ((p0 :: ps).map strV) 9) ∧ Hid (Below w.heap.size w wr)) (fun i _ => 11 - (intOf i).toNat)
  case atStart => exact ⟨0, by omega, rfl, H5, H2, HP, HB⟩
  case round =>
    obtain ⟨k, hk, rfl, H5r, H2r, HPr, HBr⟩ := hrel
    have y0 := H5r.out.cell 0 rfl
    have yf := H5r.out.free 0
    have yz := H5r.out.lt
    have xp := HPr.out.cell 0 rfl
    have hpn : 0 < ps.length + 1 := by omega
    by_cases hlt : k < 11
    · have hc : k = 0 ∨ k = 1 ∨ k = 2 ∨ k = 3 ∨ k = 4 ∨ k = 5 ∨ k = 6 ∨ k = 7 ∨ k = 8 ∨ k = 9 ∨ k = 10 := by omega
      rcases hc with rfl | rfl | rfl | rfl | rfl | rfl | rfl | rfl | rfl | rfl | rfl
      · have hix : ∀ w' : World, (Instr.index 57 (.agg #[strV (wordOf 0), strV (wordOf 1), strV (wordOf 2), strV (wordOf 3), strV (wordOf 4), strV (wordOf 5), strV (wordOf 6), strV (wordOf 7), strV (wordOf 8), strV (wordOf 9), strV (wordOf 10)]) (.int .i64 0)).run Tryd.prog w' = .ok (strV (wordOf 0)) w' := fun _ => by kernel_rfl
        go_wp2
        go_roundw
        case rel => exact ⟨1, by omega, by go_num, H5r, H2r, HPr, HBr⟩
        case measure => simp [intOf]
      · have hix : ∀ w' : World, (Instr.index 57 (.agg #[strV (wordOf 0), strV (wordOf 1), strV (wordOf 2), strV (wordOf 3), strV (wordOf 4), strV (wordOf 5), strV (wordOf 6), strV (wordOf 7), strV (wordOf 8), strV (wordOf 9), strV (wordOf 10)]) (.int .i64 1)).run Tryd.prog w' = .ok (strV (wordOf 1)) w' := fun _ => by kernel_rfl
        by_cases he : wordOf 1 = p0
        · have hq : (wordOf 1 == p0) = true := by simpa using he
          have HK := Lib.hid (show kindGo p0 1 = ((1 : Nat) : Int) from kindGo_hit p0 0 he)
          clear he
          go_wp2_with fail
          have HN5 := Lib.hid (show BoxAt (wr.setCell ⟨w2.heap.size, 0, none⟩ (.int .i64 1)) w2.heap.size [.int .i64 (kindGo p0 1), .int .i64 0, .int .i64 0, .string ⟨#[]⟩] 25 by rw [HK.out]; exact H5r.out.set 0 _)
          have HN2 := Lib.hid (H2r.out.setOther (p := ⟨w2.heap.size, 0, none⟩) (by simp; omega) (.int .i64 1))
          have HNP := Lib.hid (HPr.out.setOther (p := ⟨w2.heap.size, 0, none⟩) (by simp; omega) (.int .i64 1))
          have HNB := Lib.hid (HBr.out.setCell (p := ⟨w2.heap.size, 0, none⟩) (by simp; omega) (.int .i64 1))
          go_roundw
          case rel => exact ⟨2, by omega, by go_num, HN5, HN2, HNP, HNB⟩
          case measure => simp [intOf]
        · have hq : (wordOf 1 == p0) = false := by simpa using he
          have HK := Lib.hid (show kindGo p0 1 = kindGo p0 0 from kindGo_miss p0 0 he)
          have HN5 := Lib.hid (show BoxAt wr w2.heap.size [.int .i64 (kindGo p0 1), .int .i64 0, .int .i64 0, .string ⟨#[]⟩] 25 by rw [HK.out]; exact H5r.out)
          clear he
          go_wp2
          go_roundw
          case rel => exact ⟨2, by omega, by go_num, HN5, H2r, HPr, HBr⟩
          case measure => simp [intOf]
      · have hix : ∀ w' : World, (Instr.index 57 (.agg #[strV (wordOf 0), strV (wordOf 1), strV (wordOf 2), strV (wordOf 3), strV (wordOf 4), strV (wordOf 5), strV (wordOf 6), strV (wordOf 7), strV (wordOf 8), strV (wordOf 9), strV (wordOf 10)]) (.int .i64 2)).run Tryd.prog w' = .ok (strV (wordOf 2)) w' := fun _ => by kernel_rfl
        by_cases he : wordOf 2 = p0
        · have hq : (wordOf 2 == p0) = true := by simpa using he
          have HK := Lib.hid (show kindGo p0 2 = ((2 : Nat) : Int) from kindGo_hit p0 1 he)
          clear he
          go_wp2_with fail
          have HN5 := Lib.hid (show BoxAt (wr.setCell ⟨w2.heap.size, 0, none⟩ (.int .i64 2)) w2.heap.size [.int .i64 (kindGo p0 2), .int .i64 0, .int .i64 0, .string ⟨#[]⟩] 25 by rw [HK.out]; exact H5r.out.set 0 _)
          have HN2 := Lib.hid (H2r.out.setOther (p := ⟨w2.heap.size, 0, none⟩) (by simp; omega) (.int .i64 2))
          have HNP := Lib.hid (HPr.out.setOther (p := ⟨w2.heap.size, 0, none⟩) (by simp; omega) (.int .i64 2))
          have HNB := Lib.hid (HBr.out.setCell (p := ⟨w2.heap.size, 0, none⟩) (by simp; omega) (.int .i64 2))
          go_roundw
          case rel => exact ⟨3, by omega, by go_num, HN5, HN2, HNP, HNB⟩
          case measure => simp [intOf]
        · have hq : (wordOf 2 == p0) = false := by simpa using he
          have HK := Lib.hid (show kindGo p0 2 = kindGo p0 1 from kindGo_miss p0 1 he)
          have HN5 := Lib.hid (show BoxAt wr w2.heap.size [.int .i64 (kindGo p0 2), .int .i64 0, .int .i64 0, .string ⟨#[]⟩] 25 by rw [HK.out]; exact H5r.out)
          clear he
          go_wp2
          go_roundw
          case rel => exact ⟨3, by omega, by go_num, HN5, H2r, HPr, HBr⟩
          case measure => simp [intOf]
      · have hix : ∀ w' : World, (Instr.index 57 (.agg #[strV (wordOf 0), strV (wordOf 1), strV (wordOf 2), strV (wordOf 3), strV (wordOf 4), strV (wordOf 5), strV (wordOf 6), strV (wordOf 7), strV (wordOf 8), strV (wordOf 9), strV (wordOf 10)]) (.int .i64 3)).run Tryd.prog w' = .ok (strV (wordOf 3)) w' := fun _ => by kernel_rfl
        by_cases he : wordOf 3 = p0
        · have hq : (wordOf 3 == p0) = true := by simpa using he
          have HK := Lib.hid (show kindGo p0 3 = ((3 : Nat) : Int) from kindGo_hit p0 2 he)
          clear he
          go_wp2_with fail
          have HN5 := Lib.hid (show BoxAt (wr.setCell ⟨w2.heap.size, 0, none⟩ (.int .i64 3)) w2.heap.size [.int .i64 (kindGo p0 3), .int .i64 0, .int .i64 0, .string ⟨#[]⟩] 25 by rw [HK.out]; exact H5r.out.set 0 _)
          have HN2 := Lib.hid (H2r.out.setOther (p := ⟨w2.heap.size, 0, none⟩) (by simp; omega) (.int .i64 3))
          have HNP := Lib.hid (HPr.out.setOther (p := ⟨w2.heap.size, 0, none⟩) (by simp; omega) (.int .i64 3))
          have HNB := Lib.hid (HBr.out.setCell (p := ⟨w2.heap.size, 0, none⟩) (by simp; omega) (.int .i64 3))
          go_roundw
          case rel => exact ⟨4, by omega, by go_num, HN5, HN2, HNP, HNB⟩
          case measure => simp [intOf]
        · have hq : (wordOf 3 == p0) = false := by simpa using he
          have HK := Lib.hid (show kindGo p0 3 = kindGo p0 2 from kindGo_miss p0 2 he)
          have HN5 := Lib.hid (show BoxAt wr w2.heap.size [.int .i64 (kindGo p0 3), .int .i64 0, .int .i64 0, .string ⟨#[]⟩] 25 by rw [HK.out]; exact H5r.out)
          clear he
          go_wp2
          go_roundw
          case rel => exact ⟨4, by omega, by go_num, HN5, H2r, HPr, HBr⟩
          case measure => simp [intOf]
      · have hix : ∀ w' : World, (Instr.index 57 (.agg #[strV (wordOf 0), strV (wordOf 1), strV (wordOf 2), strV (wordOf 3), strV (wordOf 4), strV (wordOf 5), strV (wordOf 6), strV (wordOf 7), strV (wordOf 8), strV (wordOf 9), strV (wordOf 10)]) (.int .i64 4)).run Tryd.prog w' = .ok (strV (wordOf 4)) w' := fun _ => by kernel_rfl
        by_cases he : wordOf 4 = p0
        · have hq : (wordOf 4 == p0) = true := by simpa using he
          have HK := Lib.hid (show kindGo p0 4 = ((4 : Nat) : Int) from kindGo_hit p0 3 he)
          clear he
          go_wp2_with fail
          have HN5 := Lib.hid (show BoxAt (wr.setCell ⟨w2.heap.size, 0, none⟩ (.int .i64 4)) w2.heap.size [.int .i64 (kindGo p0 4), .int .i64 0, .int .i64 0, .string ⟨#[]⟩] 25 by rw [HK.out]; exact H5r.out.set 0 _)
          have HN2 := Lib.hid (H2r.out.setOther (p := ⟨w2.heap.size, 0, none⟩) (by simp; omega) (.int .i64 4))
          have HNP := Lib.hid (HPr.out.setOther (p := ⟨w2.heap.size, 0, none⟩) (by simp; omega) (.int .i64 4))
          have HNB := Lib.hid (HBr.out.setCell (p := ⟨w2.heap.size, 0, none⟩) (by simp; omega) (.int .i64 4))
          go_roundw
          case rel => exact ⟨5, by omega, by go_num, HN5, HN2, HNP, HNB⟩
          case measure => simp [intOf]
        · have hq : (wordOf 4 == p0) = false := by simpa using he
          have HK := Lib.hid (show kindGo p0 4 = kindGo p0 3 from kindGo_miss p0 3 he)
          have HN5 := Lib.hid (show BoxAt wr w2.heap.size [.int .i64 (kindGo p0 4), .int .i64 0, .int .i64 0, .string ⟨#[]⟩] 25 by rw [HK.out]; exact H5r.out)
          clear he
          go_wp2
          go_roundw
          case rel => exact ⟨5, by omega, by go_num, HN5, H2r, HPr, HBr⟩
          case measure => simp [intOf]
      · have hix : ∀ w' : World, (Instr.index 57 (.agg #[strV (wordOf 0), strV (wordOf 1), strV (wordOf 2), strV (wordOf 3), strV (wordOf 4), strV (wordOf 5), strV (wordOf 6), strV (wordOf 7), strV (wordOf 8), strV (wordOf 9), strV (wordOf 10)]) (.int .i64 5)).run Tryd.prog w' = .ok (strV (wordOf 5)) w' := fun _ => by kernel_rfl
        by_cases he : wordOf 5 = p0
        · have hq : (wordOf 5 == p0) = true := by simpa using he
          have HK := Lib.hid (show kindGo p0 5 = ((5 : Nat) : Int) from kindGo_hit p0 4 he)
          clear he
          go_wp2_with fail
          have HN5 := Lib.hid (show BoxAt (wr.setCell ⟨w2.heap.size, 0, none⟩ (.int .i64 5)) w2.heap.size [.int .i64 (kindGo p0 5), .int .i64 0, .int .i64 0, .string ⟨#[]⟩] 25 by rw [HK.out]; exact H5r.out.set 0 _)
          have HN2 := Lib.hid (H2r.out.setOther (p := ⟨w2.heap.size, 0, none⟩) (by simp; omega) (.int .i64 5))
          have HNP := Lib.hid (HPr.out.setOther (p := ⟨w2.heap.size, 0, none⟩) (by simp; omega) (.int .i64 5))
          have HNB := Lib.hid (HBr.out.setCell (p := ⟨w2.heap.size, 0, none⟩) (by simp; omega) (.int .i64 5))
          go_roundw
          case rel => exact ⟨6, by omega, by go_num, HN5, HN2, HNP, HNB⟩
          case measure => simp [intOf]
        · have hq : (wordOf 5 == p0) = false := by simpa using he
          have HK := Lib.hid (show kindGo p0 5 = kindGo p0 4 from kindGo_miss p0 4 he)
          have HN5 := Lib.hid (show BoxAt wr w2.heap.size [.int .i64 (kindGo p0 5), .int .i64 0, .int .i64 0, .string ⟨#[]⟩] 25 by rw [HK.out]; exact H5r.out)
          clear he
          go_wp2
          go_roundw
          case rel => exact ⟨6, by omega, by go_num, HN5, H2r, HPr, HBr⟩
          case measure => simp [intOf]
      · have hix : ∀ w' : World, (Instr.index 57 (.agg #[strV (wordOf 0), strV (wordOf 1), strV (wordOf 2), strV (wordOf 3), strV (wordOf 4), strV (wordOf 5), strV (wordOf 6), strV (wordOf 7), strV (wordOf 8), strV (wordOf 9), strV (wordOf 10)]) (.int .i64 6)).run Tryd.prog w' = .ok (strV (wordOf 6)) w' := fun _ => by kernel_rfl
        by_cases he : wordOf 6 = p0
        · have hq : (wordOf 6 == p0) = true := by simpa using he
          have HK := Lib.hid (show kindGo p0 6 = ((6 : Nat) : Int) from kindGo_hit p0 5 he)
          clear he
          go_wp2_with fail
          have HN5 := Lib.hid (show BoxAt (wr.setCell ⟨w2.heap.size, 0, none⟩ (.int .i64 6)) w2.heap.size [.int .i64 (kindGo p0 6), .int .i64 0, .int .i64 0, .string ⟨#[]⟩] 25 by rw [HK.out]; exact H5r.out.set 0 _)
          have HN2 := Lib.hid (H2r.out.setOther (p := ⟨w2.heap.size, 0, none⟩) (by simp; omega) (.int .i64 6))
          have HNP := Lib.hid (HPr.out.setOther (p := ⟨w2.heap.size, 0, none⟩) (by simp; omega) (.int .i64 6))
          have HNB := Lib.hid (HBr.out.setCell (p := ⟨w2.heap.size, 0, none⟩) (by simp; omega) (.int .i64 6))
          go_roundw
          case rel => exact ⟨7, by omega, by go_num, HN5, HN2, HNP, HNB⟩
          case measure => simp [intOf]
        · have hq : (wordOf 6 == p0) = false := by simpa using he
          have HK := Lib.hid (show kindGo p0 6 = kindGo p0 5 from kindGo_miss p0 5 he)
          have HN5 := Lib.hid (show BoxAt wr w2.heap.size [.int .i64 (kindGo p0 6), .int .i64 0, .int .i64 0, .string ⟨#[]⟩] 25 by rw [HK.out]; exact H5r.out)
          clear he
          go_wp2
          go_roundw
          case rel => exact ⟨7, by omega, by go_num, HN5, H2r, HPr, HBr⟩
          case measure => simp [intOf]
      · have hix : ∀ w' : World, (Instr.index 57 (.agg #[strV (wordOf 0), strV (wordOf 1), strV (wordOf 2), strV (wordOf 3), strV (wordOf 4), strV (wordOf 5), strV (wordOf 6), strV (wordOf 7), strV (wordOf 8), strV (wordOf 9), strV (wordOf 10)]) (.int .i64 7)).run Tryd.prog w' = .ok (strV (wordOf 7)) w' := fun _ => by kernel_rfl
        by_cases he : wordOf 7 = p0
        · have hq : (wordOf 7 == p0) = true := by simpa using he
          have HK := Lib.hid (show kindGo p0 7 = ((7 : Nat) : Int) from kindGo_hit p0 6 he)
          clear he
          go_wp2_with fail
          have HN5 := Lib.hid (show BoxAt (wr.setCell ⟨w2.heap.size, 0, none⟩ (.int .i64 7)) w2.heap.size [.int .i64 (kindGo p0 7), .int .i64 0, .int .i64 0, .string ⟨#[]⟩] 25 by rw [HK.out]; exact H5r.out.set 0 _)
          have HN2 := Lib.hid (H2r.out.setOther (p := ⟨w2.heap.size, 0, none⟩) (by simp; omega) (.int .i64 7))
          have HNP := Lib.hid (HPr.out.setOther (p := ⟨w2.heap.size, 0, none⟩) (by simp; omega) (.int .i64 7))
          have HNB := Lib.hid (HBr.out.setCell (p := ⟨w2.heap.size, 0, none⟩) (by simp; omega) (.int .i64 7))
          go_roundw
          case rel => exact ⟨8, by omega, by go_num, HN5, HN2, HNP, HNB⟩
          case measure => simp [intOf]
        · have hq : (wordOf 7 == p0) = false := by simpa using he
          have HK := Lib.hid (show kindGo p0 7 = kindGo p0 6 from kindGo_miss p0 6 he)
          have HN5 := Lib.hid (show BoxAt wr w2.heap.size [.int .i64 (kindGo p0 7), .int .i64 0, .int .i64 0, .string ⟨#[]⟩] 25 by rw [HK.out]; exact H5r.out)
          clear he
          go_wp2
          go_roundw
          case rel => exact ⟨8, by omega, by go_num, HN5, H2r, HPr, HBr⟩
          case measure => simp [intOf]
      · have hix : ∀ w' : World, (Instr.index 57 (.agg #[strV (wordOf 0), strV (wordOf 1), strV (wordOf 2), strV (wordOf 3), strV (wordOf 4), strV (wordOf 5), strV (wordOf 6), strV (wordOf 7), strV (wordOf 8), strV (wordOf 9), strV (wordOf 10)]) (.int .i64 8)).run Tryd.prog w' = .ok (strV (wordOf 8)) w' := fun _ => by kernel_rfl
        by_cases he : wordOf 8 = p0
        · have hq : (wordOf 8 == p0) = true := by simpa using he
          have HK := Lib.hid (show kindGo p0 8 = ((8 : Nat) : Int) from kindGo_hit p0 7 he)
          clear he
          go_wp2_with fail
          have HN5 := Lib.hid (show BoxAt (wr.setCell ⟨w2.heap.size, 0, none⟩ (.int .i64 8)) w2.heap.size [.int .i64 (kindGo p0 8), .int .i64 0, .int .i64 0, .string ⟨#[]⟩] 25 by rw [HK.out]; exact H5r.out.set 0 _)
          have HN2 := Lib.hid (H2r.out.setOther (p := ⟨w2.heap.size, 0, none⟩) (by simp; omega) (.int .i64 8))
          have HNP := Lib.hid (HPr.out.setOther (p := ⟨w2.heap.size, 0, none⟩) (by simp; omega) (.int .i64 8))
          have HNB := Lib.hid (HBr.out.setCell (p := ⟨w2.heap.size, 0, none⟩) (by simp; omega) (.int .i64 8))
          go_roundw
          case rel => exact ⟨9, by omega, by go_num, HN5, HN2, HNP, HNB⟩
          case measure => simp [intOf]
        · have hq : (wordOf 8 == p0) = false := by simpa using he
          have HK := Lib.hid (show kindGo p0 8 = kindGo p0 7 from kindGo_miss p0 7 he)
          have HN5 := Lib.hid (show BoxAt wr w2.heap.size [.int .i64 (kindGo p0 8), .int .i64 0, .int .i64 0, .string ⟨#[]⟩] 25 by rw [HK.out]; exact H5r.out)
          clear he
          go_wp2
          go_roundw
          case rel => exact ⟨9, by omega, by go_num, HN5, H2r, HPr, HBr⟩
          case measure => simp [intOf]
      · have hix : ∀ w' : World, (Instr.index 57 (.agg #[strV (wordOf 0), strV (wordOf 1), strV (wordOf 2), strV (wordOf 3), strV (wordOf 4), strV (wordOf 5), strV (wordOf 6), strV (wordOf 7), strV (wordOf 8), strV (wordOf 9), strV (wordOf 10)]) (.int .i64 9)).run Tryd.prog w' = .ok (strV (wordOf 9)) w' := fun _ => by kernel_rfl
        by_cases he : wordOf 9 = p0
        · have hq : (wordOf 9 == p0) = true := by simpa using he
          have HK := Lib.hid (show kindGo p0 9 = ((9 : Nat) : Int) from kindGo_hit p0 8 he)
          clear he
          go_wp2_with fail
          have HN5 := Lib.hid (show BoxAt (wr.setCell ⟨w2.heap.size, 0, none⟩ (.int .i64 9)) w2.heap.size [.int .i64 (kindGo p0 9), .int .i64 0, .int .i64 0, .string ⟨#[]⟩] 25 by rw [HK.out]; exact H5r.out.set 0 _)
          have HN2 := Lib.hid (H2r.out.setOther (p := ⟨w2.heap.size, 0, none⟩) (by simp; omega) (.int .i64 9))
          have HNP := Lib.hid (HPr.out.setOther (p := ⟨w2.heap.size, 0, none⟩) (by simp; omega) (.int .i64 9))
          have HNB := Lib.hid (HBr.out.setCell (p := ⟨w2.heap.size, 0, none⟩) (by simp; omega) (.int .i64 9))
          go_roundw
          case rel => exact ⟨10, by omega, by go_num, HN5, HN2, HNP, HNB⟩
          case measure => simp [intOf]
        · have hq : (wordOf 9 == p0) = false := by simpa using he
          have HK := Lib.hid (show kindGo p0 9 = kindGo p0 8 from kindGo_miss p0 8 he)
          have HN5 := Lib.hid (show BoxAt wr w2.heap.size [.int .i64 (kindGo p0 9), .int .i64 0, .int .i64 0, .string ⟨#[]⟩] 25 by rw [HK.out]; exact H5r.out)
          clear he
          go_wp2
          go_roundw
          case rel => exact ⟨10, by omega, by go_num, HN5, H2r, HPr, HBr⟩
          case measure => simp [intOf]
      · have hix : ∀ w' : World, (Instr.index 57 (.agg #[strV (wordOf 0), strV (wordOf 1), strV (wordOf 2), strV (wordOf 3), strV (wordOf 4), strV (wordOf 5), strV (wordOf 6), strV (wordOf 7), strV (wordOf 8), strV (wordOf 9), strV (wordOf 10)]) (.int .i64 10)).run Tryd.prog w' = .ok (strV (wordOf 10)) w' := fun _ => by kernel_rfl
        by_cases he : wordOf 10 = p0
        · have hq : (wordOf 10 == p0) = true := by simpa using he
          have HK := Lib.hid (show kindGo p0 10 = ((10 : Nat) : Int) from kindGo_hit p0 9 he)
          clear he
          go_wp2_with fail
          have HN5 := Lib.hid (show BoxAt (wr.setCell ⟨w2.heap.size, 0, none⟩ (.int .i64 10)) w2.heap.size [.int .i64 (kindGo p0 10), .int .i64 0, .int .i64 0, .string ⟨#[]⟩] 25 by rw [HK.out]; exact H5r.out.set 0 _)
          have HN2 := Lib.hid (H2r.out.setOther (p := ⟨w2.heap.size, 0, none⟩) (by simp; omega) (.int .i64 10))
          have HNP := Lib.hid (HPr.out.setOther (p := ⟨w2.heap.size, 0, none⟩) (by simp; omega) (.int .i64 10))
          have HNB := Lib.hid (HBr.out.setCell (p := ⟨w2.heap.size, 0, none⟩) (by simp; omega) (.int .i64 10))
          go_roundw
          case rel => exact ⟨11, by omega, by go_num, HN5, HN2, HNP, HNB⟩
          case measure => simp [intOf]
        · have hq : (wordOf 10 == p0) = false := by simpa using he
          have HK := Lib.hid (show kindGo p0 10 = kindGo p0 9 from kindGo_miss p0 9 he)
          have HN5 := Lib.hid (show BoxAt wr w2.heap.size [.int .i64 (kindGo p0 10), .int .i64 0, .int .i64 0, .string ⟨#[]⟩] 25 by rw [HK.out]; exact H5r.out)
          clear he
          go_wp2
          go_roundw
          case rel => exact ⟨11, by omega, by go_num, HN5, H2r, HPr, HBr⟩
          case measure => simp [intOf]
    · obtain rfl : k = 11 := by omega
      have HK5 := Lib.hid (show BoxAt wr w2.heap.size [.int .i64 (kindOf p0), .int .i64 0, .int .i64 0, .string ⟨#[]⟩] 25 from H5r.out)
      obtain ⟨K0, K1⟩ := kindOf_range p0
      have HW := Lib.hid (show oneL s = if kindOf p0 = 0 ∨ ps.length ≠ partsMany (kindOf p0) then (⟨kindOf p0, 0, 0, []⟩, false) else (oneA (kindOf p0) ps, oneOk (kindOf p0) ps) from HONE.out)
      have HTr := Lib.hid (HT.out.belowS HBr.out)
      clear y0 H5r
      generalize kindOf p0 = K at *
      have y0 := HK5.out.cell 0 rfl
      have HCB := Lib.hid (kind_combos K0 K1)
      rcases HCB.out with ⟨bK, bN, bP, bT⟩ | ⟨bK, bN, bP, bT⟩ | ⟨bK, bN, bP, bT⟩ | ⟨bK, bN, bP, bT⟩ | ⟨bK, bN, bP, bT⟩ | ⟨bK, bN, bP, bT⟩
      · have HBN := Lib.hid bN
        have HBP := Lib.hid bP
        have HBT := Lib.hid bT
        have HBK := Lib.hid bK
        have HM := Lib.hid (show partsMany K = 0 by unfold partsMany; rw [bN, bP, bT]; rfl)
        clear bN bP bT bK
        have hk0 : (K == 0) = true := by simp [HBK.out]
        by_cases hz : ps.length = 0
        · obtain rfl := List.eq_nil_of_length_eq_zero hz
          go_wp2_with (go_at_call 17; refine (has_any K _).mono ?_; rintro e w' ⟨rfl, rfl⟩; rw [hasN_eq, hasP_eq, hasT_eq, HBN.out, HBP.out, HBT.out])
          go_loop [47, 11] (fun j c => ∃ n : Nat, n ≤ 3 ∧ j = .int .i64 n ∧ c = .int .i64 (([0, 0, 0, 0] : List Int).getD n 0)) (fun j _ => 3 - (intOf j).toNat)
          case atStart => exact ⟨0, by omega, rfl, rfl⟩
          case round =>
            obtain ⟨n, hn, rfl, rfl⟩ := hrel
            have hc : n = 0 ∨ n = 1 ∨ n = 2 ∨ n = 3 := by omega
            rcases hc with rfl | rfl | rfl | rfl
            · have hix : ∀ w' : World, (Instr.index 69 (.agg #[.bool false, .bool false, .bool false]) (.int .i64 0)).run Tryd.prog w' = .ok (.bool false) w' := fun _ => by kernel_rfl
              go_wp2
              go_round
              case rel => exact ⟨1, by omega, by go_num, by first | rfl | go_num⟩
              case measure => simp [intOf]
            · have hix : ∀ w' : World, (Instr.index 69 (.agg #[.bool false, .bool false, .bool false]) (.int .i64 1)).run Tryd.prog w' = .ok (.bool false) w' := fun _ => by kernel_rfl
              go_wp2
              go_round
              case rel => exact ⟨2, by omega, by go_num, by first | rfl | go_num⟩
              case measure => simp [intOf]
            · have hix : ∀ w' : World, (Instr.index 69 (.agg #[.bool false, .bool false, .bool false]) (.int .i64 2)).run Tryd.prog w' = .ok (.bool false) w' := fun _ => by kernel_rfl
              go_wp2
              go_round
              case rel => exact ⟨3, by omega, by go_num, by first | rfl | go_num⟩
              case measure => simp [intOf]
            · have HE := Lib.hid (show oneL s = (⟨K, 0, 0, []⟩, false) by rw [HW.out, if_pos (.inl HBK.out)])
              have x1 := HK5.out.cell 1 rfl
              have x2 := HK5.out.cell 2 rfl
              have x3 := HK5.out.cell 3 rfl
              have u0 := H2r.out.cell 0 rfl
              have u1 := H2r.out.cell 1 rfl
              have u2 := H2r.out.cell 2 rfl
              have u3 := H2r.out.cell 3 rfl
              have uf0 := H2r.out.free 0
              have uf1 := H2r.out.free 1
              have uf2 := H2r.out.free 2
              have uf3 := H2r.out.free 3
              have uz := H2r.out.lt
              have HZ := Lib.hid ((((H2r.out.set 0 (.int .i64 K)).set 1 (.int .i64 0)).set 2 (.int .i64 0)).set 3 (.string ⟨#[]⟩))
              have HBZ := Lib.hid ((((HBr.out.setCell (p := ⟨w.heap.size, 0, none⟩) (by simp) (.int .i64 K)).setCell (p := ⟨w.heap.size, 1, none⟩) (by simp) (.int .i64 0)).setCell (p := ⟨w.heap.size, 2, none⟩) (by simp) (.int .i64 0)).setCell (p := ⟨w.heap.size, 3, none⟩) (by simp) (.string ⟨#[]⟩))
              have g0 := HZ.out.cell 0 rfl
              have g1 := HZ.out.cell 1 rfl
              have g2 := HZ.out.cell 2 rfl
              have g3 := HZ.out.cell 3 rfl
              go_wp2
              refine bodyPost_ret (v := .tuple #[.agg #[.int .i64 K, .int .i64 0, .int .i64 0, .string ⟨#[]⟩], .bool false]) (by simp [results, Tryd.results23, go_sem, g0, g1, g2, g3]) rfl ⟨by rw [HE.out] <;> rfl, HBZ.out⟩
        · have hz1 : 0 < ps.length := by omega
          have hz2 : ¬ ps.length + 1 = 1 := by omega
          go_wp2_with (go_at_call 17; refine (has_any K _).mono ?_; rintro e w' ⟨rfl, rfl⟩; rw [hasN_eq, hasP_eq, hasT_eq, HBN.out, HBP.out, HBT.out])
          go_loop [47, 11] (fun j c => ∃ n : Nat, n ≤ 3 ∧ j = .int .i64 n ∧ c = .int .i64 (([0, 0, 0, 0] : List Int).getD n 0)) (fun j _ => 3 - (intOf j).toNat)
          case atStart => exact ⟨0, by omega, rfl, rfl⟩
          case round =>
            obtain ⟨n, hn, rfl, rfl⟩ := hrel
            have hc : n = 0 ∨ n = 1 ∨ n = 2 ∨ n = 3 := by omega
            rcases hc with rfl | rfl | rfl | rfl
            · have hix : ∀ w' : World, (Instr.index 69 (.agg #[.bool false, .bool false, .bool false]) (.int .i64 0)).run Tryd.prog w' = .ok (.bool false) w' := fun _ => by kernel_rfl
              go_wp2
              go_round
              case rel => exact ⟨1, by omega, by go_num, by first | rfl | go_num⟩
              case measure => simp [intOf]
            · have hix : ∀ w' : World, (Instr.index 69 (.agg #[.bool false, .bool false, .bool false]) (.int .i64 1)).run Tryd.prog w' = .ok (.bool false) w' := fun _ => by kernel_rfl
              go_wp2
              go_round
              case rel => exact ⟨2, by omega, by go_num, by first | rfl | go_num⟩
              case measure => simp [intOf]
            · have hix : ∀ w' : World, (Instr.index 69 (.agg #[.bool false, .bool false, .bool false]) (.int .i64 2)).run Tryd.prog w' = .ok (.bool false) w' := fun _ => by kernel_rfl
              go_wp2
              go_round
              case rel => exact ⟨3, by omega, by go_num, by first | rfl | go_num⟩
              case measure => simp [intOf]
            · have HE := Lib.hid (show oneL s = (⟨K, 0, 0, []⟩, false) by rw [HW.out, if_pos (.inl HBK.out)])
              have x1 := HK5.out.cell 1 rfl
              have x2 := HK5.out.cell 2 rfl
              have x3 := HK5.out.cell 3 rfl
              have u0 := H2r.out.cell 0 rfl
              have u1 := H2r.out.cell 1 rfl
              have u2 := H2r.out.cell 2 rfl
              have u3 := H2r.out.cell 3 rfl
              have uf0 := H2r.out.free 0
              have uf1 := H2r.out.free 1
              have uf2 := H2r.out.free 2
              have uf3 := H2r.out.free 3
              have uz := H2r.out.lt
              have HZ := Lib.hid ((((H2r.out.set 0 (.int .i64 K)).set 1 (.int .i64 0)).set 2 (.int .i64 0)).set 3 (.string ⟨#[]⟩))
              have HBZ := Lib.hid ((((HBr.out.setCell (p := ⟨w.heap.size, 0, none⟩) (by simp) (.int .i64 K)).setCell (p := ⟨w.heap.size, 1, none⟩) (by simp) (.int .i64 0)).setCell (p := ⟨w.heap.size, 2, none⟩) (by simp) (.int .i64 0)).setCell (p := ⟨w.heap.size, 3, none⟩) (by simp) (.string ⟨#[]⟩))
              have g0 := HZ.out.cell 0 rfl
              have g1 := HZ.out.cell 1 rfl
              have g2 := HZ.out.cell 2 rfl
              have g3 := HZ.out.cell 3 rfl
              go_wp2
              refine bodyPost_ret (v := .tuple #[.agg #[.int .i64 K, .int .i64 0, .int .i64 0, .string ⟨#[]⟩], .bool false]) (by simp [results, Tryd.results23, go_sem, g0, g1, g2, g3]) rfl ⟨by rw [HE.out] <;> rfl, HBZ.out⟩
      · have HBN := Lib.hid bN
        have HBP := Lib.hid bP
        have HBT := Lib.hid bT
        have HBK := Lib.hid bK
        have HM := Lib.hid (show partsMany K = 2 by unfold partsMany; rw [bN, bP, bT]; rfl)
        have hk0 : (K == 0) = false := by simpa using bK
        have hk0' : ¬ K = 0 := bK
        clear bN bP bT bK
        by_cases hlen : ps.length = 2
        · obtain ⟨x, y, rfl⟩ : ∃ x y, ps = [x, y] := by match ps, hlen with | [x, y], _ => exact ⟨x, y, rfl⟩
          clear hlen
          have hlx := spl_mem s x (by rw [HSP.out]; simp)
          have hly := spl_mem s y (by rw [HSP.out]; simp)
          obtain ⟨v1, q1, hv1⟩ : ∃ v q, numL x = (v, q) := ⟨_, _, rfl⟩
          obtain ⟨v3, q3, hv3⟩ : ∃ v q, unhexL y = (v, q) := ⟨_, _, rfl⟩
          have HE := Lib.hid (show oneL s = (⟨K, v1, 0, v3⟩, decide (q1 = true ∧ false = false ∧ q3 = true)) by rw [HW.out, if_neg (by rw [HM.out]; simp [HBK.out])]; unfold oneA oneOk oneN oneP oneT restN restP; simp only [HBN.out, HBP.out, HBT.out, if_true, if_false, Bool.false_eq_true, List.headD_cons, List.tail_cons, hv1, hv3])
          have Hv1 := Lib.hid hv1
          clear hv1
          have Hv3 := Lib.hid hv3
          clear hv3
          go_wp2_with (go_at_call 17; refine (has_any K _).mono ?_; rintro e w' ⟨rfl, rfl⟩; rw [hasN_eq, hasP_eq, hasT_eq, HBN.out, HBP.out, HBT.out])
          go_loop [47, 11] (fun j c => ∃ n : Nat, n ≤ 3 ∧ j = .int .i64 n ∧ c = .int .i64 (([0, 1, 1, 2] : List Int).getD n 0)) (fun j _ => 3 - (intOf j).toNat)
          case atStart => exact ⟨0, by omega, rfl, rfl⟩
          case round =>
            obtain ⟨n, hn, rfl, rfl⟩ := hrel
            have hc : n = 0 ∨ n = 1 ∨ n = 2 ∨ n = 3 := by omega
            rcases hc with rfl | rfl | rfl | rfl
            · have hix : ∀ w' : World, (Instr.index 69 (.agg #[.bool true, .bool false, .bool true]) (.int .i64 0)).run Tryd.prog w' = .ok (.bool true) w' := fun _ => by kernel_rfl
              go_wp2
              go_round
              case rel => exact ⟨1, by omega, by go_num, by first | rfl | go_num⟩
              case measure => simp [intOf]
            · have hix : ∀ w' : World, (Instr.index 69 (.agg #[.bool true, .bool false, .bool true]) (.int .i64 1)).run Tryd.prog w' = .ok (.bool false) w' := fun _ => by kernel_rfl
              go_wp2
              go_round
              case rel => exact ⟨2, by omega, by go_num, by first | rfl | go_num⟩
              case measure => simp [intOf]
            · have hix : ∀ w' : World, (Instr.index 69 (.agg #[.bool true, .bool false, .bool true]) (.int .i64 2)).run Tryd.prog w' = .ok (.bool true) w' := fun _ => by kernel_rfl
              go_wp2
              go_round
              case rel => exact ⟨3, by omega, by go_num, by first | rfl | go_num⟩
              case measure => simp [intOf]
            · go_upto_region 21 with fail
              obtain ⟨w4, hwl⟩ : ∃ w4, w4 = (wr.alloc (.cells #[.bool false, .bool false, .bool false] 69)) := ⟨_, rfl⟩
              have hBl : Below wr.heap.size wr w4 := by rw [hwl]; exact ((Below.refl _ _).alloc (by first | exact Nat.le_refl _ | (simp; done) | (simp; omega)) _)
              have HTx := Lib.hid (HTr.out.belowS hBl)
              have HO := Lib.hid (show BoxAt w4 wr.heap.size [.bool false, .bool false, .bool false] 69 by rw [hwl]; exact BoxAt.new wr [.bool false, .bool false, .bool false] _)
              rw [← hwl]
              replace HK5 := Lib.hid (HK5.out.belowS hBl)
              replace H2r := Lib.hid (H2r.out.belowS hBl)
              replace HPr := Lib.hid (HPr.out.belowS hBl)
              replace HBr := Lib.hid (HBr.out.trans (hBl.mono HBr.out.size))
              clear hwl hBl
              have zo := HO.out.lt
              clear y0 yf xp
              have xp := HPr.out.cell 1 rfl
              have xl := HPr.out.lt
              have y0 := HK5.out.cell 0 rfl
              have y1 := HK5.out.cell 1 rfl
              have y2 := HK5.out.cell 2 rfl
              have y3 := HK5.out.cell 3 rfl
              go_wp2_with fail
              refine (lnumber_any x _ (by omega) HTx.out).mono ?_
              rintro e w5 ⟨rfl, hbn⟩
              rw [Hv1.out]
              replace HK5 := Lib.hid (HK5.out.belowS hbn)
              replace H2r := Lib.hid (H2r.out.belowS hbn)
              replace HPr := Lib.hid (HPr.out.belowS hbn)
              replace HBr := Lib.hid (HBr.out.trans (hbn.mono HBr.out.size))
              replace HO := Lib.hid (HO.out.belowS hbn)
              replace HTx := Lib.hid (HTx.out.belowS hbn)
              have zz := hbn.size
              clear hbn xp xl y0 y1 y2 y3
              have zk5 := HK5.out.lt
              have zo5 := HO.out.lt
              have y0 := HK5.out.cell 0 rfl
              have y1 := HK5.out.cell 1 rfl
              have y2 := HK5.out.cell 2 rfl
              have y3 := HK5.out.cell 3 rfl
              have yf0 := HK5.out.free 0
              have yf1 := HK5.out.free 1
              have yf2 := HK5.out.free 2
              have yf3 := HK5.out.free 3
              have o0 := HO.out.cell 0 rfl
              have o1 := HO.out.cell 1 rfl
              have o2 := HO.out.cell 2 rfl
              have of0 := HO.out.free 0
              have of1 := HO.out.free 1
              have of2 := HO.out.free 2
              go_upto_region 24 with fail
              obtain ⟨w6, hwl⟩ : ∃ w6, w6 = ((w5.setCell ⟨w2.heap.size, 1, none⟩ (.int .i64 v1)).setCell ⟨wr.heap.size, 0, none⟩ (.bool q1)) := ⟨_, rfl⟩
              replace HK5 := Lib.hid (show BoxAt w6 w2.heap.size [.int .i64 K, .int .i64 v1, .int .i64 0, .string ⟨#[]⟩] 25 by rw [hwl]; exact (HK5.out.set 1 (.int .i64 v1)).setOther (by simp; omega) _)
              replace HO := Lib.hid (show BoxAt w6 wr.heap.size [.bool q1, .bool false, .bool false] 69 by rw [hwl]; exact (HO.out.setOther (p := ⟨w2.heap.size, 1, none⟩) (by simp; omega) (.int .i64 v1)).set 0 (.bool q1))
              replace H2r := Lib.hid (show BoxAt w6 w.heap.size _ _ by rw [hwl]; exact (H2r.out.setOther (p := ⟨w2.heap.size, 1, none⟩) (by simp; omega) (.int .i64 v1)).setOther (by simp; omega) _)
              replace HPr := Lib.hid (show BoxAt w6 w1.heap.size _ _ by rw [hwl]; exact (HPr.out.setOther (p := ⟨w2.heap.size, 1, none⟩) (by simp; omega) (.int .i64 v1)).setOther (by simp; omega) _)
              replace HBr := Lib.hid (show Below w.heap.size w w6 by rw [hwl]; exact (HBr.out.setCell (p := ⟨w2.heap.size, 1, none⟩) (by simp; omega) (.int .i64 v1)).setCell (by simp; omega) _)
              replace HTx := Lib.hid (HT.out.belowS HBr.out)
              rw [← hwl]
              clear hwl y0 yf0 y1 yf1 y2 yf2 y3 yf3 o0 of0 o1 of1 o2 of2 zk5 zo5 zz
              have xp := HPr.out.cell 2 rfl
              have xl := HPr.out.lt
              have y0 := HK5.out.cell 0 rfl
              have y1 := HK5.out.cell 1 rfl
              have y2 := HK5.out.cell 2 rfl
              have y3 := HK5.out.cell 3 rfl
              go_wp2_with fail
              refine (lunhex_l y _ (by omega)).mono ?_
              rintro e w7 ⟨rfl, hbn⟩
              rw [Hv3.out]
              replace HK5 := Lib.hid (HK5.out.belowS hbn)
              replace H2r := Lib.hid (H2r.out.belowS hbn)
              replace HPr := Lib.hid (HPr.out.belowS hbn)
              replace HBr := Lib.hid (HBr.out.trans (hbn.mono HBr.out.size))
              replace HO := Lib.hid (HO.out.belowS hbn)
              replace HTx := Lib.hid (HTx.out.belowS hbn)
              have zz := hbn.size
              clear hbn xp xl y0 y1 y2 y3
              have zk5 := HK5.out.lt
              have zo5 := HO.out.lt
              have y0 := HK5.out.cell 0 rfl
              have y1 := HK5.out.cell 1 rfl
              have y2 := HK5.out.cell 2 rfl
              have y3 := HK5.out.cell 3 rfl
              have yf0 := HK5.out.free 0
              have yf1 := HK5.out.free 1
              have yf2 := HK5.out.free 2
              have yf3 := HK5.out.free 3
              have o0 := HO.out.cell 0 rfl
              have o1 := HO.out.cell 1 rfl
              have o2 := HO.out.cell 2 rfl
              have of0 := HO.out.free 0
              have of1 := HO.out.free 1
              have of2 := HO.out.free 2
              go_upto_region 29 with fail
              obtain ⟨w8, hwl⟩ : ∃ w8, w8 = ((w7.setCell ⟨w2.heap.size, 3, none⟩ (strV v3)).setCell ⟨wr.heap.size, 2, none⟩ (.bool q3)) := ⟨_, rfl⟩
              replace HK5 := Lib.hid (show BoxAt w8 w2.heap.size [.int .i64 K, .int .i64 v1, .int .i64 0, strV v3] 25 by rw [hwl]; exact (HK5.out.set 3 (strV v3)).setOther (by simp; omega) _)
              replace HO := Lib.hid (show BoxAt w8 wr.heap.size [.bool q1, .bool false, .bool q3] 69 by rw [hwl]; exact (HO.out.setOther (p := ⟨w2.heap.size, 3, none⟩) (by simp; omega) (strV v3)).set 2 (.bool q3))
              replace H2r := Lib.hid (show BoxAt w8 w.heap.size _ _ by rw [hwl]; exact (H2r.out.setOther (p := ⟨w2.heap.size, 3, none⟩) (by simp; omega) (strV v3)).setOther (by simp; omega) _)
              replace HPr := Lib.hid (show BoxAt w8 w1.heap.size _ _ by rw [hwl]; exact (HPr.out.setOther (p := ⟨w2.heap.size, 3, none⟩) (by simp; omega) (strV v3)).setOther (by simp; omega) _)
              replace HBr := Lib.hid (show Below w.heap.size w w8 by rw [hwl]; exact (HBr.out.setCell (p := ⟨w2.heap.size, 3, none⟩) (by simp; omega) (strV v3)).setCell (by simp; omega) _)
              replace HTx := Lib.hid (HT.out.belowS HBr.out)
              rw [← hwl]
              clear hwl y0 yf0 y1 yf1 y2 yf2 y3 yf3 o0 of0 o1 of1 o2 of2 zk5 zo5 zz
              cases q1 with
              | true =>
                cases q3 with
                | true =>
                  refine wp_region_held_drew (S := fun w' => Keep (fun b => b ≠ w.heap.size) w8 w') (by kernel_rfl) (by exact Keep.drew _ _) (fun hHeld => ?_)
                  obtain ⟨wd', hwd⟩ : ∃ wd', wd' = w8.drew := ⟨_, rfl⟩
                  have HBd := Lib.hid (show Below w8.heap.size w8 wd' by rw [hwd]; exact (Below.refl _ _).drew)
                  rw [← hwd] at hHeld ⊢
                  clear hwd
                  refine wpAnyH_take (i := 0) (v := .agg #[.int .i64 K, .int .i64 v1, .int .i64 0, strV v3]) rfl (by kernel_rfl) (by kernel_rfl) (by kernel_rfl) (fun _ _ _ h => h) (Or.inl ⟨by rfl, fun w hSw => ?_⟩) hHeld ?_
                  · have q0 := hSw _ _ _ (by simp; omega) (HK5.out.cell 0 rfl); have q1 := hSw _ _ _ (by simp; omega) (HK5.out.cell 1 rfl); have q2 := hSw _ _ _ (by simp; omega) (HK5.out.cell 2 rfl); have q3 := hSw _ _ _ (by simp; omega) (HK5.out.cell 3 rfl); clear hSw; go_simp
                  try simp only [Act.put, List.getElem_toArray, List.getElem_cons_succ, List.getElem_cons_zero, List.setIfInBounds_toArray, List.set_cons_zero, List.set_cons_succ]
                  refine wpAnyH_take (i := 1) (v := .agg #[.bool true, .bool false, .bool true]) rfl (by kernel_rfl) (by kernel_rfl) (by kernel_rfl) (fun _ _ _ h => h) (Or.inl ⟨by rfl, fun w hSw => ?_⟩) hHeld ?_
                  · have q0 := hSw _ _ _ (by simp; omega) (HO.out.cell 0 rfl); have q1 := hSw _ _ _ (by simp; omega) (HO.out.cell 1 rfl); have q2 := hSw _ _ _ (by simp; omega) (HO.out.cell 2 rfl); clear hSw; go_simp
                  try simp only [Act.put, List.getElem_toArray, List.getElem_cons_succ, List.getElem_cons_zero, List.setIfInBounds_toArray, List.set_cons_zero, List.set_cons_succ]
                  refine wpAnyH_take (i := 2) (v := .bool true) rfl (by kernel_rfl) (by kernel_rfl) (by kernel_rfl) (fun _ _ _ h => h) (Or.inl ⟨by rfl, fun w hSw => ?_⟩) hHeld ?_
                  · clear hSw; go_simp; all_goals (try first | rfl | omega)
                  try simp only [Act.put, List.getElem_toArray, List.getElem_cons_succ, List.getElem_cons_zero, List.setIfInBounds_toArray, List.set_cons_zero, List.set_cons_succ]
                  refine wpAnyH_take (i := 3) (v := .bool false) rfl (by kernel_rfl) (by kernel_rfl) (by kernel_rfl) (fun _ _ _ h => h) (Or.inl ⟨by rfl, fun w hSw => ?_⟩) hHeld ?_
                  · clear hSw; go_simp; all_goals (try first | rfl | omega)
                  try simp only [Act.put, List.getElem_toArray, List.getElem_cons_succ, List.getElem_cons_zero, List.setIfInBounds_toArray, List.set_cons_zero, List.set_cons_succ]
                  refine wpAnyH_take (i := 4) (v := .bool true) rfl (by kernel_rfl) (by kernel_rfl) (by kernel_rfl) (fun _ _ _ h => h) (Or.inl ⟨by rfl, fun w hSw => ?_⟩) hHeld ?_
                  · clear hSw; go_simp; all_goals (try first | rfl | omega)
                  try simp only [Act.put, List.getElem_toArray, List.getElem_cons_succ, List.getElem_cons_zero, List.setIfInBounds_toArray, List.set_cons_zero, List.set_cons_succ]
                  refine wpAnyH_take (i := 5) (v := .agg #[.bool true, .bool false, .bool true]) rfl (by kernel_rfl) (by kernel_rfl) (by kernel_rfl) (fun _ _ _ h => h) (Or.inl ⟨by rfl, fun w hSw => ?_⟩) hHeld ?_
                  · clear hSw; go_simp; all_goals (try first | rfl | omega)
                  try simp only [Act.put, List.getElem_toArray, List.getElem_cons_succ, List.getElem_cons_zero, List.setIfInBounds_toArray, List.set_cons_zero, List.set_cons_succ]
                  refine wpAnyH_take (i := 6) (v := .bool true) rfl (by kernel_rfl) (by kernel_rfl) (by kernel_rfl) (fun _ _ _ h => h) (Or.inl ⟨by rfl, fun w hSw => ?_⟩) hHeld ?_
                  · clear hSw; go_simp; all_goals (try first | rfl | kernel_rfl)
                  try simp only [Act.put, List.getElem_toArray, List.getElem_cons_succ, List.getElem_cons_zero, List.setIfInBounds_toArray, List.set_cons_zero, List.set_cons_succ]
                  refine wpAnyH_ready (rs := [7]) (by kernel_rfl) (by simp) ?_
                  refine AllReadyH.cons rfl (fun K hK => ?_) ?_
                  · rw [if_pos (by rfl)]
                    have hbp := H2r.out.belowS HBd.out
                    have q0 := hbp.cell 0 rfl
                    have q1 := hbp.cell 1 rfl
                    have q2 := hbp.cell 2 rfl
                    have q3 := hbp.cell 3 rfl
                    have qf0 := hbp.free 0
                    have qf1 := hbp.free 1
                    have qf2 := hbp.free 2
                    have qf3 := hbp.free 3
                    have qz := hbp.lt
                    clear hbp
                    go_simp
                    show K _ _
                    refine hK.out _ _ (by exact (((hHeld.setCell' (by simp) _).setCell' (by simp) _).setCell' (by simp) _).setCell' (by simp) _) (fun hHeld => ?_)
                    clear hK K
                    try simp only [Act.put, List.getElem_toArray, List.getElem_cons_succ, List.getElem_cons_zero, List.setIfInBounds_toArray, List.set_cons_zero, List.set_cons_succ]
                    refine wpAnyH_take (i := 8) (v := .bool true) rfl (by kernel_rfl) (by kernel_rfl) (by kernel_rfl) (fun _ _ _ h => h) (Or.inl ⟨by rfl, fun w hSw => ?_⟩) hHeld ?_
                    · clear hSw; go_simp; all_goals (try first | rfl | omega)
                    try simp only [Act.put, List.getElem_toArray, List.getElem_cons_succ, List.getElem_cons_zero, List.setIfInBounds_toArray, List.set_cons_zero, List.set_cons_succ]
                    refine wpAnyH_done (by kernel_rfl) ?_ _
                    have HZ := Lib.hid (((((H2r.out.belowS HBd.out).set 0 (.int .i64 K)).set 1 (.int .i64 v1)).set 2 (.int .i64 0)).set 3 (strV v3))
                    have HBZ := Lib.hid (((((HBr.out.trans (HBd.out.mono (Below.size HBr.out))).setCell (p := ⟨w.heap.size, 0, none⟩) (by simp) (.int .i64 K)).setCell (p := ⟨w.heap.size, 1, none⟩) (by simp) (.int .i64 v1)).setCell (p := ⟨w.heap.size, 2, none⟩) (by simp) (.int .i64 0)).setCell (p := ⟨w.heap.size, 3, none⟩) (by simp) (strV v3))
                    have g0 := HZ.out.cell 0 rfl
                    have g1 := HZ.out.cell 1 rfl
                    have g2 := HZ.out.cell 2 rfl
                    have g3 := HZ.out.cell 3 rfl
                    go_wp2
                    refine bodyPost_ret (v := .tuple #[.agg #[.int .i64 K, .int .i64 v1, .int .i64 0, strV v3], .bool true]) (by simp [results, Tryd.results23, go_sem, g0, g1, g2, g3]) rfl ⟨by rw [HE.out] <;> rfl, HBZ.out⟩
                  exact AllReadyH.nil
                | false =>
                  refine wp_region_held_drew (S := fun w' => Keep (fun b => b ≠ w.heap.size) w8 w') (by kernel_rfl) (by exact Keep.drew _ _) (fun hHeld => ?_)
                  obtain ⟨wd', hwd⟩ : ∃ wd', wd' = w8.drew := ⟨_, rfl⟩
                  have HBd := Lib.hid (show Below w8.heap.size w8 wd' by rw [hwd]; exact (Below.refl _ _).drew)
                  rw [← hwd] at hHeld ⊢
                  clear hwd
                  refine wpAnyH_take (i := 0) (v := .agg #[.int .i64 K, .int .i64 v1, .int .i64 0, strV v3]) rfl (by kernel_rfl) (by kernel_rfl) (by kernel_rfl) (fun _ _ _ h => h) (Or.inl ⟨by rfl, fun w hSw => ?_⟩) hHeld ?_
                  · have q0 := hSw _ _ _ (by simp; omega) (HK5.out.cell 0 rfl); have q1 := hSw _ _ _ (by simp; omega) (HK5.out.cell 1 rfl); have q2 := hSw _ _ _ (by simp; omega) (HK5.out.cell 2 rfl); have q3 := hSw _ _ _ (by simp; omega) (HK5.out.cell 3 rfl); clear hSw; go_simp
                  try simp only [Act.put, List.getElem_toArray, List.getElem_cons_succ, List.getElem_cons_zero, List.setIfInBounds_toArray, List.set_cons_zero, List.set_cons_succ]
                  refine wpAnyH_take (i := 1) (v := .agg #[.bool true, .bool false, .bool false]) rfl (by kernel_rfl) (by kernel_rfl) (by kernel_rfl) (fun _ _ _ h => h) (Or.inl ⟨by rfl, fun w hSw => ?_⟩) hHeld ?_
                  · have q0 := hSw _ _ _ (by simp; omega) (HO.out.cell 0 rfl); have q1 := hSw _ _ _ (by simp; omega) (HO.out.cell 1 rfl); have q2 := hSw _ _ _ (by simp; omega) (HO.out.cell 2 rfl); clear hSw; go_simp
                  try simp only [Act.put, List.getElem_toArray, List.getElem_cons_succ, List.getElem_cons_zero, List.setIfInBounds_toArray, List.set_cons_zero, List.set_cons_succ]
                  refine wpAnyH_take (i := 2) (v := .bool true) rfl (by kernel_rfl) (by kernel_rfl) (by kernel_rfl) (fun _ _ _ h => h) (Or.inl ⟨by rfl, fun w hSw => ?_⟩) hHeld ?_
                  · clear hSw; go_simp; all_goals (try first | rfl | omega)
                  try simp only [Act.put, List.getElem_toArray, List.getElem_cons_succ, List.getElem_cons_zero, List.setIfInBounds_toArray, List.set_cons_zero, List.set_cons_succ]
                  refine wpAnyH_take (i := 3) (v := .bool false) rfl (by kernel_rfl) (by kernel_rfl) (by kernel_rfl) (fun _ _ _ h => h) (Or.inl ⟨by rfl, fun w hSw => ?_⟩) hHeld ?_
                  · clear hSw; go_simp; all_goals (try first | rfl | omega)
                  try simp only [Act.put, List.getElem_toArray, List.getElem_cons_succ, List.getElem_cons_zero, List.setIfInBounds_toArray, List.set_cons_zero, List.set_cons_succ]
                  refine wpAnyH_take (i := 4) (v := .bool true) rfl (by kernel_rfl) (by kernel_rfl) (by kernel_rfl) (fun _ _ _ h => h) (Or.inl ⟨by rfl, fun w hSw => ?_⟩) hHeld ?_
                  · clear hSw; go_simp; all_goals (try first | rfl | omega)
                  try simp only [Act.put, List.getElem_toArray, List.getElem_cons_succ, List.getElem_cons_zero, List.setIfInBounds_toArray, List.set_cons_zero, List.set_cons_succ]
                  refine wpAnyH_take (i := 5) (v := .agg #[.bool true, .bool false, .bool true]) rfl (by kernel_rfl) (by kernel_rfl) (by kernel_rfl) (fun _ _ _ h => h) (Or.inl ⟨by rfl, fun w hSw => ?_⟩) hHeld ?_
                  · clear hSw; go_simp; all_goals (try first | rfl | omega)
                  try simp only [Act.put, List.getElem_toArray, List.getElem_cons_succ, List.getElem_cons_zero, List.setIfInBounds_toArray, List.set_cons_zero, List.set_cons_succ]
                  refine wpAnyH_take (i := 6) (v := .bool false) rfl (by kernel_rfl) (by kernel_rfl) (by kernel_rfl) (fun _ _ _ h => h) (Or.inl ⟨by rfl, fun w hSw => ?_⟩) hHeld ?_
                  · clear hSw; go_simp; all_goals (try first | rfl | kernel_rfl)
                  try simp only [Act.put, List.getElem_toArray, List.getElem_cons_succ, List.getElem_cons_zero, List.setIfInBounds_toArray, List.set_cons_zero, List.set_cons_succ]
                  refine wpAnyH_ready (rs := [7]) (by kernel_rfl) (by simp) ?_
                  refine AllReadyH.cons rfl (fun K hK => ?_) ?_
                  · rw [if_pos (by rfl)]
                    have hbp := H2r.out.belowS HBd.out
                    have q0 := hbp.cell 0 rfl
                    have q1 := hbp.cell 1 rfl
                    have q2 := hbp.cell 2 rfl
                    have q3 := hbp.cell 3 rfl
                    have qf0 := hbp.free 0
                    have qf1 := hbp.free 1
                    have qf2 := hbp.free 2
                    have qf3 := hbp.free 3
                    have qz := hbp.lt
                    clear hbp
                    go_simp
                    show K _ _
                    refine hK.out _ _ (by exact (((hHeld.setCell' (by simp) _).setCell' (by simp) _).setCell' (by simp) _).setCell' (by simp) _) (fun hHeld => ?_)
                    clear hK K
                    try simp only [Act.put, List.getElem_toArray, List.getElem_cons_succ, List.getElem_cons_zero, List.setIfInBounds_toArray, List.set_cons_zero, List.set_cons_succ]
                    refine wpAnyH_take (i := 8) (v := .bool false) rfl (by kernel_rfl) (by kernel_rfl) (by kernel_rfl) (fun _ _ _ h => h) (Or.inl ⟨by rfl, fun w hSw => ?_⟩) hHeld ?_
                    · clear hSw; go_simp; all_goals (try first | rfl | omega)
                    try simp only [Act.put, List.getElem_toArray, List.getElem_cons_succ, List.getElem_cons_zero, List.setIfInBounds_toArray, List.set_cons_zero, List.set_cons_succ]
                    refine wpAnyH_done (by kernel_rfl) ?_ _
                    have HZ := Lib.hid (((((H2r.out.belowS HBd.out).set 0 (.int .i64 K)).set 1 (.int .i64 v1)).set 2 (.int .i64 0)).set 3 (strV v3))
                    have HBZ := Lib.hid (((((HBr.out.trans (HBd.out.mono (Below.size HBr.out))).setCell (p := ⟨w.heap.size, 0, none⟩) (by simp) (.int .i64 K)).setCell (p := ⟨w.heap.size, 1, none⟩) (by simp) (.int .i64 v1)).setCell (p := ⟨w.heap.size, 2, none⟩) (by simp) (.int .i64 0)).setCell (p := ⟨w.heap.size, 3, none⟩) (by simp) (strV v3))
                    have g0 := HZ.out.cell 0 rfl
                    have g1 := HZ.out.cell 1 rfl
                    have g2 := HZ.out.cell 2 rfl
                    have g3 := HZ.out.cell 3 rfl
                    go_wp2
                    refine bodyPost_ret (v := .tuple #[.agg #[.int .i64 K, .int .i64 v1, .int .i64 0, strV v3], .bool false]) (by simp [results, Tryd.results23, go_sem, g0, g1, g2, g3]) rfl ⟨by rw [HE.out] <;> rfl, HBZ.out⟩
                  exact AllReadyH.nil
              | false =>
                cases q3 with
                | true =>
                  refine wp_region_held_drew (S := fun w' => Keep (fun b => b ≠ w.heap.size) w8 w') (by kernel_rfl) (by exact Keep.drew _ _) (fun hHeld => ?_)
                  obtain ⟨wd', hwd⟩ : ∃ wd', wd' = w8.drew := ⟨_, rfl⟩
                  have HBd := Lib.hid (show Below w8.heap.size w8 wd' by rw [hwd]; exact (Below.refl _ _).drew)
                  rw [← hwd] at hHeld ⊢
                  clear hwd
                  refine wpAnyH_take (i := 0) (v := .agg #[.int .i64 K, .int .i64 v1, .int .i64 0, strV v3]) rfl (by kernel_rfl) (by kernel_rfl) (by kernel_rfl) (fun _ _ _ h => h) (Or.inl ⟨by rfl, fun w hSw => ?_⟩) hHeld ?_
                  · have q0 := hSw _ _ _ (by simp; omega) (HK5.out.cell 0 rfl); have q1 := hSw _ _ _ (by simp; omega) (HK5.out.cell 1 rfl); have q2 := hSw _ _ _ (by simp; omega) (HK5.out.cell 2 rfl); have q3 := hSw _ _ _ (by simp; omega) (HK5.out.cell 3 rfl); clear hSw; go_simp
                  try simp only [Act.put, List.getElem_toArray, List.getElem_cons_succ, List.getElem_cons_zero, List.setIfInBounds_toArray, List.set_cons_zero, List.set_cons_succ]
                  refine wpAnyH_take (i := 1) (v := .agg #[.bool false, .bool false, .bool true]) rfl (by kernel_rfl) (by kernel_rfl) (by kernel_rfl) (fun _ _ _ h => h) (Or.inl ⟨by rfl, fun w hSw => ?_⟩) hHeld ?_
                  · have q0 := hSw _ _ _ (by simp; omega) (HO.out.cell 0 rfl); have q1 := hSw _ _ _ (by simp; omega) (HO.out.cell 1 rfl); have q2 := hSw _ _ _ (by simp; omega) (HO.out.cell 2 rfl); clear hSw; go_simp
                  try simp only [Act.put, List.getElem_toArray, List.getElem_cons_succ, List.getElem_cons_zero, List.setIfInBounds_toArray, List.set_cons_zero, List.set_cons_succ]
                  refine wpAnyH_take (i := 2) (v := .bool true) rfl (by kernel_rfl) (by kernel_rfl) (by kernel_rfl) (fun _ _ _ h => h) (Or.inl ⟨by rfl, fun w hSw => ?_⟩) hHeld ?_
                  · clear hSw; go_simp; all_goals (try first | rfl | omega)
                  try simp only [Act.put, List.getElem_toArray, List.getElem_cons_succ, List.getElem_cons_zero, List.setIfInBounds_toArray, List.set_cons_zero, List.set_cons_succ]
                  refine wpAnyH_take (i := 3) (v := .bool false) rfl (by kernel_rfl) (by kernel_rfl) (by kernel_rfl) (fun _ _ _ h => h) (Or.inl ⟨by rfl, fun w hSw => ?_⟩) hHeld ?_
                  · clear hSw; go_simp; all_goals (try first | rfl | omega)
                  try simp only [Act.put, List.getElem_toArray, List.getElem_cons_succ, List.getElem_cons_zero, List.setIfInBounds_toArray, List.set_cons_zero, List.set_cons_succ]
                  refine wpAnyH_take (i := 4) (v := .bool true) rfl (by kernel_rfl) (by kernel_rfl) (by kernel_rfl) (fun _ _ _ h => h) (Or.inl ⟨by rfl, fun w hSw => ?_⟩) hHeld ?_
                  · clear hSw; go_simp; all_goals (try first | rfl | omega)
                  try simp only [Act.put, List.getElem_toArray, List.getElem_cons_succ, List.getElem_cons_zero, List.setIfInBounds_toArray, List.set_cons_zero, List.set_cons_succ]
                  refine wpAnyH_take (i := 5) (v := .agg #[.bool true, .bool false, .bool true]) rfl (by kernel_rfl) (by kernel_rfl) (by kernel_rfl) (fun _ _ _ h => h) (Or.inl ⟨by rfl, fun w hSw => ?_⟩) hHeld ?_
                  · clear hSw; go_simp; all_goals (try first | rfl | omega)
                  try simp only [Act.put, List.getElem_toArray, List.getElem_cons_succ, List.getElem_cons_zero, List.setIfInBounds_toArray, List.set_cons_zero, List.set_cons_succ]
                  refine wpAnyH_take (i := 6) (v := .bool false) rfl (by kernel_rfl) (by kernel_rfl) (by kernel_rfl) (fun _ _ _ h => h) (Or.inl ⟨by rfl, fun w hSw => ?_⟩) hHeld ?_
                  · clear hSw; go_simp; all_goals (try first | rfl | kernel_rfl)
                  try simp only [Act.put, List.getElem_toArray, List.getElem_cons_succ, List.getElem_cons_zero, List.setIfInBounds_toArray, List.set_cons_zero, List.set_cons_succ]
                  refine wpAnyH_ready (rs := [7]) (by kernel_rfl) (by simp) ?_
                  refine AllReadyH.cons rfl (fun K hK => ?_) ?_
                  · rw [if_pos (by rfl)]
                    have hbp := H2r.out.belowS HBd.out
                    have q0 := hbp.cell 0 rfl
                    have q1 := hbp.cell 1 rfl
                    have q2 := hbp.cell 2 rfl
                    have q3 := hbp.cell 3 rfl
                    have qf0 := hbp.free 0
                    have qf1 := hbp.free 1
                    have qf2 := hbp.free 2
                    have qf3 := hbp.free 3
                    have qz := hbp.lt
                    clear hbp
                    go_simp
                    show K _ _
                    refine hK.out _ _ (by exact (((hHeld.setCell' (by simp) _).setCell' (by simp) _).setCell' (by simp) _).setCell' (by simp) _) (fun hHeld => ?_)
                    clear hK K
                    try simp only [Act.put, List.getElem_toArray, List.getElem_cons_succ, List.getElem_cons_zero, List.setIfInBounds_toArray, List.set_cons_zero, List.set_cons_succ]
                    refine wpAnyH_take (i := 8) (v := .bool false) rfl (by kernel_rfl) (by kernel_rfl) (by kernel_rfl) (fun _ _ _ h => h) (Or.inl ⟨by rfl, fun w hSw => ?_⟩) hHeld ?_
                    · clear hSw; go_simp; all_goals (try first | rfl | omega)
                    try simp only [Act.put, List.getElem_toArray, List.getElem_cons_succ, List.getElem_cons_zero, List.setIfInBounds_toArray, List.set_cons_zero, List.set_cons_succ]
                    refine wpAnyH_done (by kernel_rfl) ?_ _
                    have HZ := Lib.hid (((((H2r.out.belowS HBd.out).set 0 (.int .i64 K)).set 1 (.int .i64 v1)).set 2 (.int .i64 0)).set 3 (strV v3))
                    have HBZ := Lib.hid (((((HBr.out.trans (HBd.out.mono (Below.size HBr.out))).setCell (p := ⟨w.heap.size, 0, none⟩) (by simp) (.int .i64 K)).setCell (p := ⟨w.heap.size, 1, none⟩) (by simp) (.int .i64 v1)).setCell (p := ⟨w.heap.size, 2, none⟩) (by simp) (.int .i64 0)).setCell (p := ⟨w.heap.size, 3, none⟩) (by simp) (strV v3))
                    have g0 := HZ.out.cell 0 rfl
                    have g1 := HZ.out.cell 1 rfl
                    have g2 := HZ.out.cell 2 rfl
                    have g3 := HZ.out.cell 3 rfl
                    go_wp2
                    refine bodyPost_ret (v := .tuple #[.agg #[.int .i64 K, .int .i64 v1, .int .i64 0, strV v3], .bool false]) (by simp [results, Tryd.results23, go_sem, g0, g1, g2, g3]) rfl ⟨by rw [HE.out] <;> rfl, HBZ.out⟩
                  exact AllReadyH.nil
                | false =>
                  refine wp_region_held_drew (S := fun w' => Keep (fun b => b ≠ w.heap.size) w8 w') (by kernel_rfl) (by exact Keep.drew _ _) (fun hHeld => ?_)
                  obtain ⟨wd', hwd⟩ : ∃ wd', wd' = w8.drew := ⟨_, rfl⟩
                  have HBd := Lib.hid (show Below w8.heap.size w8 wd' by rw [hwd]; exact (Below.refl _ _).drew)
                  rw [← hwd] at hHeld ⊢
                  clear hwd
                  refine wpAnyH_take (i := 0) (v := .agg #[.int .i64 K, .int .i64 v1, .int .i64 0, strV v3]) rfl (by kernel_rfl) (by kernel_rfl) (by kernel_rfl) (fun _ _ _ h => h) (Or.inl ⟨by rfl, fun w hSw => ?_⟩) hHeld ?_
                  · have q0 := hSw _ _ _ (by simp; omega) (HK5.out.cell 0 rfl); have q1 := hSw _ _ _ (by simp; omega) (HK5.out.cell 1 rfl); have q2 := hSw _ _ _ (by simp; omega) (HK5.out.cell 2 rfl); have q3 := hSw _ _ _ (by simp; omega) (HK5.out.cell 3 rfl); clear hSw; go_simp
                  try simp only [Act.put, List.getElem_toArray, List.getElem_cons_succ, List.getElem_cons_zero, List.setIfInBounds_toArray, List.set_cons_zero, List.set_cons_succ]
                  refine wpAnyH_take (i := 1) (v := .agg #[.bool false, .bool false, .bool false]) rfl (by kernel_rfl) (by kernel_rfl) (by kernel_rfl) (fun _ _ _ h => h) (Or.inl ⟨by rfl, fun w hSw => ?_⟩) hHeld ?_
                  · have q0 := hSw _ _ _ (by simp; omega) (HO.out.cell 0 rfl); have q1 := hSw _ _ _ (by simp; omega) (HO.out.cell 1 rfl); have q2 := hSw _ _ _ (by simp; omega) (HO.out.cell 2 rfl); clear hSw; go_simp
                  try simp only [Act.put, List.getElem_toArray, List.getElem_cons_succ, List.getElem_cons_zero, List.setIfInBounds_toArray, List.set_cons_zero, List.set_cons_succ]
                  refine wpAnyH_take (i := 2) (v := .bool true) rfl (by kernel_rfl) (by kernel_rfl) (by kernel_rfl) (fun _ _ _ h => h) (Or.inl ⟨by rfl, fun w hSw => ?_⟩) hHeld ?_
                  · clear hSw; go_simp; all_goals (try first | rfl | omega)
                  try simp only [Act.put, List.getElem_toArray, List.getElem_cons_succ, List.getElem_cons_zero, List.setIfInBounds_toArray, List.set_cons_zero, List.set_cons_succ]
                  refine wpAnyH_take (i := 3) (v := .bool false) rfl (by kernel_rfl) (by kernel_rfl) (by kernel_rfl) (fun _ _ _ h => h) (Or.inl ⟨by rfl, fun w hSw => ?_⟩) hHeld ?_
                  · clear hSw; go_simp; all_goals (try first | rfl | omega)
                  try simp only [Act.put, List.getElem_toArray, List.getElem_cons_succ, List.getElem_cons_zero, List.setIfInBounds_toArray, List.set_cons_zero, List.set_cons_succ]
                  refine wpAnyH_take (i := 4) (v := .bool true) rfl (by kernel_rfl) (by kernel_rfl) (by kernel_rfl) (fun _ _ _ h => h) (Or.inl ⟨by rfl, fun w hSw => ?_⟩) hHeld ?_
                  · clear hSw; go_simp; all_goals (try first | rfl | omega)
                  try simp only [Act.put, List.getElem_toArray, List.getElem_cons_succ, List.getElem_cons_zero, List.setIfInBounds_toArray, List.set_cons_zero, List.set_cons_succ]
                  refine wpAnyH_take (i := 5) (v := .agg #[.bool true, .bool false, .bool true]) rfl (by kernel_rfl) (by kernel_rfl) (by kernel_rfl) (fun _ _ _ h => h) (Or.inl ⟨by rfl, fun w hSw => ?_⟩) hHeld ?_
                  · clear hSw; go_simp; all_goals (try first | rfl | omega)
                  try simp only [Act.put, List.getElem_toArray, List.getElem_cons_succ, List.getElem_cons_zero, List.setIfInBounds_toArray, List.set_cons_zero, List.set_cons_succ]
                  refine wpAnyH_take (i := 6) (v := .bool false) rfl (by kernel_rfl) (by kernel_rfl) (by kernel_rfl) (fun _ _ _ h => h) (Or.inl ⟨by rfl, fun w hSw => ?_⟩) hHeld ?_
                  · clear hSw; go_simp; all_goals (try first | rfl | kernel_rfl)
                  try simp only [Act.put, List.getElem_toArray, List.getElem_cons_succ, List.getElem_cons_zero, List.setIfInBounds_toArray, List.set_cons_zero, List.set_cons_succ]
                  refine wpAnyH_ready (rs := [7]) (by kernel_rfl) (by simp) ?_
                  refine AllReadyH.cons rfl (fun K hK => ?_) ?_
                  · rw [if_pos (by rfl)]
                    have hbp := H2r.out.belowS HBd.out
                    have q0 := hbp.cell 0 rfl
                    have q1 := hbp.cell 1 rfl
                    have q2 := hbp.cell 2 rfl
                    have q3 := hbp.cell 3 rfl
                    have qf0 := hbp.free 0
                    have qf1 := hbp.free 1
                    have qf2 := hbp.free 2
                    have qf3 := hbp.free 3
                    have qz := hbp.lt
                    clear hbp
                    go_simp
                    show K _ _
                    refine hK.out _ _ (by exact (((hHeld.setCell' (by simp) _).setCell' (by simp) _).setCell' (by simp) _).setCell' (by simp) _) (fun hHeld => ?_)
                    clear hK K
                    try simp only [Act.put, List.getElem_toArray, List.getElem_cons_succ, List.getElem_cons_zero, List.setIfInBounds_toArray, List.set_cons_zero, List.set_cons_succ]
                    refine wpAnyH_take (i := 8) (v := .bool false) rfl (by kernel_rfl) (by kernel_rfl) (by kernel_rfl) (fun _ _ _ h => h) (Or.inl ⟨by rfl, fun w hSw => ?_⟩) hHeld ?_
                    · clear hSw; go_simp; all_goals (try first | rfl | omega)
                    try simp only [Act.put, List.getElem_toArray, List.getElem_cons_succ, List.getElem_cons_zero, List.setIfInBounds_toArray, List.set_cons_zero, List.set_cons_succ]
                    refine wpAnyH_done (by kernel_rfl) ?_ _
                    have HZ := Lib.hid (((((H2r.out.belowS HBd.out).set 0 (.int .i64 K)).set 1 (.int .i64 v1)).set 2 (.int .i64 0)).set 3 (strV v3))
                    have HBZ := Lib.hid (((((HBr.out.trans (HBd.out.mono (Below.size HBr.out))).setCell (p := ⟨w.heap.size, 0, none⟩) (by simp) (.int .i64 K)).setCell (p := ⟨w.heap.size, 1, none⟩) (by simp) (.int .i64 v1)).setCell (p := ⟨w.heap.size, 2, none⟩) (by simp) (.int .i64 0)).setCell (p := ⟨w.heap.size, 3, none⟩) (by simp) (strV v3))
                    have g0 := HZ.out.cell 0 rfl
                    have g1 := HZ.out.cell 1 rfl
                    have g2 := HZ.out.cell 2 rfl
                    have g3 := HZ.out.cell 3 rfl
                    go_wp2
                    refine bodyPost_ret (v := .tuple #[.agg #[.int .i64 K, .int .i64 v1, .int .i64 0, strV v3], .bool false]) (by simp [results, Tryd.results23, go_sem, g0, g1, g2, g3]) rfl ⟨by rw [HE.out] <;> rfl, HBZ.out⟩
                  exact AllReadyH.nil
        · by_cases hz : ps.length = 0
          · have HLEN := Lib.hid (show ps.length ≠ 2 from hlen)
            obtain rfl := List.eq_nil_of_length_eq_zero hz
            clear hlen
            go_wp2_with (go_at_call 17; refine (has_any K _).mono ?_; rintro e w' ⟨rfl, rfl⟩; rw [hasN_eq, hasP_eq, hasT_eq, HBN.out, HBP.out, HBT.out])
            go_loop [47, 11] (fun j c => ∃ n : Nat, n ≤ 3 ∧ j = .int .i64 n ∧ c = .int .i64 (([0, 1, 1, 2] : List Int).getD n 0)) (fun j _ => 3 - (intOf j).toNat)
            case atStart => exact ⟨0, by omega, rfl, rfl⟩
            case round =>
              obtain ⟨n, hn, rfl, rfl⟩ := hrel
              have hc : n = 0 ∨ n = 1 ∨ n = 2 ∨ n = 3 := by omega
              rcases hc with rfl | rfl | rfl | rfl
              · have hix : ∀ w' : World, (Instr.index 69 (.agg #[.bool true, .bool false, .bool true]) (.int .i64 0)).run Tryd.prog w' = .ok (.bool true) w' := fun _ => by kernel_rfl
                go_wp2
                go_round
                case rel => exact ⟨1, by omega, by go_num, by first | rfl | go_num⟩
                case measure => simp [intOf]
              · have hix : ∀ w' : World, (Instr.index 69 (.agg #[.bool true, .bool false, .bool true]) (.int .i64 1)).run Tryd.prog w' = .ok (.bool false) w' := fun _ => by kernel_rfl
                go_wp2
                go_round
                case rel => exact ⟨2, by omega, by go_num, by first | rfl | go_num⟩
                case measure => simp [intOf]
              · have hix : ∀ w' : World, (Instr.index 69 (.agg #[.bool true, .bool false, .bool true]) (.int .i64 2)).run Tryd.prog w' = .ok (.bool true) w' := fun _ => by kernel_rfl
                go_wp2
                go_round
                case rel => exact ⟨3, by omega, by go_num, by first | rfl | go_num⟩
                case measure => simp [intOf]
              · have HE := Lib.hid (show oneL s = (⟨K, 0, 0, []⟩, false) by rw [HW.out, if_pos (.inr (by rw [HM.out]; exact HLEN.out))])
                have x1 := HK5.out.cell 1 rfl
                have x2 := HK5.out.cell 2 rfl
                have x3 := HK5.out.cell 3 rfl
                have u0 := H2r.out.cell 0 rfl
                have u1 := H2r.out.cell 1 rfl
                have u2 := H2r.out.cell 2 rfl
                have u3 := H2r.out.cell 3 rfl
                have uf0 := H2r.out.free 0
                have uf1 := H2r.out.free 1
                have uf2 := H2r.out.free 2
                have uf3 := H2r.out.free 3
                have uz := H2r.out.lt
                have HZ := Lib.hid ((((H2r.out.set 0 (.int .i64 K)).set 1 (.int .i64 0)).set 2 (.int .i64 0)).set 3 (.string ⟨#[]⟩))
                have HBZ := Lib.hid ((((HBr.out.setCell (p := ⟨w.heap.size, 0, none⟩) (by simp) (.int .i64 K)).setCell (p := ⟨w.heap.size, 1, none⟩) (by simp) (.int .i64 0)).setCell (p := ⟨w.heap.size, 2, none⟩) (by simp) (.int .i64 0)).setCell (p := ⟨w.heap.size, 3, none⟩) (by simp) (.string ⟨#[]⟩))
                have g0 := HZ.out.cell 0 rfl
                have g1 := HZ.out.cell 1 rfl
                have g2 := HZ.out.cell 2 rfl
                have g3 := HZ.out.cell 3 rfl
                go_wp2
                refine bodyPost_ret (v := .tuple #[.agg #[.int .i64 K, .int .i64 0, .int .i64 0, .string ⟨#[]⟩], .bool false]) (by simp [results, Tryd.results23, go_sem, g0, g1, g2, g3]) rfl ⟨by rw [HE.out] <;> rfl, HBZ.out⟩
          · have HLEN := Lib.hid (show ps.length ≠ 2 from hlen)
            have hz1 : 0 < ps.length := by omega
            have hz2 : ¬ ps.length + 1 = 1 := by omega
            have hl1 : ((ps.length : Int) != 2) = true := by rw [bne_iff_ne]; omega
            go_wp2_with (go_at_call 17; refine (has_any K _).mono ?_; rintro e w' ⟨rfl, rfl⟩; rw [hasN_eq, hasP_eq, hasT_eq, HBN.out, HBP.out, HBT.out])
            go_loop [47, 11] (fun j c => ∃ n : Nat, n ≤ 3 ∧ j = .int .i64 n ∧ c = .int .i64 (([0, 1, 1, 2] : List Int).getD n 0)) (fun j _ => 3 - (intOf j).toNat)
            case atStart => exact ⟨0, by omega, rfl, rfl⟩
            case round =>
              obtain ⟨n, hn, rfl, rfl⟩ := hrel
              have hc : n = 0 ∨ n = 1 ∨ n = 2 ∨ n = 3 := by omega
              rcases hc with rfl | rfl | rfl | rfl
              · have hix : ∀ w' : World, (Instr.index 69 (.agg #[.bool true, .bool false, .bool true]) (.int .i64 0)).run Tryd.prog w' = .ok (.bool true) w' := fun _ => by kernel_rfl
                go_wp2
                go_round
                case rel => exact ⟨1, by omega, by go_num, by first | rfl | go_num⟩
                case measure => simp [intOf]
              · have hix : ∀ w' : World, (Instr.index 69 (.agg #[.bool true, .bool false, .bool true]) (.int .i64 1)).run Tryd.prog w' = .ok (.bool false) w' := fun _ => by kernel_rfl
                go_wp2
                go_round
                case rel => exact ⟨2, by omega, by go_num, by first | rfl | go_num⟩
                case measure => simp [intOf]
              · have hix : ∀ w' : World, (Instr.index 69 (.agg #[.bool true, .bool false, .bool true]) (.int .i64 2)).run Tryd.prog w' = .ok (.bool true) w' := fun _ => by kernel_rfl
                go_wp2
                go_round
                case rel => exact ⟨3, by omega, by go_num, by first | rfl | go_num⟩
                case measure => simp [intOf]
              · have HE := Lib.hid (show oneL s = (⟨K, 0, 0, []⟩, false) by rw [HW.out, if_pos (.inr (by rw [HM.out]; exact HLEN.out))])
                have x1 := HK5.out.cell 1 rfl
                have x2 := HK5.out.cell 2 rfl
                have x3 := HK5.out.cell 3 rfl
                have u0 := H2r.out.cell 0 rfl
                have u1 := H2r.out.cell 1 rfl
                have u2 := H2r.out.cell 2 rfl
                have u3 := H2r.out.cell 3 rfl
                have uf0 := H2r.out.free 0
                have uf1 := H2r.out.free 1
                have uf2 := H2r.out.free 2
                have uf3 := H2r.out.free 3
                have uz := H2r.out.lt
                have HZ := Lib.hid ((((H2r.out.set 0 (.int .i64 K)).set 1 (.int .i64 0)).set 2 (.int .i64 0)).set 3 (.string ⟨#[]⟩))
                have HBZ := Lib.hid ((((HBr.out.setCell (p := ⟨w.heap.size, 0, none⟩) (by simp) (.int .i64 K)).setCell (p := ⟨w.heap.size, 1, none⟩) (by simp) (.int .i64 0)).setCell (p := ⟨w.heap.size, 2, none⟩) (by simp) (.int .i64 0)).setCell (p := ⟨w.heap.size, 3, none⟩) (by simp) (.string ⟨#[]⟩))
                have g0 := HZ.out.cell 0 rfl
                have g1 := HZ.out.cell 1 rfl
                have g2 := HZ.out.cell 2 rfl
                have g3 := HZ.out.cell 3 rfl
                go_wp2
                refine bodyPost_ret (v := .tuple #[.agg #[.int .i64 K, .int .i64 0, .int .i64 0, .string ⟨#[]⟩], .bool false]) (by simp [results, Tryd.results23, go_sem, g0, g1, g2, g3]) rfl ⟨by rw [HE.out] <;> rfl, HBZ.out⟩
      · have HBN := Lib.hid bN
        have HBP := Lib.hid bP
        have HBT := Lib.hid bT
        have HBK := Lib.hid bK
        have HM := Lib.hid (show partsMany K = 1 by unfold partsMany; rw [bN, bP, bT]; rfl)
        have hk0 : (K == 0) = false := by simpa using bK
        have hk0' : ¬ K = 0 := bK
        clear bN bP bT bK
        by_cases hlen : ps.length = 1
        · obtain ⟨x, rfl⟩ : ∃ x, ps = [x] := by match ps, hlen with | [x], _ => exact ⟨x, rfl⟩
          clear hlen
          have hlx := spl_mem s x (by rw [HSP.out]; simp)
          obtain ⟨v1, q1, hv1⟩ : ∃ v q, numL x = (v, q) := ⟨_, _, rfl⟩
          have HE := Lib.hid (show oneL s = (⟨K, v1, 0, []⟩, decide (q1 = true ∧ false = false ∧ false = false)) by rw [HW.out, if_neg (by rw [HM.out]; simp [HBK.out])]; unfold oneA oneOk oneN oneP oneT restN restP; simp only [HBN.out, HBP.out, HBT.out, if_true, if_false, Bool.false_eq_true, List.headD_cons, List.tail_cons, hv1])
          have Hv1 := Lib.hid hv1
          clear hv1
          go_wp2_with (go_at_call 17; refine (has_any K _).mono ?_; rintro e w' ⟨rfl, rfl⟩; rw [hasN_eq, hasP_eq, hasT_eq, HBN.out, HBP.out, HBT.out])
          go_loop [47, 11] (fun j c => ∃ n : Nat, n ≤ 3 ∧ j = .int .i64 n ∧ c = .int .i64 (([0, 1, 1, 1] : List Int).getD n 0)) (fun j _ => 3 - (intOf j).toNat)
          case atStart => exact ⟨0, by omega, rfl, rfl⟩
          case round =>
            obtain ⟨n, hn, rfl, rfl⟩ := hrel
            have hc : n = 0 ∨ n = 1 ∨ n = 2 ∨ n = 3 := by omega
            rcases hc with rfl | rfl | rfl | rfl
            · have hix : ∀ w' : World, (Instr.index 69 (.agg #[.bool true, .bool false, .bool false]) (.int .i64 0)).run Tryd.prog w' = .ok (.bool true) w' := fun _ => by kernel_rfl
              go_wp2
              go_round
              case rel => exact ⟨1, by omega, by go_num, by first | rfl | go_num⟩
              case measure => simp [intOf]
            · have hix : ∀ w' : World, (Instr.index 69 (.agg #[.bool true, .bool false, .bool false]) (.int .i64 1)).run Tryd.prog w' = .ok (.bool false) w' := fun _ => by kernel_rfl
              go_wp2
              go_round
              case rel => exact ⟨2, by omega, by go_num, by first | rfl | go_num⟩
              case measure => simp [intOf]
            · have hix : ∀ w' : World, (Instr.index 69 (.agg #[.bool true, .bool false, .bool false]) (.int .i64 2)).run Tryd.prog w' = .ok (.bool false) w' := fun _ => by kernel_rfl
              go_wp2
              go_round
              case rel => exact ⟨3, by omega, by go_num, by first | rfl | go_num⟩
              case measure => simp [intOf]
            · go_upto_region 21 with fail
              obtain ⟨w4, hwl⟩ : ∃ w4, w4 = (wr.alloc (.cells #[.bool false, .bool false, .bool false] 69)) := ⟨_, rfl⟩
              have hBl : Below wr.heap.size wr w4 := by rw [hwl]; exact ((Below.refl _ _).alloc (by first | exact Nat.le_refl _ | (simp; done) | (simp; omega)) _)
              have HTx := Lib.hid (HTr.out.belowS hBl)
              have HO := Lib.hid (show BoxAt w4 wr.heap.size [.bool false, .bool false, .bool false] 69 by rw [hwl]; exact BoxAt.new wr [.bool false, .bool false, .bool false] _)
              rw [← hwl]
              replace HK5 := Lib.hid (HK5.out.belowS hBl)
              replace H2r := Lib.hid (H2r.out.belowS hBl)
              replace HPr := Lib.hid (HPr.out.belowS hBl)
              replace HBr := Lib.hid (HBr.out.trans (hBl.mono HBr.out.size))
              clear hwl hBl
              have zo := HO.out.lt
              clear y0 yf xp
              have xp := HPr.out.cell 1 rfl
              have xl := HPr.out.lt
              have y0 := HK5.out.cell 0 rfl
              have y1 := HK5.out.cell 1 rfl
              have y2 := HK5.out.cell 2 rfl
              have y3 := HK5.out.cell 3 rfl
              go_wp2_with fail
              refine (lnumber_any x _ (by omega) HTx.out).mono ?_
              rintro e w5 ⟨rfl, hbn⟩
              rw [Hv1.out]
              replace HK5 := Lib.hid (HK5.out.belowS hbn)
              replace H2r := Lib.hid (H2r.out.belowS hbn)
              replace HPr := Lib.hid (HPr.out.belowS hbn)
              replace HBr := Lib.hid (HBr.out.trans (hbn.mono HBr.out.size))
              replace HO := Lib.hid (HO.out.belowS hbn)
              replace HTx := Lib.hid (HTx.out.belowS hbn)
              have zz := hbn.size
              clear hbn xp xl y0 y1 y2 y3
              have zk5 := HK5.out.lt
              have zo5 := HO.out.lt
              have y0 := HK5.out.cell 0 rfl
              have y1 := HK5.out.cell 1 rfl
              have y2 := HK5.out.cell 2 rfl
              have y3 := HK5.out.cell 3 rfl
              have yf0 := HK5.out.free 0
              have yf1 := HK5.out.free 1
              have yf2 := HK5.out.free 2
              have yf3 := HK5.out.free 3
              have o0 := HO.out.cell 0 rfl
              have o1 := HO.out.cell 1 rfl
              have o2 := HO.out.cell 2 rfl
              have of0 := HO.out.free 0
              have of1 := HO.out.free 1
              have of2 := HO.out.free 2
              go_upto_region 24 with fail
              obtain ⟨w6, hwl⟩ : ∃ w6, w6 = ((w5.setCell ⟨w2.heap.size, 1, none⟩ (.int .i64 v1)).setCell ⟨wr.heap.size, 0, none⟩ (.bool q1)) := ⟨_, rfl⟩
              replace HK5 := Lib.hid (show BoxAt w6 w2.heap.size [.int .i64 K, .int .i64 v1, .int .i64 0, .string ⟨#[]⟩] 25 by rw [hwl]; exact (HK5.out.set 1 (.int .i64 v1)).setOther (by simp; omega) _)
              replace HO := Lib.hid (show BoxAt w6 wr.heap.size [.bool q1, .bool false, .bool false] 69 by rw [hwl]; exact (HO.out.setOther (p := ⟨w2.heap.size, 1, none⟩) (by simp; omega) (.int .i64 v1)).set 0 (.bool q1))
              replace H2r := Lib.hid (show BoxAt w6 w.heap.size _ _ by rw [hwl]; exact (H2r.out.setOther (p := ⟨w2.heap.size, 1, none⟩) (by simp; omega) (.int .i64 v1)).setOther (by simp; omega) _)
              replace HPr := Lib.hid (show BoxAt w6 w1.heap.size _ _ by rw [hwl]; exact (HPr.out.setOther (p := ⟨w2.heap.size, 1, none⟩) (by simp; omega) (.int .i64 v1)).setOther (by simp; omega) _)
              replace HBr := Lib.hid (show Below w.heap.size w w6 by rw [hwl]; exact (HBr.out.setCell (p := ⟨w2.heap.size, 1, none⟩) (by simp; omega) (.int .i64 v1)).setCell (by simp; omega) _)
              replace HTx := Lib.hid (HT.out.belowS HBr.out)
              rw [← hwl]
              clear hwl y0 yf0 y1 yf1 y2 yf2 y3 yf3 o0 of0 o1 of1 o2 of2 zk5 zo5 zz
              go_upto_region 29 with fail
              cases q1 with
              | true =>
                refine wp_region_held_drew (S := fun w' => Keep (fun b => b ≠ w.heap.size) w6 w') (by kernel_rfl) (by exact Keep.drew _ _) (fun hHeld => ?_)
                obtain ⟨wd', hwd⟩ : ∃ wd', wd' = w6.drew := ⟨_, rfl⟩
                have HBd := Lib.hid (show Below w6.heap.size w6 wd' by rw [hwd]; exact (Below.refl _ _).drew)
                rw [← hwd] at hHeld ⊢
                clear hwd
                refine wpAnyH_take (i := 0) (v := .agg #[.int .i64 K, .int .i64 v1, .int .i64 0, .string ⟨#[]⟩]) rfl (by kernel_rfl) (by kernel_rfl) (by kernel_rfl) (fun _ _ _ h => h) (Or.inl ⟨by rfl, fun w hSw => ?_⟩) hHeld ?_
                · have q0 := hSw _ _ _ (by simp; omega) (HK5.out.cell 0 rfl); have q1 := hSw _ _ _ (by simp; omega) (HK5.out.cell 1 rfl); have q2 := hSw _ _ _ (by simp; omega) (HK5.out.cell 2 rfl); have q3 := hSw _ _ _ (by simp; omega) (HK5.out.cell 3 rfl); clear hSw; go_simp
                try simp only [Act.put, List.getElem_toArray, List.getElem_cons_succ, List.getElem_cons_zero, List.setIfInBounds_toArray, List.set_cons_zero, List.set_cons_succ]
                refine wpAnyH_take (i := 1) (v := .agg #[.bool true, .bool false, .bool false]) rfl (by kernel_rfl) (by kernel_rfl) (by kernel_rfl) (fun _ _ _ h => h) (Or.inl ⟨by rfl, fun w hSw => ?_⟩) hHeld ?_
                · have q0 := hSw _ _ _ (by simp; omega) (HO.out.cell 0 rfl); have q1 := hSw _ _ _ (by simp; omega) (HO.out.cell 1 rfl); have q2 := hSw _ _ _ (by simp; omega) (HO.out.cell 2 rfl); clear hSw; go_simp
                try simp only [Act.put, List.getElem_toArray, List.getElem_cons_succ, List.getElem_cons_zero, List.setIfInBounds_toArray, List.set_cons_zero, List.set_cons_succ]
                refine wpAnyH_take (i := 2) (v := .bool true) rfl (by kernel_rfl) (by kernel_rfl) (by kernel_rfl) (fun _ _ _ h => h) (Or.inl ⟨by rfl, fun w hSw => ?_⟩) hHeld ?_
                · clear hSw; go_simp; all_goals (try first | rfl | omega)
                try simp only [Act.put, List.getElem_toArray, List.getElem_cons_succ, List.getElem_cons_zero, List.setIfInBounds_toArray, List.set_cons_zero, List.set_cons_succ]
                refine wpAnyH_take (i := 3) (v := .bool false) rfl (by kernel_rfl) (by kernel_rfl) (by kernel_rfl) (fun _ _ _ h => h) (Or.inl ⟨by rfl, fun w hSw => ?_⟩) hHeld ?_
                · clear hSw; go_simp; all_goals (try first | rfl | omega)
                try simp only [Act.put, List.getElem_toArray, List.getElem_cons_succ, List.getElem_cons_zero, List.setIfInBounds_toArray, List.set_cons_zero, List.set_cons_succ]
                refine wpAnyH_take (i := 4) (v := .bool false) rfl (by kernel_rfl) (by kernel_rfl) (by kernel_rfl) (fun _ _ _ h => h) (Or.inl ⟨by rfl, fun w hSw => ?_⟩) hHeld ?_
                · clear hSw; go_simp; all_goals (try first | rfl | omega)
                try simp only [Act.put, List.getElem_toArray, List.getElem_cons_succ, List.getElem_cons_zero, List.setIfInBounds_toArray, List.set_cons_zero, List.set_cons_succ]
                refine wpAnyH_take (i := 5) (v := .agg #[.bool true, .bool false, .bool false]) rfl (by kernel_rfl) (by kernel_rfl) (by kernel_rfl) (fun _ _ _ h => h) (Or.inl ⟨by rfl, fun w hSw => ?_⟩) hHeld ?_
                · clear hSw; go_simp; all_goals (try first | rfl | omega)
                try simp only [Act.put, List.getElem_toArray, List.getElem_cons_succ, List.getElem_cons_zero, List.setIfInBounds_toArray, List.set_cons_zero, List.set_cons_succ]
                refine wpAnyH_take (i := 6) (v := .bool true) rfl (by kernel_rfl) (by kernel_rfl) (by kernel_rfl) (fun _ _ _ h => h) (Or.inl ⟨by rfl, fun w hSw => ?_⟩) hHeld ?_
                · clear hSw; go_simp; all_goals (try first | rfl | kernel_rfl)
                try simp only [Act.put, List.getElem_toArray, List.getElem_cons_succ, List.getElem_cons_zero, List.setIfInBounds_toArray, List.set_cons_zero, List.set_cons_succ]
                refine wpAnyH_ready (rs := [7]) (by kernel_rfl) (by simp) ?_
                refine AllReadyH.cons rfl (fun K hK => ?_) ?_
                · rw [if_pos (by rfl)]
                  have hbp := H2r.out.belowS HBd.out
                  have q0 := hbp.cell 0 rfl
                  have q1 := hbp.cell 1 rfl
                  have q2 := hbp.cell 2 rfl
                  have q3 := hbp.cell 3 rfl
                  have qf0 := hbp.free 0
                  have qf1 := hbp.free 1
                  have qf2 := hbp.free 2
                  have qf3 := hbp.free 3
                  have qz := hbp.lt
                  clear hbp
                  go_simp
                  show K _ _
                  refine hK.out _ _ (by exact (((hHeld.setCell' (by simp) _).setCell' (by simp) _).setCell' (by simp) _).setCell' (by simp) _) (fun hHeld => ?_)
                  clear hK K
                  try simp only [Act.put, List.getElem_toArray, List.getElem_cons_succ, List.getElem_cons_zero, List.setIfInBounds_toArray, List.set_cons_zero, List.set_cons_succ]
                  refine wpAnyH_take (i := 8) (v := .bool true) rfl (by kernel_rfl) (by kernel_rfl) (by kernel_rfl) (fun _ _ _ h => h) (Or.inl ⟨by rfl, fun w hSw => ?_⟩) hHeld ?_
                  · clear hSw; go_simp; all_goals (try first | rfl | omega)
                  try simp only [Act.put, List.getElem_toArray, List.getElem_cons_succ, List.getElem_cons_zero, List.setIfInBounds_toArray, List.set_cons_zero, List.set_cons_succ]
                  refine wpAnyH_done (by kernel_rfl) ?_ _
                  have HZ := Lib.hid (((((H2r.out.belowS HBd.out).set 0 (.int .i64 K)).set 1 (.int .i64 v1)).set 2 (.int .i64 0)).set 3 (.string ⟨#[]⟩))
                  have HBZ := Lib.hid (((((HBr.out.trans (HBd.out.mono (Below.size HBr.out))).setCell (p := ⟨w.heap.size, 0, none⟩) (by simp) (.int .i64 K)).setCell (p := ⟨w.heap.size, 1, none⟩) (by simp) (.int .i64 v1)).setCell (p := ⟨w.heap.size, 2, none⟩) (by simp) (.int .i64 0)).setCell (p := ⟨w.heap.size, 3, none⟩) (by simp) (.string ⟨#[]⟩))
                  have g0 := HZ.out.cell 0 rfl
                  have g1 := HZ.out.cell 1 rfl
                  have g2 := HZ.out.cell 2 rfl
                  have g3 := HZ.out.cell 3 rfl
                  go_wp2
                  refine bodyPost_ret (v := .tuple #[.agg #[.int .i64 K, .int .i64 v1, .int .i64 0, .string ⟨#[]⟩], .bool true]) (by simp [results, Tryd.results23, go_sem, g0, g1, g2, g3]) rfl ⟨by rw [HE.out] <;> rfl, HBZ.out⟩
                exact AllReadyH.nil
              | false =>
                refine wp_region_held_drew (S := fun w' => Keep (fun b => b ≠ w.heap.size) w6 w') (by kernel_rfl) (by exact Keep.drew _ _) (fun hHeld => ?_)
                obtain ⟨wd', hwd⟩ : ∃ wd', wd' = w6.drew := ⟨_, rfl⟩
                have HBd := Lib.hid (show Below w6.heap.size w6 wd' by rw [hwd]; exact (Below.refl _ _).drew)
                rw [← hwd] at hHeld ⊢
                clear hwd
                refine wpAnyH_take (i := 0) (v := .agg #[.int .i64 K, .int .i64 v1, .int .i64 0, .string ⟨#[]⟩]) rfl (by kernel_rfl) (by kernel_rfl) (by kernel_rfl) (fun _ _ _ h => h) (Or.inl ⟨by rfl, fun w hSw => ?_⟩) hHeld ?_
                · have q0 := hSw _ _ _ (by simp; omega) (HK5.out.cell 0 rfl); have q1 := hSw _ _ _ (by simp; omega) (HK5.out.cell 1 rfl); have q2 := hSw _ _ _ (by simp; omega) (HK5.out.cell 2 rfl); have q3 := hSw _ _ _ (by simp; omega) (HK5.out.cell 3 rfl); clear hSw; go_simp
                try simp only [Act.put, List.getElem_toArray, List.getElem_cons_succ, List.getElem_cons_zero, List.setIfInBounds_toArray, List.set_cons_zero, List.set_cons_succ]
                refine wpAnyH_take (i := 1) (v := .agg #[.bool false, .bool false, .bool false]) rfl (by kernel_rfl) (by kernel_rfl) (by kernel_rfl) (fun _ _ _ h => h) (Or.inl ⟨by rfl, fun w hSw => ?_⟩) hHeld ?_
                · have q0 := hSw _ _ _ (by simp; omega) (HO.out.cell 0 rfl); have q1 := hSw _ _ _ (by simp; omega) (HO.out.cell 1 rfl); have q2 := hSw _ _ _ (by simp; omega) (HO.out.cell 2 rfl); clear hSw; go_simp
                try simp only [Act.put, List.getElem_toArray, List.getElem_cons_succ, List.getElem_cons_zero, List.setIfInBounds_toArray, List.set_cons_zero, List.set_cons_succ]
                refine wpAnyH_take (i := 2) (v := .bool true) rfl (by kernel_rfl) (by kernel_rfl) (by kernel_rfl) (fun _ _ _ h => h) (Or.inl ⟨by rfl, fun w hSw => ?_⟩) hHeld ?_
                · clear hSw; go_simp; all_goals (try first | rfl | omega)
                try simp only [Act.put, List.getElem_toArray, List.getElem_cons_succ, List.getElem_cons_zero, List.setIfInBounds_toArray, List.set_cons_zero, List.set_cons_succ]
                refine wpAnyH_take (i := 3) (v := .bool false) rfl (by kernel_rfl) (by kernel_rfl) (by kernel_rfl) (fun _ _ _ h => h) (Or.inl ⟨by rfl, fun w hSw => ?_⟩) hHeld ?_
                · clear hSw; go_simp; all_goals (try first | rfl | omega)
                try simp only [Act.put, List.getElem_toArray, List.getElem_cons_succ, List.getElem_cons_zero, List.setIfInBounds_toArray, List.set_cons_zero, List.set_cons_succ]
                refine wpAnyH_take (i := 4) (v := .bool false) rfl (by kernel_rfl) (by kernel_rfl) (by kernel_rfl) (fun _ _ _ h => h) (Or.inl ⟨by rfl, fun w hSw => ?_⟩) hHeld ?_
                · clear hSw; go_simp; all_goals (try first | rfl | omega)
                try simp only [Act.put, List.getElem_toArray, List.getElem_cons_succ, List.getElem_cons_zero, List.setIfInBounds_toArray, List.set_cons_zero, List.set_cons_succ]
                refine wpAnyH_take (i := 5) (v := .agg #[.bool true, .bool false, .bool false]) rfl (by kernel_rfl) (by kernel_rfl) (by kernel_rfl) (fun _ _ _ h => h) (Or.inl ⟨by rfl, fun w hSw => ?_⟩) hHeld ?_
                · clear hSw; go_simp; all_goals (try first | rfl | omega)
                try simp only [Act.put, List.getElem_toArray, List.getElem_cons_succ, List.getElem_cons_zero, List.setIfInBounds_toArray, List.set_cons_zero, List.set_cons_succ]
                refine wpAnyH_take (i := 6) (v := .bool false) rfl (by kernel_rfl) (by kernel_rfl) (by kernel_rfl) (fun _ _ _ h => h) (Or.inl ⟨by rfl, fun w hSw => ?_⟩) hHeld ?_
                · clear hSw; go_simp; all_goals (try first | rfl | kernel_rfl)
                try simp only [Act.put, List.getElem_toArray, List.getElem_cons_succ, List.getElem_cons_zero, List.setIfInBounds_toArray, List.set_cons_zero, List.set_cons_succ]
                refine wpAnyH_ready (rs := [7]) (by kernel_rfl) (by simp) ?_
                refine AllReadyH.cons rfl (fun K hK => ?_) ?_
                · rw [if_pos (by rfl)]
                  have hbp := H2r.out.belowS HBd.out
                  have q0 := hbp.cell 0 rfl
                  have q1 := hbp.cell 1 rfl
                  have q2 := hbp.cell 2 rfl
                  have q3 := hbp.cell 3 rfl
                  have qf0 := hbp.free 0
                  have qf1 := hbp.free 1
                  have qf2 := hbp.free 2
                  have qf3 := hbp.free 3
                  have qz := hbp.lt
                  clear hbp
                  go_simp
                  show K _ _
                  refine hK.out _ _ (by exact (((hHeld.setCell' (by simp) _).setCell' (by simp) _).setCell' (by simp) _).setCell' (by simp) _) (fun hHeld => ?_)
                  clear hK K
                  try simp only [Act.put, List.getElem_toArray, List.getElem_cons_succ, List.getElem_cons_zero, List.setIfInBounds_toArray, List.set_cons_zero, List.set_cons_succ]
                  refine wpAnyH_take (i := 8) (v := .bool false) rfl (by kernel_rfl) (by kernel_rfl) (by kernel_rfl) (fun _ _ _ h => h) (Or.inl ⟨by rfl, fun w hSw => ?_⟩) hHeld ?_
                  · clear hSw; go_simp; all_goals (try first | rfl | omega)
                  try simp only [Act.put, List.getElem_toArray, List.getElem_cons_succ, List.getElem_cons_zero, List.setIfInBounds_toArray, List.set_cons_zero, List.set_cons_succ]
                  refine wpAnyH_done (by kernel_rfl) ?_ _
                  have HZ := Lib.hid (((((H2r.out.belowS HBd.out).set 0 (.int .i64 K)).set 1 (.int .i64 v1)).set 2 (.int .i64 0)).set 3 (.string ⟨#[]⟩))
                  have HBZ := Lib.hid (((((HBr.out.trans (HBd.out.mono (Below.size HBr.out))).setCell (p := ⟨w.heap.size, 0, none⟩) (by simp) (.int .i64 K)).setCell (p := ⟨w.heap.size, 1, none⟩) (by simp) (.int .i64 v1)).setCell (p := ⟨w.heap.size, 2, none⟩) (by simp) (.int .i64 0)).setCell (p := ⟨w.heap.size, 3, none⟩) (by simp) (.string ⟨#[]⟩))
                  have g0 := HZ.out.cell 0 rfl
                  have g1 := HZ.out.cell 1 rfl
                  have g2 := HZ.out.cell 2 rfl
                  have g3 := HZ.out.cell 3 rfl
                  go_wp2
                  refine bodyPost_ret (v := .tuple #[.agg #[.int .i64 K, .int .i64 v1, .int .i64 0, .string ⟨#[]⟩], .bool false]) (by simp [results, Tryd.results23, go_sem, g0, g1, g2, g3]) rfl ⟨by rw [HE.out] <;> rfl, HBZ.out⟩
                exact AllReadyH.nil
        · by_cases hz : ps.length = 0
          · have HLEN := Lib.hid (show ps.length ≠ 1 from hlen)
            obtain rfl := List.eq_nil_of_length_eq_zero hz
            clear hlen
            go_wp2_with (go_at_call 17; refine (has_any K _).mono ?_; rintro e w' ⟨rfl, rfl⟩; rw [hasN_eq, hasP_eq, hasT_eq, HBN.out, HBP.out, HBT.out])
            go_loop [47, 11] (fun j c => ∃ n : Nat, n ≤ 3 ∧ j = .int .i64 n ∧ c = .int .i64 (([0, 1, 1, 1] : List Int).getD n 0)) (fun j _ => 3 - (intOf j).toNat)
            case atStart => exact ⟨0, by omega, rfl, rfl⟩
            case round =>
              obtain ⟨n, hn, rfl, rfl⟩ := hrel
              have hc : n = 0 ∨ n = 1 ∨ n = 2 ∨ n = 3 := by omega
              rcases hc with rfl | rfl | rfl | rfl
              · have hix : ∀ w' : World, (Instr.index 69 (.agg #[.bool true, .bool false, .bool false]) (.int .i64 0)).run Tryd.prog w' = .ok (.bool true) w' := fun _ => by kernel_rfl
                go_wp2
                go_round
                case rel => exact ⟨1, by omega, by go_num, by first | rfl | go_num⟩
                case measure => simp [intOf]
              · have hix : ∀ w' : World, (Instr.index 69 (.agg #[.bool true, .bool false, .bool false]) (.int .i64 1)).run Tryd.prog w' = .ok (.bool false) w' := fun _ => by kernel_rfl
                go_wp2
                go_round
                case rel => exact ⟨2, by omega, by go_num, by first | rfl | go_num⟩
                case measure => simp [intOf]
              · have hix : ∀ w' : World, (Instr.index 69 (.agg #[.bool true, .bool false, .bool false]) (.int .i64 2)).run Tryd.prog w' = .ok (.bool false) w' := fun _ => by kernel_rfl
                go_wp2
                go_round
                case rel => exact ⟨3, by omega, by go_num, by first | rfl | go_num⟩
                case measure => simp [intOf]
              · have HE := Lib.hid (show oneL s = (⟨K, 0, 0, []⟩, false) by rw [HW.out, if_pos (.inr (by rw [HM.out]; exact HLEN.out))])
                have x1 := HK5.out.cell 1 rfl
                have x2 := HK5.out.cell 2 rfl
                have x3 := HK5.out.cell 3 rfl
                have u0 := H2r.out.cell 0 rfl
                have u1 := H2r.out.cell 1 rfl
                have u2 := H2r.out.cell 2 rfl
                have u3 := H2r.out.cell 3 rfl
                have uf0 := H2r.out.free 0
                have uf1 := H2r.out.free 1
                have uf2 := H2r.out.free 2
                have uf3 := H2r.out.free 3
                have uz := H2r.out.lt
                have HZ := Lib.hid ((((H2r.out.set 0 (.int .i64 K)).set 1 (.int .i64 0)).set 2 (.int .i64 0)).set 3 (.string ⟨#[]⟩))
                have HBZ := Lib.hid ((((HBr.out.setCell (p := ⟨w.heap.size, 0, none⟩) (by simp) (.int .i64 K)).setCell (p := ⟨w.heap.size, 1, none⟩) (by simp) (.int .i64 0)).setCell (p := ⟨w.heap.size, 2, none⟩) (by simp) (.int .i64 0)).setCell (p := ⟨w.heap.size, 3, none⟩) (by simp) (.string ⟨#[]⟩))
                have g0 := HZ.out.cell 0 rfl
                have g1 := HZ.out.cell 1 rfl
                have g2 := HZ.out.cell 2 rfl
                have g3 := HZ.out.cell 3 rfl
                go_wp2
                refine bodyPost_ret (v := .tuple #[.agg #[.int .i64 K, .int .i64 0, .int .i64 0, .string ⟨#[]⟩], .bool false]) (by simp [results, Tryd.results23, go_sem, g0, g1, g2, g3]) rfl ⟨by rw [HE.out] <;> rfl, HBZ.out⟩
          · have HLEN := Lib.hid (show ps.length ≠ 1 from hlen)
            have hz1 : 0 < ps.length := by omega
            have hz2 : ¬ ps.length + 1 = 1 := by omega
            have hl1 : ((ps.length : Int) != 1) = true := by rw [bne_iff_ne]; omega
            go_wp2_with (go_at_call 17; refine (has_any K _).mono ?_; rintro e w' ⟨rfl, rfl⟩; rw [hasN_eq, hasP_eq, hasT_eq, HBN.out, HBP.out, HBT.out])
            go_loop [47, 11] (fun j c => ∃ n : Nat, n ≤ 3 ∧ j = .int .i64 n ∧ c = .int .i64 (([0, 1, 1, 1] : List Int).getD n 0)) (fun j _ => 3 - (intOf j).toNat)
            case atStart => exact ⟨0, by omega, rfl, rfl⟩
            case round =>
              obtain ⟨n, hn, rfl, rfl⟩ := hrel
              have hc : n = 0 ∨ n = 1 ∨ n = 2 ∨ n = 3 := by omega
              rcases hc with rfl | rfl | rfl | rfl
              · have hix : ∀ w' : World, (Instr.index 69 (.agg #[.bool true, .bool false, .bool false]) (.int .i64 0)).run Tryd.prog w' = .ok (.bool true) w' := fun _ => by kernel_rfl
                go_wp2
                go_round
                case rel => exact ⟨1, by omega, by go_num, by first | rfl | go_num⟩
                case measure => simp [intOf]
              · have hix : ∀ w' : World, (Instr.index 69 (.agg #[.bool true, .bool false, .bool false]) (.int .i64 1)).run Tryd.prog w' = .ok (.bool false) w' := fun _ => by kernel_rfl
                go_wp2
                go_round
                case rel => exact ⟨2, by omega, by go_num, by first | rfl | go_num⟩
                case measure => simp [intOf]
              · have hix : ∀ w' : World, (Instr.index 69 (.agg #[.bool true, .bool false, .bool false]) (.int .i64 2)).run Tryd.prog w' = .ok (.bool false) w' := fun _ => by kernel_rfl
                go_wp2
                go_round
                case rel => exact ⟨3, by omega, by go_num, by first | rfl | go_num⟩
                case measure => simp [intOf]
              · have HE := Lib.hid (show oneL s = (⟨K, 0, 0, []⟩, false) by rw [HW.out, if_pos (.inr (by rw [HM.out]; exact HLEN.out))])
                have x1 := HK5.out.cell 1 rfl
                have x2 := HK5.out.cell 2 rfl
                have x3 := HK5.out.cell 3 rfl
                have u0 := H2r.out.cell 0 rfl
                have u1 := H2r.out.cell 1 rfl
                have u2 := H2r.out.cell 2 rfl
                have u3 := H2r.out.cell 3 rfl
                have uf0 := H2r.out.free 0
                have uf1 := H2r.out.free 1
                have uf2 := H2r.out.free 2
                have uf3 := H2r.out.free 3
                have uz := H2r.out.lt
                have HZ := Lib.hid ((((H2r.out.set 0 (.int .i64 K)).set 1 (.int .i64 0)).set 2 (.int .i64 0)).set 3 (.string ⟨#[]⟩))
                have HBZ := Lib.hid ((((HBr.out.setCell (p := ⟨w.heap.size, 0, none⟩) (by simp) (.int .i64 K)).setCell (p := ⟨w.heap.size, 1, none⟩) (by simp) (.int .i64 0)).setCell (p := ⟨w.heap.size, 2, none⟩) (by simp) (.int .i64 0)).setCell (p := ⟨w.heap.size, 3, none⟩) (by simp) (.string ⟨#[]⟩))
                have g0 := HZ.out.cell 0 rfl
                have g1 := HZ.out.cell 1 rfl
                have g2 := HZ.out.cell 2 rfl
                have g3 := HZ.out.cell 3 rfl
                go_wp2
                refine bodyPost_ret (v := .tuple #[.agg #[.int .i64 K, .int .i64 0, .int .i64 0, .string ⟨#[]⟩], .bool false]) (by simp [results, Tryd.results23, go_sem, g0, g1, g2, g3]) rfl ⟨by rw [HE.out] <;> rfl, HBZ.out⟩
      · have HBN := Lib.hid bN
        have HBP := Lib.hid bP
        have HBT := Lib.hid bT
        have HBK := Lib.hid bK
        have HM := Lib.hid (show partsMany K = 1 by unfold partsMany; rw [bN, bP, bT]; rfl)
        have hk0 : (K == 0) = false := by simpa using bK
        have hk0' : ¬ K = 0 := bK
        clear bN bP bT bK
        by_cases hlen : ps.length = 1
        · obtain ⟨x, rfl⟩ : ∃ x, ps = [x] := by match ps, hlen with | [x], _ => exact ⟨x, rfl⟩
          clear hlen
          have hlx := spl_mem s x (by rw [HSP.out]; simp)
          obtain ⟨v2, q2, hv2⟩ : ∃ v q, numL x = (v, q) := ⟨_, _, rfl⟩
          have HE := Lib.hid (show oneL s = (⟨K, 0, v2, []⟩, decide (false = false ∧ q2 = true ∧ false = false)) by rw [HW.out, if_neg (by rw [HM.out]; simp [HBK.out])]; unfold oneA oneOk oneN oneP oneT restN restP; simp only [HBN.out, HBP.out, HBT.out, if_true, if_false, Bool.false_eq_true, List.headD_cons, List.tail_cons, hv2])
          have Hv2 := Lib.hid hv2
          clear hv2
          go_wp2_with (go_at_call 17; refine (has_any K _).mono ?_; rintro e w' ⟨rfl, rfl⟩; rw [hasN_eq, hasP_eq, hasT_eq, HBN.out, HBP.out, HBT.out])
          go_loop [47, 11] (fun j c => ∃ n : Nat, n ≤ 3 ∧ j = .int .i64 n ∧ c = .int .i64 (([0, 0, 1, 1] : List Int).getD n 0)) (fun j _ => 3 - (intOf j).toNat)
          case atStart => exact ⟨0, by omega, rfl, rfl⟩
          case round =>
            obtain ⟨n, hn, rfl, rfl⟩ := hrel
            have hc : n = 0 ∨ n = 1 ∨ n = 2 ∨ n = 3 := by omega
            rcases hc with rfl | rfl | rfl | rfl
            · have hix : ∀ w' : World, (Instr.index 69 (.agg #[.bool false, .bool true, .bool false]) (.int .i64 0)).run Tryd.prog w' = .ok (.bool false) w' := fun _ => by kernel_rfl
              go_wp2
              go_round
              case rel => exact ⟨1, by omega, by go_num, by first | rfl | go_num⟩
              case measure => simp [intOf]
            · have hix : ∀ w' : World, (Instr.index 69 (.agg #[.bool false, .bool true, .bool false]) (.int .i64 1)).run Tryd.prog w' = .ok (.bool true) w' := fun _ => by kernel_rfl
              go_wp2
              go_round
              case rel => exact ⟨2, by omega, by go_num, by first | rfl | go_num⟩
              case measure => simp [intOf]
            · have hix : ∀ w' : World, (Instr.index 69 (.agg #[.bool false, .bool true, .bool false]) (.int .i64 2)).run Tryd.prog w' = .ok (.bool false) w' := fun _ => by kernel_rfl
              go_wp2
              go_round
              case rel => exact ⟨3, by omega, by go_num, by first | rfl | go_num⟩
              case measure => simp [intOf]
            · go_upto_region 21 with fail
              obtain ⟨w4, hwl⟩ : ∃ w4, w4 = (wr.alloc (.cells #[.bool false, .bool false, .bool false] 69)) := ⟨_, rfl⟩
              have hBl : Below wr.heap.size wr w4 := by rw [hwl]; exact ((Below.refl _ _).alloc (by first | exact Nat.le_refl _ | (simp; done) | (simp; omega)) _)
              have HTx := Lib.hid (HTr.out.belowS hBl)
              have HO := Lib.hid (show BoxAt w4 wr.heap.size [.bool false, .bool false, .bool false] 69 by rw [hwl]; exact BoxAt.new wr [.bool false, .bool false, .bool false] _)
              rw [← hwl]
              replace HK5 := Lib.hid (HK5.out.belowS hBl)
              replace H2r := Lib.hid (H2r.out.belowS hBl)
              replace HPr := Lib.hid (HPr.out.belowS hBl)
              replace HBr := Lib.hid (HBr.out.trans (hBl.mono HBr.out.size))
              clear hwl hBl
              have zo := HO.out.lt
              clear y0 yf xp
              have xp := HPr.out.cell 1 rfl
              have xl := HPr.out.lt
              have y0 := HK5.out.cell 0 rfl
              have y1 := HK5.out.cell 1 rfl
              have y2 := HK5.out.cell 2 rfl
              have y3 := HK5.out.cell 3 rfl
              go_wp2_with fail
              refine (lnumber_any x _ (by omega) HTx.out).mono ?_
              rintro e w5 ⟨rfl, hbn⟩
              rw [Hv2.out]
              replace HK5 := Lib.hid (HK5.out.belowS hbn)
              replace H2r := Lib.hid (H2r.out.belowS hbn)
              replace HPr := Lib.hid (HPr.out.belowS hbn)
              replace HBr := Lib.hid (HBr.out.trans (hbn.mono HBr.out.size))
              replace HO := Lib.hid (HO.out.belowS hbn)
              replace HTx := Lib.hid (HTx.out.belowS hbn)
              have zz := hbn.size
              clear hbn xp xl y0 y1 y2 y3
              have zk5 := HK5.out.lt
              have zo5 := HO.out.lt
              have y0 := HK5.out.cell 0 rfl
              have y1 := HK5.out.cell 1 rfl
              have y2 := HK5.out.cell 2 rfl
              have y3 := HK5.out.cell 3 rfl
              have yf0 := HK5.out.free 0
              have yf1 := HK5.out.free 1
              have yf2 := HK5.out.free 2
              have yf3 := HK5.out.free 3
              have o0 := HO.out.cell 0 rfl
              have o1 := HO.out.cell 1 rfl
              have o2 := HO.out.cell 2 rfl
              have of0 := HO.out.free 0
              have of1 := HO.out.free 1
              have of2 := HO.out.free 2
              go_upto_region 27 with fail
              obtain ⟨w6, hwl⟩ : ∃ w6, w6 = ((w5.setCell ⟨w2.heap.size, 2, none⟩ (.int .i64 v2)).setCell ⟨wr.heap.size, 1, none⟩ (.bool q2)) := ⟨_, rfl⟩
              replace HK5 := Lib.hid (show BoxAt w6 w2.heap.size [.int .i64 K, .int .i64 0, .int .i64 v2, .string ⟨#[]⟩] 25 by rw [hwl]; exact (HK5.out.set 2 (.int .i64 v2)).setOther (by simp; omega) _)
              replace HO := Lib.hid (show BoxAt w6 wr.heap.size [.bool false, .bool q2, .bool false] 69 by rw [hwl]; exact (HO.out.setOther (p := ⟨w2.heap.size, 2, none⟩) (by simp; omega) (.int .i64 v2)).set 1 (.bool q2))
              replace H2r := Lib.hid (show BoxAt w6 w.heap.size _ _ by rw [hwl]; exact (H2r.out.setOther (p := ⟨w2.heap.size, 2, none⟩) (by simp; omega) (.int .i64 v2)).setOther (by simp; omega) _)
              replace HPr := Lib.hid (show BoxAt w6 w1.heap.size _ _ by rw [hwl]; exact (HPr.out.setOther (p := ⟨w2.heap.size, 2, none⟩) (by simp; omega) (.int .i64 v2)).setOther (by simp; omega) _)
              replace HBr := Lib.hid (show Below w.heap.size w w6 by rw [hwl]; exact (HBr.out.setCell (p := ⟨w2.heap.size, 2, none⟩) (by simp; omega) (.int .i64 v2)).setCell (by simp; omega) _)
              replace HTx := Lib.hid (HT.out.belowS HBr.out)
              rw [← hwl]
              clear hwl y0 yf0 y1 yf1 y2 yf2 y3 yf3 o0 of0 o1 of1 o2 of2 zk5 zo5 zz
              go_upto_region 29 with fail
              cases q2 with
              | true =>
                refine wp_region_held_drew (S := fun w' => Keep (fun b => b ≠ w.heap.size) w6 w') (by kernel_rfl) (by exact Keep.drew _ _) (fun hHeld => ?_)
                obtain ⟨wd', hwd⟩ : ∃ wd', wd' = w6.drew := ⟨_, rfl⟩
                have HBd := Lib.hid (show Below w6.heap.size w6 wd' by rw [hwd]; exact (Below.refl _ _).drew)
                rw [← hwd] at hHeld ⊢
                clear hwd
                refine wpAnyH_take (i := 0) (v := .agg #[.int .i64 K, .int .i64 0, .int .i64 v2, .string ⟨#[]⟩]) rfl (by kernel_rfl) (by kernel_rfl) (by kernel_rfl) (fun _ _ _ h => h) (Or.inl ⟨by rfl, fun w hSw => ?_⟩) hHeld ?_
                · have q0 := hSw _ _ _ (by simp; omega) (HK5.out.cell 0 rfl); have q1 := hSw _ _ _ (by simp; omega) (HK5.out.cell 1 rfl); have q2 := hSw _ _ _ (by simp; omega) (HK5.out.cell 2 rfl); have q3 := hSw _ _ _ (by simp; omega) (HK5.out.cell 3 rfl); clear hSw; go_simp
                try simp only [Act.put, List.getElem_toArray, List.getElem_cons_succ, List.getElem_cons_zero, List.setIfInBounds_toArray, List.set_cons_zero, List.set_cons_succ]
                refine wpAnyH_take (i := 1) (v := .agg #[.bool false, .bool true, .bool false]) rfl (by kernel_rfl) (by kernel_rfl) (by kernel_rfl) (fun _ _ _ h => h) (Or.inl ⟨by rfl, fun w hSw => ?_⟩) hHeld ?_
                · have q0 := hSw _ _ _ (by simp; omega) (HO.out.cell 0 rfl); have q1 := hSw _ _ _ (by simp; omega) (HO.out.cell 1 rfl); have q2 := hSw _ _ _ (by simp; omega) (HO.out.cell 2 rfl); clear hSw; go_simp
                try simp only [Act.put, List.getElem_toArray, List.getElem_cons_succ, List.getElem_cons_zero, List.setIfInBounds_toArray, List.set_cons_zero, List.set_cons_succ]
                refine wpAnyH_take (i := 2) (v := .bool false) rfl (by kernel_rfl) (by kernel_rfl) (by kernel_rfl) (fun _ _ _ h => h) (Or.inl ⟨by rfl, fun w hSw => ?_⟩) hHeld ?_
                · clear hSw; go_simp; all_goals (try first | rfl | omega)
                try simp only [Act.put, List.getElem_toArray, List.getElem_cons_succ, List.getElem_cons_zero, List.setIfInBounds_toArray, List.set_cons_zero, List.set_cons_succ]
                refine wpAnyH_take (i := 3) (v := .bool true) rfl (by kernel_rfl) (by kernel_rfl) (by kernel_rfl) (fun _ _ _ h => h) (Or.inl ⟨by rfl, fun w hSw => ?_⟩) hHeld ?_
                · clear hSw; go_simp; all_goals (try first | rfl | omega)
                try simp only [Act.put, List.getElem_toArray, List.getElem_cons_succ, List.getElem_cons_zero, List.setIfInBounds_toArray, List.set_cons_zero, List.set_cons_succ]
                refine wpAnyH_take (i := 4) (v := .bool false) rfl (by kernel_rfl) (by kernel_rfl) (by kernel_rfl) (fun _ _ _ h => h) (Or.inl ⟨by rfl, fun w hSw => ?_⟩) hHeld ?_
                · clear hSw; go_simp; all_goals (try first | rfl | omega)
                try simp only [Act.put, List.getElem_toArray, List.getElem_cons_succ, List.getElem_cons_zero, List.setIfInBounds_toArray, List.set_cons_zero, List.set_cons_succ]
                refine wpAnyH_take (i := 5) (v := .agg #[.bool false, .bool true, .bool false]) rfl (by kernel_rfl) (by kernel_rfl) (by kernel_rfl) (fun _ _ _ h => h) (Or.inl ⟨by rfl, fun w hSw => ?_⟩) hHeld ?_
                · clear hSw; go_simp; all_goals (try first | rfl | omega)
                try simp only [Act.put, List.getElem_toArray, List.getElem_cons_succ, List.getElem_cons_zero, List.setIfInBounds_toArray, List.set_cons_zero, List.set_cons_succ]
                refine wpAnyH_take (i := 6) (v := .bool true) rfl (by kernel_rfl) (by kernel_rfl) (by kernel_rfl) (fun _ _ _ h => h) (Or.inl ⟨by rfl, fun w hSw => ?_⟩) hHeld ?_
                · clear hSw; go_simp; all_goals (try first | rfl | kernel_rfl)
                try simp only [Act.put, List.getElem_toArray, List.getElem_cons_succ, List.getElem_cons_zero, List.setIfInBounds_toArray, List.set_cons_zero, List.set_cons_succ]
                refine wpAnyH_ready (rs := [7]) (by kernel_rfl) (by simp) ?_
                refine AllReadyH.cons rfl (fun K hK => ?_) ?_
                · rw [if_pos (by rfl)]
                  have hbp := H2r.out.belowS HBd.out
                  have q0 := hbp.cell 0 rfl
                  have q1 := hbp.cell 1 rfl
                  have q2 := hbp.cell 2 rfl
                  have q3 := hbp.cell 3 rfl
                  have qf0 := hbp.free 0
                  have qf1 := hbp.free 1
                  have qf2 := hbp.free 2
                  have qf3 := hbp.free 3
                  have qz := hbp.lt
                  clear hbp
                  go_simp
                  show K _ _
                  refine hK.out _ _ (by exact (((hHeld.setCell' (by simp) _).setCell' (by simp) _).setCell' (by simp) _).setCell' (by simp) _) (fun hHeld => ?_)
                  clear hK K
                  try simp only [Act.put, List.getElem_toArray, List.getElem_cons_succ, List.getElem_cons_zero, List.setIfInBounds_toArray, List.set_cons_zero, List.set_cons_succ]
                  refine wpAnyH_take (i := 8) (v := .bool true) rfl (by kernel_rfl) (by kernel_rfl) (by kernel_rfl) (fun _ _ _ h => h) (Or.inl ⟨by rfl, fun w hSw => ?_⟩) hHeld ?_
                  · clear hSw; go_simp; all_goals (try first | rfl | omega)
                  try simp only [Act.put, List.getElem_toArray, List.getElem_cons_succ, List.getElem_cons_zero, List.setIfInBounds_toArray, List.set_cons_zero, List.set_cons_succ]
                  refine wpAnyH_done (by kernel_rfl) ?_ _
                  have HZ := Lib.hid (((((H2r.out.belowS HBd.out).set 0 (.int .i64 K)).set 1 (.int .i64 0)).set 2 (.int .i64 v2)).set 3 (.string ⟨#[]⟩))
                  have HBZ := Lib.hid (((((HBr.out.trans (HBd.out.mono (Below.size HBr.out))).setCell (p := ⟨w.heap.size, 0, none⟩) (by simp) (.int .i64 K)).setCell (p := ⟨w.heap.size, 1, none⟩) (by simp) (.int .i64 0)).setCell (p := ⟨w.heap.size, 2, none⟩) (by simp) (.int .i64 v2)).setCell (p := ⟨w.heap.size, 3, none⟩) (by simp) (.string ⟨#[]⟩))
                  have g0 := HZ.out.cell 0 rfl
                  have g1 := HZ.out.cell 1 rfl
                  have g2 := HZ.out.cell 2 rfl
                  have g3 := HZ.out.cell 3 rfl
                  go_wp2
                  refine bodyPost_ret (v := .tuple #[.agg #[.int .i64 K, .int .i64 0, .int .i64 v2, .string ⟨#[]⟩], .bool true]) (by simp [results, Tryd.results23, go_sem, g0, g1, g2, g3]) rfl ⟨by rw [HE.out] <;> rfl, HBZ.out⟩
                exact AllReadyH.nil
              | false =>
                refine wp_region_held_drew (S := fun w' => Keep (fun b => b ≠ w.heap.size) w6 w') (by kernel_rfl) (by exact Keep.drew _ _) (fun hHeld => ?_)
                obtain ⟨wd', hwd⟩ : ∃ wd', wd' = w6.drew := ⟨_, rfl⟩
                have HBd := Lib.hid (show Below w6.heap.size w6 wd' by rw [hwd]; exact (Below.refl _ _).drew)
                rw [← hwd] at hHeld ⊢
                clear hwd
                refine wpAnyH_take (i := 0) (v := .agg #[.int .i64 K, .int .i64 0, .int .i64 v2, .string ⟨#[]⟩]) rfl (by kernel_rfl) (by kernel_rfl) (by kernel_rfl) (fun _ _ _ h => h) (Or.inl ⟨by rfl, fun w hSw => ?_⟩) hHeld ?_
                · have q0 := hSw _ _ _ (by simp; omega) (HK5.out.cell 0 rfl); have q1 := hSw _ _ _ (by simp; omega) (HK5.out.cell 1 rfl); have q2 := hSw _ _ _ (by simp; omega) (HK5.out.cell 2 rfl); have q3 := hSw _ _ _ (by simp; omega) (HK5.out.cell 3 rfl); clear hSw; go_simp
                try simp only [Act.put, List.getElem_toArray, List.getElem_cons_succ, List.getElem_cons_zero, List.setIfInBounds_toArray, List.set_cons_zero, List.set_cons_succ]
                refine wpAnyH_take (i := 1) (v := .agg #[.bool false, .bool false, .bool false]) rfl (by kernel_rfl) (by kernel_rfl) (by kernel_rfl) (fun _ _ _ h => h) (Or.inl ⟨by rfl, fun w hSw => ?_⟩) hHeld ?_
                · have q0 := hSw _ _ _ (by simp; omega) (HO.out.cell 0 rfl); have q1 := hSw _ _ _ (by simp; omega) (HO.out.cell 1 rfl); have q2 := hSw _ _ _ (by simp; omega) (HO.out.cell 2 rfl); clear hSw; go_simp
                try simp only [Act.put, List.getElem_toArray, List.getElem_cons_succ, List.getElem_cons_zero, List.setIfInBounds_toArray, List.set_cons_zero, List.set_cons_succ]
                refine wpAnyH_take (i := 2) (v := .bool false) rfl (by kernel_rfl) (by kernel_rfl) (by kernel_rfl) (fun _ _ _ h => h) (Or.inl ⟨by rfl, fun w hSw => ?_⟩) hHeld ?_
                · clear hSw; go_simp; all_goals (try first | rfl | omega)
                try simp only [Act.put, List.getElem_toArray, List.getElem_cons_succ, List.getElem_cons_zero, List.setIfInBounds_toArray, List.set_cons_zero, List.set_cons_succ]
                refine wpAnyH_take (i := 3) (v := .bool true) rfl (by kernel_rfl) (by kernel_rfl) (by kernel_rfl) (fun _ _ _ h => h) (Or.inl ⟨by rfl, fun w hSw => ?_⟩) hHeld ?_
                · clear hSw; go_simp; all_goals (try first | rfl | omega)
                try simp only [Act.put, List.getElem_toArray, List.getElem_cons_succ, List.getElem_cons_zero, List.setIfInBounds_toArray, List.set_cons_zero, List.set_cons_succ]
                refine wpAnyH_take (i := 4) (v := .bool false) rfl (by kernel_rfl) (by kernel_rfl) (by kernel_rfl) (fun _ _ _ h => h) (Or.inl ⟨by rfl, fun w hSw => ?_⟩) hHeld ?_
                · clear hSw; go_simp; all_goals (try first | rfl | omega)
                try simp only [Act.put, List.getElem_toArray, List.getElem_cons_succ, List.getElem_cons_zero, List.setIfInBounds_toArray, List.set_cons_zero, List.set_cons_succ]
                refine wpAnyH_take (i := 5) (v := .agg #[.bool false, .bool true, .bool false]) rfl (by kernel_rfl) (by kernel_rfl) (by kernel_rfl) (fun _ _ _ h => h) (Or.inl ⟨by rfl, fun w hSw => ?_⟩) hHeld ?_
                · clear hSw; go_simp; all_goals (try first | rfl | omega)
                try simp only [Act.put, List.getElem_toArray, List.getElem_cons_succ, List.getElem_cons_zero, List.setIfInBounds_toArray, List.set_cons_zero, List.set_cons_succ]
                refine wpAnyH_take (i := 6) (v := .bool false) rfl (by kernel_rfl) (by kernel_rfl) (by kernel_rfl) (fun _ _ _ h => h) (Or.inl ⟨by rfl, fun w hSw => ?_⟩) hHeld ?_
                · clear hSw; go_simp; all_goals (try first | rfl | kernel_rfl)
                try simp only [Act.put, List.getElem_toArray, List.getElem_cons_succ, List.getElem_cons_zero, List.setIfInBounds_toArray, List.set_cons_zero, List.set_cons_succ]
                refine wpAnyH_ready (rs := [7]) (by kernel_rfl) (by simp) ?_
                refine AllReadyH.cons rfl (fun K hK => ?_) ?_
                · rw [if_pos (by rfl)]
                  have hbp := H2r.out.belowS HBd.out
                  have q0 := hbp.cell 0 rfl
                  have q1 := hbp.cell 1 rfl
                  have q2 := hbp.cell 2 rfl
                  have q3 := hbp.cell 3 rfl
                  have qf0 := hbp.free 0
                  have qf1 := hbp.free 1
                  have qf2 := hbp.free 2
                  have qf3 := hbp.free 3
                  have qz := hbp.lt
                  clear hbp
                  go_simp
                  show K _ _
                  refine hK.out _ _ (by exact (((hHeld.setCell' (by simp) _).setCell' (by simp) _).setCell' (by simp) _).setCell' (by simp) _) (fun hHeld => ?_)
                  clear hK K
                  try simp only [Act.put, List.getElem_toArray, List.getElem_cons_succ, List.getElem_cons_zero, List.setIfInBounds_toArray, List.set_cons_zero, List.set_cons_succ]
                  refine wpAnyH_take (i := 8) (v := .bool false) rfl (by kernel_rfl) (by kernel_rfl) (by kernel_rfl) (fun _ _ _ h => h) (Or.inl ⟨by rfl, fun w hSw => ?_⟩) hHeld ?_
                  · clear hSw; go_simp; all_goals (try first | rfl | omega)
                  try simp only [Act.put, List.getElem_toArray, List.getElem_cons_succ, List.getElem_cons_zero, List.setIfInBounds_toArray, List.set_cons_zero, List.set_cons_succ]
                  refine wpAnyH_done (by kernel_rfl) ?_ _
                  have HZ := Lib.hid (((((H2r.out.belowS HBd.out).set 0 (.int .i64 K)).set 1 (.int .i64 0)).set 2 (.int .i64 v2)).set 3 (.string ⟨#[]⟩))
                  have HBZ := Lib.hid (((((HBr.out.trans (HBd.out.mono (Below.size HBr.out))).setCell (p := ⟨w.heap.size, 0, none⟩) (by simp) (.int .i64 K)).setCell (p := ⟨w.heap.size, 1, none⟩) (by simp) (.int .i64 0)).setCell (p := ⟨w.heap.size, 2, none⟩) (by simp) (.int .i64 v2)).setCell (p := ⟨w.heap.size, 3, none⟩) (by simp) (.string ⟨#[]⟩))
                  have g0 := HZ.out.cell 0 rfl
                  have g1 := HZ.out.cell 1 rfl
                  have g2 := HZ.out.cell 2 rfl
                  have g3 := HZ.out.cell 3 rfl
                  go_wp2
                  refine bodyPost_ret (v := .tuple #[.agg #[.int .i64 K, .int .i64 0, .int .i64 v2, .string ⟨#[]⟩], .bool false]) (by simp [results, Tryd.results23, go_sem, g0, g1, g2, g3]) rfl ⟨by rw [HE.out] <;> rfl, HBZ.out⟩
                exact AllReadyH.nil
        · by_cases hz : ps.length = 0
          · have HLEN := Lib.hid (show ps.length ≠ 1 from hlen)
            obtain rfl := List.eq_nil_of_length_eq_zero hz
            clear hlen
            go_wp2_with (go_at_call 17; refine (has_any K _).mono ?_; rintro e w' ⟨rfl, rfl⟩; rw [hasN_eq, hasP_eq, hasT_eq, HBN.out, HBP.out, HBT.out])
            go_loop [47, 11] (fun j c => ∃ n : Nat, n ≤ 3 ∧ j = .int .i64 n ∧ c = .int .i64 (([0, 0, 1, 1] : List Int).getD n 0)) (fun j _ => 3 - (intOf j).toNat)
            case atStart => exact ⟨0, by omega, rfl, rfl⟩
            case round =>
              obtain ⟨n, hn, rfl, rfl⟩ := hrel
              have hc : n = 0 ∨ n = 1 ∨ n = 2 ∨ n = 3 := by omega
              rcases hc with rfl | rfl | rfl | rfl
              · have hix : ∀ w' : World, (Instr.index 69 (.agg #[.bool false, .bool true, .bool false]) (.int .i64 0)).run Tryd.prog w' = .ok (.bool false) w' := fun _ => by kernel_rfl
                go_wp2
                go_round
                case rel => exact ⟨1, by omega, by go_num, by first | rfl | go_num⟩
                case measure => simp [intOf]
              · have hix : ∀ w' : World, (Instr.index 69 (.agg #[.bool false, .bool true, .bool false]) (.int .i64 1)).run Tryd.prog w' = .ok (.bool true) w' := fun _ => by kernel_rfl
                go_wp2
                go_round
                case rel => exact ⟨2, by omega, by go_num, by first | rfl | go_num⟩
                case measure => simp [intOf]
              · have hix : ∀ w' : World, (Instr.index 69 (.agg #[.bool false, .bool true, .bool false]) (.int .i64 2)).run Tryd.prog w' = .ok (.bool false) w' := fun _ => by kernel_rfl
                go_wp2
                go_round
                case rel => exact ⟨3, by omega, by go_num, by first | rfl | go_num⟩
                case measure => simp [intOf]
              · have HE := Lib.hid (show oneL s = (⟨K, 0, 0, []⟩, false) by rw [HW.out, if_pos (.inr (by rw [HM.out]; exact HLEN.out))])
                have x1 := HK5.out.cell 1 rfl
                have x2 := HK5.out.cell 2 rfl
                have x3 := HK5.out.cell 3 rfl
                have u0 := H2r.out.cell 0 rfl
                have u1 := H2r.out.cell 1 rfl
                have u2 := H2r.out.cell 2 rfl
                have u3 := H2r.out.cell 3 rfl
                have uf0 := H2r.out.free 0
                have uf1 := H2r.out.free 1
                have uf2 := H2r.out.free 2
                have uf3 := H2r.out.free 3
                have uz := H2r.out.lt
                have HZ := Lib.hid ((((H2r.out.set 0 (.int .i64 K)).set 1 (.int .i64 0)).set 2 (.int .i64 0)).set 3 (.string ⟨#[]⟩))
                have HBZ := Lib.hid ((((HBr.out.setCell (p := ⟨w.heap.size, 0, none⟩) (by simp) (.int .i64 K)).setCell (p := ⟨w.heap.size, 1, none⟩) (by simp) (.int .i64 0)).setCell (p := ⟨w.heap.size, 2, none⟩) (by simp) (.int .i64 0)).setCell (p := ⟨w.heap.size, 3, none⟩) (by simp) (.string ⟨#[]⟩))
                have g0 := HZ.out.cell 0 rfl
                have g1 := HZ.out.cell 1 rfl
                have g2 := HZ.out.cell 2 rfl
                have g3 := HZ.out.cell 3 rfl
                go_wp2
                refine bodyPost_ret (v := .tuple #[.agg #[.int .i64 K, .int .i64 0, .int .i64 0, .string ⟨#[]⟩], .bool false]) (by simp [results, Tryd.results23, go_sem, g0, g1, g2, g3]) rfl ⟨by rw [HE.out] <;> rfl, HBZ.out⟩
          · have HLEN := Lib.hid (show ps.length ≠ 1 from hlen)
            have hz1 : 0 < ps.length := by omega
            have hz2 : ¬ ps.length + 1 = 1 := by omega
            have hl1 : ((ps.length : Int) != 1) = true := by rw [bne_iff_ne]; omega
            go_wp2_with (go_at_call 17; refine (has_any K _).mono ?_; rintro e w' ⟨rfl, rfl⟩; rw [hasN_eq, hasP_eq, hasT_eq, HBN.out, HBP.out, HBT.out])
            go_loop [47, 11] (fun j c => ∃ n : Nat, n ≤ 3 ∧ j = .int .i64 n ∧ c = .int .i64 (([0, 0, 1, 1] : List Int).getD n 0)) (fun j _ => 3 - (intOf j).toNat)
            case atStart => exact ⟨0, by omega, rfl, rfl⟩
            case round =>
              obtain ⟨n, hn, rfl, rfl⟩ := hrel
              have hc : n = 0 ∨ n = 1 ∨ n = 2 ∨ n = 3 := by omega
              rcases hc with rfl | rfl | rfl | rfl
              · have hix : ∀ w' : World, (Instr.index 69 (.agg #[.bool false, .bool true, .bool false]) (.int .i64 0)).run Tryd.prog w' = .ok (.bool false) w' := fun _ => by kernel_rfl
                go_wp2
                go_round
                case rel => exact ⟨1, by omega, by go_num, by first | rfl | go_num⟩
                case measure => simp [intOf]
              · have hix : ∀ w' : World, (Instr.index 69 (.agg #[.bool false, .bool true, .bool false]) (.int .i64 1)).run Tryd.prog w' = .ok (.bool true) w' := fun _ => by kernel_rfl
                go_wp2
                go_round
                case rel => exact ⟨2, by omega, by go_num, by first | rfl | go_num⟩
                case measure => simp [intOf]
              · have hix : ∀ w' : World, (Instr.index 69 (.agg #[.bool false, .bool true, .bool false]) (.int .i64 2)).run Tryd.prog w' = .ok (.bool false) w' := fun _ => by kernel_rfl
                go_wp2
                go_round
                case rel => exact ⟨3, by omega, by go_num, by first | rfl | go_num⟩
                case measure => simp [intOf]
              · have HE := Lib.hid (show oneL s = (⟨K, 0, 0, []⟩, false) by rw [HW.out, if_pos (.inr (by rw [HM.out]; exact HLEN.out))])
                have x1 := HK5.out.cell 1 rfl
                have x2 := HK5.out.cell 2 rfl
                have x3 := HK5.out.cell 3 rfl
                have u0 := H2r.out.cell 0 rfl
                have u1 := H2r.out.cell 1 rfl
                have u2 := H2r.out.cell 2 rfl
                have u3 := H2r.out.cell 3 rfl
                have uf0 := H2r.out.free 0
                have uf1 := H2r.out.free 1
                have uf2 := H2r.out.free 2
                have uf3 := H2r.out.free 3
                have uz := H2r.out.lt
                have HZ := Lib.hid ((((H2r.out.set 0 (.int .i64 K)).set 1 (.int .i64 0)).set 2 (.int .i64 0)).set 3 (.string ⟨#[]⟩))
                have HBZ := Lib.hid ((((HBr.out.setCell (p := ⟨w.heap.size, 0, none⟩) (by simp) (.int .i64 K)).setCell (p := ⟨w.heap.size, 1, none⟩) (by simp) (.int .i64 0)).setCell (p := ⟨w.heap.size, 2, none⟩) (by simp) (.int .i64 0)).setCell (p := ⟨w.heap.size, 3, none⟩) (by simp) (.string ⟨#[]⟩))
                have g0 := HZ.out.cell 0 rfl
                have g1 := HZ.out.cell 1 rfl
                have g2 := HZ.out.cell 2 rfl
                have g3 := HZ.out.cell 3 rfl
                go_wp2
                refine bodyPost_ret (v := .tuple #[.agg #[.int .i64 K, .int .i64 0, .int .i64 0, .string ⟨#[]⟩], .bool false]) (by simp [results, Tryd.results23, go_sem, g0, g1, g2, g3]) rfl ⟨by rw [HE.out] <;> rfl, HBZ.out⟩
      · have HBN := Lib.hid bN
        have HBP := Lib.hid bP
        have HBT := Lib.hid bT
        have HBK := Lib.hid bK
        have HM := Lib.hid (show partsMany K = 2 by unfold partsMany; rw [bN, bP, bT]; rfl)
        have hk0 : (K == 0) = false := by simpa using bK
        have hk0' : ¬ K = 0 := bK
        clear bN bP bT bK
        by_cases hlen : ps.length = 2
        · obtain ⟨x, y, rfl⟩ : ∃ x y, ps = [x, y] := by match ps, hlen with | [x, y], _ => exact ⟨x, y, rfl⟩
          clear hlen
          have hlx := spl_mem s x (by rw [HSP.out]; simp)
          have hly := spl_mem s y (by rw [HSP.out]; simp)
          obtain ⟨v1, q1, hv1⟩ : ∃ v q, numL x = (v, q) := ⟨_, _, rfl⟩
          obtain ⟨v2, q2, hv2⟩ : ∃ v q, numL y = (v, q) := ⟨_, _, rfl⟩
          have HE := Lib.hid (show oneL s = (⟨K, v1, v2, []⟩, decide (q1 = true ∧ q2 = true ∧ false = false)) by rw [HW.out, if_neg (by rw [HM.out]; simp [HBK.out])]; unfold oneA oneOk oneN oneP oneT restN restP; simp only [HBN.out, HBP.out, HBT.out, if_true, if_false, Bool.false_eq_true, List.headD_cons, List.tail_cons, hv1, hv2])
          have Hv1 := Lib.hid hv1
          clear hv1
          have Hv2 := Lib.hid hv2
          clear hv2
          go_wp2_with (go_at_call 17; refine (has_any K _).mono ?_; rintro e w' ⟨rfl, rfl⟩; rw [hasN_eq, hasP_eq, hasT_eq, HBN.out, HBP.out, HBT.out])
          go_loop [47, 11] (fun j c => ∃ n : Nat, n ≤ 3 ∧ j = .int .i64 n ∧ c = .int .i64 (([0, 1, 2, 2] : List Int).getD n 0)) (fun j _ => 3 - (intOf j).toNat)
          case atStart => exact ⟨0, by omega, rfl, rfl⟩
          case round =>
            obtain ⟨n, hn, rfl, rfl⟩ := hrel
            have hc : n = 0 ∨ n = 1 ∨ n = 2 ∨ n = 3 := by omega
            rcases hc with rfl | rfl | rfl | rfl
            · have hix : ∀ w' : World, (Instr.index 69 (.agg #[.bool true, .bool true, .bool false]) (.int .i64 0)).run Tryd.prog w' = .ok (.bool true) w' := fun _ => by kernel_rfl
              go_wp2
              go_round
              case rel => exact ⟨1, by omega, by go_num, by first | rfl | go_num⟩
              case measure => simp [intOf]
            · have hix : ∀ w' : World, (Instr.index 69 (.agg #[.bool true, .bool true, .bool false]) (.int .i64 1)).run Tryd.prog w' = .ok (.bool true) w' := fun _ => by kernel_rfl
              go_wp2
              go_round
              case rel => exact ⟨2, by omega, by go_num, by first | rfl | go_num⟩
              case measure => simp [intOf]
            · have hix : ∀ w' : World, (Instr.index 69 (.agg #[.bool true, .bool true, .bool false]) (.int .i64 2)).run Tryd.prog w' = .ok (.bool false) w' := fun _ => by kernel_rfl
              go_wp2
              go_round
              case rel => exact ⟨3, by omega, by go_num, by first | rfl | go_num⟩
              case measure => simp [intOf]
            · go_upto_region 21 with fail
              obtain ⟨w4, hwl⟩ : ∃ w4, w4 = (wr.alloc (.cells #[.bool false, .bool false, .bool false] 69)) := ⟨_, rfl⟩
              have hBl : Below wr.heap.size wr w4 := by rw [hwl]; exact ((Below.refl _ _).alloc (by first | exact Nat.le_refl _ | (simp; done) | (simp; omega)) _)
              have HTx := Lib.hid (HTr.out.belowS hBl)
              have HO := Lib.hid (show BoxAt w4 wr.heap.size [.bool false, .bool false, .bool false] 69 by rw [hwl]; exact BoxAt.new wr [.bool false, .bool false, .bool false] _)
              rw [← hwl]
              replace HK5 := Lib.hid (HK5.out.belowS hBl)
              replace H2r := Lib.hid (H2r.out.belowS hBl)
              replace HPr := Lib.hid (HPr.out.belowS hBl)
              replace HBr := Lib.hid (HBr.out.trans (hBl.mono HBr.out.size))
              clear hwl hBl
              have zo := HO.out.lt
              clear y0 yf xp
              have xp := HPr.out.cell 1 rfl
              have xl := HPr.out.lt
              have y0 := HK5.out.cell 0 rfl
              have y1 := HK5.out.cell 1 rfl
              have y2 := HK5.out.cell 2 rfl
              have y3 := HK5.out.cell 3 rfl
              go_wp2_with fail
              refine (lnumber_any x _ (by omega) HTx.out).mono ?_
              rintro e w5 ⟨rfl, hbn⟩
              rw [Hv1.out]
              replace HK5 := Lib.hid (HK5.out.belowS hbn)
              replace H2r := Lib.hid (H2r.out.belowS hbn)
              replace HPr := Lib.hid (HPr.out.belowS hbn)
              replace HBr := Lib.hid (HBr.out.trans (hbn.mono HBr.out.size))
              replace HO := Lib.hid (HO.out.belowS hbn)
              replace HTx := Lib.hid (HTx.out.belowS hbn)
              have zz := hbn.size
              clear hbn xp xl y0 y1 y2 y3
              have zk5 := HK5.out.lt
              have zo5 := HO.out.lt
              have y0 := HK5.out.cell 0 rfl
              have y1 := HK5.out.cell 1 rfl
              have y2 := HK5.out.cell 2 rfl
              have y3 := HK5.out.cell 3 rfl
              have yf0 := HK5.out.free 0
              have yf1 := HK5.out.free 1
              have yf2 := HK5.out.free 2
              have yf3 := HK5.out.free 3
              have o0 := HO.out.cell 0 rfl
              have o1 := HO.out.cell 1 rfl
              have o2 := HO.out.cell 2 rfl
              have of0 := HO.out.free 0
              have of1 := HO.out.free 1
              have of2 := HO.out.free 2
              go_upto_region 24 with fail
              obtain ⟨w6, hwl⟩ : ∃ w6, w6 = ((w5.setCell ⟨w2.heap.size, 1, none⟩ (.int .i64 v1)).setCell ⟨wr.heap.size, 0, none⟩ (.bool q1)) := ⟨_, rfl⟩
              replace HK5 := Lib.hid (show BoxAt w6 w2.heap.size [.int .i64 K, .int .i64 v1, .int .i64 0, .string ⟨#[]⟩] 25 by rw [hwl]; exact (HK5.out.set 1 (.int .i64 v1)).setOther (by simp; omega) _)
              replace HO := Lib.hid (show BoxAt w6 wr.heap.size [.bool q1, .bool false, .bool false] 69 by rw [hwl]; exact (HO.out.setOther (p := ⟨w2.heap.size, 1, none⟩) (by simp; omega) (.int .i64 v1)).set 0 (.bool q1))
              replace H2r := Lib.hid (show BoxAt w6 w.heap.size _ _ by rw [hwl]; exact (H2r.out.setOther (p := ⟨w2.heap.size, 1, none⟩) (by simp; omega) (.int .i64 v1)).setOther (by simp; omega) _)
              replace HPr := Lib.hid (show BoxAt w6 w1.heap.size _ _ by rw [hwl]; exact (HPr.out.setOther (p := ⟨w2.heap.size, 1, none⟩) (by simp; omega) (.int .i64 v1)).setOther (by simp; omega) _)
              replace HBr := Lib.hid (show Below w.heap.size w w6 by rw [hwl]; exact (HBr.out.setCell (p := ⟨w2.heap.size, 1, none⟩) (by simp; omega) (.int .i64 v1)).setCell (by simp; omega) _)
              replace HTx := Lib.hid (HT.out.belowS HBr.out)
              rw [← hwl]
              clear hwl y0 yf0 y1 yf1 y2 yf2 y3 yf3 o0 of0 o1 of1 o2 of2 zk5 zo5 zz
              have xp := HPr.out.cell 2 rfl
              have xl := HPr.out.lt
              have y0 := HK5.out.cell 0 rfl
              have y1 := HK5.out.cell 1 rfl
              have y2 := HK5.out.cell 2 rfl
              have y3 := HK5.out.cell 3 rfl
              go_wp2_with fail
              refine (lnumber_any y _ (by omega) HTx.out).mono ?_
              rintro e w7 ⟨rfl, hbn⟩
              rw [Hv2.out]
              replace HK5 := Lib.hid (HK5.out.belowS hbn)
              replace H2r := Lib.hid (H2r.out.belowS hbn)
              replace HPr := Lib.hid (HPr.out.belowS hbn)
              replace HBr := Lib.hid (HBr.out.trans (hbn.mono HBr.out.size))
              replace HO := Lib.hid (HO.out.belowS hbn)
              replace HTx := Lib.hid (HTx.out.belowS hbn)
              have zz := hbn.size
              clear hbn xp xl y0 y1 y2 y3
              have zk5 := HK5.out.lt
              have zo5 := HO.out.lt
              have y0 := HK5.out.cell 0 rfl
              have y1 := HK5.out.cell 1 rfl
              have y2 := HK5.out.cell 2 rfl
              have y3 := HK5.out.cell 3 rfl
              have yf0 := HK5.out.free 0
              have yf1 := HK5.out.free 1
              have yf2 := HK5.out.free 2
              have yf3 := HK5.out.free 3
              have o0 := HO.out.cell 0 rfl
              have o1 := HO.out.cell 1 rfl
              have o2 := HO.out.cell 2 rfl
              have of0 := HO.out.free 0
              have of1 := HO.out.free 1
              have of2 := HO.out.free 2
              go_upto_region 27 with fail
              obtain ⟨w8, hwl⟩ : ∃ w8, w8 = ((w7.setCell ⟨w2.heap.size, 2, none⟩ (.int .i64 v2)).setCell ⟨wr.heap.size, 1, none⟩ (.bool q2)) := ⟨_, rfl⟩
              replace HK5 := Lib.hid (show BoxAt w8 w2.heap.size [.int .i64 K, .int .i64 v1, .int .i64 v2, .string ⟨#[]⟩] 25 by rw [hwl]; exact (HK5.out.set 2 (.int .i64 v2)).setOther (by simp; omega) _)
              replace HO := Lib.hid (show BoxAt w8 wr.heap.size [.bool q1, .bool q2, .bool false] 69 by rw [hwl]; exact (HO.out.setOther (p := ⟨w2.heap.size, 2, none⟩) (by simp; omega) (.int .i64 v2)).set 1 (.bool q2))
              replace H2r := Lib.hid (show BoxAt w8 w.heap.size _ _ by rw [hwl]; exact (H2r.out.setOther (p := ⟨w2.heap.size, 2, none⟩) (by simp; omega) (.int .i64 v2)).setOther (by simp; omega) _)
              replace HPr := Lib.hid (show BoxAt w8 w1.heap.size _ _ by rw [hwl]; exact (HPr.out.setOther (p := ⟨w2.heap.size, 2, none⟩) (by simp; omega) (.int .i64 v2)).setOther (by simp; omega) _)
              replace HBr := Lib.hid (show Below w.heap.size w w8 by rw [hwl]; exact (HBr.out.setCell (p := ⟨w2.heap.size, 2, none⟩) (by simp; omega) (.int .i64 v2)).setCell (by simp; omega) _)
              replace HTx := Lib.hid (HT.out.belowS HBr.out)
              rw [← hwl]
              clear hwl y0 yf0 y1 yf1 y2 yf2 y3 yf3 o0 of0 o1 of1 o2 of2 zk5 zo5 zz
              go_upto_region 29 with fail
              cases q1 with
              | true =>
                cases q2 with
                | true =>
                  refine wp_region_held_drew (S := fun w' => Keep (fun b => b ≠ w.heap.size) w8 w') (by kernel_rfl) (by exact Keep.drew _ _) (fun hHeld => ?_)
                  obtain ⟨wd', hwd⟩ : ∃ wd', wd' = w8.drew := ⟨_, rfl⟩
                  have HBd := Lib.hid (show Below w8.heap.size w8 wd' by rw [hwd]; exact (Below.refl _ _).drew)
                  rw [← hwd] at hHeld ⊢
                  clear hwd
                  refine wpAnyH_take (i := 0) (v := .agg #[.int .i64 K, .int .i64 v1, .int .i64 v2, .string ⟨#[]⟩]) rfl (by kernel_rfl) (by kernel_rfl) (by kernel_rfl) (fun _ _ _ h => h) (Or.inl ⟨by rfl, fun w hSw => ?_⟩) hHeld ?_
                  · have q0 := hSw _ _ _ (by simp; omega) (HK5.out.cell 0 rfl); have q1 := hSw _ _ _ (by simp; omega) (HK5.out.cell 1 rfl); have q2 := hSw _ _ _ (by simp; omega) (HK5.out.cell 2 rfl); have q3 := hSw _ _ _ (by simp; omega) (HK5.out.cell 3 rfl); clear hSw; go_simp
                  try simp only [Act.put, List.getElem_toArray, List.getElem_cons_succ, List.getElem_cons_zero, List.setIfInBounds_toArray, List.set_cons_zero, List.set_cons_succ]
                  refine wpAnyH_take (i := 1) (v := .agg #[.bool true, .bool true, .bool false]) rfl (by kernel_rfl) (by kernel_rfl) (by kernel_rfl) (fun _ _ _ h => h) (Or.inl ⟨by rfl, fun w hSw => ?_⟩) hHeld ?_
                  · have q0 := hSw _ _ _ (by simp; omega) (HO.out.cell 0 rfl); have q1 := hSw _ _ _ (by simp; omega) (HO.out.cell 1 rfl); have q2 := hSw _ _ _ (by simp; omega) (HO.out.cell 2 rfl); clear hSw; go_simp
                  try simp only [Act.put, List.getElem_toArray, List.getElem_cons_succ, List.getElem_cons_zero, List.setIfInBounds_toArray, List.set_cons_zero, List.set_cons_succ]
                  refine wpAnyH_take (i := 2) (v := .bool true) rfl (by kernel_rfl) (by kernel_rfl) (by kernel_rfl) (fun _ _ _ h => h) (Or.inl ⟨by rfl, fun w hSw => ?_⟩) hHeld ?_
                  · clear hSw; go_simp; all_goals (try first | rfl | omega)
                  try simp only [Act.put, List.getElem_toArray, List.getElem_cons_succ, List.getElem_cons_zero, List.setIfInBounds_toArray, List.set_cons_zero, List.set_cons_succ]
                  refine wpAnyH_take (i := 3) (v := .bool true) rfl (by kernel_rfl) (by kernel_rfl) (by kernel_rfl) (fun _ _ _ h => h) (Or.inl ⟨by rfl, fun w hSw => ?_⟩) hHeld ?_
                  · clear hSw; go_simp; all_goals (try first | rfl | omega)
                  try simp only [Act.put, List.getElem_toArray, List.getElem_cons_succ, List.getElem_cons_zero, List.setIfInBounds_toArray, List.set_cons_zero, List.set_cons_succ]
                  refine wpAnyH_take (i := 4) (v := .bool false) rfl (by kernel_rfl) (by kernel_rfl) (by kernel_rfl) (fun _ _ _ h => h) (Or.inl ⟨by rfl, fun w hSw => ?_⟩) hHeld ?_
                  · clear hSw; go_simp; all_goals (try first | rfl | omega)
                  try simp only [Act.put, List.getElem_toArray, List.getElem_cons_succ, List.getElem_cons_zero, List.setIfInBounds_toArray, List.set_cons_zero, List.set_cons_succ]
                  refine wpAnyH_take (i := 5) (v := .agg #[.bool true, .bool true, .bool false]) rfl (by kernel_rfl) (by kernel_rfl) (by kernel_rfl) (fun _ _ _ h => h) (Or.inl ⟨by rfl, fun w hSw => ?_⟩) hHeld ?_
                  · clear hSw; go_simp; all_goals (try first | rfl | omega)
                  try simp only [Act.put, List.getElem_toArray, List.getElem_cons_succ, List.getElem_cons_zero, List.setIfInBounds_toArray, List.set_cons_zero, List.set_cons_succ]
                  refine wpAnyH_take (i := 6) (v := .bool true) rfl (by kernel_rfl) (by kernel_rfl) (by kernel_rfl) (fun _ _ _ h => h) (Or.inl ⟨by rfl, fun w hSw => ?_⟩) hHeld ?_
                  · clear hSw; go_simp; all_goals (try first | rfl | kernel_rfl)
                  try simp only [Act.put, List.getElem_toArray, List.getElem_cons_succ, List.getElem_cons_zero, List.setIfInBounds_toArray, List.set_cons_zero, List.set_cons_succ]
                  refine wpAnyH_ready (rs := [7]) (by kernel_rfl) (by simp) ?_
                  refine AllReadyH.cons rfl (fun K hK => ?_) ?_
                  · rw [if_pos (by rfl)]
                    have hbp := H2r.out.belowS HBd.out
                    have q0 := hbp.cell 0 rfl
                    have q1 := hbp.cell 1 rfl
                    have q2 := hbp.cell 2 rfl
                    have q3 := hbp.cell 3 rfl
                    have qf0 := hbp.free 0
                    have qf1 := hbp.free 1
                    have qf2 := hbp.free 2
                    have qf3 := hbp.free 3
                    have qz := hbp.lt
                    clear hbp
                    go_simp
                    show K _ _
                    refine hK.out _ _ (by exact (((hHeld.setCell' (by simp) _).setCell' (by simp) _).setCell' (by simp) _).setCell' (by simp) _) (fun hHeld => ?_)
                    clear hK K
                    try simp only [Act.put, List.getElem_toArray, List.getElem_cons_succ, List.getElem_cons_zero, List.setIfInBounds_toArray, List.set_cons_zero, List.set_cons_succ]
                    refine wpAnyH_take (i := 8) (v := .bool true) rfl (by kernel_rfl) (by kernel_rfl) (by kernel_rfl) (fun _ _ _ h => h) (Or.inl ⟨by rfl, fun w hSw => ?_⟩) hHeld ?_
                    · clear hSw; go_simp; all_goals (try first | rfl | omega)
                    try simp only [Act.put, List.getElem_toArray, List.getElem_cons_succ, List.getElem_cons_zero, List.setIfInBounds_toArray, List.set_cons_zero, List.set_cons_succ]
                    refine wpAnyH_done (by kernel_rfl) ?_ _
                    have HZ := Lib.hid (((((H2r.out.belowS HBd.out).set 0 (.int .i64 K)).set 1 (.int .i64 v1)).set 2 (.int .i64 v2)).set 3 (.string ⟨#[]⟩))
                    have HBZ := Lib.hid (((((HBr.out.trans (HBd.out.mono (Below.size HBr.out))).setCell (p := ⟨w.heap.size, 0, none⟩) (by simp) (.int .i64 K)).setCell (p := ⟨w.heap.size, 1, none⟩) (by simp) (.int .i64 v1)).setCell (p := ⟨w.heap.size, 2, none⟩) (by simp) (.int .i64 v2)).setCell (p := ⟨w.heap.size, 3, none⟩) (by simp) (.string ⟨#[]⟩))
                    have g0 := HZ.out.cell 0 rfl
                    have g1 := HZ.out.cell 1 rfl
                    have g2 := HZ.out.cell 2 rfl
                    have g3 := HZ.out.cell 3 rfl
                    go_wp2
                    refine bodyPost_ret (v := .tuple #[.agg #[.int .i64 K, .int .i64 v1, .int .i64 v2, .string ⟨#[]⟩], .bool true]) (by simp [results, Tryd.results23, go_sem, g0, g1, g2, g3]) rfl ⟨by rw [HE.out] <;> rfl, HBZ.out⟩
                  exact AllReadyH.nil
                | false =>
                  refine wp_region_held_drew (S := fun w' => Keep (fun b => b ≠ w.heap.size) w8 w') (by kernel_rfl) (by exact Keep.drew _ _) (fun hHeld => ?_)
                  obtain ⟨wd', hwd⟩ : ∃ wd', wd' = w8.drew := ⟨_, rfl⟩
                  have HBd := Lib.hid (show Below w8.heap.size w8 wd' by rw [hwd]; exact (Below.refl _ _).drew)
                  rw [← hwd] at hHeld ⊢
                  clear hwd
                  refine wpAnyH_take (i := 0) (v := .agg #[.int .i64 K, .int .i64 v1, .int .i64 v2, .string ⟨#[]⟩]) rfl (by kernel_rfl) (by kernel_rfl) (by kernel_rfl) (fun _ _ _ h => h) (Or.inl ⟨by rfl, fun w hSw => ?_⟩) hHeld ?_
                  · have q0 := hSw _ _ _ (by simp; omega) (HK5.out.cell 0 rfl); have q1 := hSw _ _ _ (by simp; omega) (HK5.out.cell 1 rfl); have q2 := hSw _ _ _ (by simp; omega) (HK5.out.cell 2 rfl); have q3 := hSw _ _ _ (by simp; omega) (HK5.out.cell 3 rfl); clear hSw; go_simp
                  try simp only [Act.put, List.getElem_toArray, List.getElem_cons_succ, List.getElem_cons_zero, List.setIfInBounds_toArray, List.set_cons_zero, List.set_cons_succ]
                  refine wpAnyH_take (i := 1) (v := .agg #[.bool true, .bool false, .bool false]) rfl (by kernel_rfl) (by kernel_rfl) (by kernel_rfl) (fun _ _ _ h => h) (Or.inl ⟨by rfl, fun w hSw => ?_⟩) hHeld ?_
                  · have q0 := hSw _ _ _ (by simp; omega) (HO.out.cell 0 rfl); have q1 := hSw _ _ _ (by simp; omega) (HO.out.cell 1 rfl); have q2 := hSw _ _ _ (by simp; omega) (HO.out.cell 2 rfl); clear hSw; go_simp
                  try simp only [Act.put, List.getElem_toArray, List.getElem_cons_succ, List.getElem_cons_zero, List.setIfInBounds_toArray, List.set_cons_zero, List.set_cons_succ]
                  refine wpAnyH_take (i := 2) (v := .bool true) rfl (by kernel_rfl) (by kernel_rfl) (by kernel_rfl) (fun _ _ _ h => h) (Or.inl ⟨by rfl, fun w hSw => ?_⟩) hHeld ?_
                  · clear hSw; go_simp; all_goals (try first | rfl | omega)
                  try simp only [Act.put, List.getElem_toArray, List.getElem_cons_succ, List.getElem_cons_zero, List.setIfInBounds_toArray, List.set_cons_zero, List.set_cons_succ]
                  refine wpAnyH_take (i := 3) (v := .bool true) rfl (by kernel_rfl) (by kernel_rfl) (by kernel_rfl) (fun _ _ _ h => h) (Or.inl ⟨by rfl, fun w hSw => ?_⟩) hHeld ?_
                  · clear hSw; go_simp; all_goals (try first | rfl | omega)
                  try simp only [Act.put, List.getElem_toArray, List.getElem_cons_succ, List.getElem_cons_zero, List.setIfInBounds_toArray, List.set_cons_zero, List.set_cons_succ]
                  refine wpAnyH_take (i := 4) (v := .bool false) rfl (by kernel_rfl) (by kernel_rfl) (by kernel_rfl) (fun _ _ _ h => h) (Or.inl ⟨by rfl, fun w hSw => ?_⟩) hHeld ?_
                  · clear hSw; go_simp; all_goals (try first | rfl | omega)
                  try simp only [Act.put, List.getElem_toArray, List.getElem_cons_succ, List.getElem_cons_zero, List.setIfInBounds_toArray, List.set_cons_zero, List.set_cons_succ]
                  refine wpAnyH_take (i := 5) (v := .agg #[.bool true, .bool true, .bool false]) rfl (by kernel_rfl) (by kernel_rfl) (by kernel_rfl) (fun _ _ _ h => h) (Or.inl ⟨by rfl, fun w hSw => ?_⟩) hHeld ?_
                  · clear hSw; go_simp; all_goals (try first | rfl | omega)
                  try simp only [Act.put, List.getElem_toArray, List.getElem_cons_succ, List.getElem_cons_zero, List.setIfInBounds_toArray, List.set_cons_zero, List.set_cons_succ]
                  refine wpAnyH_take (i := 6) (v := .bool false) rfl (by kernel_rfl) (by kernel_rfl) (by kernel_rfl) (fun _ _ _ h => h) (Or.inl ⟨by rfl, fun w hSw => ?_⟩) hHeld ?_
                  · clear hSw; go_simp; all_goals (try first | rfl | kernel_rfl)
                  try simp only [Act.put, List.getElem_toArray, List.getElem_cons_succ, List.getElem_cons_zero, List.setIfInBounds_toArray, List.set_cons_zero, List.set_cons_succ]
                  refine wpAnyH_ready (rs := [7]) (by kernel_rfl) (by simp) ?_
                  refine AllReadyH.cons rfl (fun K hK => ?_) ?_
                  · rw [if_pos (by rfl)]
                    have hbp := H2r.out.belowS HBd.out
                    have q0 := hbp.cell 0 rfl
                    have q1 := hbp.cell 1 rfl
                    have q2 := hbp.cell 2 rfl
                    have q3 := hbp.cell 3 rfl
                    have qf0 := hbp.free 0
                    have qf1 := hbp.free 1
                    have qf2 := hbp.free 2
                    have qf3 := hbp.free 3
                    have qz := hbp.lt
                    clear hbp
                    go_simp
                    show K _ _
                    refine hK.out _ _ (by exact (((hHeld.setCell' (by simp) _).setCell' (by simp) _).setCell' (by simp) _).setCell' (by simp) _) (fun hHeld => ?_)
                    clear hK K
                    try simp only [Act.put, List.getElem_toArray, List.getElem_cons_succ, List.getElem_cons_zero, List.setIfInBounds_toArray, List.set_cons_zero, List.set_cons_succ]
                    refine wpAnyH_take (i := 8) (v := .bool false) rfl (by kernel_rfl) (by kernel_rfl) (by kernel_rfl) (fun _ _ _ h => h) (Or.inl ⟨by rfl, fun w hSw => ?_⟩) hHeld ?_
                    · clear hSw; go_simp; all_goals (try first | rfl | omega)
                    try simp only [Act.put, List.getElem_toArray, List.getElem_cons_succ, List.getElem_cons_zero, List.setIfInBounds_toArray, List.set_cons_zero, List.set_cons_succ]
                    refine wpAnyH_done (by kernel_rfl) ?_ _
                    have HZ := Lib.hid (((((H2r.out.belowS HBd.out).set 0 (.int .i64 K)).set 1 (.int .i64 v1)).set 2 (.int .i64 v2)).set 3 (.string ⟨#[]⟩))
                    have HBZ := Lib.hid (((((HBr.out.trans (HBd.out.mono (Below.size HBr.out))).setCell (p := ⟨w.heap.size, 0, none⟩) (by simp) (.int .i64 K)).setCell (p := ⟨w.heap.size, 1, none⟩) (by simp) (.int .i64 v1)).setCell (p := ⟨w.heap.size, 2, none⟩) (by simp) (.int .i64 v2)).setCell (p := ⟨w.heap.size, 3, none⟩) (by simp) (.string ⟨#[]⟩))
                    have g0 := HZ.out.cell 0 rfl
                    have g1 := HZ.out.cell 1 rfl
                    have g2 := HZ.out.cell 2 rfl
                    have g3 := HZ.out.cell 3 rfl
                    go_wp2
                    refine bodyPost_ret (v := .tuple #[.agg #[.int .i64 K, .int .i64 v1, .int .i64 v2, .string ⟨#[]⟩], .bool false]) (by simp [results, Tryd.results23, go_sem, g0, g1, g2, g3]) rfl ⟨by rw [HE.out] <;> rfl, HBZ.out⟩
                  exact AllReadyH.nil
              | false =>
                cases q2 with
                | true =>
                  refine wp_region_held_drew (S := fun w' => Keep (fun b => b ≠ w.heap.size) w8 w') (by kernel_rfl) (by exact Keep.drew _ _) (fun hHeld => ?_)
                  obtain ⟨wd', hwd⟩ : ∃ wd', wd' = w8.drew := ⟨_, rfl⟩
                  have HBd := Lib.hid (show Below w8.heap.size w8 wd' by rw [hwd]; exact (Below.refl _ _).drew)
                  rw [← hwd] at hHeld ⊢
                  clear hwd
                  refine wpAnyH_take (i := 0) (v := .agg #[.int .i64 K, .int .i64 v1, .int .i64 v2, .string ⟨#[]⟩]) rfl (by kernel_rfl) (by kernel_rfl) (by kernel_rfl) (fun _ _ _ h => h) (Or.inl ⟨by rfl, fun w hSw => ?_⟩) hHeld ?_
                  · have q0 := hSw _ _ _ (by simp; omega) (HK5.out.cell 0 rfl); have q1 := hSw _ _ _ (by simp; omega) (HK5.out.cell 1 rfl); have q2 := hSw _ _ _ (by simp; omega) (HK5.out.cell 2 rfl); have q3 := hSw _ _ _ (by simp; omega) (HK5.out.cell 3 rfl); clear hSw; go_simp
                  try simp only [Act.put, List.getElem_toArray, List.getElem_cons_succ, List.getElem_cons_zero, List.setIfInBounds_toArray, List.set_cons_zero, List.set_cons_succ]
                  refine wpAnyH_take (i := 1) (v := .agg #[.bool false, .bool true, .bool false]) rfl (by kernel_rfl) (by kernel_rfl) (by kernel_rfl) (fun _ _ _ h => h) (Or.inl ⟨by rfl, fun w hSw => ?_⟩) hHeld ?_
                  · have q0 := hSw _ _ _ (by simp; omega) (HO.out.cell 0 rfl); have q1 := hSw _ _ _ (by simp; omega) (HO.out.cell 1 rfl); have q2 := hSw _ _ _ (by simp; omega) (HO.out.cell 2 rfl); clear hSw; go_simp
                  try simp only [Act.put, List.getElem_toArray, List.getElem_cons_succ, List.getElem_cons_zero, List.setIfInBounds_toArray, List.set_cons_zero, List.set_cons_succ]
                  refine wpAnyH_take (i := 2) (v := .bool true) rfl (by kernel_rfl) (by kernel_rfl) (by kernel_rfl) (fun _ _ _ h => h) (Or.inl ⟨by rfl, fun w hSw => ?_⟩) hHeld ?_
                  · clear hSw; go_simp; all_goals (try first | rfl | omega)
                  try simp only [Act.put, List.getElem_toArray, List.getElem_cons_succ, List.getElem_cons_zero, List.setIfInBounds_toArray, List.set_cons_zero, List.set_cons_succ]
                  refine wpAnyH_take (i := 3) (v := .bool true) rfl (by kernel_rfl) (by kernel_rfl) (by kernel_rfl) (fun _ _ _ h => h) (Or.inl ⟨by rfl, fun w hSw => ?_⟩) hHeld ?_
                  · clear hSw; go_simp; all_goals (try first | rfl | omega)
                  try simp only [Act.put, List.getElem_toArray, List.getElem_cons_succ, List.getElem_cons_zero, List.setIfInBounds_toArray, List.set_cons_zero, List.set_cons_succ]
                  refine wpAnyH_take (i := 4) (v := .bool false) rfl (by kernel_rfl) (by kernel_rfl) (by kernel_rfl) (fun _ _ _ h => h) (Or.inl ⟨by rfl, fun w hSw => ?_⟩) hHeld ?_
                  · clear hSw; go_simp; all_goals (try first | rfl | omega)
                  try simp only [Act.put, List.getElem_toArray, List.getElem_cons_succ, List.getElem_cons_zero, List.setIfInBounds_toArray, List.set_cons_zero, List.set_cons_succ]
                  refine wpAnyH_take (i := 5) (v := .agg #[.bool true, .bool true, .bool false]) rfl (by kernel_rfl) (by kernel_rfl) (by kernel_rfl) (fun _ _ _ h => h) (Or.inl ⟨by rfl, fun w hSw => ?_⟩) hHeld ?_
                  · clear hSw; go_simp; all_goals (try first | rfl | omega)
                  try simp only [Act.put, List.getElem_toArray, List.getElem_cons_succ, List.getElem_cons_zero, List.setIfInBounds_toArray, List.set_cons_zero, List.set_cons_succ]
                  refine wpAnyH_take (i := 6) (v := .bool false) rfl (by kernel_rfl) (by kernel_rfl) (by kernel_rfl) (fun _ _ _ h => h) (Or.inl ⟨by rfl, fun w hSw => ?_⟩) hHeld ?_
                  · clear hSw; go_simp; all_goals (try first | rfl | kernel_rfl)
                  try simp only [Act.put, List.getElem_toArray, List.getElem_cons_succ, List.getElem_cons_zero, List.setIfInBounds_toArray, List.set_cons_zero, List.set_cons_succ]
                  refine wpAnyH_ready (rs := [7]) (by kernel_rfl) (by simp) ?_
                  refine AllReadyH.cons rfl (fun K hK => ?_) ?_
                  · rw [if_pos (by rfl)]
                    have hbp := H2r.out.belowS HBd.out
                    have q0 := hbp.cell 0 rfl
                    have q1 := hbp.cell 1 rfl
                    have q2 := hbp.cell 2 rfl
                    have q3 := hbp.cell 3 rfl
                    have qf0 := hbp.free 0
                    have qf1 := hbp.free 1
                    have qf2 := hbp.free 2
                    have qf3 := hbp.free 3
                    have qz := hbp.lt
                    clear hbp
                    go_simp
                    show K _ _
                    refine hK.out _ _ (by exact (((hHeld.setCell' (by simp) _).setCell' (by simp) _).setCell' (by simp) _).setCell' (by simp) _) (fun hHeld => ?_)
                    clear hK K
                    try simp only [Act.put, List.getElem_toArray, List.getElem_cons_succ, List.getElem_cons_zero, List.setIfInBounds_toArray, List.set_cons_zero, List.set_cons_succ]
                    refine wpAnyH_take (i := 8) (v := .bool false) rfl (by kernel_rfl) (by kernel_rfl) (by kernel_rfl) (fun _ _ _ h => h) (Or.inl ⟨by rfl, fun w hSw => ?_⟩) hHeld ?_
                    · clear hSw; go_simp; all_goals (try first | rfl | omega)
                    try simp only [Act.put, List.getElem_toArray, List.getElem_cons_succ, List.getElem_cons_zero, List.setIfInBounds_toArray, List.set_cons_zero, List.set_cons_succ]
                    refine wpAnyH_done (by kernel_rfl) ?_ _
                    have HZ := Lib.hid (((((H2r.out.belowS HBd.out).set 0 (.int .i64 K)).set 1 (.int .i64 v1)).set 2 (.int .i64 v2)).set 3 (.string ⟨#[]⟩))
                    have HBZ := Lib.hid (((((HBr.out.trans (HBd.out.mono (Below.size HBr.out))).setCell (p := ⟨w.heap.size, 0, none⟩) (by simp) (.int .i64 K)).setCell (p := ⟨w.heap.size, 1, none⟩) (by simp) (.int .i64 v1)).setCell (p := ⟨w.heap.size, 2, none⟩) (by simp) (.int .i64 v2)).setCell (p := ⟨w.heap.size, 3, none⟩) (by simp) (.string ⟨#[]⟩))
                    have g0 := HZ.out.cell 0 rfl
                    have g1 := HZ.out.cell 1 rfl
                    have g2 := HZ.out.cell 2 rfl
                    have g3 := HZ.out.cell 3 rfl
                    go_wp2
                    refine bodyPost_ret (v := .tuple #[.agg #[.int .i64 K, .int .i64 v1, .int .i64 v2, .string ⟨#[]⟩], .bool false]) (by simp [results, Tryd.results23, go_sem, g0, g1, g2, g3]) rfl ⟨by rw [HE.out] <;> rfl, HBZ.out⟩
                  exact AllReadyH.nil
                | false =>
                  refine wp_region_held_drew (S := fun w' => Keep (fun b => b ≠ w.heap.size) w8 w') (by kernel_rfl) (by exact Keep.drew _ _) (fun hHeld => ?_)
                  obtain ⟨wd', hwd⟩ : ∃ wd', wd' = w8.drew := ⟨_, rfl⟩
                  have HBd := Lib.hid (show Below w8.heap.size w8 wd' by rw [hwd]; exact (Below.refl _ _).drew)
                  rw [← hwd] at hHeld ⊢
                  clear hwd
                  refine wpAnyH_take (i := 0) (v := .agg #[.int .i64 K, .int .i64 v1, .int .i64 v2, .string ⟨#[]⟩]) rfl (by kernel_rfl) (by kernel_rfl) (by kernel_rfl) (fun _ _ _ h => h) (Or.inl ⟨by rfl, fun w hSw => ?_⟩) hHeld ?_
                  · have q0 := hSw _ _ _ (by simp; omega) (HK5.out.cell 0 rfl); have q1 := hSw _ _ _ (by simp; omega) (HK5.out.cell 1 rfl); have q2 := hSw _ _ _ (by simp; omega) (HK5.out.cell 2 rfl); have q3 := hSw _ _ _ (by simp; omega) (HK5.out.cell 3 rfl); clear hSw; go_simp
                  try simp only [Act.put, List.getElem_toArray, List.getElem_cons_succ, List.getElem_cons_zero, List.setIfInBounds_toArray, List.set_cons_zero, List.set_cons_succ]
                  refine wpAnyH_take (i := 1) (v := .agg #[.bool false, .bool false, .bool false]) rfl (by kernel_rfl) (by kernel_rfl) (by kernel_rfl) (fun _ _ _ h => h) (Or.inl ⟨by rfl, fun w hSw => ?_⟩) hHeld ?_
                  · have q0 := hSw _ _ _ (by simp; omega) (HO.out.cell 0 rfl); have q1 := hSw _ _ _ (by simp; omega) (HO.out.cell 1 rfl); have q2 := hSw _ _ _ (by simp; omega) (HO.out.cell 2 rfl); clear hSw; go_simp
                  try simp only [Act.put, List.getElem_toArray, List.getElem_cons_succ, List.getElem_cons_zero, List.setIfInBounds_toArray, List.set_cons_zero, List.set_cons_succ]
                  refine wpAnyH_take (i := 2) (v := .bool true) rfl (by kernel_rfl) (by kernel_rfl) (by kernel_rfl) (fun _ _ _ h => h) (Or.inl ⟨by rfl, fun w hSw => ?_⟩) hHeld ?_
                  · clear hSw; go_simp; all_goals (try first | rfl | omega)
                  try simp only [Act.put, List.getElem_toArray, List.getElem_cons_succ, List.getElem_cons_zero, List.setIfInBounds_toArray, List.set_cons_zero, List.set_cons_succ]
                  refine wpAnyH_take (i := 3) (v := .bool true) rfl (by kernel_rfl) (by kernel_rfl) (by kernel_rfl) (fun _ _ _ h => h) (Or.inl ⟨by rfl, fun w hSw => ?_⟩) hHeld ?_
                  · clear hSw; go_simp; all_goals (try first | rfl | omega)
                  try simp only [Act.put, List.getElem_toArray, List.getElem_cons_succ, List.getElem_cons_zero, List.setIfInBounds_toArray, List.set_cons_zero, List.set_cons_succ]
                  refine wpAnyH_take (i := 4) (v := .bool false) rfl (by kernel_rfl) (by kernel_rfl) (by kernel_rfl) (fun _ _ _ h => h) (Or.inl ⟨by rfl, fun w hSw => ?_⟩) hHeld ?_
                  · clear hSw; go_simp; all_goals (try first | rfl | omega)
                  try simp only [Act.put, List.getElem_toArray, List.getElem_cons_succ, List.getElem_cons_zero, List.setIfInBounds_toArray, List.set_cons_zero, List.set_cons_succ]
                  refine wpAnyH_take (i := 5) (v := .agg #[.bool true, .bool true, .bool false]) rfl (by kernel_rfl) (by kernel_rfl) (by kernel_rfl) (fun _ _ _ h => h) (Or.inl ⟨by rfl, fun w hSw => ?_⟩) hHeld ?_
                  · clear hSw; go_simp; all_goals (try first | rfl | omega)
                  try simp only [Act.put, List.getElem_toArray, List.getElem_cons_succ, List.getElem_cons_zero, List.setIfInBounds_toArray, List.set_cons_zero, List.set_cons_succ]
                  refine wpAnyH_take (i := 6) (v := .bool false) rfl (by kernel_rfl) (by kernel_rfl) (by kernel_rfl) (fun _ _ _ h => h) (Or.inl ⟨by rfl, fun w hSw => ?_⟩) hHeld ?_
                  · clear hSw; go_simp; all_goals (try first | rfl | kernel_rfl)
                  try simp only [Act.put, List.getElem_toArray, List.getElem_cons_succ, List.getElem_cons_zero, List.setIfInBounds_toArray, List.set_cons_zero, List.set_cons_succ]
                  refine wpAnyH_ready (rs := [7]) (by kernel_rfl) (by simp) ?_
                  refine AllReadyH.cons rfl (fun K hK => ?_) ?_
                  · rw [if_pos (by rfl)]
                    have hbp := H2r.out.belowS HBd.out
                    have q0 := hbp.cell 0 rfl
                    have q1 := hbp.cell 1 rfl
                    have q2 := hbp.cell 2 rfl
                    have q3 := hbp.cell 3 rfl
                    have qf0 := hbp.free 0
                    have qf1 := hbp.free 1
                    have qf2 := hbp.free 2
                    have qf3 := hbp.free 3
                    have qz := hbp.lt
                    clear hbp
                    go_simp
                    show K _ _
                    refine hK.out _ _ (by exact (((hHeld.setCell' (by simp) _).setCell' (by simp) _).setCell' (by simp) _).setCell' (by simp) _) (fun hHeld => ?_)
                    clear hK K
                    try simp only [Act.put, List.getElem_toArray, List.getElem_cons_succ, List.getElem_cons_zero, List.setIfInBounds_toArray, List.set_cons_zero, List.set_cons_succ]
                    refine wpAnyH_take (i := 8) (v := .bool false) rfl (by kernel_rfl) (by kernel_rfl) (by kernel_rfl) (fun _ _ _ h => h) (Or.inl ⟨by rfl, fun w hSw => ?_⟩) hHeld ?_
                    · clear hSw; go_simp; all_goals (try first | rfl | omega)
                    try simp only [Act.put, List.getElem_toArray, List.getElem_cons_succ, List.getElem_cons_zero, List.setIfInBounds_toArray, List.set_cons_zero, List.set_cons_succ]
                    refine wpAnyH_done (by kernel_rfl) ?_ _
                    have HZ := Lib.hid (((((H2r.out.belowS HBd.out).set 0 (.int .i64 K)).set 1 (.int .i64 v1)).set 2 (.int .i64 v2)).set 3 (.string ⟨#[]⟩))
                    have HBZ := Lib.hid (((((HBr.out.trans (HBd.out.mono (Below.size HBr.out))).setCell (p := ⟨w.heap.size, 0, none⟩) (by simp) (.int .i64 K)).setCell (p := ⟨w.heap.size, 1, none⟩) (by simp) (.int .i64 v1)).setCell (p := ⟨w.heap.size, 2, none⟩) (by simp) (.int .i64 v2)).setCell (p := ⟨w.heap.size, 3, none⟩) (by simp) (.string ⟨#[]⟩))
                    have g0 := HZ.out.cell 0 rfl
                    have g1 := HZ.out.cell 1 rfl
                    have g2 := HZ.out.cell 2 rfl
                    have g3 := HZ.out.cell 3 rfl
                    go_wp2
                    refine bodyPost_ret (v := .tuple #[.agg #[.int .i64 K, .int .i64 v1, .int .i64 v2, .string ⟨#[]⟩], .bool false]) (by simp [results, Tryd.results23, go_sem, g0, g1, g2, g3]) rfl ⟨by rw [HE.out] <;> rfl, HBZ.out⟩
                  exact AllReadyH.nil
        · by_cases hz : ps.length = 0
          · have HLEN := Lib.hid (show ps.length ≠ 2 from hlen)
            obtain rfl := List.eq_nil_of_length_eq_zero hz
            clear hlen
            go_wp2_with (go_at_call 17; refine (has_any K _).mono ?_; rintro e w' ⟨rfl, rfl⟩; rw [hasN_eq, hasP_eq, hasT_eq, HBN.out, HBP.out, HBT.out])
            go_loop [47, 11] (fun j c => ∃ n : Nat, n ≤ 3 ∧ j = .int .i64 n ∧ c = .int .i64 (([0, 1, 2, 2] : List Int).getD n 0)) (fun j _ => 3 - (intOf j).toNat)
            case atStart => exact ⟨0, by omega, rfl, rfl⟩
            case round =>
              obtain ⟨n, hn, rfl, rfl⟩ := hrel
              have hc : n = 0 ∨ n = 1 ∨ n = 2 ∨ n = 3 := by omega
              rcases hc with rfl | rfl | rfl | rfl
              · have hix : ∀ w' : World, (Instr.index 69 (.agg #[.bool true, .bool true, .bool false]) (.int .i64 0)).run Tryd.prog w' = .ok (.bool true) w' := fun _ => by kernel_rfl
                go_wp2
                go_round
                case rel => exact ⟨1, by omega, by go_num, by first | rfl | go_num⟩
                case measure => simp [intOf]
              · have hix : ∀ w' : World, (Instr.index 69 (.agg #[.bool true, .bool true, .bool false]) (.int .i64 1)).run Tryd.prog w' = .ok (.bool true) w' := fun _ => by kernel_rfl
                go_wp2
                go_round
                case rel => exact ⟨2, by omega, by go_num, by first | rfl | go_num⟩
                case measure => simp [intOf]
              · have hix : ∀ w' : World, (Instr.index 69 (.agg #[.bool true, .bool true, .bool false]) (.int .i64 2)).run Tryd.prog w' = .ok (.bool false) w' := fun _ => by kernel_rfl
                go_wp2
                go_round
                case rel => exact ⟨3, by omega, by go_num, by first | rfl | go_num⟩
                case measure => simp [intOf]
              · have HE := Lib.hid (show oneL s = (⟨K, 0, 0, []⟩, false) by rw [HW.out, if_pos (.inr (by rw [HM.out]; exact HLEN.out))])
                have x1 := HK5.out.cell 1 rfl
                have x2 := HK5.out.cell 2 rfl
                have x3 := HK5.out.cell 3 rfl
                have u0 := H2r.out.cell 0 rfl
                have u1 := H2r.out.cell 1 rfl
                have u2 := H2r.out.cell 2 rfl
                have u3 := H2r.out.cell 3 rfl
                have uf0 := H2r.out.free 0
                have uf1 := H2r.out.free 1
                have uf2 := H2r.out.free 2
                have uf3 := H2r.out.free 3
                have uz := H2r.out.lt
                have HZ := Lib.hid ((((H2r.out.set 0 (.int .i64 K)).set 1 (.int .i64 0)).set 2 (.int .i64 0)).set 3 (.string ⟨#[]⟩))
                have HBZ := Lib.hid ((((HBr.out.setCell (p := ⟨w.heap.size, 0, none⟩) (by simp) (.int .i64 K)).setCell (p := ⟨w.heap.size, 1, none⟩) (by simp) (.int .i64 0)).setCell (p := ⟨w.heap.size, 2, none⟩) (by simp) (.int .i64 0)).setCell (p := ⟨w.heap.size, 3, none⟩) (by simp) (.string ⟨#[]⟩))
                have g0 := HZ.out.cell 0 rfl
                have g1 := HZ.out.cell 1 rfl
                have g2 := HZ.out.cell 2 rfl
                have g3 := HZ.out.cell 3 rfl
                go_wp2
                refine bodyPost_ret (v := .tuple #[.agg #[.int .i64 K, .int .i64 0, .int .i64 0, .string ⟨#[]⟩], .bool false]) (by simp [results, Tryd.results23, go_sem, g0, g1, g2, g3]) rfl ⟨by rw [HE.out] <;> rfl, HBZ.out⟩
          · have HLEN := Lib.hid (show ps.length ≠ 2 from hlen)
            have hz1 : 0 < ps.length := by omega
            have hz2 : ¬ ps.length + 1 = 1 := by omega
            have hl1 : ((ps.length : Int) != 2) = true := by rw [bne_iff_ne]; omega
            go_wp2_with (go_at_call 17; refine (has_any K _).mono ?_; rintro e w' ⟨rfl, rfl⟩; rw [hasN_eq, hasP_eq, hasT_eq, HBN.out, HBP.out, HBT.out])
            go_loop [47, 11] (fun j c => ∃ n : Nat, n ≤ 3 ∧ j = .int .i64 n ∧ c = .int .i64 (([0, 1, 2, 2] : List Int).getD n 0)) (fun j _ => 3 - (intOf j).toNat)
            case atStart => exact ⟨0, by omega, rfl, rfl⟩
            case round =>
              obtain ⟨n, hn, rfl, rfl⟩ := hrel
              have hc : n = 0 ∨ n = 1 ∨ n = 2 ∨ n = 3 := by omega
              rcases hc with rfl | rfl | rfl | rfl
              · have hix : ∀ w' : World, (Instr.index 69 (.agg #[.bool true, .bool true, .bool false]) (.int .i64 0)).run Tryd.prog w' = .ok (.bool true) w' := fun _ => by kernel_rfl
                go_wp2
                go_round
                case rel => exact ⟨1, by omega, by go_num, by first | rfl | go_num⟩
                case measure => simp [intOf]
              · have hix : ∀ w' : World, (Instr.index 69 (.agg #[.bool true, .bool true, .bool false]) (.int .i64 1)).run Tryd.prog w' = .ok (.bool true) w' := fun _ => by kernel_rfl
                go_wp2
                go_round
                case rel => exact ⟨2, by omega, by go_num, by first | rfl | go_num⟩
                case measure => simp [intOf]
              · have hix : ∀ w' : World, (Instr.index 69 (.agg #[.bool true, .bool true, .bool false]) (.int .i64 2)).run Tryd.prog w' = .ok (.bool false) w' := fun _ => by kernel_rfl
                go_wp2
                go_round
                case rel => exact ⟨3, by omega, by go_num, by first | rfl | go_num⟩
                case measure => simp [intOf]
              · have HE := Lib.hid (show oneL s = (⟨K, 0, 0, []⟩, false) by rw [HW.out, if_pos (.inr (by rw [HM.out]; exact HLEN.out))])
                have x1 := HK5.out.cell 1 rfl
                have x2 := HK5.out.cell 2 rfl
                have x3 := HK5.out.cell 3 rfl
                have u0 := H2r.out.cell 0 rfl
                have u1 := H2r.out.cell 1 rfl
                have u2 := H2r.out.cell 2 rfl
                have u3 := H2r.out.cell 3 rfl
                have uf0 := H2r.out.free 0
                have uf1 := H2r.out.free 1
                have uf2 := H2r.out.free 2
                have uf3 := H2r.out.free 3
                have uz := H2r.out.lt
                have HZ := Lib.hid ((((H2r.out.set 0 (.int .i64 K)).set 1 (.int .i64 0)).set 2 (.int .i64 0)).set 3 (.string ⟨#[]⟩))
                have HBZ := Lib.hid ((((HBr.out.setCell (p := ⟨w.heap.size, 0, none⟩) (by simp) (.int .i64 K)).setCell (p := ⟨w.heap.size, 1, none⟩) (by simp) (.int .i64 0)).setCell (p := ⟨w.heap.size, 2, none⟩) (by simp) (.int .i64 0)).setCell (p := ⟨w.heap.size, 3, none⟩) (by simp) (.string ⟨#[]⟩))
                have g0 := HZ.out.cell 0 rfl
                have g1 := HZ.out.cell 1 rfl
                have g2 := HZ.out.cell 2 rfl
                have g3 := HZ.out.cell 3 rfl
                go_wp2
                refine bodyPost_ret (v := .tuple #[.agg #[.int .i64 K, .int .i64 0, .int .i64 0, .string ⟨#[]⟩], .bool false]) (by simp [results, Tryd.results23, go_sem, g0, g1, g2, g3]) rfl ⟨by rw [HE.out] <;> rfl, HBZ.out⟩
      · have HBN := Lib.hid bN
        have HBP := Lib.hid bP
        have HBT := Lib.hid bT
        have HBK := Lib.hid bK
        have HM := Lib.hid (show partsMany K = 0 by unfold partsMany; rw [bN, bP, bT]; rfl)
        have hk0 : (K == 0) = false := by simpa using bK
        have hk0' : ¬ K = 0 := bK
        clear bN bP bT bK
        by_cases hlen : ps.length = 0
        · obtain rfl := List.eq_nil_of_length_eq_zero hlen
          clear hlen
          have HE := Lib.hid (show oneL s = (⟨K, 0, 0, []⟩, decide (false = false ∧ false = false ∧ false = false)) by rw [HW.out, if_neg (by rw [HM.out]; simp [HBK.out])]; unfold oneA oneOk oneN oneP oneT restN restP; simp only [HBN.out, HBP.out, HBT.out, if_true, if_false, Bool.false_eq_true, List.headD_cons, List.tail_cons])
          go_wp2_with (go_at_call 17; refine (has_any K _).mono ?_; rintro e w' ⟨rfl, rfl⟩; rw [hasN_eq, hasP_eq, hasT_eq, HBN.out, HBP.out, HBT.out])
          go_loop [47, 11] (fun j c => ∃ n : Nat, n ≤ 3 ∧ j = .int .i64 n ∧ c = .int .i64 (([0, 0, 0, 0] : List Int).getD n 0)) (fun j _ => 3 - (intOf j).toNat)
          case atStart => exact ⟨0, by omega, rfl, rfl⟩
          case round =>
            obtain ⟨n, hn, rfl, rfl⟩ := hrel
            have hc : n = 0 ∨ n = 1 ∨ n = 2 ∨ n = 3 := by omega
            rcases hc with rfl | rfl | rfl | rfl
            · have hix : ∀ w' : World, (Instr.index 69 (.agg #[.bool false, .bool false, .bool false]) (.int .i64 0)).run Tryd.prog w' = .ok (.bool false) w' := fun _ => by kernel_rfl
              go_wp2
              go_round
              case rel => exact ⟨1, by omega, by go_num, by first | rfl | go_num⟩
              case measure => simp [intOf]
            · have hix : ∀ w' : World, (Instr.index 69 (.agg #[.bool false, .bool false, .bool false]) (.int .i64 1)).run Tryd.prog w' = .ok (.bool false) w' := fun _ => by kernel_rfl
              go_wp2
              go_round
              case rel => exact ⟨2, by omega, by go_num, by first | rfl | go_num⟩
              case measure => simp [intOf]
            · have hix : ∀ w' : World, (Instr.index 69 (.agg #[.bool false, .bool false, .bool false]) (.int .i64 2)).run Tryd.prog w' = .ok (.bool false) w' := fun _ => by kernel_rfl
              go_wp2
              go_round
              case rel => exact ⟨3, by omega, by go_num, by first | rfl | go_num⟩
              case measure => simp [intOf]
            · go_upto_region 21 with fail
              obtain ⟨w4, hwl⟩ : ∃ w4, w4 = (wr.alloc (.cells #[.bool false, .bool false, .bool false] 69)) := ⟨_, rfl⟩
              have hBl : Below wr.heap.size wr w4 := by rw [hwl]; exact ((Below.refl _ _).alloc (by first | exact Nat.le_refl _ | (simp; done) | (simp; omega)) _)
              have HTx := Lib.hid (HTr.out.belowS hBl)
              have HO := Lib.hid (show BoxAt w4 wr.heap.size [.bool false, .bool false, .bool false] 69 by rw [hwl]; exact BoxAt.new wr [.bool false, .bool false, .bool false] _)
              rw [← hwl]
              replace HK5 := Lib.hid (HK5.out.belowS hBl)
              replace H2r := Lib.hid (H2r.out.belowS hBl)
              replace HPr := Lib.hid (HPr.out.belowS hBl)
              replace HBr := Lib.hid (HBr.out.trans (hBl.mono HBr.out.size))
              clear hwl hBl
              have zo := HO.out.lt
              clear y0 yf xp
              go_upto_region 29 with fail
              refine wp_region_held_drew (S := fun w' => Keep (fun b => b ≠ w.heap.size) w4 w') (by kernel_rfl) (by exact Keep.drew _ _) (fun hHeld => ?_)
              obtain ⟨wd', hwd⟩ : ∃ wd', wd' = w4.drew := ⟨_, rfl⟩
              have HBd := Lib.hid (show Below w4.heap.size w4 wd' by rw [hwd]; exact (Below.refl _ _).drew)
              rw [← hwd] at hHeld ⊢
              clear hwd
              refine wpAnyH_take (i := 0) (v := .agg #[.int .i64 K, .int .i64 0, .int .i64 0, .string ⟨#[]⟩]) rfl (by kernel_rfl) (by kernel_rfl) (by kernel_rfl) (fun _ _ _ h => h) (Or.inl ⟨by rfl, fun w hSw => ?_⟩) hHeld ?_
              · have q0 := hSw _ _ _ (by simp; omega) (HK5.out.cell 0 rfl); have q1 := hSw _ _ _ (by simp; omega) (HK5.out.cell 1 rfl); have q2 := hSw _ _ _ (by simp; omega) (HK5.out.cell 2 rfl); have q3 := hSw _ _ _ (by simp; omega) (HK5.out.cell 3 rfl); clear hSw; go_simp
              try simp only [Act.put, List.getElem_toArray, List.getElem_cons_succ, List.getElem_cons_zero, List.setIfInBounds_toArray, List.set_cons_zero, List.set_cons_succ]
              refine wpAnyH_take (i := 1) (v := .agg #[.bool false, .bool false, .bool false]) rfl (by kernel_rfl) (by kernel_rfl) (by kernel_rfl) (fun _ _ _ h => h) (Or.inl ⟨by rfl, fun w hSw => ?_⟩) hHeld ?_
              · have q0 := hSw _ _ _ (by simp; omega) (HO.out.cell 0 rfl); have q1 := hSw _ _ _ (by simp; omega) (HO.out.cell 1 rfl); have q2 := hSw _ _ _ (by simp; omega) (HO.out.cell 2 rfl); clear hSw; go_simp
              try simp only [Act.put, List.getElem_toArray, List.getElem_cons_succ, List.getElem_cons_zero, List.setIfInBounds_toArray, List.set_cons_zero, List.set_cons_succ]
              refine wpAnyH_take (i := 2) (v := .bool false) rfl (by kernel_rfl) (by kernel_rfl) (by kernel_rfl) (fun _ _ _ h => h) (Or.inl ⟨by rfl, fun w hSw => ?_⟩) hHeld ?_
              · clear hSw; go_simp; all_goals (try first | rfl | omega)
              try simp only [Act.put, List.getElem_toArray, List.getElem_cons_succ, List.getElem_cons_zero, List.setIfInBounds_toArray, List.set_cons_zero, List.set_cons_succ]
              refine wpAnyH_take (i := 3) (v := .bool false) rfl (by kernel_rfl) (by kernel_rfl) (by kernel_rfl) (fun _ _ _ h => h) (Or.inl ⟨by rfl, fun w hSw => ?_⟩) hHeld ?_
              · clear hSw; go_simp; all_goals (try first | rfl | omega)
              try simp only [Act.put, List.getElem_toArray, List.getElem_cons_succ, List.getElem_cons_zero, List.setIfInBounds_toArray, List.set_cons_zero, List.set_cons_succ]
              refine wpAnyH_take (i := 4) (v := .bool false) rfl (by kernel_rfl) (by kernel_rfl) (by kernel_rfl) (fun _ _ _ h => h) (Or.inl ⟨by rfl, fun w hSw => ?_⟩) hHeld ?_
              · clear hSw; go_simp; all_goals (try first | rfl | omega)
              try simp only [Act.put, List.getElem_toArray, List.getElem_cons_succ, List.getElem_cons_zero, List.setIfInBounds_toArray, List.set_cons_zero, List.set_cons_succ]
              refine wpAnyH_take (i := 5) (v := .agg #[.bool false, .bool false, .bool false]) rfl (by kernel_rfl) (by kernel_rfl) (by kernel_rfl) (fun _ _ _ h => h) (Or.inl ⟨by rfl, fun w hSw => ?_⟩) hHeld ?_
              · clear hSw; go_simp; all_goals (try first | rfl | omega)
              try simp only [Act.put, List.getElem_toArray, List.getElem_cons_succ, List.getElem_cons_zero, List.setIfInBounds_toArray, List.set_cons_zero, List.set_cons_succ]
              refine wpAnyH_take (i := 6) (v := .bool true) rfl (by kernel_rfl) (by kernel_rfl) (by kernel_rfl) (fun _ _ _ h => h) (Or.inl ⟨by rfl, fun w hSw => ?_⟩) hHeld ?_
              · clear hSw; go_simp; all_goals (try first | rfl | kernel_rfl)
              try simp only [Act.put, List.getElem_toArray, List.getElem_cons_succ, List.getElem_cons_zero, List.setIfInBounds_toArray, List.set_cons_zero, List.set_cons_succ]
              refine wpAnyH_ready (rs := [7]) (by kernel_rfl) (by simp) ?_
              refine AllReadyH.cons rfl (fun K hK => ?_) ?_
              · rw [if_pos (by rfl)]
                have hbp := H2r.out.belowS HBd.out
                have q0 := hbp.cell 0 rfl
                have q1 := hbp.cell 1 rfl
                have q2 := hbp.cell 2 rfl
                have q3 := hbp.cell 3 rfl
                have qf0 := hbp.free 0
                have qf1 := hbp.free 1
                have qf2 := hbp.free 2
                have qf3 := hbp.free 3
                have qz := hbp.lt
                clear hbp
                go_simp
                show K _ _
                refine hK.out _ _ (by exact (((hHeld.setCell' (by simp) _).setCell' (by simp) _).setCell' (by simp) _).setCell' (by simp) _) (fun hHeld => ?_)
                clear hK K
                try simp only [Act.put, List.getElem_toArray, List.getElem_cons_succ, List.getElem_cons_zero, List.setIfInBounds_toArray, List.set_cons_zero, List.set_cons_succ]
                refine wpAnyH_take (i := 8) (v := .bool true) rfl (by kernel_rfl) (by kernel_rfl) (by kernel_rfl) (fun _ _ _ h => h) (Or.inl ⟨by rfl, fun w hSw => ?_⟩) hHeld ?_
                · clear hSw; go_simp; all_goals (try first | rfl | omega)
                try simp only [Act.put, List.getElem_toArray, List.getElem_cons_succ, List.getElem_cons_zero, List.setIfInBounds_toArray, List.set_cons_zero, List.set_cons_succ]
                refine wpAnyH_done (by kernel_rfl) ?_ _
                have HZ := Lib.hid (((((H2r.out.belowS HBd.out).set 0 (.int .i64 K)).set 1 (.int .i64 0)).set 2 (.int .i64 0)).set 3 (.string ⟨#[]⟩))
                have HBZ := Lib.hid (((((HBr.out.trans (HBd.out.mono (Below.size HBr.out))).setCell (p := ⟨w.heap.size, 0, none⟩) (by simp) (.int .i64 K)).setCell (p := ⟨w.heap.size, 1, none⟩) (by simp) (.int .i64 0)).setCell (p := ⟨w.heap.size, 2, none⟩) (by simp) (.int .i64 0)).setCell (p := ⟨w.heap.size, 3, none⟩) (by simp) (.string ⟨#[]⟩))
                have g0 := HZ.out.cell 0 rfl
                have g1 := HZ.out.cell 1 rfl
                have g2 := HZ.out.cell 2 rfl
                have g3 := HZ.out.cell 3 rfl
                go_wp2
                refine bodyPost_ret (v := .tuple #[.agg #[.int .i64 K, .int .i64 0, .int .i64 0, .string ⟨#[]⟩], .bool true]) (by simp [results, Tryd.results23, go_sem, g0, g1, g2, g3]) rfl ⟨by rw [HE.out] <;> rfl, HBZ.out⟩
              exact AllReadyH.nil
        · have hz : ¬ ps.length = 0 := hlen
          have HLEN := Lib.hid (show ps.length ≠ 0 from hlen)
          have hz1 : 0 < ps.length := by omega
          have hz2 : ¬ ps.length + 1 = 1 := by omega
          have hl1 : ((ps.length : Int) != 0) = true := by rw [bne_iff_ne]; omega
          go_wp2_with (go_at_call 17; refine (has_any K _).mono ?_; rintro e w' ⟨rfl, rfl⟩; rw [hasN_eq, hasP_eq, hasT_eq, HBN.out, HBP.out, HBT.out])
          go_loop [47, 11] (fun j c => ∃ n : Nat, n ≤ 3 ∧ j = .int .i64 n ∧ c = .int .i64 (([0, 0, 0, 0] : List Int).getD n 0)) (fun j _ => 3 - (intOf j).toNat)
          case atStart => exact ⟨0, by omega, rfl, rfl⟩
          case round =>
            obtain ⟨n, hn, rfl, rfl⟩ := hrel
            have hc : n = 0 ∨ n = 1 ∨ n = 2 ∨ n = 3 := by omega
            rcases hc with rfl | rfl | rfl | rfl
            · have hix : ∀ w' : World, (Instr.index 69 (.agg #[.bool false, .bool false, .bool false]) (.int .i64 0)).run Tryd.prog w' = .ok (.bool false) w' := fun _ => by kernel_rfl
              go_wp2
              go_round
              case rel => exact ⟨1, by omega, by go_num, by first | rfl | go_num⟩
              case measure => simp [intOf]
            · have hix : ∀ w' : World, (Instr.index 69 (.agg #[.bool false, .bool false, .bool false]) (.int .i64 1)).run Tryd.prog w' = .ok (.bool false) w' := fun _ => by kernel_rfl
              go_wp2
              go_round
              case rel => exact ⟨2, by omega, by go_num, by first | rfl | go_num⟩
              case measure => simp [intOf]
            · have hix : ∀ w' : World, (Instr.index 69 (.agg #[.bool false, .bool false, .bool false]) (.int .i64 2)).run Tryd.prog w' = .ok (.bool false) w' := fun _ => by kernel_rfl
              go_wp2
              go_round
              case rel => exact ⟨3, by omega, by go_num, by first | rfl | go_num⟩
              case measure => simp [intOf]
            · have HE := Lib.hid (show oneL s = (⟨K, 0, 0, []⟩, false) by rw [HW.out, if_pos (.inr (by rw [HM.out]; exact HLEN.out))])
              have x1 := HK5.out.cell 1 rfl
              have x2 := HK5.out.cell 2 rfl
              have x3 := HK5.out.cell 3 rfl
              have u0 := H2r.out.cell 0 rfl
              have u1 := H2r.out.cell 1 rfl
              have u2 := H2r.out.cell 2 rfl
              have u3 := H2r.out.cell 3 rfl
              have uf0 := H2r.out.free 0
              have uf1 := H2r.out.free 1
              have uf2 := H2r.out.free 2
              have uf3 := H2r.out.free 3
              have uz := H2r.out.lt
              have HZ := Lib.hid ((((H2r.out.set 0 (.int .i64 K)).set 1 (.int .i64 0)).set 2 (.int .i64 0)).set 3 (.string ⟨#[]⟩))
              have HBZ := Lib.hid ((((HBr.out.setCell (p := ⟨w.heap.size, 0, none⟩) (by simp) (.int .i64 K)).setCell (p := ⟨w.heap.size, 1, none⟩) (by simp) (.int .i64 0)).setCell (p := ⟨w.heap.size, 2, none⟩) (by simp) (.int .i64 0)).setCell (p := ⟨w.heap.size, 3, none⟩) (by simp) (.string ⟨#[]⟩))
              have g0 := HZ.out.cell 0 rfl
              have g1 := HZ.out.cell 1 rfl
              have g2 := HZ.out.cell 2 rfl
              have g3 := HZ.out.cell 3 rfl
              go_wp2
              refine bodyPost_ret (v := .tuple #[.agg #[.int .i64 K, .int .i64 0, .int .i64 0, .string ⟨#[]⟩], .bool false]) (by simp [results, Tryd.results23, go_sem, g0, g1, g2, g3]) rfl ⟨by rw [HE.out] <;> rfl, HBZ.out⟩
end Go.Proofs.YtodcebhfkmlmgaaDoor
