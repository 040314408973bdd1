/- pool.Seal. -/
import Derived.Test.YtghimigffnbhaaaPool
import Derived.Test.YtghimigffnbhaaaLib2
import Derived.Deep.DeepCutAuto
set_option linter.unusedVariables false
set_option linter.unusedSimpArgs false
namespace Go.Proofs.Ytghimigffnbhaaa
open Go Go.RowKit

def sealCode (n : Int) (l : List (List UInt8)) (a : Int) : Int :=
  if poolOk n l = false then 12 else if a < 0 ∨ 4 ≤ a then 2 else if l.length = 0 then 8 else if 1048576 < n then 6 else 0

set_option maxRecDepth 100000 in
set_option maxHeartbeats 1000000 in
theorem pseal_no {G : Nat → Prop} {l : List (List UInt8)} {n a c : Int} {v : Value} {w : World} (h : RdT G w v l) (hc : sealCode n l a = c) (h0 : c ≠ 0) :
    Calls Try.prog 23 #[.agg #[.int .i64 n, v], .int .i64 a] w fun e w' =>
      e = .returned (.tuple #[.agg #[.int .i64 0, .slice none 0 0], .agg #[.int .i64 0, .int .i64 0, .slice none 0 0], .int .i64 c]) ∧ Below w.heap.size w w' := by
  obtain ⟨ad, cap, rfl, -, hcap⟩ := h.form
  unfold maxLen at hcap
  have HR := Lib.hid (fun x y z => h.keep (((Keep.alloc G w x).trans (Keep.alloc G _ y)).trans (Keep.alloc G _ z)) (fun _ h => h))
  have HC := Lib.hid hc
  clear hc
  cases h1 : poolOk n l
  · obtain rfl : c = 12 := by rw [← HC.out]; unfold sealCode; rw [if_pos h1]
    have hcode : poolCode n l = 12 := by unfold poolCode; simp [h1]
    clear h1
    go_enter Try.func23, Try.ntmps23
    go_wp2_with (go_at_call 21; refine (pcheck_any _ _ _ (HR.out _ _ _)).mono ?_; rintro e w1 ⟨rfl, hb⟩; obtain ⟨hc, hf⟩ := bcell hb; have hB : Below w.heap.size w w1 := ((((Below.refl _ w).alloc (Nat.le_refl _) _).alloc (by simp) _).alloc (by simp; omega) _).trans (hb.mono (by simp; omega)))
    refine bodyPost_ret (v := .tuple #[.agg #[.int .i64 0, .slice none 0 0], .agg #[.int .i64 0, .int .i64 0, .slice none 0 0], .int .i64 12]) (by simp [results, Try.results23, go_sem, hc, hf]) rfl ⟨rfl, ?_⟩
    repeat (first | with_reducible exact hB | with_reducible refine Below.setCell ?_ (by first | omega | (simp <;> omega)) _)
  · have hcode : poolCode n l = 0 := by unfold poolCode; simp [h1]
    by_cases h2 : a < 0 ∨ 4 ≤ a
    · obtain rfl : c = 2 := by rw [← HC.out]; unfold sealCode; simp [h1, h2]
      clear h1
      go_enter Try.func23, Try.ntmps23
      rcases h2 with h2 | h2
      all_goals
        go_wp2_with (go_at_call 21; refine (pcheck_any _ _ _ (HR.out _ _ _)).mono ?_; rintro e w1 ⟨rfl, hb⟩; obtain ⟨hc, hf⟩ := bcell hb; have hB : Below w.heap.size w w1 := ((((Below.refl _ w).alloc (Nat.le_refl _) _).alloc (by simp) _).alloc (by simp; omega) _).trans (hb.mono (by simp; omega)))
        refine bodyPost_ret (v := .tuple #[.agg #[.int .i64 0, .slice none 0 0], .agg #[.int .i64 0, .int .i64 0, .slice none 0 0], .int .i64 2]) (by simp [results, Try.results23, go_sem, hc, hf]) rfl ⟨rfl, ?_⟩
        repeat (first | with_reducible exact hB | with_reducible refine Below.setCell ?_ (by first | omega | (simp <;> omega)) _)
    · have g1 : ¬ a < 0 := by omega
      have g2 : ¬ 4 ≤ a := by omega
      clear h2
      by_cases h3 : l.length = 0
      · obtain rfl : c = 8 := by rw [← HC.out]; unfold sealCode; simp [h1, h3, g1, g2]
        have h3' : ((l.length : Int) == 0) = true := by simp [h3]
        clear h1 h3
        go_enter Try.func23, Try.ntmps23
        go_wp2_with (go_at_call 21; refine (pcheck_any _ _ _ (HR.out _ _ _)).mono ?_; rintro e w1 ⟨rfl, hb⟩; obtain ⟨hc, hf⟩ := bcell hb; have hB : Below w.heap.size w w1 := ((((Below.refl _ w).alloc (Nat.le_refl _) _).alloc (by simp) _).alloc (by simp; omega) _).trans (hb.mono (by simp; omega)))
        refine bodyPost_ret (v := .tuple #[.agg #[.int .i64 0, .slice none 0 0], .agg #[.int .i64 0, .int .i64 0, .slice none 0 0], .int .i64 8]) (by simp [results, Try.results23, go_sem, hc, hf]) rfl ⟨rfl, ?_⟩
        repeat (first | with_reducible exact hB | with_reducible refine Below.setCell ?_ (by first | omega | (simp <;> omega)) _)
      · have h3' : ((l.length : Int) == 0) = false := by rw [beq_eq_false_iff_ne]; omega
        obtain ⟨rfl, h4⟩ : c = 6 ∧ 1048576 < n := by
          have := HC.out
          unfold sealCode at this
          by_cases h4 : 1048576 < n
          · simp [h1, h3, g1, g2, h4] at this; exact ⟨this.symm, h4⟩
          · simp [h1, h3, g1, g2, h4] at this; exact absurd this.symm h0
        clear h1 h3
        go_enter Try.func23, Try.ntmps23
        go_wp2_with (go_at_call 21; refine (pcheck_any _ _ _ (HR.out _ _ _)).mono ?_; rintro e w1 ⟨rfl, hb⟩; obtain ⟨hc, hf⟩ := bcell hb; have hB : Below w.heap.size w w1 := ((((Below.refl _ w).alloc (Nat.le_refl _) _).alloc (by simp) _).alloc (by simp; omega) _).trans (hb.mono (by simp; omega)))
        refine bodyPost_ret (v := .tuple #[.agg #[.int .i64 0, .slice none 0 0], .agg #[.int .i64 0, .int .i64 0, .slice none 0 0], .int .i64 6]) (by simp [results, Try.results23, go_sem, hc, hf]) rfl ⟨rfl, ?_⟩
        repeat (first | with_reducible exact hB | with_reducible refine Below.setCell ?_ (by first | omega | (simp <;> omega)) _)

set_option maxRecDepth 100000 in
set_option maxHeartbeats 2000000 in
theorem pseal_ok {G : Nat → Prop} {l : List (List UInt8)} {n a : Int} {v : Value} {w : World} {k : Nat} (h : RdT G w v l) (hc : sealCode n l a = 0) (hk : k = min l.length 4) :
    Calls Try.prog 23 #[.agg #[.int .i64 n, v], .int .i64 a] w fun e w' => ∃ a1 c1 a2 c2,
      e = .returned (.tuple #[.agg #[.int .i64 (n + 1), .slice a1 (l.length - k) c1], .agg #[.int .i64 a, .int .i64 n, .slice a2 k c2], .int .i64 0]) ∧
      RdT (fun b => w.heap.size ≤ b) w' (.slice a1 (l.length - k) c1) (l.drop k) ∧ RdT (fun b => w.heap.size ≤ b) w' (.slice a2 k c2) (l.take k) ∧ Below w.heap.size w w' := by
  obtain ⟨h1, g1, g2, h3, h4⟩ : poolOk n l = true ∧ ¬ a < 0 ∧ ¬ 4 ≤ a ∧ l.length ≠ 0 ∧ ¬ 1048576 < n := by
    unfold sealCode at hc
    by_cases h1 : poolOk n l = false
    · simp [h1] at hc
    · by_cases h2 : a < 0 ∨ 4 ≤ a
      · simp [h1, h2] at hc
      · by_cases h3 : l.length = 0
        · simp [h1, h2, h3] at hc
        · by_cases h4 : 1048576 < n
          · simp [h1, h2, h3, h4] at hc
          · exact ⟨by simpa using h1, by omega, by omega, h3, h4⟩
  have hcode : poolCode n l = 0 := by unfold poolCode; simp [h1]
  obtain ⟨hn1, hl40⟩ : 1 ≤ n ∧ l.length ≤ 40 := by unfold poolOk at h1; simp only [decide_eq_true_eq] at h1; exact ⟨h1.1, h1.2.2.1⟩
  obtain ⟨ad, cap, rfl, hlc, hcap⟩ := h.form
  unfold maxLen at hcap
  obtain ⟨b, o, rfl, -, -⟩ := h.cell 0 (by omega)
  have HR := Lib.hid (fun x y z => h.keep (((Keep.alloc G w x).trans (Keep.alloc G _ y)).trans (Keep.alloc G _ z)) (fun _ h => h))
  have h3' : ((l.length : Int) == 0) = false := by rw [beq_eq_false_iff_ne]; omega
  have HKM := Lib.hid hk
  have hk0 : k ≤ l.length := by omega
  have hk4 : k ≤ 4 := by omega
  clear hc h1 h3 hk
  go_enter Try.func23, Try.ntmps23
  go_wp2_with fail
  refine (pcheck_any _ _ _ (HR.out _ _ _)).mono ?_
  rintro e w1 ⟨rfl, hb⟩
  obtain ⟨hc, hf⟩ := bcell hb
  have hB : Below w.heap.size w w1 := ((((Below.refl _ w).alloc (Nat.le_refl _) _).alloc (by simp) _).alloc (by simp; omega) _).trans (hb.mono (by simp; omega))
  have z1 : w.heap.size + 2 < w1.heap.size := by have := hb.size; simp at this; omega
  have HV := Lib.hid ((HR.out _ _ _).below hb (fun _ h => h))
  have b0 : BoxAt w1 w.heap.size [.int .i64 n, .slice (some ⟨b, o, none⟩) l.length cap] 31 := (((BoxAt.new w [_, _] _).alloc _).alloc _).below hb (by simp; omega)
  have b1 : BoxAt w1 (w.heap.size + 1) [.int .i64 0, .slice none 0 0] 31 := ((BoxAt.newAt (w.alloc _) [_, _] _ (by simp)).alloc _).below hb (by simp)
  have b2 : BoxAt w1 (w.heap.size + 1 + 1) [.int .i64 0, .int .i64 0, .slice none 0 0] 42 := (BoxAt.newAt ((w.alloc _).alloc _) [_, _, _] _ (by simp)).below hb (by simp)
  rw [hcode]
  clear hb hc hf
  have p0 := b0.cell 0 rfl
  have p1 := b0.cell 1 rfl
  go_upto_region 10 with fail
  go_cut [8] (fun s wx => s = .int .i64 (k : Int) ∧ w1 = wx)
  case first =>
    have hkm := HKM.out
    go_wp2
    all_goals (go_meet; exact ⟨by congr 1; omega, rfl⟩)
  case rest =>
    obtain ⟨rfl, rfl⟩ := hcut
    have hkc : k ≤ cap := by omega
    have i0 : (0 : Int) ≤ (k : Int) := by omega
    have i1 : (k : Int) ≤ (cap : Int) := by omega
    have i2 : (k : Int) ≤ (l.length : Int) := by omega
    have HT := Lib.hid (HV.out.take k hk0)
    have z0 : w.heap.size < w1.heap.size := by omega
    have z01 : w.heap.size + 1 < w1.heap.size := by omega
    have m0 : w1.heap.size ≠ w.heap.size := by omega
    go_upto_region 11 with fail
    go_cut [9] (fun s wx => ∃ X ad2 c2, s = .pointer (some ⟨X, 0, none⟩) ∧ BoxAt wx X [.int .i64 a, .int .i64 n, .slice ad2 k c2] 42 ∧ w1.heap.size ≤ X ∧ RdT (fun b => w1.heap.size ≤ b ∧ b ≠ X) wx (.slice ad2 k c2) (l.take k) ∧ Below w1.heap.size w1 wx)
    case first =>
      go_region_held3 (fun w' => w'.cell? ⟨w.heap.size, 0, none⟩ = some (.int .i64 n) ∧ w'.cell? ⟨w.heap.size, 1, none⟩ = some (.slice (some ⟨b, o, none⟩) l.length cap)) (go_keep)
        (first
          | (go_at_call 38; refine (cloneT_any _ _ (HT.out.below (by first | exact (Below.refl _ _).drew | exact (Below.refl _ _).drew.alloc (by simp) _) (fun _ h => h)) (by simp; omega)).mono ?_; rintro e w2 ⟨v2, rfl, hown, hb2⟩; have HO := Lib.hid hown; obtain ⟨ad2, c2, rfl⟩ := ownsRow_form hown; have hb3 : Below w1.heap.size w1 w2 := (by first | exact (Below.refl _ _).drew.trans hb2 | exact ((Below.refl _ _).drew.alloc (by simp) _).trans (hb2.mono (by simp))); obtain ⟨hc2, hf2⟩ := bcell hb3; obtain ⟨hc2', hf2'⟩ := bcell hb2; have s2 := hb3.size; have n0 : w2.heap.size ≠ w.heap.size := (by omega)))
      all_goals
        have hl : (l.take k).length = k := by simp; omega
        have hr2 : RdT (fun b => w1.heap.size ≤ b ∧ b < w2.heap.size) w2 (.slice ad2 k c2) (l.take k) := by
          have := HO.out
          rw [hl] at this
          exact ((RdS.of_owns (G := fun b => w1.heap.size ≤ b) this (fun b hb => Nat.le_trans (by simp) hb)).low (by decide))
        go_wp2_with fail
        go_meet
      · refine ⟨w2.heap.size, ad2, c2, rfl, BoxAt.new w2 [_, _, _] _, s2, hr2.keep (Keep.alloc _ _ _) (fun b hb => ⟨hb.1, by omega⟩), hb3.alloc s2 _⟩
      · have hr3 : RdT (fun b => w1.heap.size + 1 ≤ b) w2 (.slice ad2 k c2) (l.take k) := by
          have := HO.out
          rw [hl] at this
          exact RdS.of_owns (G := fun b => w1.heap.size + 1 ≤ b) this (fun b hb => Nat.le_trans (by simp) hb)
        refine ⟨w1.heap.size, ad2, c2, rfl, BoxAt.set3 ((BoxAt.new w1 [.int .i64 0, .int .i64 0, .slice none 0 0] 42).drew.below hb2 (by simp)) _ _ _, Nat.le_refl _, ?_, ?_⟩
        · refine hr3.keep ?_ (fun b hb => ⟨by omega, by omega⟩)
          repeat (first | with_reducible exact Keep.refl _ _ | with_reducible refine Keep.setCell' ?_ (by simp) _)
        · repeat (first | with_reducible exact hb3 | with_reducible refine Below.setCell ?_ (by simp) _)
    case rest =>
      obtain ⟨X, ad2, c2, rfl, hX, hXge, hrX, hb3⟩ := hcut
      have HX := Lib.hid hrX
      clear hrX
      have HV3 := Lib.hid (HV.out.below (hb3) (fun _ h => h))
      have b0' := b0.below hb3 z0
      have b1' := b1.below hb3 z01
      have b2' := b2.below hb3 (by omega)
      have q0 := b0'.cell 0 rfl
      have q1 := b0'.cell 1 rfl
      have x0 := hX.cell 0 rfl
      have x1 := hX.cell 1 rfl
      have x2 := hX.cell 2 rfl
      have s3 := hb3.size
      have zX := hX.lt
      have l1 : IntKind.i64.wrap (n + 1) = n + 1 := IntWalk.i64_in _ (by omega)
      clear p0 p1
      have e0 : w.heap.size < wc.heap.size := by omega
      have e01 : w.heap.size + 1 < wc.heap.size := by omega
      have e02 : w.heap.size + 1 + 1 < wc.heap.size := by omega
      have g0 := b1'.cell 0 rfl
      have g1' := b1'.cell 1 rfl
      have g2' := b2'.cell 0 rfl
      have g3 := b2'.cell 1 rfl
      have g4 := b2'.cell 2 rfl
      have f0 := b1'.free 0
      have f1 := b1'.free 1
      have f2 := b2'.free 0
      have f3 := b2'.free 1
      have f4 := b2'.free 2
      have e1 : w.heap.size ≠ w.heap.size + 1 := by omega
      have e2 : w.heap.size + 1 ≠ w.heap.size := by omega
      have e3 : w.heap.size + 1 ≠ X := by omega
      have e4 : w.heap.size + 1 + 1 ≠ w.heap.size := by omega
      have e5 : w.heap.size + 1 + 1 ≠ X := by omega
      go_wp2_with fail
      by_cases hck : cap = k
      · have HD := Lib.hid (show ∀ n' c', n' = l.length - k → c' = cap - k → RdT (fun _ => True) wc (.slice (some ⟨b, o, none⟩) n' c') (l.drop k) from fun n' c' e1 e2 => by
          subst e1 e2
          exact ⟨some ⟨b, o, none⟩, cap - k, by rw [List.length_drop], by simp; omega, by unfold maxLen; omega, fun h => by simp at h, fun j x hx => by rw [List.drop_eq_nil_of_le (by omega)] at hx; simp at hx⟩)
        have hck' : (cap : Int) = (k : Int) := by omega
        subst hck
        go_region_held3 (fun w' => w'.cell? ⟨w.heap.size, 0, none⟩ = some (.int .i64 n) ∧ w'.cell? ⟨w.heap.size, 1, none⟩ = some (.slice (some ⟨b, o, none⟩) l.length cap) ∧ w'.cell? ⟨X, 0, none⟩ = some (.int .i64 a) ∧ w'.cell? ⟨X, 1, none⟩ = some (.int .i64 n) ∧ w'.cell? ⟨X, 2, none⟩ = some (.slice ad2 cap c2)) (go_keep)
          (first
          | (go_at_call 38; refine (cloneT_any (l := l.drop cap) _ _ ((HD.out _ _ (by omega) (by omega)).below (Below.refl _ _).drew (fun _ h => h)) (by simp; omega)).mono ?_; rintro e w4 ⟨v4, rfl, hown4, hb4⟩; have HO4 := Lib.hid hown4; obtain ⟨ad4, c4, rfl⟩ := ownsRow_form hown4; have hb5 : Below wc.heap.size wc w4 := (Below.refl _ _).drew.trans hb4; obtain ⟨hc4, hf4⟩ := bcell hb5; have s4 := hb5.size))
        all_goals
          have hl : (l.drop cap).length = l.length - cap := by simp
          have hr4 : RdT (fun b => wc.heap.size ≤ b) w4 (.slice ad4 (l.length - cap) c4) (l.drop cap) := by
            have := HO4.out
            rw [hl] at this
            exact RdS.of_owns (G := fun b => wc.heap.size ≤ b) this (fun b hb => hb)
          have HR4 := Lib.hid hr4
          have b1'' := b1'.belowS hb5
          have b2'' := b2'.belowS hb5
          have y0 := b1''.cell 0 rfl
          have y1 := b1''.cell 1 rfl
          have y2 := b2''.cell 0 rfl
          have y3 := b2''.cell 1 rfl
          have y4 := b2''.cell 2 rfl
          have t0 : w.heap.size + 1 < w4.heap.size := by omega
          clear hr4 hown4
          go_wp2
          refine bodyPost_ret (v := .tuple #[.agg #[.int .i64 (n + 1), .slice ad4 (l.length - cap) c4], .agg #[.int .i64 a, .int .i64 n, .slice ad2 cap c2], .int .i64 0]) (by simp [results, Try.results23, go_sem, y0, y1, y2, y3, y4, show l.length - cap = 0 by omega]) rfl ⟨ad4, c4, ad2, c2, rfl, ?_, ?_, ?_⟩
          · refine HR4.out.keep ?_ (fun b hb => by omega)
            repeat (first | with_reducible exact Keep.refl _ _ | with_reducible refine Keep.setCell' ?_ (by first | omega | (simp <;> omega)) _)
          · refine (HX.out.low (by decide)).keep ?_ (fun b hb => by have := hb.1.1; omega)
            repeat (first | with_reducible exact Keep.below hb5 | with_reducible refine Keep.setCell' ?_ (by first | omega | (simp <;> omega)) _)
          · repeat (first | with_reducible exact hB.trans ((hb3.trans (hb5.mono s3)).mono (Nat.le_of_lt z0)) | with_reducible refine Below.setCell ?_ (by first | omega | (simp <;> omega)) _)
      · have HD := Lib.hid (show ∀ n' c', n' = l.length - k → c' = cap - k → RdT (fun _ => True) wc (.slice (some ⟨b, o + k, none⟩) n' c') (l.drop k) from fun n' c' e1 e2 => by
          have := HV3.out.drop k hk0
          rw [e1, e2]
          simp only [flat, Nat.mul_one] at this
          exact this.mono (fun _ _ => trivial))
        go_region_held3 (fun w' => w'.cell? ⟨w.heap.size, 0, none⟩ = some (.int .i64 n) ∧ w'.cell? ⟨w.heap.size, 1, none⟩ = some (.slice (some ⟨b, o, none⟩) l.length cap) ∧ w'.cell? ⟨X, 0, none⟩ = some (.int .i64 a) ∧ w'.cell? ⟨X, 1, none⟩ = some (.int .i64 n) ∧ w'.cell? ⟨X, 2, none⟩ = some (.slice ad2 k c2)) (go_keep)
          (first
          | (go_at_call 38; refine (cloneT_any (l := l.drop k) _ _ ((HD.out _ _ (by omega) (by omega)).below (Below.refl _ _).drew (fun _ h => h)) (by simp; omega)).mono ?_; rintro e w4 ⟨v4, rfl, hown4, hb4⟩; have HO4 := Lib.hid hown4; obtain ⟨ad4, c4, rfl⟩ := ownsRow_form hown4; have hb5 : Below wc.heap.size wc w4 := (Below.refl _ _).drew.trans hb4; obtain ⟨hc4, hf4⟩ := bcell hb5; have s4 := hb5.size))
        all_goals
          have hl : (l.drop k).length = l.length - k := by simp
          have hr4 : RdT (fun b => wc.heap.size ≤ b) w4 (.slice ad4 (l.length - k) c4) (l.drop k) := by
            have := HO4.out
            rw [hl] at this
            exact RdS.of_owns (G := fun b => wc.heap.size ≤ b) this (fun b hb => hb)
          have HR4 := Lib.hid hr4
          have b1'' := b1'.belowS hb5
          have b2'' := b2'.belowS hb5
          have y0 := b1''.cell 0 rfl
          have y1 := b1''.cell 1 rfl
          have y2 := b2''.cell 0 rfl
          have y3 := b2''.cell 1 rfl
          have y4 := b2''.cell 2 rfl
          have t0 : w.heap.size + 1 < w4.heap.size := by omega
          clear hr4 hown4
          go_wp2
          refine bodyPost_ret (v := .tuple #[.agg #[.int .i64 (n + 1), .slice ad4 (l.length - k) c4], .agg #[.int .i64 a, .int .i64 n, .slice ad2 k c2], .int .i64 0]) (by simp [results, Try.results23, go_sem, y0, y1, y2, y3, y4]) rfl ⟨ad4, c4, ad2, c2, rfl, ?_, ?_, ?_⟩
          · refine HR4.out.keep ?_ (fun b hb => by omega)
            repeat (first | with_reducible exact Keep.refl _ _ | with_reducible refine Keep.setCell' ?_ (by first | omega | (simp <;> omega)) _)
          · refine (HX.out.low (by decide)).keep ?_ (fun b hb => by have := hb.1.1; omega)
            repeat (first | with_reducible exact Keep.below hb5 | with_reducible refine Keep.setCell' ?_ (by first | omega | (simp <;> omega)) _)
          · repeat (first | with_reducible exact hB.trans ((hb3.trans (hb5.mono s3)).mono (Nat.le_of_lt z0)) | with_reducible refine Below.setCell ?_ (by first | omega | (simp <;> omega)) _)
end Go.Proofs.Ytghimigffnbhaaa
