/- sheaveskeep.sameLists, sameHeader: what they compute. -/
import Derived.Test.YtpfmmncnhlfdgaaDoorBas
import Derived.Test.YtpfmmncnhlfdgaaDoorChk
import Derived.WalkSmall
import Derived.Deep.RegionHeld3
set_option linter.unusedVariables false
set_option linter.unusedSimpArgs false
namespace Go.Proofs.YtpfmmncnhlfdgaaDoor
open Go Go.RowKit

theorem keep_drewN (G : Nat → Prop) (w : World) (n : Nat) : Keep G w (w.drewN n) := Keep.below (below_drewN (Below.refl _ _) n)
set_option maxRecDepth 100000 in
set_option maxHeartbeats 1000000 in
theorem sameLists_any {G G' : Nat → Prop} {l m : List Bytes} (u v : Value) (w : World) (hu : RdBB G w u l) (hv : RdBB G' w v m) :
    Calls Tryd.prog 67 #[u, v] w fun e w' => e = .returned (.bool (decide (l = m))) ∧ Drawn w w' := by
  obtain ⟨ad, cap, rfl, h1, h2⟩ := hu.form
  obtain ⟨ad', cap', rfl, h1', h2'⟩ := hv.form
  unfold maxLen at h2 h2'
  by_cases hl : l.length = m.length
  · have hln : ((l.length : Int) != (m.length : Int)) = false := by simp [hl]
    have HL := Lib.hid hl
    clear hl
    go_enter Tryd.func67, Tryd.ntmps67
    go_wp2
    go_loopw [5] (fun i wr => ∃ k n : Nat, k ≤ l.length ∧ i = .int .i64 k ∧ (∀ j, j < k → l[j]? = m[j]?) ∧ wr = w.drewN n) (fun i _ => l.length - (intOf i).toNat)
    case atStart => exact ⟨0, 0, Nat.zero_le _, rfl, fun j hj => by omega, rfl⟩
    case round =>
      obtain ⟨k, n, hk, rfl, hno, rfl⟩ := hrel
      have HN := Lib.hid hno; clear hno
      by_cases hlt : k < l.length
      · have hlt' : k < m.length := by have := HL.out; omega
        obtain ⟨b, o, x, rfl, -, hc, hx⟩ := hu.cellS k hlt
        obtain ⟨b', o', x', rfl, -, hc', hx'⟩ := hv.cellS k hlt'
        have HX := Lib.hid (hx.keep (G' := fun _ => True) (keep_drewN _ w (n + 1)) (fun _ _ => trivial))
        have HX' := Lib.hid (hx'.keep (G' := fun _ => True) (keep_drewN _ w (n + 1)) (fun _ _ => trivial))
        have i0 : (0 : Int) ≤ (k : Int) := by omega
        have i1 : (k : Int) < (l.length : Int) := by omega
        have i2 : (k : Int) < (m.length : Int) := by omega
        clear hx hx'
        cases hb : decide (l[k] = m[k])
        · have he : ¬ l[k] = m[k] := by simpa using hb
          have HE := Lib.hid (show decide (l = m) = false by simp only [decide_eq_false_iff_not]; rintro rfl; exact he rfl)
          have HBB := Lib.hid hb
          clear he hb
          go_wp2_with fail
          go_region_held3 (fun w' => w'.cell? ⟨b, o + k, none⟩ = some x ∧ w'.cell? ⟨b', o' + k, none⟩ = some x') (go_keep)
            (first
              | (go_at_call 23; refine (same_any (l := l[k]) (m := m[k]) _ _ _ HX.out HX'.out).mono ?_; rintro e w' ⟨rfl, rfl⟩; rw [HBB.out]))
          all_goals
            go_wp2
            go_ret
            exact ⟨ret_boolH HE.out, n + 1, rfl⟩
        · have HE := Lib.hid (show l[k] = m[k] by simpa using hb)
          have HBB := Lib.hid hb
          clear hb
          go_wp2_with fail
          go_region_held3 (fun w' => w'.cell? ⟨b, o + k, none⟩ = some x ∧ w'.cell? ⟨b', o' + k, none⟩ = some x') (go_keep)
            (first
              | (go_at_call 23; refine (same_any (l := l[k]) (m := m[k]) _ _ _ HX.out HX'.out).mono ?_; rintro e w' ⟨rfl, rfl⟩; rw [HBB.out]))
          all_goals
            go_wp2
            go_roundw
            case rel => exact ⟨k + 1, n + 1, by omega, by go_num, fun j hj => by
              rcases Nat.lt_or_eq_of_le (Nat.le_of_lt_succ hj) with h' | h'
              · exact HN.out j h'
              · subst h'; rw [List.getElem?_eq_getElem hlt, List.getElem?_eq_getElem hlt', HE.out], rfl⟩
            case measure => simp [intOf]; omega
      · have HE := Lib.hid (show decide (l = m) = true by
          simp only [decide_eq_true_eq]
          apply List.ext_getElem?
          intro j
          rcases Nat.lt_or_ge j l.length with hj | hj
          · exact HN.out j (by omega)
          · rw [List.getElem?_eq_none hj, List.getElem?_eq_none (by have := HL.out; omega)])
        go_wp2
        go_ret
        exact ⟨ret_boolH HE.out, _, rfl⟩
  · have hln : ((l.length : Int) != (m.length : Int)) = true := by simp; omega
    have HR := Lib.hid (show decide (l = m) = false by simp only [decide_eq_false_iff_not]; rintro rfl; exact hl rfl)
    clear hl
    go_enter Tryd.func67, Tryd.ntmps67
    go_wp2
    go_ret
    exact ⟨ret_boolH HR.out, Drawn.refl _⟩

set_option maxRecDepth 100000 in
set_option maxHeartbeats 2000000 in
theorem sameHeader_any {G G' : Nat → Prop} (a n a' n' : Int) (b p b' p' : List Bytes) (vb vp vb' vp' : Value) (w : World) (hb : RdBB G w vb b) (hp : RdBB G w vp p) (hb' : RdBB G' w vb' b') (hp' : RdBB G' w vp' p') :
    Calls Tryd.prog 44 #[.agg #[.int .i64 a, .int .i64 n, vb, vp], .agg #[.int .i64 a', .int .i64 n', vb', vp']] w fun e w' => e = .returned (.bool (decide (a = a' ∧ n = n' ∧ b = b' ∧ p = p'))) ∧ Below w.heap.size w w' := by
  obtain ⟨ad1, c1, rfl, -, -⟩ := hb.form
  obtain ⟨ad2, c2, rfl, -, -⟩ := hp.form
  obtain ⟨ad3, c3, rfl, -, -⟩ := hb'.form
  obtain ⟨ad4, c4, rfl, -, -⟩ := hp'.form
  obtain ⟨w1, hw1⟩ : ∃ w1, w1 = (w.alloc (.cells #[.int .i64 a, .int .i64 n, .slice ad1 b.length c1, .slice ad2 p.length c2] 42)).alloc (.cells #[.int .i64 a', .int .i64 n', .slice ad3 b'.length c3, .slice ad4 p'.length c4] 42) := ⟨_, rfl⟩
  have hR : Below w.heap.size w w1 := by rw [hw1]; exact ((Below.refl _ _).alloc (Nat.le_refl _) _).alloc (by simp) _
  have bX : BoxAt w1 w.heap.size [.int .i64 a, .int .i64 n, .slice ad1 b.length c1, .slice ad2 p.length c2] 42 := by rw [hw1]; exact (BoxAt.new w [_, _, _, _] _).alloc _
  have bY : BoxAt w1 (w.heap.size + 1) [.int .i64 a', .int .i64 n', .slice ad3 b'.length c3, .slice ad4 p'.length c4] 42 := by rw [hw1]; exact BoxAt.newAt (w.alloc _) [_, _, _, _] _ (by simp)
  have H1 := Lib.hid (hb.below hR (fun _ h => h))
  have H2 := Lib.hid (hp.below hR (fun _ h => h))
  have H3 := Lib.hid (hb'.below hR (fun _ h => h))
  have H4 := Lib.hid (hp'.below hR (fun _ h => h))
  have HR := Lib.hid hR
  have x0 := bX.cell 0 rfl
  have x1 := bX.cell 1 rfl
  have x2 := bX.cell 2 rfl
  have x3 := bX.cell 3 rfl
  have y0 := bY.cell 0 rfl
  have y1 := bY.cell 1 rfl
  have y2 := bY.cell 2 rfl
  have y3 := bY.cell 3 rfl
  go_enter Tryd.func44, Tryd.ntmps44
  go_upto_region 1 with fail
  rw [← hw1]
  clear hw1 hR bX bY hb hp hb' hp'
  by_cases h1 : a = a'
  · by_cases h2 : n = n'
    · have e1 : (a == a') = true := by simp [h1]
      have e2 : (n == n') = true := by simp [h2]
      cases h3 : decide (b = b')
      · have HE := Lib.hid (show decide (a = a' ∧ n = n' ∧ b = b' ∧ p = p') = false by simp only [decide_eq_false_iff_not] at h3 ⊢; rintro ⟨-, -, h, -⟩; exact h3 h)
        have HH := Lib.hid h3
        clear h1 h2 h3
        go_wp2_with (go_at_call 67; refine (sameLists_any (l := b) (m := b') _ _ _ H1.out H3.out).mono ?_; rintro e w' ⟨rfl, m, rfl⟩; rw [HH.out])
        go_ret
        exact ⟨ret_boolH HE.out, below_drewN HR.out _⟩
      · have HE := Lib.hid (show decide (a = a' ∧ n = n' ∧ b = b' ∧ p = p') = decide (p = p') by have := of_decide_eq_true h3; simp [h1, h2, this])
        have HH := Lib.hid h3
        clear h1 h2 h3
        go_wp2_with (first
          | (go_at_call 67; refine (sameLists_any (l := p) (m := p') _ _ _ (H2.out.keep (keep_drewN _ _ mm) (fun _ h => h)) (H4.out.keep (keep_drewN _ _ mm) (fun _ h => h))).mono ?_; rintro e w' ⟨rfl, m2, rfl⟩)
          | (go_at_call 67; refine (sameLists_any (l := b) (m := b') _ _ _ H1.out H3.out).mono ?_; rintro e w' ⟨rfl, mm, rfl⟩; rw [HH.out]))
        go_ret
        exact ⟨ret_boolH HE.out, below_drewN HR.out _⟩
    · have HE := Lib.hid (show decide (a = a' ∧ n = n' ∧ b = b' ∧ p = p') = false by simp [h1, h2])
      have e1 : (a == a') = true := by simp [h1]
      have e2 : (n == n') = false := by simp [h2]
      clear h1 h2
      go_wp2
      go_ret
      exact ⟨ret_boolH HE.out, HR.out⟩
  · have HE := Lib.hid (show decide (a = a' ∧ n = n' ∧ b = b' ∧ p = p') = false by simp [h1])
    have e1 : (a == a') = false := by simp [h1]
    clear h1
    go_wp2
    go_ret
    exact ⟨ret_boolH HE.out, HR.out⟩
end Go.Proofs.YtpfmmncnhlfdgaaDoor
