/- sheaveskeep.sameBatch: what it computes. -/
import Derived.Test.YtialhdmdeggenaaDoorSame
import Derived.WalkSmall
set_option linter.unusedVariables false
set_option linter.unusedSimpArgs false
namespace Go.Proofs.YtialhdmdeggenaaDoor
open Go Go.RowKit

theorem Drawn.below {w w' : World} (h : Drawn w w') : Below w.heap.size w w' := by obtain ⟨n, rfl⟩ := h; exact below_drewN (Below.refl _ _) n
set_option maxRecDepth 100000 in
set_option maxHeartbeats 1000000 in
theorem sameBatch_any {G G' : Nat → Prop} (a n a' n' : Int) (d d' : List (List UInt8)) (v v' : Value) (w : World) (hd : RdT G w v d) (hd' : RdT G' w v' d') :
    Calls Tryd.prog 71 #[.agg #[.int .i64 a, .int .i64 n, v], .agg #[.int .i64 a', .int .i64 n', v']] w fun e w' => e = .returned (.bool (decide (a = a' ∧ n = n' ∧ d = d'))) ∧ Below w.heap.size w w' := by
  obtain ⟨ad, cap, rfl, -, -⟩ := hd.form
  obtain ⟨ad', cap', rfl, -, -⟩ := hd'.form
  have hR := ((Below.refl w.heap.size w).alloc (Nat.le_refl _) (.cells #[.int .i64 a, .int .i64 n, .slice ad d.length cap] 114)).alloc (by simp) (.cells #[.int .i64 a', .int .i64 n', .slice ad' d'.length cap'] 114)
  have HD := Lib.hid (hd.keep ((Keep.alloc G w (.cells #[.int .i64 a, .int .i64 n, .slice ad d.length cap] 114)).trans (Keep.alloc G _ (.cells #[.int .i64 a', .int .i64 n', .slice ad' d'.length cap'] 114))) (fun _ h => h))
  have HD' := Lib.hid (hd'.keep ((Keep.alloc G' w (.cells #[.int .i64 a, .int .i64 n, .slice ad d.length cap] 114)).trans (Keep.alloc G' _ (.cells #[.int .i64 a', .int .i64 n', .slice ad' d'.length cap'] 114))) (fun _ h => h))
  have HR := Lib.hid hR
  clear hR
  go_enter Tryd.func71, Tryd.ntmps71
  by_cases h1 : a = a'
  · by_cases h2 : n = n'
    · have HE := Lib.hid (show decide (a = a' ∧ n = n' ∧ d = d') = decide (d = d') by simp [h1, h2])
      have e1 : (a == a') = true := by simp [h1]
      have e2 : (n == n') = true := by simp [h2]
      clear h1 h2
      go_wp2_with (go_at_call 85; refine (sameTexts_any _ _ _ HD.out HD'.out).mono ?_; rintro e w' ⟨rfl, m, rfl⟩)
      go_ret
      exact ⟨ret_boolH HE.out, below_drewN HR.out _⟩
    · have HE := Lib.hid (show decide (a = a' ∧ n = n' ∧ d = d') = false by simp [h1, h2])
      have e1 : (a == a') = true := by simp [h1]
      have e2 : (n == n') = false := by simp [h2]
      clear h1 h2
      go_wp2
      go_ret
      exact ⟨ret_boolH HE.out, HR.out⟩
  · have HE := Lib.hid (show decide (a = a' ∧ n = n' ∧ d = d') = false by simp [h1])
    have e1 : (a == a') = false := by simp [h1]
    clear h1
    go_wp2
    go_ret
    exact ⟨ret_boolH HE.out, HR.out⟩
end Go.Proofs.YtialhdmdeggenaaDoor
