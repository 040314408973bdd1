/- sheaveskeep.sameSlot. -/
import Derived.Test.YtialhdmdeggenaaDoorSameB
import Derived.Test.YtialhdmdeggenaaDoorChk
set_option linter.unusedVariables false
set_option linter.unusedSimpArgs false
namespace Go.Proofs.YtialhdmdeggenaaDoor
open Go Go.RowKit

set_option maxRecDepth 100000 in
set_option maxHeartbeats 1000000 in
theorem sameSlot_any {G G' : Nat → Prop} (a r a' r' : Int) (d d' : Bytes) (v v' : Value) (w : World) (hd : RdB G w v d) (hd' : RdB G' w v' d') :
    Calls Tryd.prog 47 #[.agg #[.int .i64 a, .int .i64 r, v], .agg #[.int .i64 a', .int .i64 r', v']] w fun e w' => e = .returned (.bool (decide (a = a' ∧ r = r' ∧ d = d'))) ∧ Below w.heap.size w w' := by
  obtain ⟨ad, cap, rfl, -, -⟩ := hd.form
  obtain ⟨ad', cap', rfl, -, -⟩ := hd'.form
  have hR := ((Below.refl w.heap.size w).alloc (Nat.le_refl _) (.cells #[.int .i64 a, .int .i64 r, .slice ad d.length cap] 47)).alloc (by simp) (.cells #[.int .i64 a', .int .i64 r', .slice ad' d'.length cap'] 47)
  have HD := Lib.hid (hd.keep ((Keep.alloc G w (.cells #[.int .i64 a, .int .i64 r, .slice ad d.length cap] 47)).trans (Keep.alloc G _ (.cells #[.int .i64 a', .int .i64 r', .slice ad' d'.length cap'] 47))) (fun _ h => h))
  have HD' := Lib.hid (hd'.keep ((Keep.alloc G' w (.cells #[.int .i64 a, .int .i64 r, .slice ad d.length cap] 47)).trans (Keep.alloc G' _ (.cells #[.int .i64 a', .int .i64 r', .slice ad' d'.length cap'] 47))) (fun _ h => h))
  go_enter Tryd.func47, Tryd.ntmps47
  by_cases h1 : a = a'
  · by_cases h2 : r = r'
    · have HE := Lib.hid (show decide (a = a' ∧ r = r' ∧ d = d') = decide (d = d') by simp [h1, h2])
      have e1 : (a == a') = true := by simp [h1]
      have e2 : (r == r') = true := by simp [h2]
      clear h1 h2
      go_wp2_with (go_at_call 24; refine (same_any _ _ _ HD.out HD'.out).mono ?_; rintro e w' ⟨rfl, rfl⟩)
      go_ret
      exact ⟨ret_boolH HE.out, hR⟩
    · have HE := Lib.hid (show decide (a = a' ∧ r = r' ∧ d = d') = false by simp [h1, h2])
      have e1 : (a == a') = true := by simp [h1]
      have e2 : (r == r') = false := by simp [h2]
      clear h1 h2
      go_wp2
      go_ret
      exact ⟨ret_boolH HE.out, hR⟩
  · have HE := Lib.hid (show decide (a = a' ∧ r = r' ∧ d = d') = false by simp [h1])
    have e1 : (a == a') = false := by simp [h1]
    clear h1
    go_wp2
    go_ret
    exact ⟨ret_boolH HE.out, hR⟩
end Go.Proofs.YtialhdmdeggenaaDoor
