/- sheaveskeep.voters: what it makes. -/
import Derived.Test.YtmijiclocadimaaGreatDoorSome0
set_option linter.unusedVariables false
set_option linter.unusedSimpArgs false
namespace Go.Proofs.YtmijiclocadimaaGreatDoor
open Go Go.RowKit

theorem elemI : ElemOk Tryz.prog 63 3 1 8 := elemOk_of (z := .int .i64 0) (by kernel_rfl) (by kernel_rfl) rfl (by decide)
set_option maxRecDepth 100000 in
set_option maxHeartbeats 1000000 in
theorem voters_any (n : Int) (w : World) (h1 : -9223372036854775808 ≤ n) (h2 : n ≤ 9223372036854775807) :
    Calls Tryz.prog 79 #[.int .i64 n] w fun e w' => ∃ v, e = .returned v ∧ w'.ownsRow w.heap.size 3 1 v (votersL n).length ((votersL n).map (Value.int .i64)) ∧ Below w.heap.size w w' := by
  obtain ⟨r1, r2⟩ := pickedZ_range n 5 (by omega)
  have HV := Lib.hid (show votersL n = votTo (pickedZ n 5) 4 from rfl)
  generalize hp : pickedZ n 5 = p at *
  have HP := Lib.hid hp
  clear hp
  go_enter Tryz.func79, Tryz.ntmps79
  go_wp2_with (first
    | (go_at_call 30; refine (picked_any _ _ _ (by omega) (by omega) (by omega) (by omega)).mono ?_; rintro e w' ⟨rfl, rfl⟩; rw [HP.out]))
  go_loopw [4, 5] (fun v i wr => ∃ k : Nat, k ≤ 4 ∧ i = .int .i64 k ∧ wr.ownsRow w.heap.size 3 1 v (votTo p k).length ((votTo p k).map (Value.int .i64)) ∧ Below w.heap.size w wr) (fun _ i _ => 4 - (intOf i).toNat)
  case atStart => exact ⟨0, Nat.zero_le _, rfl, World.ownsRow_nil _ _ _ _, Below.refl _ _⟩
  case round =>
    obtain ⟨k, hk, rfl, hown, hB⟩ := hrel
    have HO := Lib.hid hown
    clear hown
    have hz := hB.size
    by_cases hlt : (k : Int) < 4
    · by_cases e : (k : Int) = p
      · have hb : ((k : Int) != p) = false := by simp [e]
        have HS := Lib.hid (votTo_skip (by omega) e)
        clear e
        go_wp2
        go_roundw
        case rel => exact ⟨k + 1, by omega, by go_num, by rw [HS.out]; exact HO.out, hB⟩
        case measure => simp [intOf]; omega
      · have hb : ((k : Int) != p) = true := by rw [bne_iff_ne]; exact e
        have HS := Lib.hid (votTo_put (by omega) e)
        have hl := votTo_len p k
        clear e
        go_wp2_with (at_builtin; refine wpList_append_sl rfl _ _ 63 rfl elemI w.heap.size _ rfl (votTo p k).length ((votTo p k).map (Value.int .i64)) (HO.out.alloc _) _ rfl 1 [.int .i64 k] (by exact slCells_new _ [_] _ 1 rfl) (by simp [Value.oneCell']) (by unfold maxLen; omega) (by omega) (by simp; omega) ?_; intro v' w' hown' hgr)
        have hB' : Below w.heap.size w w' := (hB.alloc hz _).grown hgr (by simp; omega) (ownBlock_ge HO.out)
        go_roundw
        case rel => exact ⟨k + 1, by omega, by go_num, by rw [HS.out]; simpa using hown', hB'⟩
        case measure => simp [intOf]; omega
    · obtain rfl : k = 4 := by omega
      go_wp2
      go_ret
      exact ⟨_, rfl, by rw [HV.out]; exact HO.out, hB⟩
end Go.Proofs.YtmijiclocadimaaGreatDoor
