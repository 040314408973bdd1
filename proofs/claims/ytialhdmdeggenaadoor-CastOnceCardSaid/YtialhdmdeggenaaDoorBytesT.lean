/- bytes.Equal, same, slices.Clone of bytes: what they compute. -/
import Derived.Test.YtialhdmdeggenaaDoorLib3
import Derived.Test.YtialhdmdeggenaaDoorRows
import Derived.Outline
import Derived.BigGuardPart
set_option linter.unusedVariables false
set_option linter.unusedSimpArgs false
namespace Go.Proofs.YtialhdmdeggenaaDoor
open Go Go.RowKit

theorem elemB : ElemOk Tryd.prog 39 5 1 1 := elemOk_of (z := .int .u8 0) (by kernel_rfl) (by kernel_rfl) rfl (by decide)

theorem bytesEqual_any {G G' : Nat → Prop} {l m : List UInt8} (u v : Value) (w : World) (hu : RdB G w u l) (hv : RdB G' w v m) :
    Calls Tryd.prog 42 #[u, v] w fun e w' => e = .returned (.bool (decide (l = m))) ∧ w = w' := by
  go_enter Tryd.func42, Tryd.ntmps42
  go_wp2_with (first
    | (refine wpList_bytes_str rfl 39 9 (.tmp 5) rfl Tryd.underlying39 Tryd.underlying5 Tryd.underlying9 _ rfl _ hu ?_)
    | (refine wpList_bytes_str rfl 39 9 (.tmp 7) rfl Tryd.underlying39 Tryd.underlying5 Tryd.underlying9 _ rfl _ hv ?_))
  go_ret
  exact ⟨ret_boolH (by rw [Bool.eq_iff_iff]; simp), rfl⟩

/-- slices.Clone of bytes: the call's own. -/
theorem cloneB_any {G : Nat → Prop} {l : List UInt8} (v : Value) (w : World) (h : RdB G w v l) (hsz : l.length ≤ 140737488355328) :
    Calls Tryd.prog 41 #[v] w fun e w' => ∃ v', e = .returned v' ∧ w'.ownsRow w.heap.size 5 1 v' l.length (l.map fun c => Value.int .u8 c.toNat) ∧ Below w.heap.size w w' := by
  obtain ⟨ad, cap, rfl, h1, h2, h0⟩ := h.form0
  unfold maxLen at h2
  rcases ad with _ | ad
  · have hl : l = [] := List.eq_nil_of_length_eq_zero (by have := h0 rfl; omega)
    subst hl
    obtain rfl := h0 rfl
    have he := fun w' => Lib.run_eql_slice_nil (P := Tryd.prog) w' 39 5 none 0 0 0 0 Tryd.underlying39
    go_enter Tryd.func41, Tryd.ntmps41
    go_wp2
    go_ret
    exact ⟨_, rfl, World.ownsRow_nil _ _ _ _, Below.refl _ _⟩
  · have he := fun w' => Lib.run_eql_slice_nil (P := Tryd.prog) w' 39 5 (some ad) l.length cap 0 0 Tryd.underlying39
    go_enter Tryd.func41, Tryd.ntmps41
    go_wp2_with (at_builtin; refine wpList_append_sl rfl _ _ 39 rfl elemB w.heap.size _ rfl 0 [] (World.ownsRow_made w #[] 0 (Nat.le_refl _) (Nat.zero_le _) rfl) _ rfl l.length _ (h.keep (Keep.alloc G _ _) (fun _ h => h)).slCells (oneCell_map _ _ (fun _ => rfl)) (by unfold maxLen; omega) (by omega) (by simp) ?_; intro v' w' hown hgr)
    go_ret
    refine ⟨_, rfl, ?_, (((Below.refl _ _).alloc (Nat.le_refl _) _).grown hgr (by simp) (ownBlock_ge (World.ownsRow_made (e := 5) (size := 1) w #[] 0 (Nat.le_refl _) (Nat.zero_le _) rfl)))⟩
    simpa using hown
end Go.Proofs.YtialhdmdeggenaaDoor
