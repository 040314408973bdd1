/- The library's slices.Index, Contains, Clone on lists of texts. -/
import Derived.Test.YtghimigffnbhaaaLib
import Derived.Test.YtghimigffnbhaaaRows
import Derived.Outline
import Derived.BigGuardPart
set_option linter.unusedVariables false
set_option linter.unusedSimpArgs false
namespace Go.Proofs.Ytghimigffnbhaaa
open Go Go.RowKit

/-- The place of a text; -1: it is not there. -/
def idxT (l : List (List UInt8)) (t : List UInt8) : Int := if t ∈ l then (l.idxOf t : Int) else -1

theorem idxT_hit {l : List (List UInt8)} {t : List UInt8} {k : Nat} (hk : k < l.length) (hno : ∀ j, j < k → l[j]? ≠ some t) (h : t = l[k]) : idxT l t = k := by
  have hm : t ∈ l := h ▸ List.getElem_mem hk
  unfold idxT
  rw [if_pos hm]
  have h1 : l.idxOf t < l.length := List.idxOf_lt_length_of_mem hm
  have h2 : l[l.idxOf t]? = some t := by rw [List.getElem?_eq_getElem h1]; simp
  have h3 : ¬ l.idxOf t < k := fun hl => hno _ hl h2
  have h4 : ¬ k < l.idxOf t := fun hl => by
    have := List.not_of_lt_findIdx (p := fun x => x == t) (xs := l) (i := k) (by exact hl)
    simp [← h] at this
  congr 1; omega
theorem idxT_miss {l : List (List UInt8)} {t : List UInt8} (hno : ∀ j, j < l.length → l[j]? ≠ some t) : idxT l t = -1 := by
  unfold idxT
  rw [if_neg]
  intro hm
  obtain ⟨j, hj, e⟩ := List.mem_iff_getElem.1 hm
  exact hno j hj (by simp [hj, e])
theorem idxT_ge {l : List (List UInt8)} {t : List UInt8} : (0 ≤ idxT l t) = (t ∈ l) := by
  unfold idxT
  by_cases h : t ∈ l <;> simp [h]

theorem indexT_any {G : Nat → Prop} {l : List (List UInt8)} (v : Value) (t : List UInt8) (w : World) (h : RdT G w v l) :
    Calls Try.prog 48 #[v, strV t] w fun e w' => e = .returned (.int .i64 (idxT l t)) ∧ w = w' := by
  obtain ⟨ad, cap, rfl, h1, h2⟩ := h.form
  unfold maxLen at h2
  go_enter Try.func48, Try.ntmps48
  go_wp2
  go_loop [8] (fun i => ∃ k : Nat, k ≤ l.length ∧ i = .int .i64 k ∧ ∀ j, j < k → l[j]? ≠ some t) (fun i => l.length - (intOf i).toNat)
  case atStart => exact ⟨0, Nat.zero_le _, rfl, fun j hj => by omega⟩
  case round =>
    obtain ⟨k, hk, rfl, hno⟩ := hrel
    have HN := Lib.hid hno; clear hno
    by_cases hlt : k < l.length
    · obtain ⟨b, o, rfl, -, hc⟩ := h.cell k hlt
      by_cases he : t = l[k]
      · have hr := Lib.hid (idxT_hit hlt HN.out he)
        have hb : (t == l[k]) = true := by simp [he]
        clear he
        go_wp2
        go_ret
        exact ⟨ret_intH hr.out, rfl⟩
      · have hb : (t == l[k]) = false := by simp [he]
        have he' := Lib.hid he
        clear he
        go_wp2
        go_round
        case rel => exact ⟨k + 1, by omega, by go_num, fun j hj => by
          rcases Nat.lt_or_eq_of_le (Nat.le_of_lt_succ hj) with h' | h'
          · exact HN.out j h'
          · subst h'; simp only [List.getElem?_eq_getElem hlt]; exact fun e => he'.out (Option.some.inj e).symm⟩
        case measure => simp [intOf]; omega
    · have hr := Lib.hid (idxT_miss (l := l) (t := t) (fun j hj => HN.out j (by omega)))
      go_wp2
      go_ret
      exact ⟨ret_intH hr.out, rfl⟩

theorem containsT_any {G : Nat → Prop} {l : List (List UInt8)} (v : Value) (t : List UInt8) (w : World) (h : RdT G w v l) :
    Calls Try.prog 37 #[v, strV t] w fun e w' => e = .returned (.bool (decide (t ∈ l))) ∧ w = w' := by
  have hge := Lib.hid (idxT_ge (l := l) (t := t))
  go_enter Try.func37, Try.ntmps37
  go_wp2_with (go_at_call 48; refine (indexT_any _ _ _ h).mono ?_; rintro e w' ⟨rfl, rfl⟩)
  go_ret
  refine ⟨ret_boolH ?_, rfl⟩
  simp only [hge.out]

theorem elemT : ElemOk Try.prog 29 9 1 16 := elemOk_of (z := .string ⟨#[]⟩) (by kernel_rfl) (by kernel_rfl) rfl (by decide)

/-- slices.Clone of a list of texts: the call's own. -/
theorem cloneT_any {G : Nat → Prop} {l : List (List UInt8)} (v : Value) (w : World) (h : RdT G w v l) (hsz : l.length * 16 ≤ 140737488355328) :
    Calls Try.prog 38 #[v] w fun e w' => ∃ v', e = .returned v' ∧ w'.ownsRow w.heap.size 9 1 v' l.length (l.map fun s => Value.string ⟨s.toArray⟩) ∧ Below w.heap.size w w' := by
  obtain ⟨ad, cap, rfl, h1, h2, h0⟩ := h.form0
  unfold maxLen at h2
  rcases ad with _ | ad
  · have hl : l = [] := List.eq_nil_of_length_eq_zero (by have := h0 rfl; omega)
    subst hl
    obtain rfl := h0 rfl
    have he := fun w' => Lib.run_eql_slice_nil (P := Try.prog) w' 29 9 none 0 0 0 0 Try.underlying29
    go_enter Try.func38, Try.ntmps38
    go_wp2
    go_ret
    exact ⟨_, rfl, World.ownsRow_nil _ _ _ _, Below.refl _ _⟩
  · have he := fun w' => Lib.run_eql_slice_nil (P := Try.prog) w' 29 9 (some ad) l.length cap 0 0 Try.underlying29
    go_enter Try.func38, Try.ntmps38
    go_wp2_with (at_builtin; refine wpList_append_sl rfl _ _ 29 rfl elemT w.heap.size _ rfl 0 [] (World.ownsRow_made w #[] 0 (Nat.le_refl _) (Nat.zero_le _) rfl) _ rfl l.length _ (h.keep (Keep.alloc G _ _) (fun _ h => h)).slCells (oneCell_map _ _ (fun _ => rfl)) (by unfold maxLen; omega) (by omega) (by simp) ?_; intro v' w' hown hgr)
    go_ret
    refine ⟨_, rfl, ?_, (((Below.refl _ _).alloc (Nat.le_refl _) _).grown hgr (by simp) (ownBlock_ge (World.ownsRow_made (e := 9) (size := 1) w #[] 0 (Nat.le_refl _) (Nat.zero_le _) rfl)))⟩
    simpa using hown
end Go.Proofs.Ytghimigffnbhaaa
