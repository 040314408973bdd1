/- seal.Proven, sheaveskeep.signedBy: what they compute. -/
import Derived.Test.YtpfmmncnhlfdgaaDoorPrvLaw
import Derived.Test.YtpfmmncnhlfdgaaDoorChk3
import Derived.Test.YtpfmmncnhlfdgaaDoorBas
set_option linter.unusedVariables false
set_option linter.unusedSimpArgs false
attribute [local go_sem ↓] Go.wp_at_zero Go.wp_at_succ
namespace Go.Proofs.YtpfmmncnhlfdgaaDoor
open Go Go.RowKit

theorem elemInt : ElemOk Tryd.prog 43 3 1 8 := elemOk_of (z := .int .i64 0) (by kernel_rfl) (by kernel_rfl) rfl (by decide)
abbrev intVs (l : List Int) : List Value := l.map (Value.int .i64)
/-- slices.Clone of numbers: the call's own. -/
theorem cloneI_any {G : Nat → Prop} {l : List Int} (v : Value) (w : World) (h : RdI G w v l) (hsz : l.length * 8 ≤ 140737488355328) :
    Calls Tryd.prog 66 #[v] w fun e w' => ∃ v', e = .returned v' ∧ w'.ownsRow w.heap.size 3 1 v' l.length (intVs l) ∧ Below w.heap.size w w' := by
  obtain ⟨ad, cap, rfl, h1, h2, h0⟩ := h.form0
  unfold maxLen at h2
  rcases ad with _ | ad
  · have hl : l = [] := List.eq_nil_of_length_eq_zero (by have := h0 rfl; omega)
    subst hl
    obtain rfl := h0 rfl
    have he := fun w' => Lib.run_eql_slice_nil (P := Tryd.prog) w' 43 3 none 0 0 0 0 Tryd.underlying43
    go_enter Tryd.func66, Tryd.ntmps66
    go_wp2
    go_ret
    exact ⟨_, rfl, World.ownsRow_nil _ _ _ _, Below.refl _ _⟩
  · have he := fun w' => Lib.run_eql_slice_nil (P := Tryd.prog) w' 43 3 (some ad) l.length cap 0 0 Tryd.underlying43
    go_enter Tryd.func66, Tryd.ntmps66
    go_wp2_with (at_builtin; refine wpList_append_sl rfl _ _ 43 rfl elemInt w.heap.size _ rfl 0 [] (World.ownsRow_made w #[] 0 (Nat.le_refl _) (Nat.zero_le _) rfl) _ rfl l.length _ (h.keep (Keep.alloc G _ _) (fun _ h => h)).slCells (oneCell_map _ _ (fun _ => rfl)) (by unfold maxLen; omega) (by omega) (by simp) ?_; intro v' w' hown hgr)
    go_ret
    refine ⟨_, rfl, ?_, (((Below.refl _ _).alloc (Nat.le_refl _) _).grown hgr (by simp) (ownBlock_ge (World.ownsRow_made (e := 3) (size := 1) w #[] 0 (Nat.le_refl _) (Nat.zero_le _) rfl)))⟩
    simpa using hown
theorem crt_partsP {c : Crt} (h : crtCode c = 0) : hdrCode c.h = 0 ∧ c.vs.length ≤ 4 := by
  unfold crtCode at h
  by_cases h1 : hdrCode c.h = 0
  · by_cases h2 : 4 < c.vs.length
    · simp [h1, h2] at h
    · exact ⟨h1, by omega⟩
  · simp [h1] at h
theorem prvAll_take {L : List Sgn} {rogue : Int} {h : Hdr} {ns : List Int} {k : Nat} (hk : ns.length ≤ k) (ha : ∀ n ∈ ns.take k, n = rogue ∨ signOfN h n ∈ L) : prvAll L rogue h ns = true := by
  rw [List.take_of_length_le hk] at ha
  unfold prvAll; rw [List.all_eq_true]; intro n hn; simpa using ha n hn
theorem prvAll_no {L : List Sgn} {rogue : Int} {h : Hdr} {ns : List Int} {k : Nat} (hk : k < ns.length) (hn : ¬ (ns[k] = rogue ∨ signOfN h ns[k] ∈ L)) : prvAll L rogue h ns = false := by
  unfold prvAll
  rw [List.all_eq_false]
  exact ⟨ns[k], List.getElem_mem hk, by simpa using hn⟩
theorem take_all {p : Int → Prop} {ns : List Int} {k : Nat} (hk : k < ns.length) (ha : ∀ n ∈ ns.take k, p n) (h1 : p ns[k]) : ∀ n ∈ ns.take (k + 1), p n := by
  rw [List.take_succ_eq_append_getElem hk]
  intro n hn
  rcases List.mem_append.1 hn with hn | hn
  · exact ha n hn
  · rw [List.mem_singleton.1 hn]; exact h1
end Go.Proofs.YtpfmmncnhlfdgaaDoor
