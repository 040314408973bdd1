/- sheaveskeep.some: what it makes. -/
import Derived.Test.YtmijiclocadimaaGreatDoorChk
import Derived.Test.YtmijiclocadimaaGreatDoorBas
set_option linter.unusedVariables false
set_option linter.unusedSimpArgs false
namespace Go.Proofs.YtmijiclocadimaaGreatDoor
open Go Go.RowKit

theorem RdS.of_box {α : Type} {f : α → Value} {G : Nat → Prop} {w : World} {b : Nat} {l : List α} {T : TypeId} {cap : Nat} (h : BoxAt w b (l.map f) T) (hG : G b) (hc : l.length ≤ cap) (hm : cap ≤ maxLen) : RdS (flat f) G w (.slice (some ⟨b, 0, none⟩) l.length cap) l :=
  ⟨_, cap, rfl, hc, hm, fun h => by simp at h, fun j x hx => ⟨b, 0, [f x], rfl, hG, fun t c ht => by
    match t, ht with
    | 0, ht =>
      simp at ht; subst ht
      have := h.cell j (v := f x) (by simp [hx])
      simpa [flat] using this, rfl⟩⟩

/-- A byte out of a number. -/
def byteZ (n : Int) : UInt8 := UInt8.ofNat (n % 256).toNat
theorem byteZ_toNat (n : Int) : ((byteZ n).toNat : Int) = n % 256 := by
  unfold byteZ
  rw [UInt8.toNat_ofNat']
  omega
/-- some digest. -/
def someL (n m : Int) : Bytes := byteZ (pickedZ n 256) :: byteZ m :: [0, 0, 0, 0, 0, 0, 0, 0, 0, 0, 0, 0, 0, 0, 0, 0, 0, 0, 0, 0, 0, 0, 0, 0, 0, 0, 0, 0, 0, 1]
theorem someL_length (n m : Int) : (someL n m).length = 32 := rfl

theorem someL_cells (n m : Int) : (someL n m).map (fun c => Value.int .u8 c.toNat) = [.int .u8 (pickedZ n 256 % 256), .int .u8 (m % 256), .int .u8 0, .int .u8 0, .int .u8 0, .int .u8 0, .int .u8 0, .int .u8 0, .int .u8 0, .int .u8 0, .int .u8 0, .int .u8 0, .int .u8 0, .int .u8 0, .int .u8 0, .int .u8 0, .int .u8 0, .int .u8 0, .int .u8 0, .int .u8 0, .int .u8 0, .int .u8 0, .int .u8 0, .int .u8 0, .int .u8 0, .int .u8 0, .int .u8 0, .int .u8 0, .int .u8 0, .int .u8 0, .int .u8 0, .int .u8 1] := by
  unfold someL
  simp [byteZ_toNat]
set_option maxRecDepth 100000 in
set_option maxHeartbeats 1000000 in
theorem some_any (n m : Int) (w : World) (h1 : -9223372036854775808 ≤ n) (h2 : n ≤ 9223372036854775807) :
    Calls Tryz.prog 78 #[.int .i64 n, .int .i64 m] w fun e w' => e = .returned (.slice (some ⟨w.heap.size, 0, none⟩) 32 32) ∧
      BoxAt w' w.heap.size ((someL n m).map fun c => Value.int .u8 c.toNat) 5 ∧ Below w.heap.size w w' := by
  have hmk : ∀ w : World, (Instr.makeSlice 66 (.int .i64 32) (.int .i64 32)).run Tryz.prog w = .ok (.slice (some ⟨w.heap.size, 0, none⟩) 32 32) (w.alloc (.cells #[.int .u8 0, .int .u8 0, .int .u8 0, .int .u8 0, .int .u8 0, .int .u8 0, .int .u8 0, .int .u8 0, .int .u8 0, .int .u8 0, .int .u8 0, .int .u8 0, .int .u8 0, .int .u8 0, .int .u8 0, .int .u8 0, .int .u8 0, .int .u8 0, .int .u8 0, .int .u8 0, .int .u8 0, .int .u8 0, .int .u8 0, .int .u8 0, .int .u8 0, .int .u8 0, .int .u8 0, .int .u8 0, .int .u8 0, .int .u8 0, .int .u8 0, .int .u8 0] 5)) := fun _ => by kernel_rfl
  go_enter Tryz.func78, Tryz.ntmps78
  go_wp2_with (first
    | (go_at_call 30; refine (picked_any _ _ _ (by omega) (by omega) (by omega) (by omega)).mono ?_; rintro e w' ⟨rfl, rfl⟩))
  go_ret
  refine ⟨rfl, ?_, (Below.refl _ _).alloc (Nat.le_refl _) _⟩
  rw [someL_cells]
  exact BoxAt.new w _ _

/-- voters of a number. -/
def votersL (n : Int) : List Int := [0, 1, 2, 3].filter (fun i => decide (i ≠ pickedZ n 5))

theorem vot_cases (k : Int) (h0 : 0 ≤ k) (h1 : k < 5) : k = 0 ∨ k = 1 ∨ k = 2 ∨ k = 3 ∨ k = 4 := by omega
/-- The first k of the four, without one. -/
def votTo (p : Int) (k : Nat) : List Int := ([0, 1, 2, 3].take k).filter (fun i => decide (i ≠ p))
theorem votTo_skip {p : Int} {k : Nat} (hk : k < 4) (h : (k : Int) = p) : votTo p (k + 1) = votTo p k := by
  subst h
  match k, hk with
  | 0, _ => rfl
  | 1, _ => rfl
  | 2, _ => rfl
  | 3, _ => rfl
theorem votTo_put {p : Int} {k : Nat} (hk : k < 4) (h : (k : Int) ≠ p) : votTo p (k + 1) = votTo p k ++ [(k : Int)] := by
  unfold votTo
  have e : ([0, 1, 2, 3] : List Int).take (k + 1) = ([0, 1, 2, 3] : List Int).take k ++ [(k : Int)] := by
    match k, hk with
    | 0, _ => rfl
    | 1, _ => rfl
    | 2, _ => rfl
    | 3, _ => rfl
  rw [e, List.filter_append, List.filter_cons, if_pos (by simpa using h)]
  rfl
theorem votTo_len (p : Int) (k : Nat) : (votTo p k).length ≤ 4 := by
  unfold votTo
  have h1 := List.length_filter_le (fun i => decide (i ≠ p)) (([0, 1, 2, 3] : List Int).take k)
  have h2 : (([0, 1, 2, 3] : List Int).take k).length ≤ 4 := List.length_take_le' _ _
  omega
end Go.Proofs.YtmijiclocadimaaGreatDoor
