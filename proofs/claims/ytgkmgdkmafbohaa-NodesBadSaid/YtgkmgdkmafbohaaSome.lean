/- sheaveskeep.some, voters: what they make. -/
import Derived.Test.YtgkmgdkmafbohaaChk
import Derived.Test.YtgkmgdkmafbohaaPick
import Derived.Test.YtgkmgdkmafbohaaLib4
set_option linter.unusedVariables false
set_option linter.unusedSimpArgs false
namespace Go.Proofs.Ytgkmgdkmafbohaa
open Go Go.RowKit

theorem RdS.of_box {α : Type} {f : α → Value} {G : Nat → Prop} {w : World} {b : Nat} {l : List α} {T : TypeId} {cap : Nat} (h : BoxAt w b (l.map f) T) (hG : G b) (hc : l.length ≤ cap) (hm : cap ≤ maxLen) : RdS (flat f) G w (.slice (some ⟨b, 0, none⟩) l.length cap) l :=
  ⟨_, cap, rfl, hc, hm, fun h => by simp at h, fun j x hx => ⟨b, 0, [f x], rfl, hG, fun t c ht => by
    match t, ht with
    | 0, ht =>
      simp at ht; subst ht
      have := h.cell j (v := f x) (by simp [hx])
      simpa [flat] using this, rfl⟩⟩

/-- A byte out of a number. -/
def byteZ (n : Int) : UInt8 := UInt8.ofNat (n % 256).toNat
theorem byteZ_toNat (n : Int) : ((byteZ n).toNat : Int) = n % 256 := by
  unfold byteZ
  rw [UInt8.toNat_ofNat']
  omega
/-- some digest. -/
def someL (n m : Int) : Bytes := byteZ (pickedZ n 256) :: byteZ m :: [0, 0, 0, 0, 0, 0, 0, 0, 0, 0, 0, 0, 0, 0, 0, 0, 0, 0, 0, 0, 0, 0, 0, 0, 0, 0, 0, 0, 0, 1]
theorem someL_length (n m : Int) : (someL n m).length = 32 := rfl

theorem someL_cells (n m : Int) : (someL n m).map (fun c => Value.int .u8 c.toNat) = [.int .u8 (pickedZ n 256 % 256), .int .u8 (m % 256), .int .u8 0, .int .u8 0, .int .u8 0, .int .u8 0, .int .u8 0, .int .u8 0, .int .u8 0, .int .u8 0, .int .u8 0, .int .u8 0, .int .u8 0, .int .u8 0, .int .u8 0, .int .u8 0, .int .u8 0, .int .u8 0, .int .u8 0, .int .u8 0, .int .u8 0, .int .u8 0, .int .u8 0, .int .u8 0, .int .u8 0, .int .u8 0, .int .u8 0, .int .u8 0, .int .u8 0, .int .u8 0, .int .u8 0, .int .u8 1] := by
  unfold someL
  simp [byteZ_toNat]
set_option maxRecDepth 100000 in
set_option maxHeartbeats 1000000 in
theorem some_any (n m : Int) (w : World) (h1 : -9223372036854775808 ≤ n) (h2 : n ≤ 9223372036854775807) :
    Calls Try.prog 16 #[.int .i64 n, .int .i64 m] w fun e w' => e = .returned (.slice (some ⟨w.heap.size, 0, none⟩) 32 32) ∧
      BoxAt w' w.heap.size ((someL n m).map fun c => Value.int .u8 c.toNat) 5 ∧ Below w.heap.size w w' := by
  have hmk : ∀ w : World, (Instr.makeSlice 26 (.int .i64 32) (.int .i64 32)).run Try.prog w = .ok (.slice (some ⟨w.heap.size, 0, none⟩) 32 32) (w.alloc (.cells #[.int .u8 0, .int .u8 0, .int .u8 0, .int .u8 0, .int .u8 0, .int .u8 0, .int .u8 0, .int .u8 0, .int .u8 0, .int .u8 0, .int .u8 0, .int .u8 0, .int .u8 0, .int .u8 0, .int .u8 0, .int .u8 0, .int .u8 0, .int .u8 0, .int .u8 0, .int .u8 0, .int .u8 0, .int .u8 0, .int .u8 0, .int .u8 0, .int .u8 0, .int .u8 0, .int .u8 0, .int .u8 0, .int .u8 0, .int .u8 0, .int .u8 0, .int .u8 0] 5)) := fun _ => by kernel_rfl
  go_enter Try.func16, Try.ntmps16
  go_wp2_with (first
    | (go_at_call 15; refine (picked_any _ _ _ (by omega) (by omega) (by omega) (by omega)).mono ?_; rintro e w' ⟨rfl, rfl⟩))
  go_ret
  refine ⟨rfl, ?_, (Below.refl _ _).alloc (Nat.le_refl _) _⟩
  rw [someL_cells]
  exact BoxAt.new w _ _

/-- voters of a number. -/
def votersL (n : Int) : List Int := [0, 1, 2, 3].filter (fun i => decide (i ≠ pickedZ n 5))
theorem elemI : ElemOk Try.prog 38 3 1 8 := elemOk_of (z := .int .i64 0) (by kernel_rfl) (by kernel_rfl) rfl (by decide)

theorem vot_cases (k : Int) (h0 : 0 ≤ k) (h1 : k < 5) : k = 0 ∨ k = 1 ∨ k = 2 ∨ k = 3 ∨ k = 4 := by omega
/-- The first k of the four, without one. -/
def votTo (p : Int) (k : Nat) : List Int := ([0, 1, 2, 3].take k).filter (fun i => decide (i ≠ p))
theorem votTo_skip {p : Int} {k : Nat} (hk : k < 4) (h : (k : Int) = p) : votTo p (k + 1) = votTo p k := by
  subst h
  match k, hk with
  | 0, _ => rfl
  | 1, _ => rfl
  | 2, _ => rfl
  | 3, _ => rfl
theorem votTo_put {p : Int} {k : Nat} (hk : k < 4) (h : (k : Int) ≠ p) : votTo p (k + 1) = votTo p k ++ [(k : Int)] := by
  unfold votTo
  have e : ([0, 1, 2, 3] : List Int).take (k + 1) = ([0, 1, 2, 3] : List Int).take k ++ [(k : Int)] := by
    match k, hk with
    | 0, _ => rfl
    | 1, _ => rfl
    | 2, _ => rfl
    | 3, _ => rfl
  rw [e, List.filter_append, List.filter_cons, if_pos (by simpa using h)]
  rfl
theorem votTo_len (p : Int) (k : Nat) : (votTo p k).length ≤ 4 := by
  unfold votTo
  have h1 := List.length_filter_le (fun i => decide (i ≠ p)) (([0, 1, 2, 3] : List Int).take k)
  have h2 : (([0, 1, 2, 3] : List Int).take k).length ≤ 4 := List.length_take_le' _ _
  omega

set_option maxRecDepth 100000 in
set_option maxHeartbeats 1000000 in
theorem voters_any (n : Int) (w : World) (h1 : -9223372036854775808 ≤ n) (h2 : n ≤ 9223372036854775807) :
    Calls Try.prog 24 #[.int .i64 n] w fun e w' => ∃ v, e = .returned v ∧ w'.ownsRow w.heap.size 3 1 v (votersL n).length ((votersL n).map (Value.int .i64)) ∧ Below w.heap.size w w' := by
  obtain ⟨r1, r2⟩ := pickedZ_range n 5 (by omega)
  have HV := Lib.hid (show votersL n = votTo (pickedZ n 5) 4 from rfl)
  generalize hp : pickedZ n 5 = p at *
  have HP := Lib.hid hp
  clear hp
  go_enter Try.func24, Try.ntmps24
  go_wp2_with (first
    | (go_at_call 15; refine (picked_any _ _ _ (by omega) (by omega) (by omega) (by omega)).mono ?_; rintro e w' ⟨rfl, rfl⟩; rw [HP.out]))
  go_loopw [4, 5] (fun v i wr => ∃ k : Nat, k ≤ 4 ∧ i = .int .i64 k ∧ wr.ownsRow w.heap.size 3 1 v (votTo p k).length ((votTo p k).map (Value.int .i64)) ∧ Below w.heap.size w wr) (fun _ i _ => 4 - (intOf i).toNat)
  case atStart => exact ⟨0, Nat.zero_le _, rfl, World.ownsRow_nil _ _ _ _, Below.refl _ _⟩
  case round =>
    obtain ⟨k, hk, rfl, hown, hB⟩ := hrel
    have HO := Lib.hid hown
    clear hown
    have hz := hB.size
    by_cases hlt : (k : Int) < 4
    · by_cases e : (k : Int) = p
      · have hb : ((k : Int) != p) = false := by simp [e]
        have HS := Lib.hid (votTo_skip (by omega) e)
        clear e
        go_wp2
        go_roundw
        case rel => exact ⟨k + 1, by omega, by go_num, by rw [HS.out]; exact HO.out, hB⟩
        case measure => simp [intOf]; omega
      · have hb : ((k : Int) != p) = true := by rw [bne_iff_ne]; exact e
        have HS := Lib.hid (votTo_put (by omega) e)
        have hl := votTo_len p k
        clear e
        go_wp2_with (at_builtin; refine wpList_append_sl rfl _ _ 38 rfl elemI w.heap.size _ rfl (votTo p k).length ((votTo p k).map (Value.int .i64)) (HO.out.alloc _) _ rfl 1 [.int .i64 k] (by exact slCells_new _ [_] _ 1 rfl) (by simp [Value.oneCell']) (by unfold maxLen; omega) (by omega) (by simp; omega) ?_; intro v' w' hown' hgr)
        have hB' : Below w.heap.size w w' := (hB.alloc hz _).grown hgr (by simp; omega) (ownBlock_ge HO.out)
        go_roundw
        case rel => exact ⟨k + 1, by omega, by go_num, by rw [HS.out]; simpa using hown', hB'⟩
        case measure => simp [intOf]; omega
    · obtain rfl : k = 4 := by omega
      go_wp2
      go_ret
      exact ⟨_, rfl, by rw [HV.out]; exact HO.out, hB⟩
end Go.Proofs.Ytgkmgdkmafbohaa
