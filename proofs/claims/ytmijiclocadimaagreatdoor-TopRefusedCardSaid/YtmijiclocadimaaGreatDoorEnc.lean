/- wire.wide, putDigests, putHeader, putBatch: what they append. -/
import Derived.Test.YtmijiclocadimaaGreatDoorBas
import Derived.Test.YtmijiclocadimaaGreatDoorSome0
set_option linter.unusedVariables false
set_option linter.unusedSimpArgs false
namespace Go.Proofs.YtmijiclocadimaaGreatDoor
open Go Go.RowKit

def wideL (n : Int) : Bytes := [byteZ (n / 65536), byteZ (n / 256), byteZ n]
set_option maxRecDepth 100000 in
set_option maxHeartbeats 1000000 in
theorem wide_any (base : Nat) (v : Value) (l : Bytes) (n : Int) (w : World) (h : w.ownsRow base 5 1 v l.length (byteVs l)) (hb : base ≤ w.heap.size) (hl : l.length ≤ 1000000) (h0 : 0 ≤ n) (h1 : n ≤ 9223372036854775807) :
    Calls Tryz.prog 75 #[v, .int .i64 n] w fun e w' => ∃ v', e = .returned v' ∧ AppB base 5 w v w' v' (l ++ wideL n) := by
  go_enter Tryz.func75, Tryz.ntmps75
  go_wp2_with (at_builtin; refine wpList_append_at1 rfl _ _ 66 rfl elemB base _ rfl l.length (byteVs l) (by exact ownsRow_below h ((Below.refl _ _).alloc (Nat.le_refl _) _)) _ rfl 3 [.int .u8 (n / 65536 % 256), .int .u8 (n / 256 % 256), .int .u8 (n % 256)] (by exact (BoxAt.new w [_, _, _] _).slCellsN rfl) (by simp [Value.oneCell']) (by decide) (by unfold maxLen; omega) (by omega) (by simp; omega) _ rfl ?_; intro g cap w1 hown hgr hat hlt)
  go_ret
  refine ⟨_, rfl, ?_⟩
  exact AppB.of rfl rfl hown (by simp [byteVs, wideL, byteZ_toNat]) hgr hat rfl ((Below.refl _ _).alloc (Nat.le_refl _) _)

def putDigestsL (l : List Bytes) : Bytes := byteZ l.length :: l.flatten
theorem flatten_take_succ {l : List Bytes} {k : Nat} (h : k < l.length) : (l.take (k + 1)).flatten = (l.take k).flatten ++ l[k] := by
  rw [List.take_succ_eq_append_getElem h, List.flatten_append]; simp
theorem flatten_len {l : List Bytes} (h : ∀ d ∈ l, d.length = 32) : l.flatten.length = 32 * l.length := by
  induction l with
  | nil => rfl
  | cons d t ih =>
    simp only [List.flatten_cons, List.length_append, List.length_cons]
    rw [h d (by simp), ih (fun x hx => h x (by simp [hx]))]; omega
set_option maxRecDepth 100000 in
set_option maxHeartbeats 1000000 in
theorem putDigests_any {G : Nat → Prop} (base : Nat) (v : Value) (l : Bytes) (vd : Value) (ds : List Bytes) (w : World) (h : w.ownsRow base 5 1 v l.length (byteVs l)) (hb : base ≤ w.heap.size) (hl : l.length ≤ 1000000)
    (hd : RdBB G w vd ds) (h32 : ∀ d ∈ ds, d.length = 32) (hn : ds.length ≤ 10) (hG : ∀ b, G b → v.ownBlock ≠ some b) :
    Calls Tryz.prog 102 #[v, vd] w fun e w' => ∃ v', e = .returned v' ∧ AppB base 5 w v w' v' (l ++ putDigestsL ds) := by
  obtain ⟨ad, cap, rfl, -, -⟩ := hd.form
  have hlow := hd.low (by decide)
  have HLOW := Lib.hid hlow
  have HL32 := Lib.hid h32
  have HGG := Lib.hid hG
  clear hd hlow h32 hG
  go_enter Tryz.func102, Tryz.ntmps102
  go_wp2_with (at_builtin; refine wpList_append_at1 rfl _ _ 66 rfl elemB base _ rfl l.length (byteVs l) (by exact ownsRow_below h ((Below.refl _ _).alloc (Nat.le_refl _) _)) _ rfl 1 [.int .u8 (ds.length : Int)] (by exact (BoxAt.new w [_] _).slCellsN rfl) (by simp [Value.oneCell']) (by decide) (by unfold maxLen; omega) (by omega) (by simp; omega) _ rfl ?_; intro g cap1 w1 hown hgr hat hlt)
  have hA : AppB base 5 w v w1 (.slice (some ⟨g, 0, none⟩) (l.length + 1) cap1) (l ++ [byteZ ds.length]) :=
    AppB.of rfl rfl hown (by simp [byteVs, byteZ_toNat]; omega) hgr hat rfl ((Below.refl _ _).alloc (Nat.le_refl _) _)
  have HA := Lib.hid hA
  clear hA hown hgr hat
  go_loopw [0, 15] (fun vw i wr => ∃ k : Nat, k ≤ ds.length ∧ i = .int .i64 k ∧ AppB base 5 w v wr vw (l ++ byteZ ds.length :: (ds.take k).flatten)) (fun _ i _ => ds.length - (intOf i).toNat)
  case atStart => exact ⟨0, Nat.zero_le _, rfl, by simpa using HA.out⟩
  case round =>
    obtain ⟨k, hk, rfl, hR⟩ := hrel
    have HR := Lib.hid hR
    by_cases hlt : k < ds.length
    · have hrd := HLOW.out.keep (G' := fun _ => True) (hR.keep (fun j hj hh => HGG.out _ hh.1 hj)) (fun _ _ => trivial)
      obtain ⟨b, o, vk, rfl, -, hc, hk2⟩ := hrd.cellS k hlt
      obtain ⟨adk, capk, rfl, -, -⟩ := hk2.form
      have h32 := HL32.out ds[k] (List.getElem_mem hlt)
      have HSL := Lib.hid (show SlCells wr (.slice adk ds[k].length capk) ds[k].length 1 (byteVs ds[k]) from hk2.slCells)
      have hfl : ((ds.take k).flatten).length ≤ 320 := by
        rw [flatten_len (fun d hd => HL32.out d (List.mem_of_mem_take hd)), List.length_take]; omega
      have hll : (l ++ byteZ ds.length :: (ds.take k).flatten).length ≤ 1000400 := by simp only [List.length_append, List.length_cons]; omega
      have hs := hR.size
      have HFL := Lib.hid (flatten_take_succ hlt)
      clear hR hrd hk2 hfl
      generalize hD : ds[k] = D at *
      generalize hL : l ++ byteZ ds.length :: (ds.take k).flatten = Lk at *
      have HD := Lib.hid hD
      have HLk := Lib.hid hL
      have d0 : 0 < D.length := by omega
      have d1 : D.length ≤ 32 := by omega
      clear hD hL h32
      go_wp2_with (at_builtin; refine wpList_append_at1 rfl _ _ 66 rfl elemB base _ rfl Lk.length (byteVs Lk) (by exact HR.out.own) _ rfl D.length (byteVs D) (by exact HSL.out) (oneCell_map _ _ (fun _ => rfl)) (by omega) (by unfold maxLen; omega) (by omega) (by omega) _ rfl ?_; intro g2 cap2 w2 hown hgr hat hlt2)
      have hA := HR.out.trans (AppB.of (w := wr) rfl rfl hown rfl hgr hat rfl (Below.refl _ _))
      have HA2 := Lib.hid hA
      clear hA hown hgr hat
      go_wp2_with fail
      go_roundw
      case rel => exact ⟨k + 1, by omega, by go_num, by rw [HFL.out, show l ++ byteZ ds.length :: ((ds.take k).flatten ++ D) = Lk ++ D by rw [← HLk.out]; simp]; exact HA2.out⟩
      case measure => simp [intOf]; omega
    · have hke : k = ds.length := by omega
      subst hke
      rw [List.take_length] at HR
      go_wp2
      go_ret
      exact ⟨_, rfl, HR.out⟩
end Go.Proofs.YtmijiclocadimaaGreatDoor
