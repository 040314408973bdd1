/- wire's reader: number: what it computes. -/
import Derived.Test.YtegdpjoncjmdeaaDecR
import Derived.Laws.BitsAllLaws
set_option linter.unusedVariables false
set_option linter.unusedSimpArgs false
namespace Go.Proofs.Ytegdpjoncjmdeaa
open Go Go.RowKit

theorem i64_or_byte (X y : Int) (h0 : 0 ≤ X) (h1 : X < 16777216) (h2 : 0 ≤ y) (h3 : y < 256) : bits .or .i64 (X * 256) y = X * 256 + y := by
  obtain ⟨a, rfl⟩ := Int.eq_ofNat_of_zero_le h0
  obtain ⟨b, rfl⟩ := Int.eq_ofNat_of_zero_le h2
  have e : ((a : Int) * 256) = ((a * 256 : Nat) : Int) := by omega
  rw [e]
  show IntKind.i64.wrap ((BitVec.ofInt 64 ((a * 256 : Nat) : Int) ||| BitVec.ofInt 64 (b : Int)).toNat : Int) = _
  rw [BitVec.toNat_or, ofInt_u64 _ (by omega), ofInt_u64 _ (by omega), nat_join 8 (a * 256) b (by omega) (by omega), IntWalk.i64_in _ (by omega)]
  omega
theorem numL_take_succ {l : Bytes} {k : Nat} (h : k < l.length) : numL (l.take (k + 1)) = numL (l.take k) * 256 + (l[k].toNat : Int) := by
  rw [List.take_succ_eq_append_getElem h, numL_snoc]
theorem numL_take_bound (l : Bytes) (k : Nat) (h : k ≤ 3) : 0 ≤ numL (l.take k) ∧ numL (l.take k) < 16777216 := by
  have h1 := numL_bound (l.take k)
  have h2 := pow256_le (l.take k).length (3 - (l.take k).length)
  have h3 : (l.take k).length ≤ 3 := by rw [List.length_take]; omega
  rw [show (l.take k).length + (3 - (l.take k).length) = 3 by omega] at h2
  omega
set_option maxRecDepth 100000 in
set_option maxHeartbeats 1000000 in
theorem rnum_any (R : Nat) (r : Rdr) (n : Nat) (w : World) (h : RdrAt R w r) (hn : n ≤ 3) :
    Calls Try.prog 30 #[.pointer (some ⟨R, 0, none⟩), .int .i64 (n : Int)] w fun e w' => e = .returned (.int .i64 (r.num n).1) ∧ RdrAt R w' (r.num n).2 ∧ w.grownBy w' (some R) := by
  have hl := r.take_len n
  have HR := Lib.hid (show r.num n = (numL (r.take n).1, (r.take n).2) from rfl)
  go_enter Try.func30, Try.ntmps30
  go_wp2_with fail
  refine (rtake_any R r n _ h (by omega)).mono ?_
  rintro e w2 ⟨v, rfl, hv, hr, hg⟩
  generalize hB : (r.take n).1 = l at *
  generalize hR : (r.take n).2 = r2 at *
  have HBB := Lib.hid hB
  have HRR := Lib.hid hR
  have Hr := Lib.hid hr
  have Hg := Lib.hid hg
  obtain ⟨ad, cap, rfl, hc1, hc2⟩ := hv.form
  unfold maxLen at hc2
  have HV := Lib.hid hv
  clear hB hR hr hg hv h
  go_wp2_with fail
  go_loop [5, 12] (fun s i => ∃ k : Nat, k ≤ l.length ∧ i = .int .i64 k ∧ s = .int .i64 (numL (l.take k))) (fun _ i => l.length - (intOf i).toNat)
  case atStart => exact ⟨0, Nat.zero_le _, rfl, rfl⟩
  case round =>
    obtain ⟨k, hk, rfl, rfl⟩ := hrel
    obtain ⟨b0, b1⟩ := numL_take_bound l k (by omega)
    by_cases hlt : k < l.length
    · obtain ⟨b, o, rfl, -, hc⟩ := HV.out.cell k hlt
      have HS := Lib.hid (numL_take_succ hlt)
      have hb := l[k].toNat_lt
      generalize hX : numL (l.take k) = X at *
      generalize hY : l[k] = y at *
      have HX := Lib.hid hX
      have HY := Lib.hid hY
      clear hX hY
      go_wp2
      refine ⟨⟨k + 1, by omega, by go_num, ?_⟩, by simp [intOf]; omega⟩
      rw [HS.out, i64_or_byte X y.toNat b0 b1 (by omega) (by omega)]
    · have hke : k = l.length := by omega
      subst hke
      rw [List.take_length]
      go_wp2
      go_ret
      exact ⟨by rw [HR.out]; rfl, by rw [HR.out]; exact Hr.out, Hg.out⟩
end Go.Proofs.Ytegdpjoncjmdeaa
