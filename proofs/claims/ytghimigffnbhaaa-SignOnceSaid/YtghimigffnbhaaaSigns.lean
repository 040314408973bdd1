/- sheaveskeep.Signs: the signs of raw numbers. -/
import Derived.Test.YtghimigffnbhaaaSeal4
set_option linter.unusedVariables false
set_option linter.unusedSimpArgs false
attribute [local go_sem ↓] Go.wp_at_zero Go.wp_at_succ
namespace Go.Proofs.Ytghimigffnbhaaa
open Go Go.RowKit

def signsAll (l : List Int) : List Sgn := (l.map fun n => sgnOf n 3).foldl signAdd []
theorem signAdd_ok {l : List Sgn} {s : Sgn} (h : signsOk l = true) (hs : sgnOk s = true) : signsOk (signAdd l s) = true := by
  unfold signAdd
  split
  · exact h
  · rename_i hn
    unfold signsOk at *
    simp only [decide_eq_true_eq] at *
    refine ⟨fun x hx => ?_, ?_⟩
    · rcases List.mem_append.1 hx with hx | hx
      · exact h.1 x hx
      · rw [List.mem_singleton.1 hx]; exact hs
    · rw [List.nodup_append]
      exact ⟨h.2, by simp, fun a ha b hb => by rw [List.mem_singleton.1 hb]; exact fun e => hn (e ▸ ha)⟩
theorem signAdd_len (l : List Sgn) (s : Sgn) : (signAdd l s).length ≤ l.length + 1 := by unfold signAdd; split <;> simp
theorem signsAll_snoc (l : List Int) (n : Int) : signsAll (l ++ [n]) = signAdd (signsAll l) (sgnOf n 3) := by unfold signsAll; simp
theorem foldAdd_ok : ∀ (ts : List Int) (acc : List Sgn), signsOk acc = true → signsOk ((ts.map fun n => sgnOf n 3).foldl signAdd acc) = true
  | [], _, h => h
  | t :: ts, acc, h => by rw [List.map_cons, List.foldl_cons]; exact foldAdd_ok ts _ (signAdd_ok h (sgnOf_ok _ _))
theorem signsAll_ok (l : List Int) : signsOk (signsAll l) = true := foldAdd_ok l [] (by decide)
theorem foldAdd_len : ∀ (ts : List Int) (acc : List Sgn), ((ts.map fun n => sgnOf n 3).foldl signAdd acc).length ≤ acc.length + ts.length
  | [], _ => by simp
  | t :: ts, acc => by
    rw [List.map_cons, List.foldl_cons]
    have h1 := foldAdd_len ts (signAdd acc (sgnOf t 3))
    have h2 := signAdd_len acc (sgnOf t 3)
    simp only [List.length_cons]
    omega
theorem signsAll_len (l : List Int) : (signsAll l).length ≤ l.length := by have := foldAdd_len l []; simpa [signsAll] using this
theorem foldAdd_mem : ∀ (ts : List Int) (acc : List Sgn) (x : Sgn), x ∈ (ts.map fun n => sgnOf n 3).foldl signAdd acc → x ∈ acc ∨ ∃ n, x = sgnOf n 3
  | [], _, x, h => .inl h
  | t :: ts, acc, x, h => by
    rw [List.map_cons, List.foldl_cons] at h
    rcases foldAdd_mem ts _ x h with h | h
    · unfold signAdd at h
      split at h
      · exact .inl h
      · rcases List.mem_append.1 h with h | h
        · exact .inl h
        · exact .inr ⟨t, List.mem_singleton.1 h⟩
    · exact .inr h
/-- All signs of raw numbers have a digest of its own kind. -/
theorem signsAll_mem {l : List Int} {x : Sgn} (h : x ∈ signsAll l) : ∃ n, x = sgnOf n 3 := by
  rcases foldAdd_mem l [] x h with h | h
  · simp at h
  · exact h
theorem sgnOf_ne {n n' m m' : Int} (h : m % 256 ≠ m' % 256) : sgnOf n m ≠ sgnOf n' m' := by
  intro e
  have e1 : someL n m = someL n' m' := congrArg (fun x : Sgn => x.2.2.2) e
  unfold someL at e1
  simp only [List.cons.injEq] at e1
  have := congrArg (fun u : UInt8 => (u.toNat : Int)) e1.2.1
  simp only [byteZ_toNat] at this
  exact h this
theorem someL_apart {n n' m m' : Int} (h : m % 256 ≠ m' % 256) : someL n m ≠ someL n' m' := by
  intro e1
  unfold someL at e1
  simp only [List.cons.injEq] at e1
  have := congrArg (fun u : UInt8 => (u.toNat : Int)) e1.2.1
  simp only [byteZ_toNat] at this
  exact h this
theorem signsAll_take {l : List Int} {k : Nat} (h : k < l.length) : signsAll (l.take (k + 1)) = signAdd (signsAll (l.take k)) (sgnOf l[k] 3) := by
  rw [List.take_succ_eq_append_getElem h, signsAll_snoc]

set_option maxRecDepth 100000 in
set_option maxHeartbeats 2000000 in
theorem signs_any {G : Nat → Prop} {l : List Int} (v : Value) (w : World) (h : RdI G w v l) (hb : ∀ x ∈ l, -9223372036854775808 ≤ x ∧ x ≤ 9223372036854775807) :
    Calls Try.prog 25 #[v] w fun e w' => ∃ ad cap, e = .returned (.slice ad (signsAll (l.take 30)).length cap) ∧ RdS RSign (fun b => w.heap.size ≤ b) w' (.slice ad (signsAll (l.take 30)).length cap) (signsAll (l.take 30)) ∧ Below w.heap.size w w' := by
  obtain ⟨adv, capv, rfl, hcv, hcm⟩ := h.form
  unfold maxLen at hcm
  go_enter Try.func25, Try.ntmps25
  go_wp2_with fail
  go_loopw [3, 4] (fun o i wr => ∃ (k : Nat) (L : List Sgn) (ad : Option Addr) (cap : Nat), k ≤ l.length ∧ k ≤ 30 ∧ i = .int .i64 k ∧ o = .slice ad L.length cap ∧ L = signsAll (l.take k) ∧ RdS RSign (fun b => w.heap.size ≤ b) wr (.slice ad L.length cap) L ∧ Below w.heap.size w wr) (fun _ i _ => 30 - (intOf i).toNat)
  case atStart => exact ⟨0, [], none, 0, Nat.zero_le _, by omega, rfl, rfl, rfl, RdS.nil _ _ _, Below.refl _ _⟩
  case round =>
    obtain ⟨k, L, ad, cap, hk, hk30, rfl, rfl, hLe, hL, hB⟩ := hrel
    have HL := Lib.hid hL
    have HLE := Lib.hid hLe
    have hz := hB.size
    have hLl : L.length ≤ k := by rw [hLe]; have := signsAll_len (l.take k); simp at this; omega
    have HBr := Lib.hid hB
    clear hL hLe hB
    by_cases hlt : k < l.length
    · have t1 : (k : Int) < (l.length : Int) := by omega
      by_cases h30 : (k : Int) < 30
      · have hbk := hb _ (List.getElem_mem hlt)
        obtain ⟨b, o, rfl, -, hc⟩ := (h.below HBr.out (fun _ h => h)).cell k hlt
        have hblt := World.block_lt_of_cell? wr _ hc
        simp only at hblt
        have i0 : (0 : Int) ≤ (k : Int) := by omega
        have HOK := Lib.hid (show signsOk L = true by rw [HLE.out]; exact signsAll_ok _)
        have HS := Lib.hid (show signsAll (l.take (k + 1)) = signAdd L (sgnOf l[k] 3) by rw [signsAll_take hlt, HLE.out])
        have h30' : k < 30 := by omega
        go_wp2_with fail
        go_region_held3 (fun w' => w'.cell? ⟨b, o + k, none⟩ = some (.int .i64 l[k])) (go_keep)
          (first
            | ((go_at_call 16; refine (picked_any _ _ _ hbk.1 hbk.2 (by omega) (by omega)).mono ?_; rintro e w' ⟨rfl, rfl⟩))
            | ((go_at_call 26; refine (slot_any _ _ _ hbk.1 hbk.2).mono ?_; rintro e w2 ⟨g, rfl, hd, hg1, hg2, hb2⟩; have hb2' : Below wr.heap.size wr w2 := (by first | exact hb2 | exact (Below.refl _ _).drew.trans hb2); have HD := Lib.hid hd; have HL2 := Lib.hid (HL.out.below hb2' (fun _ h => h)); have HB2 := Lib.hid (HBr.out.trans (hb2'.mono hz)); have hc2 := ((bcellAt hb2' b hblt).1 (o + k)).trans hc; have z2 := hb2'.size; clear hd hb2 hb2'))
            | ((go_at_call 27; refine (sadd_ok (sgnOf l[k] 3) _ _ _ (by first | exact HL2.out | exact HL2.out.keep (Keep.drew _ _) (fun _ h => h)) (by first | exact HD.out | exact HD.out.keep (Keep.drew _ _) (fun _ h => h)) (by omega) HOK.out (sgnOf_ok _ _)).mono ?_; rintro e w3 ⟨ad3, cap3, rfl, hr3, hb3⟩; have hb3' : Below w2.heap.size w2 w3 := (by first | exact hb3 | exact (Below.refl _ _).drew.trans hb3); have HL3 := Lib.hid (hr3.mono (G' := fun b => w.heap.size ≤ b) (fun b hb => Nat.le_trans HB2.out.size hb)); have hB3 := HB2.out.trans (hb3'.mono HB2.out.size); have hc3 := ((bcellAt hb3' b (by omega)).1 (o + k)).trans hc2; clear hr3 hb3 hb3')))
        all_goals
          go_wp2
          go_roundw
          case rel => exact ⟨k + 1, signAdd L (sgnOf l[k] 3), ad3, cap3, by omega, by omega, by go_num, rfl, HS.out.symm, HL3.out, hB3⟩
          case measure => simp [intOf]; omega
      · have HQ := Lib.hid (show signsAll (l.take 30) = L by rw [HLE.out, show k = 30 by omega])
        go_wp2
        go_ret
        exact ⟨ad, cap, by rw [HQ.out]; rfl, by rw [HQ.out]; exact HL.out, HBr.out⟩
    · have HQ := Lib.hid (show signsAll (l.take 30) = L by rw [HLE.out, List.take_of_length_le (by omega), List.take_of_length_le (by omega)])
      have t1 : ¬ (k : Int) < (l.length : Int) := by omega
      go_wp2
      go_ret
      exact ⟨ad, cap, by rw [HQ.out]; rfl, by rw [HQ.out]; exact HL.out, HBr.out⟩
end Go.Proofs.Ytghimigffnbhaaa
