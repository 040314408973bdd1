/- pool: tx, Check, Add, Seal. -/
import Derived.Test.YtghimigffnbhaaaSlicesT
import Derived.Deep.RegionHeld3
set_option linter.unusedVariables false
set_option linter.unusedSimpArgs false
namespace Go.Proofs.Ytghimigffnbhaaa
open Go Go.RowKit

/-- May a transaction be? -/
def txOk (t : List UInt8) : Bool := decide (1 ≤ t.length ∧ t.length ≤ 20)

theorem ptx_any (t : List UInt8) (w : World) :
    Calls Try.prog 36 #[strV t] w fun e w' => e = .returned (.bool (txOk t)) ∧ w = w' := by
  go_enter Try.func36, Try.ntmps36
  go_wp2
  all_goals
    go_ret
    exact ⟨ret_boolH (by unfold txOk; rw [Bool.eq_iff_iff]; simp; omega), rfl⟩

/-- May a pool be? -/
def poolOk (n : Int) (l : List (List UInt8)) : Bool := decide (1 ≤ n ∧ n ≤ 1048577 ∧ l.length ≤ 40 ∧ (∀ t ∈ l, txOk t = true) ∧ l.Nodup)
def poolCode (n : Int) (l : List (List UInt8)) : Int := if poolOk n l then 0 else 12

/-- The first k may be. -/
def poolTo (l : List (List UInt8)) (k : Nat) : Prop := (∀ t ∈ l.take k, txOk t = true) ∧ (l.take k).Nodup
theorem take_snoc' {α : Type} (l : List α) (k : Nat) (h : k < l.length) : l.take (k + 1) = l.take k ++ [l[k]] := by
  rw [List.take_succ_eq_append_getElem h]
theorem poolTo_zero (l : List (List UInt8)) : poolTo l 0 := by simp [poolTo]
theorem poolTo_succ {l : List (List UInt8)} {k : Nat} (hk : k < l.length) (h : poolTo l k) (h1 : txOk l[k] = true) (h2 : ¬ l[k] ∈ l.take k) : poolTo l (k + 1) := by
  unfold poolTo at *
  rw [take_snoc' l k hk]
  refine ⟨fun t ht => ?_, ?_⟩
  · rcases List.mem_append.1 ht with ht | ht
    · exact h.1 t ht
    · simp at ht; subst ht; exact h1
  · rw [List.nodup_append]
    refine ⟨h.2, by simp, fun a ha b hb => ?_⟩
    simp at hb; subst hb; exact fun e => h2 (e ▸ ha)
theorem poolCode_tx {n : Int} {l : List (List UInt8)} {k : Nat} (hk : k < l.length) (h1 : txOk l[k] = false) : poolCode n l = 12 := by
  unfold poolCode poolOk; rw [if_neg]; simp; intro _ _ _ h; have := h _ (List.getElem_mem hk); simp_all
theorem poolCode_twice {n : Int} {l : List (List UInt8)} {k : Nat} (hk : k < l.length) (h1 : l[k] ∈ l.take k) : poolCode n l = 12 := by
  unfold poolCode poolOk; rw [if_neg]; simp; intro _ _ _ _ h
  obtain ⟨j, hj, e⟩ := List.mem_iff_getElem.1 h1
  simp at hj e
  have := (List.nodup_iff_pairwise_ne.1 h)
  exact (List.pairwise_iff_getElem.1 this j k (by omega) hk (by omega)) e
theorem poolCode_ok {n : Int} {l : List (List UInt8)} (h1 : 1 ≤ n) (h2 : n ≤ 1048577) (h3 : l.length ≤ 40) (h : poolTo l l.length) : poolCode n l = 0 := by
  unfold poolCode poolOk; rw [if_pos]
  simp only [decide_eq_true_eq]
  unfold poolTo at h
  rw [List.take_length] at h
  exact ⟨h1, h2, h3, h.1, h.2⟩
theorem poolCode_no {n : Int} {l : List (List UInt8)} (h : n < 1 ∨ 1048577 < n ∨ 40 < l.length) : poolCode n l = 12 := by
  unfold poolCode poolOk; rw [if_neg]; simp only [decide_eq_true_eq]; omega

theorem pcheck_any {G : Nat → Prop} {l : List (List UInt8)} (n : Int) (v : Value) (w : World) (h : RdT G w v l) :
    Calls Try.prog 21 #[.agg #[.int .i64 n, v]] w fun e w' => e = .returned (.int .i64 (poolCode n l)) ∧ Below w.heap.size w w' := by
  obtain ⟨ad, cap, rfl, h1, h2⟩ := h.form
  unfold maxLen at h2
  by_cases hr : n < 1 ∨ 1048577 < n ∨ 40 < l.length
  · have HR := Lib.hid (poolCode_no (l := l) hr)
    go_enter Try.func21, Try.ntmps21
    rcases hr with hr | hr | hr
    · go_wp2
      go_ret
      exact ⟨ret_intH HR.out, (Below.refl _ _).alloc (Nat.le_refl _) _⟩
    · have : ¬ n < 1 := by omega
      go_wp2
      go_ret
      exact ⟨ret_intH HR.out, (Below.refl _ _).alloc (Nat.le_refl _) _⟩
    · by_cases ha : n < 1
      · go_wp2
        go_ret
        exact ⟨ret_intH HR.out, (Below.refl _ _).alloc (Nat.le_refl _) _⟩
      · by_cases hb : 1048577 < n
        · go_wp2
          go_ret
          exact ⟨ret_intH HR.out, (Below.refl _ _).alloc (Nat.le_refl _) _⟩
        · go_wp2
          go_ret
          exact ⟨ret_intH HR.out, (Below.refl _ _).alloc (Nat.le_refl _) _⟩
  · have r1 : ¬ n < 1 := by omega
    have r2 : ¬ 1048577 < n := by omega
    have r3 : ¬ 40 < l.length := by omega
    clear hr
    go_enter Try.func21, Try.ntmps21
    go_wp2
    go_loop [22] (fun i => ∃ k : Nat, k ≤ l.length ∧ i = .int .i64 k ∧ poolTo l k) (fun i => l.length - (intOf i).toNat)
    case atStart => exact ⟨0, Nat.zero_le _, rfl, poolTo_zero l⟩
    case round =>
      obtain ⟨k, hk, rfl, hto⟩ := hrel
      by_cases hlt : k < l.length
      · obtain ⟨b, o, rfl, -, hc⟩ := h.cell k hlt
        have htake := (h.take k hk)
        have hcw : (w.alloc (.cells #[.int .i64 n, .slice (some ⟨b, o, none⟩) l.length cap] 31)).cell? ⟨b, o + k, none⟩ = some (strV l[k]) := by
          rw [World.cell?_alloc_lt _ _ _ (World.block_lt_of_cell? w _ hc)]; exact hc
        cases h1 : txOk l[k]
        · have HR := Lib.hid (poolCode_tx (n := n) hlt h1)
          go_wp2_with (first
            | (go_at_call 36; refine (ptx_any _ _).mono ?_; rintro e w' ⟨rfl, rfl⟩))
          go_ret
          exact ⟨ret_intH HR.out, (Below.refl _ _).alloc (Nat.le_refl _) _⟩
        · by_cases h2 : l[k] ∈ l.take k
          · have HR := Lib.hid (poolCode_twice (n := n) hlt h2)
            go_wp2_with (first
              | (go_at_call 36; refine (ptx_any _ _).mono ?_; rintro e w' ⟨rfl, rfl⟩)
              | (go_at_call 37; refine (containsT_any _ _ _ (htake.keep (Keep.alloc G _ _) (fun _ h => h))).mono ?_; rintro e w' ⟨rfl, rfl⟩))
            go_ret
            exact ⟨ret_intH HR.out, (Below.refl _ _).alloc (Nat.le_refl _) _⟩
          · have HS := Lib.hid (poolTo_succ hlt hto h1 h2)
            go_wp2_with (first
              | (go_at_call 36; refine (ptx_any _ _).mono ?_; rintro e w' ⟨rfl, rfl⟩)
              | (go_at_call 37; refine (containsT_any _ _ _ (htake.keep (Keep.alloc G _ _) (fun _ h => h))).mono ?_; rintro e w' ⟨rfl, rfl⟩))
            go_round
            case rel => exact ⟨k + 1, by omega, by go_num, HS.out⟩
            case measure => simp [intOf]; omega
      · have HR := Lib.hid (poolCode_ok (n := n) (l := l) (by omega) (by omega) (by omega) (by rw [show l.length = k by omega]; exact hto))
        go_wp2
        go_ret
        exact ⟨ret_intH HR.out, (Below.refl _ _).alloc (Nat.le_refl _) _⟩

def addCode (n : Int) (l : List (List UInt8)) (t : List UInt8) : Int :=
  if poolOk n l = false then 12 else if txOk t = false then 1 else if t ∈ l then 7 else if l.length = 40 then 6 else 0
def addNext (n : Int) (l : List (List UInt8)) (t : List UInt8) : Int := if addCode n l t = 0 then n else 0
def addTxs (n : Int) (l : List (List UInt8)) (t : List UInt8) : List (List UInt8) := if addCode n l t = 0 then l ++ [t] else []
def AddPost (n : Int) (l : List (List UInt8)) (t : List UInt8) (w : World) (e : Ending) (w' : World) : Prop :=
  ∃ v', e = .returned (.tuple #[.agg #[.int .i64 (addNext n l t), v'], .int .i64 (addCode n l t)]) ∧ RdT (fun b => w.heap.size ≤ b) w' v' (addTxs n l t) ∧ Below w.heap.size w w'

theorem AddPost.bad {n : Int} {l : List (List UInt8)} {t : List UInt8} {w w' : World} {c : Int} (h : addCode n l t = c) (hc : c ≠ 0) (hb : Below w.heap.size w w') :
    AddPost n l t w (.returned (.tuple #[.agg #[.int .i64 0, .slice none 0 0], .int .i64 c])) w' := by
  refine ⟨.slice none 0 0, ?_, ?_, hb⟩
  · unfold addNext; rw [h, if_neg hc]
  · unfold addTxs; rw [h, if_neg hc]; exact RdS.nil _ _ _
theorem AddPost.good {n : Int} {l : List (List UInt8)} {t : List UInt8} {w w' : World} {v' : Value} (h : addCode n l t = 0) (hr : RdT (fun b => w.heap.size ≤ b) w' v' (l ++ [t])) (hb : Below w.heap.size w w') :
    AddPost n l t w (.returned (.tuple #[.agg #[.int .i64 n, v'], .int .i64 0])) w' := by
  refine ⟨v', ?_, ?_, hb⟩
  · unfold addNext; rw [h, if_pos rfl]
  · unfold addTxs; rw [h, if_pos rfl]; exact hr

theorem padd_bad1 {G : Nat → Prop} {l : List (List UInt8)} (n : Int) (v : Value) (t : List UInt8) (w : World) (h : RdT G w v l) (h1 : poolOk n l = false) :
    Calls Try.prog 20 #[.agg #[.int .i64 n, v], strV t] w (AddPost n l t w) := by
  have HC := Lib.hid (show addCode n l t = 12 by unfold addCode; rw [if_pos h1])
  have hcode : poolCode n l = 12 := by unfold poolCode; simp [h1]
  clear h1
  go_enter Try.func20, Try.ntmps20
  go_wp2_with (go_at_call 21; refine (pcheck_any _ _ _ (h.keep ((Keep.alloc G _ _).trans (Keep.alloc G _ _)) (fun _ h => h))).mono ?_; rintro e w1 ⟨rfl, hb⟩; obtain ⟨hc, hf⟩ := bcell hb; have hB : Below w.heap.size w w1 := (((Below.refl _ w).alloc (Nat.le_refl _) _).alloc (by simp) _).trans (hb.mono (by simp; omega)))
  refine bodyPost_ret (v := .tuple #[.agg #[.int .i64 0, .slice none 0 0], .int .i64 12]) (by simp [results, Try.results20, go_sem, hc, hf]) rfl (AddPost.bad HC.out (by decide) ?_)
  repeat (first | exact hB | refine Below.setCell ?_ (by simp) _)

set_option maxHeartbeats 400000 in
theorem padd_bad {G : Nat → Prop} {l : List (List UInt8)} (n : Int) (v : Value) (t : List UInt8) (w : World) (h : RdT G w v l) (h1 : poolOk n l = true) (h2 : txOk t = false ∨ t ∈ l ∨ l.length = 40) :
    Calls Try.prog 20 #[.agg #[.int .i64 n, v], strV t] w (AddPost n l t w) := by
  have hcode : poolCode n l = 0 := by unfold poolCode; simp [h1]
  have hR : ∀ x y, RdT G ((w.alloc x).alloc y) v l := fun x y => h.keep ((Keep.alloc G _ _).trans (Keep.alloc G _ _)) (fun _ h => h)
  have HR := Lib.hid hR
  clear hR
  obtain ⟨ad, cap, rfl, -, hcap⟩ := h.form
  unfold maxLen at hcap
  cases ht : txOk t
  · have HC := Lib.hid (show addCode n l t = 1 by unfold addCode; simp [h1, ht])
    clear h1 h2
    go_enter Try.func20, Try.ntmps20
    go_wp2_with (first
      | (go_at_call 21; refine (pcheck_any _ _ _ (HR.out _ _)).mono ?_; rintro e w1 ⟨rfl, hb⟩; obtain ⟨hc, hf⟩ := bcell hb; have hB : Below w.heap.size w w1 := (((Below.refl _ w).alloc (Nat.le_refl _) _).alloc (by simp) _).trans (hb.mono (by simp; omega)))
      | (go_at_call 36; refine (ptx_any _ _).mono ?_; rintro e w' ⟨rfl, rfl⟩))
    refine bodyPost_ret (v := .tuple #[.agg #[.int .i64 0, .slice none 0 0], .int .i64 1]) (by simp [results, Try.results20, go_sem, hc, hf]) rfl (AddPost.bad HC.out (by decide) ?_)
    repeat (first | exact hB | refine Below.setCell ?_ (by simp) _)
  · by_cases hm : t ∈ l
    · have HC := Lib.hid (show addCode n l t = 7 by unfold addCode; simp [h1, ht, hm])
      clear h1 h2
      go_enter Try.func20, Try.ntmps20
      go_wp2_with (first
        | (go_at_call 21; refine (pcheck_any _ _ _ (HR.out _ _)).mono ?_; rintro e w1 ⟨rfl, hb⟩; obtain ⟨hc, hf⟩ := bcell hb; have hB : Below w.heap.size w w1 := (((Below.refl _ w).alloc (Nat.le_refl _) _).alloc (by simp) _).trans (hb.mono (by simp; omega)))
        | (go_at_call 36; refine (ptx_any _ _).mono ?_; rintro e w' ⟨rfl, rfl⟩)
        | (go_at_call 37; refine (containsT_any _ _ _ ((HR.out _ _).below hb (fun _ h => h))).mono ?_; rintro e w' ⟨rfl, rfl⟩))
      refine bodyPost_ret (v := .tuple #[.agg #[.int .i64 0, .slice none 0 0], .int .i64 7]) (by simp [results, Try.results20, go_sem, hc, hf]) rfl (AddPost.bad HC.out (by decide) ?_)
      repeat (first | exact hB | refine Below.setCell ?_ (by simp) _)
    · have h40 : l.length = 40 := by rcases h2 with h2 | h2 | h2 <;> simp_all
      have HC := Lib.hid (show addCode n l t = 6 by unfold addCode; simp [h1, ht, hm, h40])
      have h41 : ((l.length : Int) == 40) = true := by simp [h40]
      clear h1 h2 h40
      go_enter Try.func20, Try.ntmps20
      go_wp2_with (first
        | (go_at_call 21; refine (pcheck_any _ _ _ (HR.out _ _)).mono ?_; rintro e w1 ⟨rfl, hb⟩; obtain ⟨hc, hf⟩ := bcell hb; have hB : Below w.heap.size w w1 := (((Below.refl _ w).alloc (Nat.le_refl _) _).alloc (by simp) _).trans (hb.mono (by simp; omega)))
        | (go_at_call 36; refine (ptx_any _ _).mono ?_; rintro e w' ⟨rfl, rfl⟩)
        | (go_at_call 37; refine (containsT_any _ _ _ ((HR.out _ _).below hb (fun _ h => h))).mono ?_; rintro e w' ⟨rfl, rfl⟩))
      refine bodyPost_ret (v := .tuple #[.agg #[.int .i64 0, .slice none 0 0], .int .i64 6]) (by simp [results, Try.results20, go_sem, hc, hf]) rfl (AddPost.bad HC.out (by decide) ?_)
      repeat (first | exact hB | refine Below.setCell ?_ (by simp) _)

set_option maxHeartbeats 1000000 in
theorem padd_good {G : Nat → Prop} {l : List (List UInt8)} (n : Int) (v : Value) (t : List UInt8) (w : World) (h : RdT G w v l) (h1 : poolOk n l = true) (ht : txOk t = true) (hm : ¬ t ∈ l) (h40 : l.length ≠ 40) :
    Calls Try.prog 20 #[.agg #[.int .i64 n, v], strV t] w (AddPost n l t w) := by
  have hcode : poolCode n l = 0 := by unfold poolCode; simp [h1]
  have hlen : l.length ≤ 40 := by unfold poolOk at h1; simp only [decide_eq_true_eq] at h1; omega
  have hR : ∀ x y, RdT G ((w.alloc x).alloc y) v l := fun x y => h.keep ((Keep.alloc G _ _).trans (Keep.alloc G _ _)) (fun _ h => h)
  have HR := Lib.hid hR
  clear hR
  obtain ⟨ad, cap, rfl, -, hcap⟩ := h.form
  unfold maxLen at hcap
  have HC := Lib.hid (show addCode n l t = 0 by unfold addCode; simp [h1, ht, hm, h40])
  have h41 : ((l.length : Int) == 40) = false := by simp; omega
  clear h1 h40
  go_enter Try.func20, Try.ntmps20
  go_wp2_with (first
    | (go_at_call 21; refine (pcheck_any _ _ _ (HR.out _ _)).mono ?_; rintro e w1 ⟨rfl, hb⟩; obtain ⟨hc, hf⟩ := bcell hb; have hB : Below w.heap.size w w1 := (((Below.refl _ w).alloc (Nat.le_refl _) _).alloc (by simp) _).trans (hb.mono (by simp; omega)))
    | (go_at_call 36; refine (ptx_any _ _).mono ?_; rintro e w' ⟨rfl, rfl⟩)
    | (go_at_call 37; refine (containsT_any _ _ _ ((HR.out _ _).below hb (fun _ h => h))).mono ?_; rintro e w' ⟨rfl, rfl⟩))
  have hV := (HR.out _ _).below hb (fun _ h => h)
  have HV := Lib.hid hV
  have k0 : w1.cell? ⟨w.heap.size, 0, none⟩ = some (.int .i64 n) := by simp [go_sem, hc]
  have k1 : w1.cell? ⟨w.heap.size, 1, none⟩ = some (.slice ad l.length cap) := by simp [go_sem, hc]
  have hz : w.heap.size + 1 < w1.heap.size := by have := hb.size; simp at this; omega
  have hz0 : w.heap.size < w1.heap.size := by omega
  clear hV hcode ht hm h41
  go_region_held3 (fun w' => w'.cell? ⟨w.heap.size, 0, none⟩ = some (.int .i64 n) ∧ w'.cell? ⟨w.heap.size, 1, none⟩ = some (.slice ad l.length cap)) (go_keep)
    (first
      | (go_at_call 38; refine (cloneT_any _ _ (HV.out.below (by first | exact (Below.refl _ _).drew | exact (Below.refl _ _).drew.alloc (by simp) _) (fun _ h => h)) (by omega)).mono ?_; rintro e w2 ⟨v2, rfl, hown, hb2⟩; have hb3 : Below w1.heap.size w1 w2 := (by first | exact (Below.refl _ _).drew.trans hb2 | exact ((Below.refl _ _).drew.alloc (by simp) _).trans (hb2.mono (by simp))); obtain ⟨hc2, hf2⟩ := bcell hb3)
      | (refine step_append_sl rfl _ _ 29 rfl elemT w1.heap.size _ rfl l.length _ (by first | exact ownsRow_mono hown (by simp) | exact (ownsRow_mono hown (by simp)).alloc _) _ rfl 1 [strV t] (by first | exact slCells_new _ _ _ _ rfl | exact (slCells_new _ _ _ _ rfl).drew.below hb2) (by simp [Value.oneCell']) (by unfold maxLen; omega) (by omega) (by have := hb3.size; simp; omega) ?_; intro v3 w3 hown3 hgr3; obtain ⟨ad3, cap3, rfl⟩ := ownsRow_form hown3; have hb4 : Below w1.heap.size w1 w3 := (by first | exact hb3.grown hgr3 (by have := hb3.size; omega) (fun k hk => Nat.le_trans (by simp) (ownBlock_ge hown k hk)) | exact (hb3.alloc (by have := hb3.size; omega) _).grown hgr3 (by have := hb3.size; simp; omega) (fun k hk => Nat.le_trans (by simp) (ownBlock_ge hown k hk))); obtain ⟨hc4, hf4⟩ := bcell hb4))
  all_goals
    have hRd : RdT (fun b => w1.heap.size ≤ b) w3 (.slice ad3 (l.length + 1) cap3) (l ++ [t]) := RdS.of_owns (by simpa using hown3) (fun _ h => h)
    have HRd := Lib.hid hRd
    clear hRd hown3 hgr3 hown
    go_wp2
    refine bodyPost_ret (v := .tuple #[.agg #[.int .i64 n, .slice ad3 (l.length + 1) cap3], .int .i64 0]) (by simp [results, Try.results20, go_sem, hc, hf, hc4, hf4, hz, hz0]) rfl (AddPost.good HC.out ?_ ?_)
    · exact HRd.out.keep ((Keep.setCell (by simp; omega) _).trans (Keep.setCell (by simp; omega) _)) (fun b hb => by omega)
    · exact ((hB.trans (hb4.mono (by omega))).setCell (by simp) _).setCell (by simp) _

theorem padd_any {G : Nat → Prop} {l : List (List UInt8)} (n : Int) (v : Value) (t : List UInt8) (w : World) (h : RdT G w v l) :
    Calls Try.prog 20 #[.agg #[.int .i64 n, v], strV t] w (AddPost n l t w) := by
  cases h1 : poolOk n l
  · exact padd_bad1 n v t w h h1
  · cases h2 : txOk t
    · exact padd_bad n v t w h h1 (.inl h2)
    · by_cases h3 : t ∈ l
      · exact padd_bad n v t w h h1 (.inr (.inl h3))
      · by_cases h4 : l.length = 40
        · exact padd_bad n v t w h h1 (.inr (.inr h4))
        · exact padd_good n v t w h h1 h2 h3 h4
end Go.Proofs.Ytghimigffnbhaaa
