/- seal: has, own, Check. -/
import Derived.Test.YtialhdmdeggenaaDoorSeal
set_option linter.unusedVariables false
set_option linter.unusedSimpArgs false
attribute [local go_sem ↓] Go.wp_at_zero Go.wp_at_succ
namespace Go.Proofs.YtialhdmdeggenaaDoor
open Go Go.RowKit

/-- The place of a datum; -1: it is not there. -/
def idxZ {α : Type} [DecidableEq α] (l : List α) (t : α) : Int := if t ∈ l then (l.idxOf t : Int) else -1
theorem idxZ_hit {α : Type} [DecidableEq α] {l : List α} {t : α} {k : Nat} (hk : k < l.length) (hno : ∀ j, j < k → l[j]? ≠ some t) (h : l[k] = t) : idxZ l t = k := by
  have hm : t ∈ l := h ▸ List.getElem_mem hk
  unfold idxZ
  rw [if_pos hm]
  have h1 : l.idxOf t < l.length := List.idxOf_lt_length_of_mem hm
  have h2 : l[l.idxOf t]? = some t := by rw [List.getElem?_eq_getElem h1]; simp
  have h3 : ¬ l.idxOf t < k := fun hl => hno _ hl h2
  have h4 : ¬ k < l.idxOf t := fun hl => by
    have := List.not_of_lt_findIdx (p := fun x => x == t) (xs := l) (i := k) (by exact hl)
    simp [h] at this
  congr 1; omega
theorem idxZ_miss {α : Type} [DecidableEq α] {l : List α} {t : α} (hno : ∀ j, j < l.length → l[j]? ≠ some t) : idxZ l t = -1 := by
  unfold idxZ
  rw [if_neg]
  intro hm
  obtain ⟨j, hj, e⟩ := List.mem_iff_getElem.1 hm
  exact hno j hj (by simp [hj, e])
theorem idxZ_ge {α : Type} [DecidableEq α] {l : List α} {t : α} : (0 ≤ idxZ l t) = (t ∈ l) := by
  unfold idxZ
  by_cases h : t ∈ l <;> simp [h]

set_option maxRecDepth 100000 in
set_option maxHeartbeats 1000000 in
theorem hasIndex_any {G G' : Nat → Prop} {l : List Sgn} (y : Sgn) (v vy : Value) (b : Nat) (w : World) (h : RdS RSign G w v l) (hy : RdB G' w vy y.2.2.2)
    (hb : BoxAt w b [.int .i64 y.1, .int .i64 y.2.1, .int .i64 y.2.2.1, vy] 77) :
    Calls Tryd.prog 78 #[v, .func (.func 61) #[] #[.pointer (some ⟨b, 0, none⟩)]] w fun e w' => e = .returned (.int .i64 (idxZ l y)) ∧ Below w.heap.size w w' := by
  obtain ⟨ad, cap, rfl, h1, h2⟩ := h.form
  unfold maxLen at h2
  have HB := Lib.hid hb
  have HV := Lib.hid h
  have HY := Lib.hid hy
  clear hb h hy
  go_enter Tryd.func78, Tryd.ntmps78
  go_wp2
  go_loopw [8] (fun i wr => ∃ k : Nat, k ≤ l.length ∧ i = .int .i64 k ∧ (∀ j, j < k → l[j]? ≠ some y) ∧ Below w.heap.size w wr) (fun i _ => l.length - (intOf i).toNat)
  case atStart => exact ⟨0, Nat.zero_le _, rfl, fun j hj => (by omega), Below.refl _ _⟩
  case round =>
    obtain ⟨k, hk, rfl, hno, hB⟩ := hrel
    have HN := Lib.hid hno; clear hno
    by_cases hlt : k < l.length
    · obtain ⟨bb, o, vx, rfl, -, e0, e1, e2, e3, hx⟩ := (HV.out.below hB (fun _ h => h)).sign k hlt
      have HX := Lib.hid hx
      have bw := HB.out.belowS hB
      have q0 := bw.cell 0 rfl
      have q1 := bw.cell 1 rfl
      have q2 := bw.cell 2 rfl
      have q3 := bw.cell 3 rfl
      have HY' := Lib.hid (HY.out.below hB (fun _ h => h))
      have i0 : (0 : Int) ≤ (k : Int) := by omega
      have i1 : (k : Int) < (l.length : Int) := by omega
      clear hx bw
      by_cases he : l[k] = y
      · have hr := Lib.hid (idxZ_hit hlt HN.out he)
        have HE := Lib.hid (show decide (l[k] = y) = true by simp [he])
        clear he
        go_wp2_with fail
        refine (hasClo_any (l[k]) y vx vy b _ HX.out HY'.out q0 q1 q2 q3).mono ?_
        rintro e w' ⟨rfl, hb2⟩
        rw [HE.out]
        go_wp2
        go_ret
        exact ⟨ret_intH hr.out, hB.trans (hb2.mono hB.size)⟩
      · have HE := Lib.hid (show decide (l[k] = y) = false by simp [he])
        have he' := Lib.hid he
        clear he
        go_wp2_with fail
        refine (hasClo_any (l[k]) y vx vy b _ HX.out HY'.out q0 q1 q2 q3).mono ?_
        rintro e w' ⟨rfl, hb2⟩
        rw [HE.out]
        clear q0 q1 q2 q3 e0 e1 e2 e3
        have hB2 := hB.trans (hb2.mono hB.size)
        go_wp2
        go_roundw
        case rel => exact ⟨k + 1, by omega, by go_num, fun j hj => (by
          rcases Nat.lt_or_eq_of_le (Nat.le_of_lt_succ hj) with h' | h'
          · exact HN.out j h'
          · subst h'; simp only [List.getElem?_eq_getElem hlt]; exact fun e => he'.out (Option.some.inj e)), hB2⟩
        case measure => simp [intOf]; omega
    · have hr := Lib.hid (idxZ_miss (l := l) (t := y) (fun j hj => HN.out j (by omega)))
      go_wp2
      go_ret
      exact ⟨ret_intH hr.out, hB⟩

theorem hasContains_any {G G' : Nat → Prop} {l : List Sgn} (y : Sgn) (v vy : Value) (b : Nat) (w : World) (h : RdS RSign G w v l) (hy : RdB G' w vy y.2.2.2)
    (hb : BoxAt w b [.int .i64 y.1, .int .i64 y.2.1, .int .i64 y.2.2.1, vy] 77) :
    Calls Tryd.prog 60 #[v, .func (.func 61) #[] #[.pointer (some ⟨b, 0, none⟩)]] w fun e w' => e = .returned (.bool (decide (y ∈ l))) ∧ Below w.heap.size w w' := by
  have hge := Lib.hid (idxZ_ge (l := l) (t := y))
  have HB := Lib.hid hb
  clear hb
  go_enter Tryd.func60, Tryd.ntmps60
  go_wp2_with (go_at_call 78; refine (hasIndex_any y _ _ _ _ h hy HB.out).mono ?_; rintro e w' ⟨rfl, hb2⟩)
  go_ret
  refine ⟨ret_boolH ?_, hb2⟩
  simp only [hge.out]

theorem shas_any {G G' : Nat → Prop} {l : List Sgn} (y : Sgn) (v vy : Value) (w : World) (h : RdS RSign G w v l) (hy : RdB G' w vy y.2.2.2) :
    Calls Tryd.prog 39 #[v, .agg #[.int .i64 y.1, .int .i64 y.2.1, .int .i64 y.2.2.1, vy]] w fun e w' => e = .returned (.bool (decide (y ∈ l))) ∧ Below w.heap.size w w' := by
  have hmf : ∀ (fn : Fn) (first cap : Array Value) (w : World), (Instr.makeFunc fn first cap).run Tryd.prog w = .ok (.func fn first cap) w := fun _ _ _ _ => rfl
  have HB := Lib.hid (BoxAt.new w [.int .i64 y.1, .int .i64 y.2.1, .int .i64 y.2.2.1, vy] 77)
  have HV := Lib.hid (h.keep (Keep.alloc G w (.cells #[.int .i64 y.1, .int .i64 y.2.1, .int .i64 y.2.2.1, vy] 77)) (fun _ h => h))
  have HY := Lib.hid (hy.keep (Keep.alloc G' w (.cells #[.int .i64 y.1, .int .i64 y.2.1, .int .i64 y.2.2.1, vy] 77)) (fun _ h => h))
  go_enter Tryd.func39, Tryd.ntmps39
  go_wp2_with fail
  refine (hasContains_any y _ _ _ _ HV.out HY.out HB.out).mono ?_
  rintro e w' ⟨rfl, hb2⟩
  go_wp2
  go_ret
  exact ⟨rfl, ((Below.refl _ w).alloc (Nat.le_refl _) _).trans (hb2.mono (by simp))⟩

set_option maxRecDepth 100000 in
theorem own_any {G : Nat → Prop} (y : Sgn) (vy : Value) (w : World) (hy : RdB G w vy y.2.2.2) (hsz : y.2.2.2.length ≤ 140737488355328) :
    Calls Tryd.prog 58 #[.agg #[.int .i64 y.1, .int .i64 y.2.1, .int .i64 y.2.2.1, vy]] w fun e w' => ∃ v', e = .returned (.agg #[.int .i64 y.1, .int .i64 y.2.1, .int .i64 y.2.2.1, v']) ∧ RdB (fun b => w.heap.size ≤ b) w' v' y.2.2.2 ∧ Below w.heap.size w w' := by
  have b0 := (BoxAt.new w [.int .i64 y.1, .int .i64 y.2.1, .int .i64 y.2.2.1, vy] 77).alloc (.cells #[.int .i64 0, .int .i64 0, .int .i64 0, .slice none 0 0] 77)
  have b1 := BoxAt.newAt (w.alloc (.cells #[.int .i64 y.1, .int .i64 y.2.1, .int .i64 y.2.2.1, vy] 77)) [.int .i64 0, .int .i64 0, .int .i64 0, .slice none 0 0] 77 (n := w.heap.size + 1) (by simp)
  have HB0 := Lib.hid b0
  have HB1 := Lib.hid b1
  have HY := Lib.hid (hy.keep ((Keep.alloc G w (.cells #[.int .i64 y.1, .int .i64 y.2.1, .int .i64 y.2.2.1, vy] 77)).trans (Keep.alloc G _ (.cells #[.int .i64 0, .int .i64 0, .int .i64 0, .slice none 0 0] 77))) (fun _ h => h))
  clear b0 b1
  go_enter Tryd.func58, Tryd.ntmps58
  go_wp2_with fail
  refine (cloneB_any _ _ HY.out hsz).mono ?_
  rintro e w1 ⟨v', rfl, hown, hb⟩
  have b0 := HB0.out.belowS hb
  have b1 := HB1.out.belowS hb
  have HO := Lib.hid hown
  obtain ⟨adv, capv, rfl⟩ := ownsRow_form hown
  have hB : Below w.heap.size w w1 := (((Below.refl _ w).alloc (Nat.le_refl _) _).alloc (by simp) _).trans (hb.mono (by simp; omega))
  have p0 := b0.cell 0 rfl
  have p1 := b0.cell 1 rfl
  have p2 := b0.cell 2 rfl
  have p3 := b0.cell 3 rfl
  have f3 := b0.free 3
  have q0 := b1.cell 0 rfl
  have q1 := b1.cell 1 rfl
  have q2 := b1.cell 2 rfl
  have q3 := b1.cell 3 rfl
  have g0 := b1.free 0
  have g1 := b1.free 1
  have g2 := b1.free 2
  have g3 := b1.free 3
  have ne : w.heap.size + 1 ≠ w.heap.size := by omega
  have ne' : w.heap.size ≠ w.heap.size + 1 := by omega
  have s1 := hb.size
  simp at s1
  clear b0 b1 hown hb
  go_wp2
  refine bodyPost_ret (v := .agg #[.int .i64 y.1, .int .i64 y.2.1, .int .i64 y.2.2.1, .slice adv y.2.2.2.length capv]) (by simp [results, Tryd.results58, go_sem, q0, q1, q2, q3]) rfl ⟨_, rfl, ?_, ?_⟩
  · refine (RdS.of_owns (G := fun b => w.heap.size + 1 + 1 ≤ b) HO.out (fun b hb => by simpa using hb)).keep ?_ (fun b hb => by omega)
    repeat (first | with_reducible exact Keep.refl _ _ | with_reducible refine Keep.setCell' ?_ (by first | (simp; done) | (simp; omega)) _)
  · repeat (first | with_reducible exact hB | with_reducible refine Below.setCell ?_ (by first | (simp; done) | (simp; omega)) _)

theorem sgnCode_or (n a r : Int) (k : Nat) : sgnCode n a r k = 0 ∨ sgnCode n a r k = 2 ∨ sgnCode n a r k = 4 := by
  unfold sgnCode sltCode
  split
  · simp
  · split
    · simp
    · split <;> simp
/-- May signs be? -/
def signsTo (l : List Sgn) (k : Nat) : Prop := (∀ x ∈ l.take k, sgnOk x = true) ∧ (l.take k).Nodup
def signsOk (l : List Sgn) : Bool := decide ((∀ x ∈ l, sgnOk x = true) ∧ l.Nodup)
def signsCode (l : List Sgn) : Int := if signsOk l then 0 else 12
theorem signsTo_zero (l : List Sgn) : signsTo l 0 := by simp [signsTo]
theorem signsTo_succ {l : List Sgn} {k : Nat} (hk : k < l.length) (h : signsTo l k) (h1 : sgnOk l[k] = true) (h2 : ¬ l[k] ∈ l.take k) : signsTo l (k + 1) := by
  unfold signsTo at *
  rw [List.take_succ_eq_append_getElem hk]
  refine ⟨fun t ht => ?_, ?_⟩
  · rcases List.mem_append.1 ht with ht | ht
    · exact h.1 t ht
    · simp at ht; subst ht; exact h1
  · rw [List.nodup_append]
    refine ⟨h.2, by simp, fun a ha b hb => ?_⟩
    simp at hb; subst hb; exact fun e => h2 (e ▸ ha)
theorem signsCode_bad {l : List Sgn} {k : Nat} (hk : k < l.length) (h1 : sgnOk l[k] = false) : signsCode l = 12 := by
  unfold signsCode signsOk; rw [if_neg]; simp only [decide_eq_true_eq]; rintro ⟨h, _⟩; have := h _ (List.getElem_mem hk); simp_all
theorem signsCode_twice {l : List Sgn} {k : Nat} (hk : k < l.length) (h1 : l[k] ∈ l.take k) : signsCode l = 12 := by
  unfold signsCode signsOk; rw [if_neg]; simp only [decide_eq_true_eq]; rintro ⟨_, h⟩
  obtain ⟨j, hj, e⟩ := List.mem_iff_getElem.1 h1
  simp at hj e
  have := (List.nodup_iff_pairwise_ne.1 h)
  exact (List.pairwise_iff_getElem.1 this j k (by omega) hk (by omega)) e
theorem signsCode_ok {l : List Sgn} (h : signsTo l l.length) : signsCode l = 0 := by
  unfold signsCode signsOk; rw [if_pos]
  simp only [decide_eq_true_eq]
  unfold signsTo at h
  rw [List.take_length] at h
  exact h

set_option maxRecDepth 100000 in
set_option maxHeartbeats 1000000 in
theorem scheck_any {G : Nat → Prop} {l : List Sgn} (v : Value) (w : World) (h : RdS RSign G w v l) :
    Calls Tryd.prog 35 #[v] w fun e w' => e = .returned (.int .i64 (signsCode l)) ∧ Below w.heap.size w w' := by
  obtain ⟨ad, cap, rfl, h1, h2⟩ := h.form
  unfold maxLen at h2
  go_enter Tryd.func35, Tryd.ntmps35
  go_wp2
  go_loopw [7] (fun i wr => ∃ k : Nat, k ≤ l.length ∧ i = .int .i64 k ∧ signsTo l k ∧ Below w.heap.size w wr) (fun i _ => l.length - (intOf i).toNat)
  case atStart => exact ⟨0, Nat.zero_le _, rfl, signsTo_zero l, Below.refl _ _⟩
  case round =>
    obtain ⟨k, hk, rfl, hto, hB⟩ := hrel
    by_cases hlt : k < l.length
    · have hr := h.below hB (fun _ h => h)
      obtain ⟨b, o, vd, rfl, -, e0, e1, e2, e3, hd⟩ := hr.sign k hlt
      obtain ⟨ad2, cap2, rfl, -, -⟩ := hd.form
      have i0 : (0 : Int) ≤ (k : Int) := by omega
      have i1 : (k : Int) < (l.length : Int) := by omega
      have i2 : (k : Int) ≤ (cap : Int) := by omega
      have hB1 := hB.alloc hB.size (.cells #[.int .i64 l[k].1, .int .i64 l[k].2.1, .int .i64 l[k].2.2.1, .slice ad2 l[k].2.2.2.length cap2] 77)
      have HT := Lib.hid (hr.take k hk)
      have HD := Lib.hid hd
      have hsz := hB.size
      clear hr hd
      by_cases c1 : sgnCode l[k].1 l[k].2.1 l[k].2.2.1 l[k].2.2.2.length = 0
      · have C1 := Lib.hid c1
        have so : sgnOk l[k] = true := by unfold sgnOk; simpa using c1
        clear c1
        go_wp2_with fail
        by_cases e2' : l[k] ∈ l.take k
        · have HR := Lib.hid (signsCode_twice hlt e2')
          have HE := Lib.hid (show decide (l[k] ∈ l.take k) = true by simpa using e2')
          clear e2'
          go_region_with (first
            | (go_at_call 57; refine (sign_any _ _ _ _ _ _ _).mono ?_; rintro e w1 ⟨rfl, hb⟩; have hbW : Below (wr.alloc (.cells #[.int .i64 l[k].1, .int .i64 l[k].2.1, .int .i64 l[k].2.2.1, .slice ad2 l[k].2.2.2.length cap2] 77)).heap.size (wr.alloc (.cells #[.int .i64 l[k].1, .int .i64 l[k].2.1, .int .i64 l[k].2.2.1, .slice ad2 l[k].2.2.2.length cap2] 77)) w1 := (by first | exact hb | exact (Below.refl _ _).drew.trans hb); have hb1 : Below (wr.heap.size + 1) (wr.alloc (.cells #[.int .i64 l[k].1, .int .i64 l[k].2.1, .int .i64 l[k].2.2.1, .slice ad2 l[k].2.2.2.length cap2] 77)) w1 := hbW.mono (by simp); have hB2 := hB1.trans (hb1.mono (by omega)); have bq := (BoxAt.new wr [.int .i64 l[k].1, .int .i64 l[k].2.1, .int .i64 l[k].2.2.1, .slice ad2 l[k].2.2.2.length cap2] 77).below hb1 (by omega); have q0 := bq.cell 0 rfl; have q1 := bq.cell 1 rfl; have q2 := bq.cell 2 rfl; have q3 := bq.cell 3 rfl; have HT1 := Lib.hid ((HT.out.keep (Keep.alloc G wr (.cells #[.int .i64 l[k].1, .int .i64 l[k].2.1, .int .i64 l[k].2.2.1, .slice ad2 l[k].2.2.2.length cap2] 77)) (fun _ h => h)).below hbW (fun _ h => h)); have HD1 := Lib.hid ((HD.out.keep (Keep.alloc G wr (.cells #[.int .i64 l[k].1, .int .i64 l[k].2.1, .int .i64 l[k].2.2.1, .slice ad2 l[k].2.2.2.length cap2] 77)) (fun _ h => h)).below hbW (fun _ h => h)); clear bq hb hbW; rw [C1.out])
            | (go_at_call 39; refine (shas_any l[k] _ _ _ (by first | exact HT1.out | exact HT1.out.keep (Keep.drew _ _) (fun _ h => h)) (by first | exact HD1.out | exact HD1.out.keep (Keep.drew _ _) (fun _ h => h))).mono ?_; rintro e w3 ⟨rfl, hb3⟩; have hB3 := hB2.trans (hb3.mono (by have := hB2.size; first | omega | (simp; omega))); rw [HE.out]))
          all_goals
            go_wp2
            go_ret
            exact ⟨ret_intH HR.out, hB3⟩
        · have HS := Lib.hid (signsTo_succ hlt hto so e2')
          have HE := Lib.hid (show decide (l[k] ∈ l.take k) = false by simpa using e2')
          clear e2'
          go_region_with (first
            | (go_at_call 57; refine (sign_any _ _ _ _ _ _ _).mono ?_; rintro e w1 ⟨rfl, hb⟩; have hbW : Below (wr.alloc (.cells #[.int .i64 l[k].1, .int .i64 l[k].2.1, .int .i64 l[k].2.2.1, .slice ad2 l[k].2.2.2.length cap2] 77)).heap.size (wr.alloc (.cells #[.int .i64 l[k].1, .int .i64 l[k].2.1, .int .i64 l[k].2.2.1, .slice ad2 l[k].2.2.2.length cap2] 77)) w1 := (by first | exact hb | exact (Below.refl _ _).drew.trans hb); have hb1 : Below (wr.heap.size + 1) (wr.alloc (.cells #[.int .i64 l[k].1, .int .i64 l[k].2.1, .int .i64 l[k].2.2.1, .slice ad2 l[k].2.2.2.length cap2] 77)) w1 := hbW.mono (by simp); have hB2 := hB1.trans (hb1.mono (by omega)); have bq := (BoxAt.new wr [.int .i64 l[k].1, .int .i64 l[k].2.1, .int .i64 l[k].2.2.1, .slice ad2 l[k].2.2.2.length cap2] 77).below hb1 (by omega); have q0 := bq.cell 0 rfl; have q1 := bq.cell 1 rfl; have q2 := bq.cell 2 rfl; have q3 := bq.cell 3 rfl; have HT1 := Lib.hid ((HT.out.keep (Keep.alloc G wr (.cells #[.int .i64 l[k].1, .int .i64 l[k].2.1, .int .i64 l[k].2.2.1, .slice ad2 l[k].2.2.2.length cap2] 77)) (fun _ h => h)).below hbW (fun _ h => h)); have HD1 := Lib.hid ((HD.out.keep (Keep.alloc G wr (.cells #[.int .i64 l[k].1, .int .i64 l[k].2.1, .int .i64 l[k].2.2.1, .slice ad2 l[k].2.2.2.length cap2] 77)) (fun _ h => h)).below hbW (fun _ h => h)); clear bq hb hbW; rw [C1.out])
            | (go_at_call 39; refine (shas_any l[k] _ _ _ (by first | exact HT1.out | exact HT1.out.keep (Keep.drew _ _) (fun _ h => h)) (by first | exact HD1.out | exact HD1.out.keep (Keep.drew _ _) (fun _ h => h))).mono ?_; rintro e w3 ⟨rfl, hb3⟩; have hB3 := hB2.trans (hb3.mono (by have := hB2.size; first | omega | (simp; omega))); rw [HE.out]))
          all_goals
            go_wp2
            go_roundw
            case rel => exact ⟨k + 1, by omega, by go_num, HS.out, hB3⟩
            case measure => simp [intOf]; omega
      · have HR := Lib.hid (signsCode_bad hlt (show sgnOk l[k] = false by unfold sgnOk; simpa using c1))
        have c2 := sgnCode_or l[k].1 l[k].2.1 l[k].2.2.1 l[k].2.2.2.length
        obtain ⟨cv, hcv, hcv'⟩ : ∃ cv : Int, sgnCode l[k].1 l[k].2.1 l[k].2.2.1 l[k].2.2.2.length = cv ∧ (cv = 2 ∨ cv = 4) := ⟨_, rfl, c2.resolve_left c1⟩
        have C1 := Lib.hid hcv
        clear c1 c2 hcv
        go_wp2_with fail
        rcases hcv' with rfl | rfl
        all_goals
          first | (go_region_with ((go_at_call 57; refine (sign_any _ _ _ _ _ _ _).mono ?_; rintro e w1 ⟨rfl, hb⟩; have hbW : Below (wr.alloc (.cells #[.int .i64 l[k].1, .int .i64 l[k].2.1, .int .i64 l[k].2.2.1, .slice ad2 l[k].2.2.2.length cap2] 77)).heap.size (wr.alloc (.cells #[.int .i64 l[k].1, .int .i64 l[k].2.1, .int .i64 l[k].2.2.1, .slice ad2 l[k].2.2.2.length cap2] 77)) w1 := (by first | exact hb | exact (Below.refl _ _).drew.trans hb); have hb1 : Below (wr.heap.size + 1) (wr.alloc (.cells #[.int .i64 l[k].1, .int .i64 l[k].2.1, .int .i64 l[k].2.2.1, .slice ad2 l[k].2.2.2.length cap2] 77)) w1 := hbW.mono (by simp); have hB2 := hB1.trans (hb1.mono (by omega)); have bq := (BoxAt.new wr [.int .i64 l[k].1, .int .i64 l[k].2.1, .int .i64 l[k].2.2.1, .slice ad2 l[k].2.2.2.length cap2] 77).below hb1 (by omega); have q0 := bq.cell 0 rfl; have q1 := bq.cell 1 rfl; have q2 := bq.cell 2 rfl; have q3 := bq.cell 3 rfl; have HT1 := Lib.hid ((HT.out.keep (Keep.alloc G wr (.cells #[.int .i64 l[k].1, .int .i64 l[k].2.1, .int .i64 l[k].2.2.1, .slice ad2 l[k].2.2.2.length cap2] 77)) (fun _ h => h)).below hbW (fun _ h => h)); have HD1 := Lib.hid ((HD.out.keep (Keep.alloc G wr (.cells #[.int .i64 l[k].1, .int .i64 l[k].2.1, .int .i64 l[k].2.2.1, .slice ad2 l[k].2.2.2.length cap2] 77)) (fun _ h => h)).below hbW (fun _ h => h)); clear bq hb hbW; rw [C1.out]))) | fail
          all_goals
            go_wp2
            go_ret
            exact ⟨ret_intH HR.out, hB2⟩
    · have HR := Lib.hid (signsCode_ok (by have e : l.length = k := (by omega); rw [e]; exact hto))
      go_wp2
      go_ret
      exact ⟨ret_intH HR.out, hB⟩
end Go.Proofs.YtialhdmdeggenaaDoor
