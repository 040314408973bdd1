/- Records on a tape: plain laws. -/
import Derived.Test.YtegdpjoncjmdeaaDecFx
import Derived.Test.YtegdpjoncjmdeaaMsgLaw
set_option linter.unusedVariables false
set_option linter.unusedSimpArgs false
namespace Go.Proofs.Ytegdpjoncjmdeaa
open Go Go.RowKit

def recCode (m : Msg) : Int := if msgCode m ≠ 0 then msgCode m else if m.f ≠ 0 ∨ m.t ≠ 0 ∨ m.k = 5 then 4 else 0
def frmL (m : Msg) : Bytes := byteZ (((encL m).length : Int) / 256) :: byteZ ((encL m).length : Int) :: encL m
def tapeB : List Msg → Bytes
  | [] => []
  | m :: ms => frmL m ++ tapeB ms
def stepR : Bytes → Option (Msg × Nat)
  | a :: b :: t =>
    if t.length < a.toNat * 256 + b.toNat then none
    else if (decode (t.take (a.toNat * 256 + b.toNat))).2 ≠ 0 ∨ recCode (decode (t.take (a.toNat * 256 + b.toNat))).1 ≠ 0 then none
    else some ((decode (t.take (a.toNat * 256 + b.toNat))).1, a.toNat * 256 + b.toNat + 2)
  | _ => none
theorem stepR_cons (a b : UInt8) (t : Bytes) : stepR (a :: b :: t) = if t.length < a.toNat * 256 + b.toNat then none
    else if (decode (t.take (a.toNat * 256 + b.toNat))).2 ≠ 0 ∨ recCode (decode (t.take (a.toNat * 256 + b.toNat))).1 ≠ 0 then none
    else some ((decode (t.take (a.toNat * 256 + b.toNat))).1, a.toNat * 256 + b.toNat + 2) := rfl
def recF : Nat → Bytes → List Msg × Nat
  | 0, _ => ([], 0)
  | k + 1, l => match stepR l with
    | none => ([], 0)
    | some x => (x.1 :: (recF k (l.drop x.2)).1, x.2 + (recF k (l.drop x.2)).2)
def recL (l : Bytes) : List Msg × Nat := recF l.length l
theorem recCode_iff {m : Msg} (h : recCode m = 0) : msgCode m = 0 ∧ m.f = 0 ∧ m.t = 0 ∧ m.k ≠ 5 := by
  unfold recCode at h
  split at h
  · rename_i q; exact absurd h q
  rename_i q
  split at h
  · simp at h
  rename_i q2
  refine ⟨by simpa using q, ?_, ?_, ?_⟩
  · exact Classical.byContradiction fun e => q2 (.inl e)
  · exact Classical.byContradiction fun e => q2 (.inr (.inl e))
  · exact fun e => q2 (.inr (.inr e))
theorem stepR_some {l : Bytes} {x : Msg × Nat} (h : stepR l = some x) : 2 ≤ x.2 ∧ x.2 ≤ l.length ∧ recCode x.1 = 0 ∧ x.1 = (decode ((l.drop 2).take (x.2 - 2))).1 := by
  match l, h with
  | a :: b :: t, h =>
    rw [stepR_cons] at h
    split at h
    · simp at h
    rename_i h1
    split at h
    · simp at h
    rename_i h2
    simp only [Option.some.injEq] at h
    subst h
    refine ⟨by simp only; omega, by simp only [List.length_cons]; omega, ?_, ?_⟩
    · simp only; exact Classical.byContradiction fun e => h2 (.inr e)
    · simp
theorem recF_nil : ∀ j, recF j [] = ([], 0)
  | 0 => rfl
  | _ + 1 => rfl
theorem recF_eq : ∀ (k j : Nat) (l : Bytes), l.length ≤ k → l.length ≤ j → recF k l = recF j l
  | 0, j, l, h, _ => by
    obtain rfl : l = [] := List.eq_nil_of_length_eq_zero (by omega)
    rw [recF_nil, recF_nil]
  | k + 1, 0, l, _, h => by
    obtain rfl : l = [] := List.eq_nil_of_length_eq_zero (by omega)
    rw [recF_nil, recF_nil]
  | k + 1, j + 1, l, h1, h2 => by
    rw [recF, recF]
    cases q : stepR l with
    | none => rfl
    | some x =>
      obtain ⟨s1, s2, -⟩ := stepR_some q
      simp only
      rw [recF_eq k j (l.drop x.2) (by rw [List.length_drop]; omega) (by rw [List.length_drop]; omega)]
theorem recL_none {l : Bytes} (h : stepR l = none) : recL l = ([], 0) := by
  unfold recL
  cases hl : l.length with
  | zero => rfl
  | succ n => rw [recF, h]
theorem recL_some {l : Bytes} {x : Msg × Nat} (h : stepR l = some x) : recL l = (x.1 :: (recL (l.drop x.2)).1, x.2 + (recL (l.drop x.2)).2) := by
  obtain ⟨s1, s2, -⟩ := stepR_some h
  unfold recL
  obtain ⟨n, hl⟩ : ∃ n, l.length = n + 1 := ⟨l.length - 1, by omega⟩
  rw [hl, recF, h]
  simp only
  rw [recF_eq n (l.drop x.2).length (l.drop x.2) (by rw [List.length_drop]; omega) (Nat.le_refl _)]
theorem frm_len (m : Msg) : (frmL m).length = (encL m).length + 2 := by simp [frmL]
theorem frm_num {m : Msg} (h : msgCode m = 0) : (byteZ (((encL m).length : Int) / 256)).toNat * 256 + (byteZ ((encL m).length : Int)).toNat = (encL m).length := by
  have := encL_len h
  have h1 := byteZ_toNat (((encL m).length : Int) / 256)
  have h2 := byteZ_toNat ((encL m).length : Int)
  omega
theorem stepR_frm {m : Msg} (h : recCode m = 0) (rest : Bytes) : stepR (frmL m ++ rest) = some (m, (frmL m).length) := by
  obtain ⟨hm, -⟩ := recCode_iff h
  have hn := frm_num hm
  unfold frmL
  rw [List.cons_append, List.cons_append, stepR_cons]
  rw [hn, if_neg (by simp), List.take_left' rfl, decode_enc m hm, if_neg (by simp [h])]
  simp
theorem stepR_torn {m : Msg} (h : msgCode m = 0) {k : Nat} (hk : k < (frmL m).length) : stepR ((frmL m).take k) = none := by
  have hn := frm_num h
  rw [frm_len] at hk
  unfold frmL
  match k, hk with
  | 0, _ => rfl
  | 1, _ => rfl
  | k + 2, hk =>
    rw [List.take_succ_cons, List.take_succ_cons, stepR_cons]
    rw [hn, if_pos (by rw [List.length_take]; omega)]
theorem recL_tape : ∀ (ms : List Msg) (rest : Bytes), (∀ m ∈ ms, recCode m = 0) → recL (tapeB ms ++ rest) = (ms ++ (recL rest).1, (tapeB ms).length + (recL rest).2)
  | [], rest, _ => by simp [tapeB]
  | m :: ms, rest, h => by
    have hs := stepR_frm (h m (by simp)) (tapeB ms ++ rest)
    have ih := recL_tape ms rest (fun x hx => h x (by simp [hx]))
    show recL ((frmL m ++ tapeB ms) ++ rest) = _
    rw [List.append_assoc, recL_some hs]
    simp only
    rw [List.drop_left' rfl, ih]
    simp only [tapeB, List.cons_append, List.length_append, Nat.add_assoc]
theorem recL_all {ms : List Msg} (h : ∀ m ∈ ms, recCode m = 0) : recL (tapeB ms) = (ms, (tapeB ms).length) := by
  have := recL_tape ms [] h
  rw [List.append_nil] at this
  rw [this, recL_none (l := []) rfl]
  simp
theorem recL_nil : recL [] = ([], 0) := rfl
theorem tapeB_app (a b : List Msg) : tapeB (a ++ b) = tapeB a ++ tapeB b := by
  induction a with
  | nil => rfl
  | cons m a ih => simp [tapeB, ih]
theorem tapeB_one (m : Msg) : tapeB [m] = frmL m := by simp [tapeB]
theorem tapeB_len : ∀ (ms : List Msg), (∀ m ∈ ms, recCode m = 0) → (tapeB ms).length ≤ 302 * ms.length ∧ 6 * ms.length ≤ (tapeB ms).length
  | [], _ => by simp [tapeB]
  | m :: ms, h => by
    have ih := tapeB_len ms (fun x hx => h x (by simp [hx]))
    have := encL_len (recCode_iff (h m (by simp))).1
    simp only [tapeB, List.length_append, frm_len, List.length_cons]
    omega
/-- How many records are whole in the first k bytes. -/
def wholeN : List Msg → Nat → Nat
  | [], _ => 0
  | m :: ms, k => if k < (frmL m).length then 0 else wholeN ms (k - (frmL m).length) + 1
theorem wholeN_le : ∀ (ms : List Msg) (k : Nat), wholeN ms k ≤ ms.length
  | [], _ => Nat.le_refl _
  | m :: ms, k => by
    unfold wholeN
    have := wholeN_le ms (k - (frmL m).length)
    split
    · omega
    · simp only [List.length_cons]; omega
theorem recL_torn : ∀ (ms : List Msg) (k : Nat), (∀ m ∈ ms, recCode m = 0) → recL ((tapeB ms).take k) = (ms.take (wholeN ms k), (tapeB (ms.take (wholeN ms k))).length)
  | [], k, _ => by simp [tapeB, wholeN]; rfl
  | m :: ms, k, h => by
    have hm := h m (by simp)
    unfold wholeN tapeB
    by_cases hk : k < (frmL m).length
    · rw [if_pos hk, List.take_append_of_le_length (by omega), recL_none (stepR_torn (recCode_iff hm).1 hk)]
      rfl
    · rw [if_neg hk, List.take_append, List.take_of_length_le (by omega)]
      have hs := stepR_frm hm ((tapeB ms).take (k - (frmL m).length))
      rw [recL_some hs]
      simp only
      rw [List.drop_left' rfl, recL_torn ms _ (fun x hx => h x (by simp [hx]))]
      simp only [List.take_succ_cons, tapeB, List.length_append]
theorem whole_tape_le : ∀ (ms : List Msg) (k : Nat), (tapeB (ms.take (wholeN ms k))).length ≤ k
  | [], k => by simp [tapeB, wholeN]
  | m :: ms, k => by
    unfold wholeN
    by_cases hk : k < (frmL m).length
    · rw [if_pos hk]; simp [tapeB]
    · rw [if_neg hk, List.take_succ_cons]
      have := whole_tape_le ms (k - (frmL m).length)
      simp only [tapeB, List.length_append]
      omega
theorem whole_all : ∀ (ms : List Msg) (k : Nat), (tapeB ms).length ≤ k → wholeN ms k = ms.length
  | [], k, _ => rfl
  | m :: ms, k, h => by
    simp only [tapeB, List.length_append] at h
    unfold wholeN
    rw [if_neg (by omega), whole_all ms _ (by omega)]
    rfl
theorem whole_part : ∀ (ms : List Msg) (k : Nat), k < (tapeB ms).length → wholeN ms k < ms.length
  | [], k, h => by simp [tapeB] at h
  | m :: ms, k, h => by
    simp only [tapeB, List.length_append] at h
    unfold wholeN
    by_cases hk : k < (frmL m).length
    · rw [if_pos hk]; simp
    · rw [if_neg hk]
      have := whole_part ms (k - (frmL m).length) (by omega)
      simp only [List.length_cons]; omega
theorem whole_ge : ∀ (ms : List Msg) (j k : Nat), j ≤ ms.length → (tapeB (ms.take j)).length ≤ k → j ≤ wholeN ms k
  | [], j, k, h, _ => by simp at h; omega
  | m :: ms, 0, k, _, _ => Nat.zero_le _
  | m :: ms, j + 1, k, h, hk => by
    simp only [List.take_succ_cons, tapeB, List.length_append, List.length_cons] at h hk
    unfold wholeN
    rw [if_neg (by omega)]
    have := whole_ge ms j (k - (frmL m).length) (by omega) (by omega)
    omega
theorem tapeB_take_le (ms : List Msg) (j : Nat) : (tapeB (ms.take j)).length ≤ (tapeB ms).length := by
  have : tapeB ms = tapeB (ms.take j) ++ tapeB (ms.drop j) := by rw [← tapeB_app, List.take_append_drop]
  rw [this, List.length_append]; omega
theorem tapeB_take_eq (ms : List Msg) (j : Nat) : (tapeB ms).take (tapeB (ms.take j)).length = tapeB (ms.take j) := by
  have : tapeB ms = tapeB (ms.take j) ++ tapeB (ms.drop j) := by rw [← tapeB_app, List.take_append_drop]
  rw [this, List.take_left' rfl]
/-- Behind the whole records something that is none. -/
theorem recL_odd (ms : List Msg) (rest : Bytes) (h : ∀ m ∈ ms, recCode m = 0) : recL (tapeB ms ++ (0 :: 1 :: 9 :: rest)) = (ms, (tapeB ms).length) := by
  have hd : (decode [9]).2 = 3 := rfl
  have : stepR (0 :: 1 :: 9 :: rest) = none := by
    rw [stepR_cons]
    rw [if_neg (by simp), if_pos]
    left
    rw [show (List.take ((0 : UInt8).toNat * 256 + (1 : UInt8).toNat) (9 :: rest)) = [9] by simp, hd]
    decide
  rw [recL_tape ms _ h, recL_none this]
  simp
/-! ### The loop of Recover -/
structure RecAt (l : Bytes) (p : Nat) (out : List Msg) : Prop where
  eq : recL l = (out ++ (recL (l.drop p)).1, p + (recL (l.drop p)).2)
  le : p ≤ l.length
  len : out.length ≤ p
  ok : ∀ m ∈ out, recCode m = 0
theorem RecAt.zero (l : Bytes) : RecAt l 0 [] := ⟨by simp, Nat.zero_le _, Nat.zero_le _, by simp⟩
theorem RecAt.done {l : Bytes} {p : Nat} {out : List Msg} (h : RecAt l p out) (hs : stepR (l.drop p) = none) : recL l = (out, p) := by
  rw [h.eq, recL_none hs]; simp
theorem RecAt.next {l : Bytes} {p : Nat} {out : List Msg} {m : Msg} {n : Nat} (h : RecAt l p out) (hs : stepR (l.drop p) = some (m, n)) : RecAt l (p + n) (out ++ [m]) := by
  obtain ⟨s1, s2, s3, -⟩ := stepR_some hs
  simp only [List.length_drop] at s1 s2 s3
  have := h.le
  have hl := h.len
  refine ⟨?_, by omega, by simp; omega, fun x hx => ?_⟩
  · rw [h.eq, recL_some hs]
    simp only [List.drop_drop, List.append_assoc, List.singleton_append, Nat.add_assoc]
  · rcases List.mem_append.1 hx with hx | hx
    · exact h.ok x hx
    · rw [List.mem_singleton.1 hx]; exact s3
theorem drop_two {l : Bytes} {p : Nat} (h : p + 2 ≤ l.length) : l.drop p = l[p] :: l[p + 1] :: l.drop (p + 2) := by
  rw [List.drop_eq_getElem_cons (by omega : p < l.length), List.drop_eq_getElem_cons (by omega : p + 1 < l.length)]
theorem step_short {l : Bytes} {p : Nat} (h : l.length < p + 2) : stepR (l.drop p) = none := by
  have : (l.drop p).length < 2 := by rw [List.length_drop]; omega
  match hq : l.drop p, this with
  | [], _ => rfl
  | [_], _ => rfl
def recN (l : Bytes) (p : Nat) (h : p + 2 ≤ l.length) : Nat := l[p].toNat * 256 + l[p + 1].toNat
theorem step_long {l : Bytes} {p : Nat} (h : p + 2 ≤ l.length) (h2 : l.length < p + 2 + recN l p h) : stepR (l.drop p) = none := by
  rw [drop_two h, stepR_cons]
  unfold recN at *
  rw [if_pos (by rw [List.length_drop]; omega)]
theorem step_bad {l : Bytes} {p : Nat} (h : p + 2 ≤ l.length) (h2 : (decode ((l.drop (p + 2)).take (recN l p h))).2 ≠ 0 ∨ recCode (decode ((l.drop (p + 2)).take (recN l p h))).1 ≠ 0) : stepR (l.drop p) = none := by
  rw [drop_two h, stepR_cons]
  unfold recN at *
  by_cases q : (l.drop (p + 2)).length < l[p].toNat * 256 + l[p + 1].toNat
  · rw [if_pos q]
  · rw [if_neg q, if_pos h2]
theorem step_good {l : Bytes} {p : Nat} (h : p + 2 ≤ l.length) (h1 : p + 2 + recN l p h ≤ l.length) (h2 : (decode ((l.drop (p + 2)).take (recN l p h))).2 = 0) (h3 : recCode (decode ((l.drop (p + 2)).take (recN l p h))).1 = 0) :
    stepR (l.drop p) = some ((decode ((l.drop (p + 2)).take (recN l p h))).1, recN l p h + 2) := by
  rw [drop_two h, stepR_cons]
  unfold recN at *
  rw [if_neg (by rw [List.length_drop]; omega), if_neg (by simp [h2, h3])]
/-! ### Records of raw numbers -/
theorem msgOk_code {m : Msg} (h : msgCode m = 0) : MsgOk m := by
  obtain ⟨h1, h2, h3, h4, h5, h6⟩ := msgCode_iff h
  obtain ⟨f, t, k, b, hh, x, c, r⟩ := m
  simp only at h3 h4
  have hk : k = 1 ∨ k = 2 ∨ k = 3 ∨ k = 4 ∨ k = 5 := by omega
  obtain rfl | rfl | rfl | rfl | rfl := hk
  · obtain ⟨-, p2, p3, p4, p5⟩ := noneM_parts h6
    simp only [Msg.less, if_pos] at p2 p3 p4 p5
    subst p2 p3 p4 p5
    obtain ⟨-, -, -, -, a5⟩ := batCode_iff (b := b) h5
    exact msgOk_bundle fun t ht => by have := a5 t ht; simp [txLen] at this; omega
  · obtain ⟨p1, -, p3, p4, p5⟩ := noneM_parts h6
    simp [Msg.less] at p1 p3 p4 p5
    subst p1 p3 p4 p5
    obtain ⟨-, -, a3, a4, -, -⟩ := hdrCode_iff (b := hh) h5
    exact msgOk_offer (by omega)
  · obtain ⟨p1, p2, -, p4, p5⟩ := noneM_parts h6
    simp [Msg.less] at p1 p2 p4 p5
    subst p1 p2 p4 p5
    exact msgOk_vote
  · obtain ⟨p1, p2, p3, -, p5⟩ := noneM_parts h6
    simp [Msg.less] at p1 p2 p3 p5
    subst p1 p2 p3 p5
    obtain ⟨a1, -, -, -⟩ := crtCode_iff (c := c) h5
    obtain ⟨-, -, a3, a4, -, -⟩ := hdrCode_iff a1
    exact msgOk_proof (by omega)
  · obtain ⟨p1, p2, p3, p4, -⟩ := noneM_parts h6
    simp [Msg.less] at p1 p2 p3 p4
    subst p1 p2 p3 p4
    exact msgOk_want _ _ _
def bare (m : Msg) : Msg := { m with f := 0, t := 0 }
theorem bare_code {m : Msg} (h : msgCode m = 0) : msgCode (bare m) = 0 := by
  obtain ⟨h1, h2, h3, h4, h5, h6⟩ := msgCode_iff h
  obtain ⟨f, t, k, b, hh, x, c, r⟩ := m
  have hl : noneM (Msg.less (bare ⟨f, t, k, b, hh, x, c, r⟩)) = true := by
    have e : noneM (Msg.less (bare ⟨f, t, k, b, hh, x, c, r⟩)) = noneM (Msg.less ⟨f, t, k, b, hh, x, c, r⟩) := by
      unfold Msg.less bare noneM
      repeat (first | rfl | split)
    rw [e]; exact h6
  rw [msgCode_part (m := bare ⟨f, t, k, b, hh, x, c, r⟩) nodeOk_0 nodeOk_0 h3 h4 hl]
  exact h5
def recM (r : RawD) : Msg := if 1 + pickedZ r.k 5 = 5 then bare (msgOf 0 r.a r.b 0 r.txs) else bare (msgOf r.k r.a r.b r.c r.txs)
theorem msgOf_k (K A B C : Int) (l : List Bytes) : (msgOf K A B C l).k = 1 + pickedZ K 5 := by
  obtain ⟨e, h⟩ | ⟨e, h⟩ | ⟨e, h⟩ | ⟨e, h⟩ | ⟨e, h⟩ := msgOf_cases K A B C l <;> rw [h, e]
theorem recM_ok (r : RawD) : recCode (recM r) = 0 := by
  have key : ∀ m : Msg, msgCode m = 0 → m.k ≠ 5 → recCode (bare m) = 0 := fun m h hk => by
    unfold recCode
    rw [if_neg (by simp [bare_code h]), if_neg]
    rintro (q | q | q)
    · exact q rfl
    · exact q rfl
    · exact hk q
  unfold recM
  split
  · refine key _ (msgOf_code _ _ _ _ _) ?_
    rw [msgOf_k]; decide
  · rename_i h
    refine key _ (msgOf_code _ _ _ _ _) ?_
    rw [msgOf_k]; exact h
def recsL (l : List RawD) : List Msg := (l.take 24).map recM
theorem recsL_ok (l : List RawD) : ∀ m ∈ recsL l, recCode m = 0 := fun m hm => by
  obtain ⟨r, -, rfl⟩ := List.mem_map.1 hm
  exact recM_ok r
theorem recsL_len (l : List RawD) : (recsL l).length ≤ 24 := by unfold recsL; rw [List.length_map, List.length_take]; omega
end Go.Proofs.Ytegdpjoncjmdeaa
