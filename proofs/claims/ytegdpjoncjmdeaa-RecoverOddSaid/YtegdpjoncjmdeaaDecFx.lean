/- What was decoded encodes to what was read; what is torn is too short: plain laws. -/
import Derived.Test.YtegdpjoncjmdeaaDecBk
set_option linter.unusedVariables false
set_option linter.unusedSimpArgs false
namespace Go.Proofs.Ytegdpjoncjmdeaa
open Go Go.RowKit

/-- A reader that takes just what a printer printed. -/
structure Inv {α : Type} (f : Rdr → α × Rdr) (e : α → Bytes) : Prop where
  stick : ∀ r : Rdr, r.short = true → (f r).2.short = true
  rev : ∀ a : Bytes, (f (rdr a)).2.short = false → a = e (f (rdr a)).1 ++ (f (rdr a)).2.rest
  ext : ∀ a s : Bytes, (f (rdr a)).2.short = false → f (rdr (a ++ s)) = ((f (rdr a)).1, rdr ((f (rdr a)).2.rest ++ s))
theorem rdr_eta {r : Rdr} (h : r.short = false) : r = rdr r.rest := by obtain ⟨x, y⟩ := r; simp only at h; subst h; rfl
theorem take_ns {a : Bytes} {n : Nat} (h : ((rdr a).take n).2.short = false) : n ≤ a.length ∧ (rdr a).take n = (a.take n, rdr (a.drop n)) := by
  cases e : (rdr a).ends n
  · exact ⟨(Rdr.ends_iff.1 e).2, Rdr.take_ok e⟩
  · rw [Rdr.take_ends e] at h; simp at h
theorem take_stick (n : Nat) (r : Rdr) (h : r.short = true) : (r.take n).2.short = true := by
  rw [Rdr.take_ends (by unfold Rdr.ends; simp [h])]
theorem take_more {a s : Bytes} {n : Nat} (h : n ≤ a.length) : (rdr (a ++ s)).take n = (a.take n, rdr (a.drop n ++ s)) := by
  rw [Rdr.take_ok (by rw [Rdr.ends_iff]; exact ⟨rfl, by simp; omega⟩)]
  simp only [rdr]
  rw [List.take_append_of_le_length h, List.drop_append_of_le_length h]
theorem inv_take (n : Nat) : Inv (fun r => r.take n) (fun d => d) where
  stick := take_stick n
  rev := fun a h => by rw [(take_ns h).2]; simp
  ext := fun a s h => by obtain ⟨h1, h2⟩ := take_ns h; simp only [h2]; exact take_more h1
theorem Inv.bind {α β : Type} {f : Rdr → α × Rdr} {g : Rdr → β × Rdr} {e1 : α → Bytes} {e2 : β → Bytes} (hf : Inv f e1) (hg : Inv g e2) :
    Inv (fun r => (((f r).1, (g (f r).2).1), (g (f r).2).2)) (fun x => e1 x.1 ++ e2 x.2) := by
  have hs : ∀ a, (g (f (rdr a)).2).2.short = false → (f (rdr a)).2.short = false := fun a h => by
    cases q : (f (rdr a)).2.short
    · rfl
    · rw [hg.stick _ q] at h; simp at h
  refine ⟨fun r h => hg.stick _ (hf.stick r h), fun a h => ?_, fun a s h => ?_⟩
  · have h1 := hs a h
    have r1 := hf.rev a h1
    try simp only at h ⊢
    rw [rdr_eta h1] at h ⊢
    have r2 := hg.rev _ h
    rw [List.append_assoc, ← r2]; exact r1
  · have h1 := hs a h
    have x1 := hf.ext a s h1
    try simp only at h ⊢
    rw [rdr_eta h1] at h ⊢
    rw [x1]
    try simp only
    rw [hg.ext _ s h]
theorem Inv.map {α β : Type} {f : Rdr → α × Rdr} {e : α → Bytes} (h : Inv f e) (m : α → β) (e' : β → Bytes) (he : ∀ x, e' (m x) = e x) : Inv (fun r => (m (f r).1, (f r).2)) e' where
  stick := h.stick
  rev := fun a q => by simp only; rw [he]; exact h.rev a q
  ext := fun a s q => by simp only; rw [h.ext a s q]
/-- The same, where the printer fits but for what may not be read. -/
theorem Inv.mapR {α β : Type} {f : Rdr → α × Rdr} {e : α → Bytes} (h : Inv f e) (m : α → β) (e' : β → Bytes) (he : ∀ a, (f (rdr a)).2.short = false → e' (m (f (rdr a)).1) = e (f (rdr a)).1) : Inv (fun r => (m (f r).1, (f r).2)) e' where
  stick := h.stick
  rev := fun a q => by simp only; rw [he a q]; exact h.rev a q
  ext := fun a s q => by simp only; rw [h.ext a s q]
theorem num_stick (n : Nat) (r : Rdr) (h : r.short = true) : (r.num n).2.short = true := take_stick n r h
theorem inv_num1 : Inv (fun r => r.num 1) (fun n => [byteZ n]) := by
  refine (inv_take 1).mapR numL _ (fun a h => ?_)
  obtain ⟨h1, h2⟩ := take_ns h
  simp only [h2]
  match a, h1 with
  | c :: t, _ => simp [numL, byteZ_nat]
theorem wide_of (a b c : UInt8) : wideL (numL [a, b, c]) = [a, b, c] := by
  have ha : a.toNat < 256 := a.toNat_lt
  have hb : b.toNat < 256 := b.toNat_lt
  have hc : c.toNat < 256 := c.toNat_lt
  have e : numL [a, b, c] = ((a.toNat : Int) * 256 + b.toNat) * 256 + c.toNat := by simp [numL]
  unfold wideL
  rw [e]
  have e1 : byteZ ((((a.toNat : Int) * 256 + b.toNat) * 256 + c.toNat) / 65536) = a := by
    rw [show (((a.toNat : Int) * 256 + b.toNat) * 256 + c.toNat) / 65536 = (a.toNat : Int) by omega]; exact byteZ_nat a
  have e2 : byteZ ((((a.toNat : Int) * 256 + b.toNat) * 256 + c.toNat) / 256) = b := by
    have : byteZ ((((a.toNat : Int) * 256 + b.toNat) * 256 + c.toNat) / 256) = byteZ (b.toNat : Int) := by
      unfold byteZ; rw [show ((((a.toNat : Int) * 256 + b.toNat) * 256 + c.toNat) / 256) % 256 = (b.toNat : Int) % 256 by omega]
    rw [this]; exact byteZ_nat b
  have e3 : byteZ (((a.toNat : Int) * 256 + b.toNat) * 256 + c.toNat) = c := by
    have : byteZ (((a.toNat : Int) * 256 + b.toNat) * 256 + c.toNat) = byteZ (c.toNat : Int) := by
      unfold byteZ; rw [show (((a.toNat : Int) * 256 + b.toNat) * 256 + c.toNat) % 256 = (c.toNat : Int) % 256 by omega]
    rw [this]; exact byteZ_nat c
  rw [e1, e2, e3]
theorem inv_num3 : Inv (fun r => r.num 3) wideL := by
  refine (inv_take 3).mapR numL _ (fun a h => ?_)
  obtain ⟨h1, h2⟩ := take_ns h
  simp only [h2]
  match a, h1 with
  | x :: y :: z :: t, _ => exact wide_of x y z
theorem many_stick {α : Type} {f : Rdr → α × Rdr} (k : Nat) (r : Rdr) (h : r.short = true) : (Rdr.many f k r).2.short = true := by rw [Rdr.many_short f k r h]; exact h
theorem inv_many {α : Type} {f : Rdr → α × Rdr} {e : α → Bytes} (h : Inv f e) : ∀ (k : Nat) (a s : Bytes), (Rdr.many f k (rdr a)).2.short = false →
    a = ((Rdr.many f k (rdr a)).1.map e).flatten ++ (Rdr.many f k (rdr a)).2.rest ∧ (Rdr.many f k (rdr a)).1.length = k ∧ Rdr.many f k (rdr (a ++ s)) = ((Rdr.many f k (rdr a)).1, rdr ((Rdr.many f k (rdr a)).2.rest ++ s))
  | 0, a, s, _ => ⟨rfl, rfl, rfl⟩
  | k + 1, a, s, q => by
    rw [Rdr.many_next f k (rdr a) rfl] at q ⊢
    rw [Rdr.many_next f k (rdr (a ++ s)) rfl]
    try simp only at q ⊢
    have h1 : (f (rdr a)).2.short = false := by
      cases z : (f (rdr a)).2.short
      · rfl
      · rw [many_stick k _ z] at q; simp at q
    have r1 := h.rev a h1
    have x1 := h.ext a s h1
    rw [x1]
    try simp only
    rw [rdr_eta h1] at q ⊢
    obtain ⟨i1, i2, i3⟩ := inv_many h k _ s q
    refine ⟨?_, by simp [i2], by rw [i3]⟩
    rw [List.map_cons, List.flatten_cons, List.append_assoc, ← i1]
    exact r1
theorem num1_bound {a : Bytes} (h : ((rdr a).num 1).2.short = false) : 0 ≤ ((rdr a).num 1).1 ∧ ((rdr a).num 1).1 < 256 := by
  have := Rdr.num_bound (rdr a) 1
  simpa using this
theorem inv_list {α : Type} {f : Rdr → α × Rdr} {e : α → Bytes} (h : Inv f e) : Inv (Rdr.list f) (fun l => byteZ l.length :: (l.map e).flatten) := by
  have hs : ∀ a, (Rdr.list f (rdr a)).2.short = false → ((rdr a).num 1).2.short = false := fun a q => by
    cases z : ((rdr a).num 1).2.short
    · rfl
    · unfold Rdr.list at q; rw [many_stick _ _ z] at q; simp at q
  refine ⟨fun r q => many_stick _ _ (num_stick 1 r q), fun a q => ?_, fun a s q => ?_⟩
  · have h1 := hs a q
    have r1 := inv_num1.rev a h1
    have b1 := num1_bound h1
    unfold Rdr.list at q ⊢
    try simp only at r1
    generalize hn : ((rdr a).num 1).1 = n at *
    rw [rdr_eta h1] at q ⊢
    obtain ⟨i1, i2, -⟩ := inv_many h n.toNat _ [] q
    rw [i2, show ((n.toNat : Nat) : Int) = n by omega, List.cons_append, ← i1]
    exact r1
  · have h1 := hs a q
    have x1 := inv_num1.ext a s h1
    try simp only at x1
    unfold Rdr.list at q ⊢
    rw [x1]
    try simp only
    rw [rdr_eta h1] at q ⊢
    obtain ⟨-, -, i3⟩ := inv_many h _ _ s q
    rw [i3]
theorem inv_text : Inv Rdr.text (fun t => byteZ t.length :: t) := by
  have hs : ∀ a, (Rdr.text (rdr a)).2.short = false → ((rdr a).num 1).2.short = false := fun a q => by
    cases z : ((rdr a).num 1).2.short
    · rfl
    · unfold Rdr.text at q; rw [take_stick _ _ z] at q; simp at q
  refine ⟨fun r q => take_stick _ _ (num_stick 1 r q), fun a q => ?_, fun a s q => ?_⟩
  · have h1 := hs a q
    have r1 := inv_num1.rev a h1
    have b1 := num1_bound h1
    unfold Rdr.text at q ⊢
    try simp only at r1
    generalize hn : ((rdr a).num 1).1 = n at *
    rw [rdr_eta h1] at q ⊢
    obtain ⟨i1, i2⟩ := take_ns q
    rw [i2]
    simp only [List.length_take]
    rw [show ((min n.toNat ((rdr a).num 1).2.rest.length : Nat) : Int) = n by omega, List.cons_append, List.take_append_drop]
    exact r1
  · have h1 := hs a q
    have x1 := inv_num1.ext a s h1
    try simp only at x1
    unfold Rdr.text at q ⊢
    rw [x1]
    try simp only
    rw [rdr_eta h1] at q ⊢
    obtain ⟨i1, i2⟩ := take_ns q
    rw [i2]
    exact take_more i1
theorem inv_batch : Inv (fun r => r.batch) putBatchL :=
  (inv_num1.bind (inv_num3.bind (inv_list inv_text))).map (fun x => (⟨x.1, x.2.1, x.2.2⟩ : Bat)) putBatchL (fun x => by unfold putBatchL putTxs; simp)
theorem inv_digests : Inv (fun r => r.digests) putDigestsL :=
  (inv_list (inv_take 32)).map (fun x => x) putDigestsL (fun x => by unfold putDigestsL; simp)
theorem inv_header : Inv (fun r => r.header) putHeaderL :=
  (inv_num1.bind (inv_num3.bind (inv_digests.bind inv_digests))).map (fun x => (⟨x.1, x.2.1, x.2.2.1, x.2.2.2⟩ : Hdr)) putHeaderL (fun x => by unfold putHeaderL; simp)
theorem inv_slot : Inv (fun r => r.slot) (fun x => byteZ x.a :: (wideL x.r ++ x.d)) :=
  (inv_num1.bind (inv_num3.bind (inv_take 32))).map (fun x => (⟨x.1, x.2.1, x.2.2⟩ : Slt)) _ (fun x => by simp)
theorem inv_cert : Inv (fun r => r.cert) (fun c => putHeaderL c.h ++ (byteZ c.vs.length :: c.vs.map byteZ)) :=
  (inv_header.bind (inv_list inv_num1)).map (fun x => (⟨x.1, x.2⟩ : Crt)) _ (fun x => by simp [flat_single])
theorem inv_body {m : Msg} (hk : 1 ≤ m.k ∧ m.k ≤ 5) : Inv (fun r => Rdr.body m r) (fun x => if m.k = 1 then putBatchL x.b else if m.k = 2 then putHeaderL x.h else if m.k = 3 then byteZ x.s.a :: (wideL x.s.r ++ x.s.d) else if m.k = 4 then putHeaderL x.c.h ++ (byteZ x.c.vs.length :: x.c.vs.map byteZ) else wideL x.r) := by
  obtain ⟨f, t, k, b, hh, x, c, r⟩ := m
  try simp only at hk
  have : k = 1 ∨ k = 2 ∨ k = 3 ∨ k = 4 ∨ k = 5 := by omega
  obtain rfl | rfl | rfl | rfl | rfl := this
  · exact inv_batch.map (fun y => (⟨f, t, 1, y, hh, x, c, r⟩ : Msg)) _ (fun y => by simp)
  · exact inv_header.map (fun y => (⟨f, t, 2, b, y, x, c, r⟩ : Msg)) _ (fun y => by simp)
  · exact inv_slot.map (fun y => (⟨f, t, 3, b, hh, y, c, r⟩ : Msg)) _ (fun y => by simp)
  · exact inv_cert.map (fun y => (⟨f, t, 4, b, hh, x, y, r⟩ : Msg)) _ (fun y => by simp)
  · exact inv_num3.map (fun y => (⟨f, t, 5, b, hh, x, c, y⟩ : Msg)) _ (fun y => by simp)
theorem body_short {m : Msg} {r : Rdr} (hk : 1 ≤ m.k ∧ m.k ≤ 5) (h : (Rdr.body m r).2.short = false) : r.short = false := by
  cases z : r.short
  · rfl
  · rw [(inv_body hk).stick r z] at h; simp at h
theorem body_ft (m : Msg) (r : Rdr) : (Rdr.body m r).1.f = m.f ∧ (Rdr.body m r).1.t = m.t ∧ (Rdr.body m r).1.k = m.k := by
  unfold Rdr.body
  split
  · exact ⟨rfl, rfl, rfl⟩
  split
  · exact ⟨rfl, rfl, rfl⟩
  split
  · exact ⟨rfl, rfl, rfl⟩
  split
  · exact ⟨rfl, rfl, rfl⟩
  split
  · exact ⟨rfl, rfl, rfl⟩
  · exact ⟨rfl, rfl, rfl⟩
/-- The whole reader. -/
theorem decM_inv {a : Bytes} (hk : 1 ≤ decK a ∧ decK a ≤ 5) (h : (decM a).2.short = false) :
    a = encL (decM a).1 ++ (decM a).2.rest ∧ ∀ s, decM (a ++ s) = ((decM a).1, rdr ((decM a).2.rest ++ s)) := by
  have hk0 : ((rdr a).num 1).1 = decK a := rfl
  have hq : (Rdr.body { msg0 with k := ((rdr a).num 1).1, f := (((rdr a).num 1).2.num 1).1, t := ((((rdr a).num 1).2.num 1).2.num 1).1 } ((((rdr a).num 1).2.num 1).2.num 1).2).2.short = false := h
  have s3 := body_short (by simp only; omega) hq
  have s2 : (((rdr a).num 1).2.num 1).2.short = false := by
    cases z : (((rdr a).num 1).2.num 1).2.short
    · rfl
    · rw [num_stick _ _ z] at s3; simp at s3
  have s1 : ((rdr a).num 1).2.short = false := by
    cases z : ((rdr a).num 1).2.short
    · rfl
    · rw [num_stick _ _ z] at s2; simp at s2
  have r1 := inv_num1.rev a s1
  have x1 := fun s => inv_num1.ext a s s1
  have hM : ∀ b, decM b = Rdr.body { msg0 with k := ((rdr b).num 1).1, f := (((rdr b).num 1).2.num 1).1, t := ((((rdr b).num 1).2.num 1).2.num 1).1 } ((((rdr b).num 1).2.num 1).2.num 1).2 := fun _ => rfl
  try simp only at r1 x1
  generalize hA : (rdr a).num 1 = A at *
  obtain ⟨k, ⟨ra, sa⟩⟩ := A
  try simp only at s1
  subst s1
  have r2 := inv_num1.rev ra s2
  have x2 := fun s => inv_num1.ext ra s s2
  try simp only at r1 r2 x1 x2 s2 s3 hq
  generalize hA2 : (rdr ra).num 1 = A2 at *
  obtain ⟨f, ⟨rb, sb⟩⟩ := A2
  try simp only at s2
  subst s2
  have r3 := inv_num1.rev rb s3
  have x3 := fun s => inv_num1.ext rb s s3
  try simp only at r2 r3 x2 x3 s3 hq
  generalize hA3 : (rdr rb).num 1 = A3 at *
  obtain ⟨t, ⟨rc, sc⟩⟩ := A3
  try simp only at s3
  subst s3
  try simp only at r3 x3 hq
  have hk' : 1 ≤ k ∧ k ≤ 5 := by rw [← hk0] at hk; exact hk
  have hI := inv_body (m := { msg0 with k := k, f := f, t := t }) hk'
  have r4 := hI.rev rc hq
  have x4 := fun s => hI.ext rc s hq
  have hft := body_ft { msg0 with k := k, f := f, t := t } (rdr rc)
  have e0 : decM a = Rdr.body { msg0 with k := k, f := f, t := t } (rdr rc) := by rw [hM a, hA]; simp only; rw [hA2]; simp only; rw [hA3]
  try simp only at r4 x4 hft
  constructor
  · rw [e0]
    unfold encL bodyL
    rw [hft.1, hft.2.1, hft.2.2]
    rw [r1, r2, r3]
    simp only [List.cons_append, List.nil_append]
    rw [← r4]
  · intro s
    rw [hM (a ++ s), x1 s]
    try simp only
    rw [x2 s]
    try simp only
    rw [x3 s]
    try simp only
    rw [x4 s, e0]
/-- MessageFixed's law. -/
theorem decode_ok {l : Bytes} (h : (decode l).2 = 0) : msgCode (decode l).1 = 0 ∧ encL (decode l).1 = l := by
  unfold decode at h ⊢
  split at h
  · simp at h
  rename_i h1
  rw [if_neg h1]
  split at h
  · simp at h
  rename_i h2
  rw [if_neg h2]
  split at h
  · simp at h
  rename_i h3
  rw [if_neg h3]
  split at h
  · simp at h
  rename_i h4
  rw [if_neg h4]
  split at h
  · rename_i h5; exact absurd h h5
  rename_i h5
  rw [if_neg h5]
  have hs : (decM l).2.short = false := by cases q : (decM l).2.short; rfl; exact absurd (.inl q) h3
  have hl : 0 < l.length := by omega
  have := (decM_inv (a := l) (by omega) hs).1
  have hr : (decM l).2.rest = [] := List.eq_nil_of_length_eq_zero (by omega)
  rw [hr, List.append_nil] at this
  exact ⟨by simpa using h5, this.symm⟩
theorem decode_bad {l : Bytes} (h : (decode l).2 ≠ 0) : (decode l).1 = msg0 := by
  unfold decode at h ⊢
  repeat (first | rfl | (split at h <;> rename_i hh <;> (first | rw [if_pos hh] | rw [if_neg hh])))
  exact absurd rfl h
/-- MessageTorn's law. -/
theorem decode_torn {m : Msg} {k : Nat} (h : msgCode m = 0) (hk : k < (encL m).length) : (decode ((encL m).take k)).2 = 5 := by
  have hl := encL_len h
  obtain ⟨h1, h2, h3, h4, h5, h6⟩ := msgCode_iff h
  have hlk : ((encL m).take k).length = k := by simp; omega
  unfold decode
  rw [if_neg (by omega)]
  have hK : 0 < k → decK ((encL m).take k) = m.k := fun h0 => by
    obtain ⟨j, rfl⟩ : ∃ j, k = j + 1 := ⟨k - 1, by omega⟩
    show decK ((byteZ m.k :: _).take (j + 1)) = _
    rw [List.take_succ_cons, decK_cons, byteZ_of (by omega) (by omega)]
  rw [if_neg (by rintro ⟨q1, q2⟩; rw [hK (by omega)] at q2; omega), if_pos]
  by_cases h0 : k = 0
  · exact .inr (by omega)
  left
  cases q : (decM ((encL m).take k)).2.short
  · exfalso
    obtain ⟨-, x⟩ := decM_inv (a := (encL m).take k) (by rw [hK (by omega)]; omega) q
    have x2 := x ((encL m).drop k)
    rw [List.take_append_drop] at x2
    have x3 := decM_app m [] h
    rw [List.append_nil, x2] at x3
    have : ((decM ((encL m).take k)).2.rest ++ (encL m).drop k) = [] := congrArg (fun p : Msg × Rdr => p.2.rest) x3
    have := congrArg List.length this
    simp at this
    omega
  · rfl
end Go.Proofs.Ytegdpjoncjmdeaa
