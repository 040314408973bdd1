/- Decoding undoes encoding: plain laws. -/
import Derived.Test.YtegdpjoncjmdeaaDecLaw
set_option linter.unusedVariables false
set_option linter.unusedSimpArgs false
namespace Go.Proofs.Ytegdpjoncjmdeaa
open Go Go.RowKit

theorem byteZ_nat (c : UInt8) : byteZ (c.toNat : Int) = c := by
  have h : c.toNat < 256 := c.toNat_lt
  unfold byteZ
  rw [show ((c.toNat : Int) % 256).toNat = c.toNat by omega]
  simp
theorem byteZ_of {n : Int} (h0 : 0 ≤ n) (h1 : n < 256) : ((byteZ n).toNat : Int) = n := by rw [byteZ_toNat]; omega
abbrev rdr (l : Bytes) : Rdr := ⟨l, false⟩
theorem take_app (a b : Bytes) {n : Nat} (h : a.length = n) : (rdr (a ++ b)).take n = (a, rdr b) := by
  subst h
  rw [Rdr.take_ok (by rw [Rdr.ends_iff]; exact ⟨rfl, by simp⟩)]
  simp [rdr]
theorem num_one (c : UInt8) (b : Bytes) : (rdr (c :: b)).num 1 = ((c.toNat : Int), rdr b) := by
  unfold Rdr.num
  rw [show (rdr (c :: b)).take 1 = ([c], rdr b) from take_app [c] b rfl]
  simp [numL]
theorem num_byte {n : Int} (h0 : 0 ≤ n) (h1 : n < 256) (b : Bytes) : (rdr (byteZ n :: b)).num 1 = (n, rdr b) := by rw [num_one, byteZ_of h0 h1]
theorem numL_wide {n : Int} (h0 : 0 ≤ n) (h1 : n < 16777216) : numL (wideL n) = n := by
  unfold numL wideL
  simp only [List.foldl_cons, List.foldl_nil, byteZ_toNat]
  omega
theorem num_wide {n : Int} (h0 : 0 ≤ n) (h1 : n < 16777216) (b : Bytes) : (rdr (wideL n ++ b)).num 3 = (n, rdr b) := by
  unfold Rdr.num
  rw [show (rdr (wideL n ++ b)).take 3 = (wideL n, rdr b) from take_app (wideL n) b rfl, numL_wide h0 h1]
theorem many_app {α : Type} (f : Rdr → α × Rdr) (e : α → Bytes) : ∀ (l : List α) (s : Bytes), (∀ x ∈ l, ∀ s, f (rdr (e x ++ s)) = (x, rdr s)) → Rdr.many f l.length (rdr ((l.map e).flatten ++ s)) = (l, rdr s)
  | [], s, _ => rfl
  | x :: t, s, h => by
    have hx := h x (by simp) ((t.map e).flatten ++ s)
    have ih := many_app f e t s (fun y hy => h y (by simp [hy]))
    rw [List.length_cons, Rdr.many_next f _ _ rfl, List.map_cons, List.flatten_cons, List.append_assoc, hx]
    simp only [ih]
theorem list_app {α : Type} (f : Rdr → α × Rdr) (e : α → Bytes) (l : List α) (s : Bytes) (hl : l.length < 256) (h : ∀ x ∈ l, ∀ s, f (rdr (e x ++ s)) = (x, rdr s)) :
    Rdr.list f (rdr (byteZ l.length :: ((l.map e).flatten ++ s))) = (l, rdr s) := by
  unfold Rdr.list
  rw [num_byte (by omega) (by omega)]
  simp only [Int.toNat_natCast]
  exact many_app f e l s h
theorem text_app (t s : Bytes) (h : t.length < 256) : Rdr.text (rdr ((byteZ t.length :: t) ++ s)) = (t, rdr s) := by
  unfold Rdr.text
  rw [List.cons_append, num_byte (by omega) (by omega)]
  simp only [Int.toNat_natCast]
  exact take_app t s rfl
theorem batch_app (b : Bat) (s : Bytes) (h : batCode b = 0) : (rdr (putBatchL b ++ s)).batch = (b, rdr s) := by
  obtain ⟨h1, h2, h3, h4, h5⟩ := batCode_iff h
  have ha := nodeOk_iff h1
  have hn := countOk_iff h2
  have ht : ∀ t ∈ b.txs, t.length ≤ 20 := fun t ht => by have := h5 t ht; simp [txLen] at this; omega
  have e : putBatchL b ++ s = byteZ b.a :: (wideL b.n ++ (byteZ b.txs.length :: ((b.txs.map fun t => byteZ t.length :: t).flatten ++ s))) := by
    unfold putBatchL putTxs; simp
  unfold Rdr.batch
  rw [e, num_byte (by omega) (by omega)]
  simp only [num_wide (show 0 ≤ b.n by omega) (show b.n < 16777216 by omega)]
  rw [list_app Rdr.text (fun t => byteZ t.length :: t) b.txs s (by omega) (fun t h s => text_app t s (by have := ht t h; omega))]
theorem digests_app (l : List Bytes) (s : Bytes) (h : ∀ d ∈ l, d.length = 32) (hl : l.length < 256) : (rdr (putDigestsL l ++ s)).digests = (l, rdr s) := by
  unfold Rdr.digests putDigestsL
  have := list_app (fun r => r.take 32) (fun d => d) l s hl (fun d hd s => take_app d s (h d hd))
  simpa using this
theorem header_app (h : Hdr) (s : Bytes) (hc : hdrCode h = 0) : (rdr (putHeaderL h ++ s)).header = (h, rdr s) := by
  obtain ⟨h1, h2, h3, h4, h5, h6⟩ := hdrCode_iff hc
  have ha := nodeOk_iff h1
  have hn := countOk_iff h2
  have h5 := ((digCode_zero _).1 h5).1
  have h6 := ((digCode_zero _).1 h6).1
  have e : putHeaderL h ++ s = byteZ h.a :: (wideL h.r ++ (putDigestsL h.bs ++ (putDigestsL h.ps ++ s))) := by
    unfold putHeaderL; simp
  unfold Rdr.header
  rw [e, num_byte (by omega) (by omega)]
  simp only [num_wide (show 0 ≤ h.r by omega) (show h.r < 16777216 by omega)]
  rw [digests_app h.bs _ h5 (by omega)]
  simp only
  rw [digests_app h.ps _ h6 (by omega)]
theorem slot_app (x : Slt) (s : Bytes) (hc : sltCode x.a x.r x.d.length = 0) : (rdr (byteZ x.a :: (wideL x.r ++ (x.d ++ s)))).slot = (x, rdr s) := by
  obtain ⟨h1, h2, h3⟩ := sltCode_iff hc
  have ha := nodeOk_iff h1
  have hn := countOk_iff h2
  unfold Rdr.slot
  rw [num_byte (by omega) (by omega)]
  simp only [num_wide (show 0 ≤ x.r by omega) (show x.r < 16777216 by omega)]
  rw [take_app x.d s h3]
theorem flat_single (l : List Int) : (l.map fun v => [byteZ v]).flatten = l.map byteZ := by
  induction l with
  | nil => rfl
  | cons a t ih => simp [ih]
theorem votGo_nodes : ∀ (l : List Int) (o : Option Int), votGo o l = 0 → ∀ v ∈ l, 0 ≤ v ∧ v < 4
  | [], _, _ => fun v hv => by simp at hv
  | u :: t, o, h => by
    have hn : nodeOk u = true := by
      cases q : nodeOk u
      · unfold votGo at h; rw [if_pos q] at h; simp at h
      · rfl
    have ht : votGo (some u) t = 0 := by
      unfold votGo at h
      rw [if_neg (by simp [hn])] at h
      cases o with
      | none => simpa using h
      | some x =>
        simp only at h
        by_cases q : decide (u ≤ x) = true
        · rw [if_pos q] at h; simp at h
        · rw [if_neg q] at h; exact h
    have ih := votGo_nodes t (some u) ht
    intro v hv
    rcases List.mem_cons.1 hv with rfl | hv
    · exact nodeOk_iff hn
    · exact ih v hv
theorem cert_app (c : Crt) (s : Bytes) (hc : crtCode c = 0) : (rdr (putHeaderL c.h ++ (byteZ c.vs.length :: (c.vs.map byteZ ++ s)))).cert = (c, rdr s) := by
  obtain ⟨h1, h2, h3, h4⟩ := crtCode_iff hc
  unfold Rdr.cert
  rw [header_app c.h _ h1]
  simp only
  have := list_app (fun r => r.num 1) (fun v => [byteZ v]) c.vs s (by omega) (fun v hv s => by
    have := votGo_nodes _ _ h3 v hv
    exact num_byte (by omega) (by omega) s)
  rw [flat_single] at this
  rw [this]
theorem noneM_parts {m : Msg} (h : noneM m = true) : m.b = bat0 ∧ m.h = hdr0 ∧ m.s = slt0 ∧ m.c = crt0 ∧ m.r = 0 := by
  obtain ⟨f, t, k, ⟨ba, bn, bt⟩, ⟨ha, hr, hb, hp⟩, ⟨sa, sr, sd⟩, ⟨⟨ca, cr, cb, cp⟩, cv⟩, r⟩ := m
  simp [noneM, noHdr, nhB] at h
  simp [bat0, hdr0, slt0, crt0]
  simp_all
theorem decM_app (m : Msg) (s : Bytes) (h : msgCode m = 0) : decM (encL m ++ s) = (m, rdr s) := by
  obtain ⟨h1, h2, h3, h4, h5, h6⟩ := msgCode_iff h
  have hf := nodeOk_iff h1
  have ht := nodeOk_iff h2
  have e : encL m ++ s = byteZ m.k :: (byteZ m.f :: (byteZ m.t :: (bodyL m ++ s))) := by unfold encL; simp
  have e1 : ∀ b : Bytes, (⟨byteZ m.k :: b, false⟩ : Rdr).num 1 = (m.k, ⟨b, false⟩) := fun b => num_byte (by omega) (by omega) b
  have e2 : ∀ b : Bytes, (⟨byteZ m.f :: b, false⟩ : Rdr).num 1 = (m.f, ⟨b, false⟩) := fun b => num_byte (by omega) (by omega) b
  have e3 : ∀ b : Bytes, (⟨byteZ m.t :: b, false⟩ : Rdr).num 1 = (m.t, ⟨b, false⟩) := fun b => num_byte (by omega) (by omega) b
  unfold decM
  rw [e]
  simp only [e1, e2, e3]
  clear e e1 e2 e3 h
  obtain ⟨f, t, k, b, hh, x, c, r⟩ := m
  simp only at *
  have hk : k = 1 ∨ k = 2 ∨ k = 3 ∨ k = 4 ∨ k = 5 := by omega
  obtain rfl | rfl | rfl | rfl | rfl := hk
  · obtain ⟨-, p2, p3, p4, p5⟩ := noneM_parts h6
    simp only [Msg.less, if_pos] at p2 p3 p4 p5
    subst p2 p3 p4 p5
    show Rdr.body ⟨f, t, 1, bat0, hdr0, slt0, crt0, 0⟩ (rdr (putBatchL b ++ s)) = _
    unfold Rdr.body
    rw [if_pos rfl, batch_app b s h5]
  · obtain ⟨p1, -, p3, p4, p5⟩ := noneM_parts h6
    simp [Msg.less] at p1 p3 p4 p5
    subst p1 p3 p4 p5
    show Rdr.body ⟨f, t, 2, bat0, hdr0, slt0, crt0, 0⟩ (rdr (putHeaderL hh ++ s)) = _
    unfold Rdr.body
    rw [if_neg (show ¬ (2 : Int) = 1 by decide), if_pos rfl, header_app hh s h5]
  · obtain ⟨p1, p2, -, p4, p5⟩ := noneM_parts h6
    simp [Msg.less] at p1 p2 p4 p5
    subst p1 p2 p4 p5
    show Rdr.body ⟨f, t, 3, bat0, hdr0, slt0, crt0, 0⟩ (rdr ((byteZ x.a :: (wideL x.r ++ x.d)) ++ s)) = _
    unfold Rdr.body
    rw [if_neg (show ¬ (3 : Int) = 1 by decide), if_neg (show ¬ (3 : Int) = 2 by decide), if_pos rfl, show (byteZ x.a :: (wideL x.r ++ x.d)) ++ s = byteZ x.a :: (wideL x.r ++ (x.d ++ s)) by simp, slot_app x s h5]
  · obtain ⟨p1, p2, p3, -, p5⟩ := noneM_parts h6
    simp [Msg.less] at p1 p2 p3 p5
    subst p1 p2 p3 p5
    show Rdr.body ⟨f, t, 4, bat0, hdr0, slt0, crt0, 0⟩ (rdr ((putHeaderL c.h ++ (byteZ c.vs.length :: c.vs.map byteZ)) ++ s)) = _
    unfold Rdr.body
    rw [if_neg (show ¬ (4 : Int) = 1 by decide), if_neg (show ¬ (4 : Int) = 2 by decide), if_neg (show ¬ (4 : Int) = 3 by decide), if_pos rfl, show (putHeaderL c.h ++ (byteZ c.vs.length :: c.vs.map byteZ)) ++ s = putHeaderL c.h ++ (byteZ c.vs.length :: (c.vs.map byteZ ++ s)) by simp, cert_app c s h5]
  · obtain ⟨p1, p2, p3, p4, -⟩ := noneM_parts h6
    simp [Msg.less] at p1 p2 p3 p4
    subst p1 p2 p3 p4
    have h5' : countOk r = true := by
      cases q : countOk r
      · simp [msgPart, q] at h5
      · rfl
    have hr := countOk_iff h5'
    show Rdr.body ⟨f, t, 5, bat0, hdr0, slt0, crt0, 0⟩ (rdr (wideL r ++ s)) = _
    unfold Rdr.body
    rw [if_neg (show ¬ (5 : Int) = 1 by decide), if_neg (show ¬ (5 : Int) = 2 by decide), if_neg (show ¬ (5 : Int) = 3 by decide), if_neg (show ¬ (5 : Int) = 4 by decide), if_pos rfl, num_wide (by omega) (by omega)]
theorem putTxs_len20 (l : List Bytes) (h : ∀ t ∈ l, t.length ≤ 20) : (putTxs l).length ≤ 21 * l.length := by
  unfold putTxs
  induction l with
  | nil => simp
  | cons t l ih =>
    have := ih (fun x hx => h x (by simp [hx]))
    have h0 := h t (by simp)
    simp only [List.map_cons, List.flatten_cons, List.length_append, List.length_cons]
    omega
theorem digestsL_len (l : List Bytes) (h : ∀ d ∈ l, d.length = 32) : (putDigestsL l).length = 1 + 32 * l.length := by
  unfold putDigestsL
  rw [List.length_cons, flatten_len h]; omega
theorem headerL_len {b : Hdr} (h : hdrCode b = 0) : (putHeaderL b).length ≤ 230 := by
  obtain ⟨h1, h2, h3, h4, h5, h6⟩ := hdrCode_iff h
  unfold putHeaderL
  have e1 := digestsL_len b.bs ((digCode_zero _).1 h5).1
  have e2 := digestsL_len b.ps ((digCode_zero _).1 h6).1
  simp only [List.length_cons, List.length_append, e1, e2, wideL, List.length_nil]
  omega
theorem encL_len {m : Msg} (h : msgCode m = 0) : 4 ≤ (encL m).length ∧ (encL m).length ≤ 300 := by
  obtain ⟨h1, h2, h3, h4, h5, h6⟩ := msgCode_iff h
  have : 1 ≤ (bodyL m).length ∧ (bodyL m).length ≤ 290 := by
    unfold bodyL
    unfold msgPart at h5
    split
    · rename_i q
      rw [if_pos q] at h5
      obtain ⟨-, -, a3, a4, a5⟩ := batCode_iff h5
      have := putTxs_len20 m.b.txs (fun t ht => by have := a5 t ht; simp [txLen] at this; omega)
      simp only [putBatchL, wideL, List.length_cons, List.length_append, List.length_nil]
      omega
    split
    · rename_i q1 q
      rw [if_neg q1, if_pos q] at h5
      have := headerL_len h5
      simp only [putHeaderL, List.length_cons] at *
      omega
    split
    · rename_i q2 q1 q
      rw [if_neg q2, if_neg q1, if_pos q] at h5
      obtain ⟨-, -, a3⟩ := sltCode_iff h5
      simp only [wideL, List.length_cons, List.length_append, List.length_nil]
      omega
    split
    · rename_i q3 q2 q1 q
      rw [if_neg q3, if_neg q2, if_neg q1, if_pos q] at h5
      obtain ⟨a1, a2, -, -⟩ := crtCode_iff h5
      have := headerL_len a1
      simp only [List.length_cons, List.length_append, List.length_map]
      omega
    · simp [wideL]
  unfold encL
  simp only [List.length_cons]
  omega
theorem decK_enc (m : Msg) (s : Bytes) (h : msgCode m = 0) : decK (encL m ++ s) = m.k := by
  obtain ⟨h1, h2, h3, h4, h5, h6⟩ := msgCode_iff h
  show decK (byteZ m.k :: _) = _
  rw [decK_cons, byteZ_of (by omega) (by omega)]
/-- MessageBack's law. -/
theorem decode_enc (m : Msg) (h : msgCode m = 0) : decode (encL m) = (m, 0) := by
  obtain ⟨h1, h2, h3, h4, h5, h6⟩ := msgCode_iff h
  have hl := encL_len h
  have hk := decK_enc m [] h
  have hd := decM_app m [] h
  rw [List.append_nil] at hk hd
  unfold decode
  rw [hd, hk, if_neg (by omega), if_neg (by omega), if_neg (by simp [rdr]; intro e; simp [e] at hl), if_neg (by simp [rdr]), if_neg (by simp [h])]
theorem decode_tail (m : Msg) (c : UInt8) (h : msgCode m = 0) : decode (encL m ++ [c]) = (msg0, 4) := by
  obtain ⟨h1, h2, h3, h4, h5, h6⟩ := msgCode_iff h
  have hl := encL_len h
  have hk := decK_enc m [c] h
  have hd := decM_app m [c] h
  have hn : (encL m ++ [c]).length = (encL m).length + 1 := by simp
  unfold decode
  rw [hd, hk, if_neg (by omega), if_neg (by omega), if_neg (by simp [rdr]), if_pos (by simp [rdr])]
end Go.Proofs.Ytegdpjoncjmdeaa
