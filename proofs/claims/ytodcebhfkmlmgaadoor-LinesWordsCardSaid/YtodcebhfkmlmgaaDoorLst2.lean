/- A list that is read, as the cells that an append takes. No program is named. -/
import Derived.Test.YtodcebhfkmlmgaaDoorLst
set_option linter.unusedVariables false
set_option linter.unusedSimpArgs false
namespace Go.Proofs.YtodcebhfkmlmgaaDoor
open Go Go.RowKit

theorem flatMap_drop {α : Type} {s : Nat} {f : Nat → List α} (hf : ∀ j, (f j).length = s) : ∀ (n k : Nat), k ≤ n → ((List.range n).flatMap f).drop (k * s) = ((List.range' k (n - k)).flatMap f)
  | n, 0, _ => by simp [List.range_eq_range']
  | n, k + 1, h => by
    have ih := flatMap_drop hf n k (by omega)
    have e : (k + 1) * s = k * s + s := by rw [Nat.add_mul, Nat.one_mul]
    rw [e, ← List.drop_drop, ih]
    have hk : n - k = (n - (k + 1)) + 1 := by omega
    rw [hk, List.range'_succ, List.flatMap_cons]
    rw [List.drop_append_of_le_length (by rw [hf]; exact Nat.le_refl _), List.drop_of_length_le (by rw [hf]; exact Nat.le_refl _), List.nil_append]
theorem flatMap_len {α : Type} {s : Nat} {f : Nat → List α} (hf : ∀ j, (f j).length = s) (n : Nat) : ((List.range n).flatMap f).length = n * s := by
  induction n with
  | zero => simp
  | succ n ih => rw [List.range_succ, List.flatMap_append, List.length_append, ih]; simp [hf, Nat.add_mul]
theorem flatMap_at {α : Type} {s : Nat} {f : Nat → List α} (hf : ∀ j, (f j).length = s) {n k : Nat} (hk : k < n) : (((List.range n).flatMap f).drop (k * s)).take s = f k := by
  rw [flatMap_drop hf n k (by omega)]
  have e : n - k = (n - (k + 1)) + 1 := by omega
  rw [e, List.range'_succ, List.flatMap_cons, List.take_append_of_le_length (by rw [hf]; exact Nat.le_refl _), List.take_of_length_le (by rw [hf]; exact Nat.le_refl _)]

/-- All cells of a list that is read. -/
theorem RdS.flatOf {α : Type} {R : Rel α} {G : Nat → Prop} {w : World} {v : Value} {l : List α} (h : RdS R G w v l) (hs : 0 < R.size) (h1 : ∀ {G w cs x}, R.rd G w cs x → ∀ u ∈ cs, u.oneCell' = true) :
    ∃ vals, SlCells w v l.length R.size vals ∧ (∀ j x, l[j]? = some x → R.rd G w ((vals.drop (j * R.size)).take R.size) x) ∧ ∀ u ∈ vals, u.oneCell' = true := by
  obtain ⟨ad, cap, rfl, k1, k2, k0, h3⟩ := h
  have hex : ∀ j : Nat, ∃ cs : List Value, cs.length = R.size ∧ ∀ x, l[j]? = some x → R.rd G w cs x ∧ ∃ b o, ad = some ⟨b, o, none⟩ ∧ ∀ t c, cs[t]? = some c → w.cell? ⟨b, o + (j * R.size + t), none⟩ = some c := by
    intro j
    rcases hx : l[j]? with _ | x
    · exact ⟨List.replicate R.size undef, by simp, fun x hx => by simp at hx⟩
    · obtain ⟨b, o, cs, ha, hb, hc, hr⟩ := h3 j x hx
      exact ⟨cs, R.len hr, fun y hy => by obtain rfl := Option.some.inj hy; exact ⟨hr, b, o, ha, hc⟩⟩
  obtain ⟨f, hf⟩ : ∃ f : Nat → List Value, ∀ j, (f j).length = R.size ∧ ∀ x, l[j]? = some x → R.rd G w (f j) x ∧ ∃ b o, ad = some ⟨b, o, none⟩ ∧ ∀ t c, (f j)[t]? = some c → w.cell? ⟨b, o + (j * R.size + t), none⟩ = some c :=
    ⟨fun j => (hex j).choose, fun j => (hex j).choose_spec⟩
  have hfl : ∀ j, (f j).length = R.size := fun j => (hf j).1
  refine ⟨(List.range l.length).flatMap f, ⟨ad, cap, rfl, fun h => ?_, flatMap_len hfl _, fun j u hj => ?_⟩, fun j x hx => ?_, fun u hu => ?_⟩
  · have := k0 h; omega
  · have hjl : j < l.length * R.size := by
      rcases Nat.lt_or_ge j (l.length * R.size) with h | h
      · exact h
      · rw [List.getElem?_eq_none (by rw [flatMap_len hfl]; exact h)] at hj; simp at hj
    have hq : j / R.size < l.length := (Nat.div_lt_iff_lt_mul hs).2 hjl
    have hr : j % R.size < R.size := Nat.mod_lt _ hs
    have hdec : (j / R.size) * R.size + j % R.size = j := by rw [Nat.mul_comm]; exact Nat.div_add_mod j R.size
    have hat := flatMap_at hfl hq
    have h1 : (f (j / R.size))[j % R.size]? = some u := by
      rw [← hat, List.getElem?_take_of_lt hr, List.getElem?_drop, hdec]; exact hj
    obtain ⟨_, b, o, ha, hc⟩ := (hf (j / R.size)).2 _ (List.getElem?_eq_getElem hq)
    refine ⟨b, o, ha, ?_⟩
    have := hc _ _ h1
    rw [hdec] at this
    exact this
  · have hjl : j < l.length := by
      rcases Nat.lt_or_ge j l.length with h | h
      · exact h
      · simp [List.getElem?_eq_none h] at hx
    rw [flatMap_at hfl hjl]
    exact ((hf j).2 x hx).1
  · obtain ⟨j, hj, hu⟩ := List.mem_flatMap.1 hu
    have hjl : j < l.length := by simpa using hj
    exact h1 ((hf j).2 _ (List.getElem?_eq_getElem hjl)).1 u hu

/-- Behind 'append(nil, v...)'. -/
theorem LstO.ofAppend {α : Type} {R : Rel α} {G : Nat → Prop} {e : Nat} {w w' : World} {l : List α} {vals : List Value} {g cap : Nat} {row : Option Nat}
    (h2 : ∀ j x, l[j]? = some x → R.rd (fun b => G b ∧ b < w.heap.size) w ((vals.drop (j * R.size)).take R.size) x)
    (hown : w'.ownsRow w.heap.size e R.size (.slice (some ⟨g, 0, none⟩) l.length cap) l.length vals) (hgr : w.grownBy w' row) (hrow : row = none) (hg : w.heap.size ≤ g) :
    LstO R (fun b => G b ∧ b < w.heap.size) w.heap.size e w' (.slice (some ⟨g, 0, none⟩) l.length cap) l := by
  subst hrow
  refine ⟨vals, hown, fun j x hx => R.keep (h2 j x hx) (Keep.grown hgr (fun k hk => by simp at hk)) (fun b hb => ⟨hb, Nat.lt_of_lt_of_le hb.2 hgr.size, ?_⟩)⟩
  simp only [Value.ownBlock, ne_eq, Option.some.injEq]
  omega
theorem LstV.ofAppend {α : Type} {R : Rel α} {G : Nat → Prop} {e H : Nat} {w w' : World} {l : List α} {vals : List Value} {g cap : Nat} {row : Option Nat}
    (h2 : ∀ j x, l[j]? = some x → R.rd (fun b => G b ∧ b < H) w ((vals.drop (j * R.size)).take R.size) x) (hH : H ≤ w.heap.size)
    (hown : w'.ownsRow H e R.size (.slice (some ⟨g, 0, none⟩) l.length cap) l.length vals) (hgr : w.grownBy w' row) (hrow : row = none) (hg : H ≤ g) :
    LstV R (fun b => (G b ∧ b < H) ∨ H ≤ b) H e w' (.slice (some ⟨g, 0, none⟩) l.length cap) l vals := by
  subst hrow
  refine ⟨hown, fun j x hx => R.keep (h2 j x hx) (Keep.grown hgr (fun k hk => by simp at hk)) (fun b hb => ⟨.inl hb, by have := hgr.size; omega, ?_⟩)⟩
  simp only [Value.ownBlock, ne_eq, Option.some.injEq]
  omega
theorem SlCells.some {w : World} {vx : Value} {m size : Nat} {news : List Value} (h : SlCells w vx m size news) (hm : 0 < m) : ∃ ad c, vx = .slice (some ad) m c ∧ news.length = m * size ∧ ∀ j u, news[j]? = some u → w.cell? (ad.add j) = some u := by
  obtain ⟨ad, c, rfl, h0, hl, hc⟩ := h
  rcases ad with _ | ad
  · have := (h0 rfl).2; omega
  · refine ⟨ad, c, rfl, hl, fun j u hj => ?_⟩
    obtain ⟨b, o, ha, hcell⟩ := hc j u hj
    simp only [Option.some.injEq] at ha
    subst ha
    unfold Addr.add
    split
    · rename_i h; subst h; simpa using hcell
    · exact hcell
/-- append of a list that is read, at a step of a region that draws. -/
theorem step_append_at1 {P : Program} {w : World} {ops : Array Oper} {o : Oper} {a : Act} {K : Act → World → Prop} {Q : Exit → Act → World → Prop} {E : Prop} (hgd : Region.wanted o (yielded ops a.tmps) = true) (s x : Operand) (t : TypeId)
    (ho : o.op = .call { callee := .builtin .append, args := #[s, x], argTypes := #[t, t] })
    {e : TypeId} {size bytes : Nat} (hE : ElemOk P t e size bytes) (base : Nat) (vs : Value) (n : Nat) (xs : List Value) (hs : a.eval s = vs) (hown : w.ownsRow base e size vs n xs)
    (vx : Value) (m : Nat) (news : List Value) (hvx : a.eval x = vx) (hx : SlCells w vx m size news) (h1 : ∀ u ∈ news, u.oneCell' = true) (hm : 0 < m) (h63 : n + m ≤ maxLen) (hbytes : (n + m) * bytes ≤ 140737488355328) (hbase : base ≤ w.heap.size)
    (h : ∀ g cap w', w'.ownsRow base e size (.slice (some ⟨g, 0, none⟩) (n + m) cap) (n + m) (xs ++ news) → w.grownBy w' vs.ownBlock → (vs.ownBlock = some g ∨ g = w.heap.size) → g < w'.heap.size → K (a.put o.dst (.slice (some ⟨g, 0, none⟩) (n + m) cap)) w') :
    if Region.wanted o (yielded ops a.tmps) = true then Oper.wp P o a w K Q else E := by
  rw [if_pos hgd]
  obtain ⟨ht, i, z, hi, hz, hsize, hby, hzs, hsz⟩ := hE
  obtain ⟨ad, c, rfl, hl, hc⟩ := hx.some hm
  exact wp_append_lies w s x t ho base e i z size bytes ht hi hz hsize hby hzs hsz vs n xs hs hown ad m c news hvx hl hc h1 hm h63 hbytes hbase _ rfl h
/-- append of one element there, whatever its guard. -/
theorem step_append_oneG {P : Program} {w : World} {ops : Array Oper} {o : Oper} {a : Act} {K : Act → World → Prop} {Q : Exit → Act → World → Prop} {E : Prop} (hgd : Region.wanted o (yielded ops a.tmps) = true) (s x : Operand) (t : TypeId)
    (ho : o.op = .call { callee := .builtin .append, args := #[s, x], argTypes := #[t, t] })
    {e : TypeId} {size bytes : Nat} (hE : ElemOk P t e size bytes) (base : Nat) (v : Value) (n : Nat) (xs : List Value) (hs : a.eval s = v) (hown : w.ownsRow base e size v n xs)
    (b : Nat) (T : TypeId) (cs : List Value) (hx : a.eval x = .slice (some ⟨b, 0, none⟩) 1 1) (hbox : BoxAt w b cs T) (hl : cs.length = size) (h1 : ∀ u ∈ cs, u.oneCell' = true)
    (h63 : n + 1 ≤ maxLen) (hbytes : (n + 1) * bytes ≤ 140737488355328) (hbase : base ≤ w.heap.size)
    (h : ∀ g cap w', w'.ownsRow base e size (.slice (some ⟨g, 0, none⟩) (n + 1) cap) (n + 1) (xs ++ cs) → w.grownBy w' v.ownBlock → (v.ownBlock = some g ∨ g = w.heap.size) → g < w'.heap.size → K (a.put o.dst (.slice (some ⟨g, 0, none⟩) (n + 1) cap)) w') :
    if Region.wanted o (yielded ops a.tmps) = true then Oper.wp P o a w K Q else E := by
  rw [if_pos hgd]
  obtain ⟨ht, i, z, hi, hz, hsize, hby, hzs, hsz⟩ := hE
  exact wp_append_lies w s x t ho base e i z size bytes ht hi hz hsize hby hzs hsz v n xs hs hown ⟨b, 0, none⟩ 1 1 cs hx (by omega) hbox.newsAt h1 (by omega) h63 hbytes hbase _ rfl h
end Go.Proofs.YtodcebhfkmlmgaaDoor
