/- A list that is copied by append, and one element more. No program is named. -/
import Derived.Test.YtegdpjoncjmdeaaBas
set_option linter.unusedVariables false
set_option linter.unusedSimpArgs false
namespace Go.Proofs.Ytegdpjoncjmdeaa
open Go Go.RowKit

section
variable {α : Type} {R : Rel α} {G : Nat → Prop} {w : World} {v : Value} {l : List α}
/-- append(nil, l...). -/
theorem RdS.copyOf (h : RdS R G w v l) (hs : 0 < R.size) (h1 : ∀ {G w cs x}, R.rd G w cs x → ∀ u ∈ cs, u.oneCell' = true) (e : Nat) :
    ∃ vals, SlCells w v l.length R.size vals ∧ (∀ u ∈ vals, u.oneCell' = true) ∧
      ∀ (w0 w' : World) (v' : Value), Below w.heap.size w w0 → w'.ownsRow w.heap.size e R.size v' (0 + l.length) ([] ++ vals) → w0.grownBy w' (Value.slice none 0 0).ownBlock →
        LstV R (fun b => (G b ∧ b < w.heap.size) ∨ w.heap.size ≤ b) w.heap.size e w' v' l vals := by
  obtain ⟨vals, k1, k2, k3⟩ := (h.low hs).flatOf hs h1
  refine ⟨vals, k1, k3, fun w0 w' v' hb hown hgr => ?_⟩
  rw [Nat.zero_add, List.nil_append] at hown
  refine ⟨hown, fun j x hx => R.keep (k2 j x hx) ((Keep.belowB hb (fun b h => h.2)).trans (Keep.grown hgr (fun k hk => by simp [Value.ownBlock] at hk))) (fun b hb' => ⟨.inl hb', ?_, fun e => ?_⟩)⟩
  · exact Nat.lt_of_lt_of_le hb'.2 (Nat.le_trans hb.size hgr.size)
  · have := ownBlock_ge hown _ e; have := hb'.2; omega
/-- .. and one element more. -/
theorem LstV.dup {H e g cap : Nat} {W w' : World} {vals cs : List Value} {x : α} (hL : LstV R (fun b => (G b ∧ b < H) ∨ H ≤ b) H e W v l vals) (hs : 0 < R.size) (hHW : H ≤ W.heap.size)
    (hx : R.rd (fun b => (G b ∧ b < H) ∨ (H ≤ b ∧ b < W.heap.size ∧ v.ownBlock ≠ some b)) W cs x)
    (hown : w'.ownsRow H e R.size (.slice (some ⟨g, 0, none⟩) (l.length + 1) cap) (l.length + 1) (vals ++ cs)) (hgr : W.grownBy w' v.ownBlock) (hat : v.ownBlock = some g ∨ g = W.heap.size) :
    RdS R (fun b => (G b ∧ b < H) ∨ H ≤ b) w' (.slice (some ⟨g, 0, none⟩) (l.length + 1) cap) (l ++ [x]) := by
  refine (hL.push (R.keep hx (Keep.refl _ _) (fun b hb => ?_)) hown hgr hat).rd hs (fun b h1 h2 => .inr h1) (fun b h1 h2 => h1)
  rcases hb with hb | hb
  · exact ⟨.inl hb, Nat.lt_of_lt_of_le hb.2 hHW, fun e => by have := (hL.lt _ e).1; have := hb.2; omega⟩
  · exact ⟨.inr hb.1, hb.2⟩
end
theorem wp_append_at1 {P : Program} {w : World} {o : Oper} {a : Act} {K : Act → World → Prop} {Q : Exit → Act → World → Prop} (s x : Operand) (t : TypeId)
    (ho : o.op = .call { callee := .builtin .append, args := #[s, x], argTypes := #[t, t] })
    {e : TypeId} {size bytes : Nat} (hE : ElemOk P t e size bytes) (base : Nat) (vs : Value) (n : Nat) (xs : List Value) (hs : a.eval s = vs) (hown : w.ownsRow base e size vs n xs)
    (vx : Value) (m : Nat) (news : List Value) (hvx : a.eval x = vx) (hx : SlCells w vx m size news) (h1 : ∀ u ∈ news, u.oneCell' = true) (hm : 0 < m) (h63 : n + m ≤ maxLen) (hbytes : (n + m) * bytes ≤ 140737488355328) (hbase : base ≤ w.heap.size)
    (h : ∀ g cap w', w'.ownsRow base e size (.slice (some ⟨g, 0, none⟩) (n + m) cap) (n + m) (xs ++ news) → w.grownBy w' vs.ownBlock → (vs.ownBlock = some g ∨ g = w.heap.size) → g < w'.heap.size → K (a.put o.dst (.slice (some ⟨g, 0, none⟩) (n + m) cap)) w') :
    Oper.wp P o a w K Q := by
  obtain ⟨ht, i, z, hi, hz, hsize, hby, hzs, hsz⟩ := hE
  obtain ⟨ad, c, rfl, hl, hc⟩ := hx.some hm
  exact wp_append_lies w s x t ho base e i z size bytes ht hi hz hsize hby hzs hsz vs n xs hs hown ad m c news hvx hl hc h1 hm h63 hbytes hbase _ rfl h
theorem wp_append_one {P : Program} {w : World} {o : Oper} {a : Act} {K : Act → World → Prop} {Q : Exit → Act → World → Prop} (s x : Operand) (t : TypeId)
    (ho : o.op = .call { callee := .builtin .append, args := #[s, x], argTypes := #[t, t] })
    {e : TypeId} {size bytes : Nat} (hE : ElemOk P t e size bytes) (base : Nat) (v : Value) (n : Nat) (xs : List Value) (hs : a.eval s = v) (hown : w.ownsRow base e size v n xs)
    (b : Nat) (T : TypeId) (cs : List Value) (hx : a.eval x = .slice (some ⟨b, 0, none⟩) 1 1) (hbox : BoxAt w b cs T) (hl : cs.length = size) (h1 : ∀ u ∈ cs, u.oneCell' = true)
    (h63 : n + 1 ≤ maxLen) (hbytes : (n + 1) * bytes ≤ 140737488355328) (hbase : base ≤ w.heap.size)
    (h : ∀ g cap w', w'.ownsRow base e size (.slice (some ⟨g, 0, none⟩) (n + 1) cap) (n + 1) (xs ++ cs) → w.grownBy w' v.ownBlock → (v.ownBlock = some g ∨ g = w.heap.size) → g < w'.heap.size → K (a.put o.dst (.slice (some ⟨g, 0, none⟩) (n + 1) cap)) w') :
    Oper.wp P o a w K Q := by
  obtain ⟨ht, i, z, hi, hz, hsize, hby, hzs, hsz⟩ := hE
  exact wp_append_lies w s x t ho base e i z size bytes ht hi hz hsize hby hzs hsz v n xs hs hown ⟨b, 0, none⟩ 1 1 cs hx (by omega) hbox.newsAt h1 (by omega) h63 hbytes hbase _ rfl h
end Go.Proofs.Ytegdpjoncjmdeaa
