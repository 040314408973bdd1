/- What stands in memory while a dag of raw numbers is made. No function is named. -/
import Derived.Test.YtpfmmncnhlfdgaaDoorStpR
import Derived.Test.YtpfmmncnhlfdgaaDoorDag10
import Derived.Test.YtpfmmncnhlfdgaaDoorBatR
set_option linter.unusedVariables false
set_option linter.unusedSimpArgs false
namespace Go.Proofs.YtpfmmncnhlfdgaaDoor
open Go Go.RowKit

section
variable {α : Type} {R : Rel α} {G G' : Nat → Prop} {base e : Nat} {w w' : World} {v : Value} {l : List α}
theorem LstO.mono2 (h : LstO R G base e w v l) (hG : ∀ b, G b → b < w.heap.size → v.ownBlock ≠ some b → G' b) : LstO R G' base e w v l := by
  obtain ⟨vals, h1, h2⟩ := h
  exact ⟨vals, h1, fun j x hx => R.keep (h2 j x hx) (Keep.refl _ _) (fun b hb => ⟨hG b hb.1 hb.2.1 hb.2.2, hb.2⟩)⟩
theorem LstO.grown {row : Option Nat} (h : LstO R G base e w v l) (hg : w.grownBy w' row) (hr : v.ownBlock = none ∨ v.ownBlock ≠ row) (hG : ∀ k, row = some k → ¬ G k) : LstO R G base e w' v l := by
  obtain ⟨vals, h1, h2⟩ := h
  exact ⟨vals, h1.kept hg hr, fun j x hx => R.keep (h2 j x hx) (Keep.grown hg (fun k hk h => hG k hk h.1)) (fun b hb => ⟨hb.1, Nat.lt_of_lt_of_le hb.2.1 hg.size, hb.2.2⟩)⟩
theorem LstO.lt (h : LstO R G base e w v l) : ∀ k, v.ownBlock = some k → base ≤ k ∧ k < w.heap.size := let ⟨_, h1, _⟩ := h; h1.lt
theorem ownsRow_setO {size n : Nat} {xs : List Value} (h : w.ownsRow base e size v n xs) {p : Addr} (hp : v.ownBlock ≠ some p.block) (u : Value) : (w.setCell p u).ownsRow base e size v n xs := by
  obtain ⟨h1, h2⟩ := h
  refine ⟨h1, ?_⟩
  rcases h2 with h2 | ⟨g, cap, cur, rfl, hg, hh, r⟩
  · exact Or.inl h2
  · refine Or.inr ⟨g, cap, cur, rfl, hg, ?_, r⟩
    rw [Below.heap_setCell w p u g (by intro q; exact hp (by simp [Value.ownBlock, q]))]; exact hh
theorem LstO.setO (h : LstO R G base e w v l) {p : Addr} (hp : v.ownBlock ≠ some p.block) (hG : ¬ G p.block) (u : Value) : LstO R G base e (w.setCell p u) v l := by
  obtain ⟨vals, h1, h2⟩ := h
  refine ⟨vals, ownsRow_setO h1 hp u, fun j x hx => R.keep (h2 j x hx) (Keep.setCell (fun h => hG h.1) u) (fun b hb => ⟨hb.1, ?_, hb.2.2⟩)⟩
  have : (w.setCell p u).heap.size = w.heap.size := by simp [World.setCell]
  omega
end
def Calm2 (P2 P4 : Nat) (v5 : Value) (b : Nat) : Prop := P2 < b ∧ b ≠ P4 ∧ v5.ownBlock ≠ some b
def Calm (P2 P4 P9 : Nat) (v5 vq : Value) (b : Nat) : Prop := P2 < b ∧ b ≠ P4 ∧ b ≠ P9 ∧ v5.ownBlock ≠ some b ∧ vq.ownBlock ≠ some b
structure DagOut (w wr : World) (D : List Crt) (B : List Bat) (dv v5 : Value) : Prop where
  z : w.heap.size + 1 < wr.heap.size
  b2 : BoxAt wr w.heap.size [.slice none 0 0] 30
  b4 : BoxAt wr (w.heap.size + 1) [dv] 30
  d : RdS RCert (Calm2 w.heap.size (w.heap.size + 1) v5) wr dv D
  l5 : LstO RBat (Calm2 w.heap.size (w.heap.size + 1) v5) (w.heap.size + 2) 58 wr v5 B
  bel : Below w.heap.size w wr
theorem DagOut.below {w wr w' : World} {D : List Crt} {B : List Bat} {dv v5 : Value} (h : DagOut w wr D B dv v5) (hb : Below wr.heap.size wr w') : DagOut w w' D B dv v5 :=
  ⟨Nat.lt_of_lt_of_le h.z hb.size, h.b2.belowS hb, h.b4.belowS hb, h.d.below hb (fun _ h => h), h.l5.below hb, h.bel.trans (hb.mono (by have := h.bel.size; exact this))⟩
/-- A new dag stands there. -/
theorem DagOut.put {w wr : World} {D D' : List Crt} {B : List Bat} {dv v5 dv' : Value} {N : Nat} (h : DagOut w wr D B dv v5) (hd : RdS RCert (fun b => N ≤ b) wr dv' D') (hN : w.heap.size + 1 < N) (hN5 : ∀ k, v5.ownBlock = some k → k < N) :
    DagOut w (wr.setCell ⟨w.heap.size + 1, 0, none⟩ dv') D' B dv' v5 := by
  have hsz : (wr.setCell ⟨w.heap.size + 1, 0, none⟩ dv').heap.size = wr.heap.size := by simp [World.setCell]
  have hown : v5.ownBlock ≠ some (w.heap.size + 1) := fun e => by have := (h.l5.lt _ e).1; omega
  refine ⟨by rw [hsz]; exact h.z, h.b2.setOther (by simp) _, h.b4.set 0 _, ?_, ?_, h.bel.setCell (by simp) _⟩
  · refine hd.keep (Keep.setCell (by simp; omega) _) (fun b hb => ⟨by omega, by omega, fun e => ?_⟩)
    have h1 : N ≤ b := hb
    have := hN5 b e
    omega
  · exact h.l5.setO hown (fun q => q.2.1 rfl) _
structure DagIn (P9 : Nat) (w wr : World) (D : List Crt) (PS : List Bytes) (B : List Bat) (Q : List Bytes) (a r : Int) (dv psv v5 vq : Value) : Prop where
  z1 : w.heap.size + 1 < P9
  z : P9 < wr.heap.size
  b2 : BoxAt wr w.heap.size [.slice none 0 0] 30
  b4 : BoxAt wr (w.heap.size + 1) [dv] 30
  b9 : BoxAt wr P9 [.int .i64 a, .int .i64 r, vq, psv] 42
  d : RdS RCert (Calm w.heap.size (w.heap.size + 1) P9 v5 vq) wr dv D
  ps : RdBB (Calm w.heap.size (w.heap.size + 1) P9 v5 vq) wr psv PS
  l5 : LstO RBat (Calm w.heap.size (w.heap.size + 1) P9 v5 vq) (w.heap.size + 2) 58 wr v5 B
  lq : LstO RBytes (Calm w.heap.size (w.heap.size + 1) P9 v5 vq) (P9 + 1) 39 wr vq Q
  ap9 : v5.ownBlock ≠ some P9
  apq : ∀ b, v5.ownBlock = some b → vq.ownBlock ≠ some b
  bel : Below w.heap.size w wr
section
variable {P9 : Nat} {w wr w' : World} {D : List Crt} {PS : List Bytes} {B : List Bat} {Q : List Bytes} {a r : Int} {dv psv v5 vq : Value}
theorem DagIn.below (h : DagIn P9 w wr D PS B Q a r dv psv v5 vq) (hb : Below wr.heap.size wr w') : DagIn P9 w w' D PS B Q a r dv psv v5 vq :=
  ⟨h.z1, Nat.lt_of_lt_of_le h.z hb.size, h.b2.belowS hb, h.b4.belowS hb, h.b9.belowS hb, h.d.below hb (fun _ h => h), h.ps.below hb (fun _ h => h), h.l5.below hb, h.lq.below hb, h.ap9, h.apq, h.bel.trans (hb.mono h.bel.size)⟩
theorem DagIn.start {w1 : World} (h : DagOut w w1 D B dv v5) (hb : Below w1.heap.size w1 wr) (h9 : BoxAt wr w1.heap.size [.int .i64 a, .int .i64 r, .slice none 0 0, psv] 42) (hp : RdBB (fun b => w1.heap.size < b) wr psv PS) :
    DagIn w1.heap.size w wr D PS B [] a r dv psv v5 (.slice none 0 0) := by
  have hq : (Value.slice none 0 0).ownBlock = none := rfl
  refine ⟨h.z, h9.lt, h.b2.belowS hb, h.b4.belowS hb, h9, ?_, ?_, ?_, LstO.nil _ _ _ _ _, fun e => ?_, fun b _ => by rw [hq]; simp, h.bel.trans (hb.mono h.bel.size)⟩
  · exact (h.d.low (by decide)).below hb (fun b hb => ⟨hb.1.1, hb.1.2.1, by have := hb.2; omega, hb.1.2.2, by rw [hq]; simp⟩)
  · refine hp.mono (fun b hb => ⟨by have := h.z; omega, by have := h.z; omega, by omega, fun e => ?_, by rw [hq]; simp⟩)
    have h1 : w1.heap.size < b := hb
    have := (h.l5.lt b e).2
    omega
  · exact (h.l5.mono2 (G' := fun b => Calm2 w.heap.size (w.heap.size + 1) v5 b ∧ b < w1.heap.size) (fun b h1 h2 _ => ⟨h1, h2⟩)).below hb |>.mono (fun b hb => ⟨hb.1.1, hb.1.2.1, by have := hb.2; omega, hb.1.2.2, by rw [hq]; simp⟩)
  · have := (h.l5.lt _ e).2; omega
theorem DagIn.out (h : DagIn P9 w wr D PS B Q a r dv psv v5 vq) : DagOut w wr D B dv v5 :=
  ⟨by have := h.z1; have := h.z; omega, h.b2, h.b4, h.d.mono (fun b hb => ⟨hb.1, hb.2.1, hb.2.2.2.1⟩), h.l5.mono (fun b hb => ⟨hb.1, hb.2.1, hb.2.2.2.1⟩), h.bel⟩
theorem DagIn.push5 {x : Bat} {cs vals : List Value} {g cap : Nat} (h : DagIn P9 w wr D PS B Q a r dv psv v5 vq)
    (hV : LstV RBat (Calm w.heap.size (w.heap.size + 1) P9 v5 vq) (w.heap.size + 2) 58 wr v5 B vals)
    (hx : RBat.rd (fun b => Calm w.heap.size (w.heap.size + 1) P9 v5 vq b ∧ b < wr.heap.size ∧ v5.ownBlock ≠ some b) wr cs x)
    (hown : w'.ownsRow (w.heap.size + 2) 58 3 (.slice (some ⟨g, 0, none⟩) (B.length + 1) cap) (B.length + 1) (vals ++ cs)) (hgr : wr.grownBy w' v5.ownBlock) (hat : v5.ownBlock = some g ∨ g = wr.heap.size) :
    DagIn P9 w w' D PS (B ++ [x]) Q a r dv psv (.slice (some ⟨g, 0, none⟩) (B.length + 1) cap) vq := by
  have hlt := h.l5.lt
  have hz := h.z
  have hz1 := h.z1
  have ho : (Value.slice (some ⟨g, 0, none⟩) (B.length + 1) cap).ownBlock = some g := rfl
  have hC : ∀ b, Calm w.heap.size (w.heap.size + 1) P9 v5 vq b → b < wr.heap.size → Calm w.heap.size (w.heap.size + 1) P9 (.slice (some ⟨g, 0, none⟩) (B.length + 1) cap) vq b := fun b hb hl => by
    refine ⟨hb.1, hb.2.1, hb.2.2.1, fun e => ?_, hb.2.2.2.2⟩
    rw [ho] at e
    obtain rfl := Option.some.inj e
    rcases hat with q | q
    · exact hb.2.2.2.1 q
    · omega
  have hrow : ∀ k, v5.ownBlock = some k → ¬ (Calm w.heap.size (w.heap.size + 1) P9 v5 vq k) := fun k hk hb => hb.2.2.2.1 hk
  have hne : ∀ P, P < w.heap.size + 2 → v5.ownBlock ≠ some P := fun P hP e => by have := (hlt _ e).1; omega
  refine ⟨hz1, Nat.lt_of_lt_of_le hz hgr.size, h.b2.grown hgr (hne _ (by omega)), h.b4.grown hgr (hne _ (by omega)), h.b9.grown hgr h.ap9, ?_, ?_, ?_, ?_, fun e => ?_, fun b hb => ?_, h.bel.grown hgr h.bel.size (fun k hk => by have := (hlt _ hk).1; omega)⟩
  · exact (h.d.low (by decide)).keep (Keep.grown hgr (fun k hk hb => hrow k hk hb.1)) (fun b hb => hC b hb.1 hb.2)
  · exact (h.ps.low (by decide)).keep (Keep.grown hgr (fun k hk hb => hrow k hk hb.1)) (fun b hb => hC b hb.1 hb.2)
  · have hp := hV.push hx hown hgr hat
    refine hp.mono2 (fun b hb hl hne => ⟨hb.1, hb.2.1, hb.2.2.1, hne, hb.2.2.2.2⟩)
  · have h1 := h.lq.mono2 (G' := fun b => Calm w.heap.size (w.heap.size + 1) P9 v5 vq b ∧ b < wr.heap.size) (fun b h1 h2 _ => ⟨h1, h2⟩)
    have hr : vq.ownBlock = none ∨ vq.ownBlock ≠ v5.ownBlock := by
      rcases e : v5.ownBlock with _ | k
      · rcases e2 : vq.ownBlock with _ | k2
        · exact .inl rfl
        · exact .inr (by simp)
      · exact .inr (h.apq k e)
    exact (h1.grown hgr hr (fun k hk hb => hrow k hk hb.1)).mono (fun b hb => hC b hb.1 hb.2)
  · rw [ho] at e
    obtain rfl := Option.some.inj e
    rcases hat with q | q
    · exact h.ap9 q
    · omega
  · rw [ho] at hb
    obtain rfl := Option.some.inj hb
    rcases hat with q | q
    · exact h.apq _ q
    · intro e; have := (h.lq.lt _ e).2; omega
theorem DagIn.pushq {x : Bytes} {cs vals : List Value} {g cap : Nat} (h : DagIn P9 w wr D PS B Q a r dv psv v5 vq)
    (hV : LstV RBytes (Calm w.heap.size (w.heap.size + 1) P9 v5 vq) (P9 + 1) 39 wr vq Q vals)
    (hx : RBytes.rd (fun b => Calm w.heap.size (w.heap.size + 1) P9 v5 vq b ∧ b < wr.heap.size ∧ vq.ownBlock ≠ some b) wr cs x)
    (hown : w'.ownsRow (P9 + 1) 39 1 (.slice (some ⟨g, 0, none⟩) (Q.length + 1) cap) (Q.length + 1) (vals ++ cs)) (hgr : wr.grownBy w' vq.ownBlock) (hat : vq.ownBlock = some g ∨ g = wr.heap.size) :
    DagIn P9 w (w'.setCell ⟨P9, 2, none⟩ (.slice (some ⟨g, 0, none⟩) (Q.length + 1) cap)) D PS B (Q ++ [x]) a r dv psv v5 (.slice (some ⟨g, 0, none⟩) (Q.length + 1) cap) := by
  have hlt := h.lq.lt
  have hz := h.z
  have hz1 := h.z1
  have hsz : (w'.setCell ⟨P9, 2, none⟩ (.slice (some ⟨g, 0, none⟩) (Q.length + 1) cap)).heap.size = w'.heap.size := by simp [World.setCell]
  have ho : (Value.slice (some ⟨g, 0, none⟩) (Q.length + 1) cap).ownBlock = some g := rfl
  have hC : ∀ b, Calm w.heap.size (w.heap.size + 1) P9 v5 vq b → b < wr.heap.size → Calm w.heap.size (w.heap.size + 1) P9 v5 (.slice (some ⟨g, 0, none⟩) (Q.length + 1) cap) b := fun b hb hl => by
    refine ⟨hb.1, hb.2.1, hb.2.2.1, hb.2.2.2.1, fun e => ?_⟩
    rw [ho] at e
    obtain rfl := Option.some.inj e
    rcases hat with q | q
    · exact hb.2.2.2.2 q
    · omega
  have hrow : ∀ k, vq.ownBlock = some k → ¬ (Calm w.heap.size (w.heap.size + 1) P9 v5 vq k) := fun k hk hb => hb.2.2.2.2 hk
  have hne : ∀ P, P < P9 + 1 → vq.ownBlock ≠ some P := fun P hP e => by have := (hlt _ e).1; omega
  have hg9 : g ≠ P9 := fun e => by
    subst e
    rcases hat with q | q
    · exact hne _ (by omega) q
    · omega
  have hN : ∀ v : Value, ∀ b, Calm w.heap.size (w.heap.size + 1) P9 v5 v b → ¬ b = P9 := fun v b hb => hb.2.2.1
  refine ⟨hz1, by rw [hsz]; exact Nat.lt_of_lt_of_le hz hgr.size, (h.b2.grown hgr (hne _ (by omega))).setOther (by simp; omega) _, (h.b4.grown hgr (hne _ (by omega))).setOther (by simp; omega) _, (h.b9.grown hgr (hne _ (by omega))).set 2 _, ?_, ?_, ?_, ?_, h.ap9, fun b hb => ?_, (h.bel.grown hgr h.bel.size (fun k hk => by have := (hlt _ hk).1; omega)).setCell (by simp; omega) _⟩
  · exact ((h.d.low (by decide)).keep (Keep.grown hgr (fun k hk hb => hrow k hk hb.1)) (fun b hb => hC b hb.1 hb.2)).keep (Keep.setCell (fun hb => hN _ _ hb rfl) _) (fun _ h => h)
  · exact ((h.ps.low (by decide)).keep (Keep.grown hgr (fun k hk hb => hrow k hk hb.1)) (fun b hb => hC b hb.1 hb.2)).keep (Keep.setCell (fun hb => hN _ _ hb rfl) _) (fun _ h => h)
  · have h1 := h.l5.mono2 (G' := fun b => Calm w.heap.size (w.heap.size + 1) P9 v5 vq b ∧ b < wr.heap.size) (fun b h1 h2 _ => ⟨h1, h2⟩)
    have hr : v5.ownBlock = none ∨ v5.ownBlock ≠ vq.ownBlock := by
      rcases e : v5.ownBlock with _ | k
      · exact .inl rfl
      · exact .inr (fun q => h.apq k e q.symm)
    exact ((h1.grown hgr hr (fun k hk hb => hrow k hk hb.1)).mono (fun b hb => hC b hb.1 hb.2)).setO h.ap9 (fun hb => hN _ _ hb rfl) _
  · have hp := hV.push hx hown hgr hat
    refine (hp.mono2 (G' := Calm w.heap.size (w.heap.size + 1) P9 v5 (.slice (some ⟨g, 0, none⟩) (Q.length + 1) cap)) (fun b hb hl hne => ⟨hb.1, hb.2.1, hb.2.2.1, hb.2.2.2.1, hne⟩)).setO (by rw [ho]; simpa using hg9) (fun hb => hN _ _ hb rfl) _
  · rw [ho]
    intro e
    obtain rfl := Option.some.inj e
    rcases hat with q | q
    · exact h.apq _ hb q
    · have := (h.l5.lt _ hb).2; omega
end
end Go.Proofs.YtpfmmncnhlfdgaaDoor
