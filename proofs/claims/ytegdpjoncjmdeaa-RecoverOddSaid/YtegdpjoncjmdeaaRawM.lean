/- Message, Encode at raw numbers. -/
import Derived.Test.YtegdpjoncjmdeaaRecov
import Derived.Test.YtegdpjoncjmdeaaBas
set_option linter.unusedVariables false
set_option linter.unusedSimpArgs false
attribute [local go_sem ↓] Go.wp_at_zero Go.wp_at_succ
namespace Go.Proofs.Ytegdpjoncjmdeaa
open Go Go.RowKit

def msgR (r : RawD) : Msg := msgOf r.k r.a r.b r.c r.txs
theorem msgR_code (r : RawD) : msgCode (msgR r) = 0 := msgOf_code _ _ _ _ _
theorem messageR_any {G : Nat → Prop} (r : RawD) (vt : Value) (w : World) (hr : RawOk G w vt r) :
    Calls Try.prog 18 #[.agg #[.int .i64 r.k, .int .i64 r.a, .int .i64 r.b, .int .i64 r.c, vt]] w fun e w' => ∃ mv, e = .returned (.agg (msgCells (msgR r) mv).toArray) ∧ RdM (fun b => w.heap.size ≤ b) w' mv (msgR r) ∧ Below w.heap.size w w' := by
  obtain ⟨⟨k1, k2⟩, ⟨a1, a2⟩, ⟨b1, b2⟩, ⟨c1, c2⟩, hx, hs⟩ := hr
  exact message_any r.k r.a r.b r.c vt r.txs w k1 k2 a1 a2 b1 b2 c1 c2 hx hs
theorem RawOk.belowS {G : Nat → Prop} {w w' : World} {vt : Value} {x : RawD} (h : RawOk G w vt x) (hb : Below w.heap.size w w') : RawOk G w' vt x := h.keep (Keep.below hb) (fun _ h => h)
/-- The bytes of a message, as a slice. -/
theorem encodeR_ok {G : Nat → Prop} (m : Msg) (v : MV) (w : World) (h : RdM G w v m) (h0 : msgCode m = 0) :
    Calls Try.prog 16 #[.agg (msgCells m v).toArray] w fun e w' => ∃ v', e = .returned (.tuple #[v', .int .i64 0]) ∧ RdB (fun b => w.heap.size ≤ b) w' v' (encL m) ∧ Below w.heap.size w w' :=
  (wencode_ok m v w h (msgOk_code h0) h0).mono fun e w' ⟨v', h1, h2, h3⟩ => ⟨v', h1, RdS.of_owns (f := fun c : UInt8 => Value.int .u8 c.toNat) h2 (fun _ h => h), h3⟩
theorem RawOk.low {G : Nat → Prop} {w : World} {vt : Value} {x : RawD} (h : RawOk G w vt x) : RawOk (fun b => G b ∧ b < w.heap.size) w vt x := ⟨h.1, h.2.1, h.2.2.1, h.2.2.2.1, h.2.2.2.2.1.low (by decide), h.2.2.2.2.2⟩
theorem tsync_rd {G : Nat → Prop} (v : Value) (l : List UInt8) (s : Int) (w : World) (hv : RdB G w v l) (h : tapeOk l.length s = true) :
    Calls Try.prog 23 #[.agg #[v, .int .i64 s]] w fun e w' => ∃ v', e = .returned (.tuple #[.agg #[v', .int .i64 (l.length : Int)], .int .i64 0]) ∧ RdB (fun b => w.heap.size ≤ b) w' v' l ∧ Below w.heap.size w w' :=
  (tsync_ok v l s w hv h).mono fun e w' ⟨v', h1, h2, h3⟩ => ⟨v', h1, RdS.of_owns (f := fun c : UInt8 => Value.int .u8 c.toNat) h2 (fun _ h => h), h3⟩
theorem tcrash_rd {G : Nat → Prop} (v : Value) (l : List UInt8) (s keep : Int) (N : Nat) (w : World) (hv : RdB G w v l) (h : tapeOk l.length s = true) (hk : 0 ≤ keep) (hk2 : keep ≤ 9223372036854775807) (hN : (N : Int) = s + min keep ((l.length : Int) - s)) :
    Calls Try.prog 26 #[.agg #[v, .int .i64 s], .int .i64 keep] w fun e w' => ∃ v', e = .returned (.tuple #[.agg #[v', .int .i64 (N : Int)], .int .i64 0]) ∧ RdB (fun b => w.heap.size ≤ b) w' v' (l.take N) ∧ Below w.heap.size w w' :=
  (tcrash_ok v l s keep N w hv h hk hk2 hN).mono fun e w' ⟨ad, h1, h2, h3⟩ => ⟨_, h1, h2, h3⟩
theorem tapeOk_zero {n : Nat} (h : n ≤ 400000) : tapeOk n 0 = true := by unfold tapeOk; simp; omega
theorem tapeOk_at {n : Nat} {s : Int} (h : n ≤ 400000) (h0 : 0 ≤ s) (h1 : s ≤ (n : Int)) : tapeOk n s = true := by unfold tapeOk; simp; omega
end Go.Proofs.Ytegdpjoncjmdeaa
