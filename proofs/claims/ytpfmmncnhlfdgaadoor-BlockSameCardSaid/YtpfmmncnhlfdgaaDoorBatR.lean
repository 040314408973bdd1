/- Batches that are read; wire.BatchDigest, whatever comes. -/
import Derived.Test.YtpfmmncnhlfdgaaDoorBDig
import Derived.Test.YtpfmmncnhlfdgaaDoorBDigN
import Derived.Test.YtpfmmncnhlfdgaaDoorBas
set_option linter.unusedVariables false
set_option linter.unusedSimpArgs false
namespace Go.Proofs.YtpfmmncnhlfdgaaDoor
open Go Go.RowKit

/-- A batch, its texts read. -/
def RBat : Rel Bat where
  size := 3
  rd := fun G w cs x => ∃ v, cs = [.int .i64 x.a, .int .i64 x.n, v] ∧ RdT G w v x.txs ∧ ∀ t ∈ x.txs, t.length ≤ 9223372036854775807
  len := fun ⟨_, h, _⟩ => by simp [h]
  keep := fun ⟨v, h, hr, hl⟩ hk hg => ⟨v, h, hr.keep hk hg, hl⟩
  low := fun ⟨v, h, hr, hl⟩ => ⟨v, h, hr.low (by decide), hl⟩
theorem RBat_one {G : Nat → Prop} {w : World} {cs : List Value} {x : Bat} (h : RBat.rd G w cs x) : ∀ u ∈ cs, u.oneCell' = true := by
  obtain ⟨v, rfl, hr, -⟩ := h
  obtain ⟨ad, cap, rfl, -, -⟩ := hr.form
  simp [Value.oneCell']
theorem RdS.bat {G : Nat → Prop} {w : World} {l : List Bat} {ad : Option Addr} {n cap : Nat} (h : RdS RBat G w (.slice ad n cap) l) (j : Nat) (hj : j < l.length) :
    ∃ b o v, ad = some ⟨b, o, none⟩ ∧ G b ∧ w.cell? ⟨b, o + j * 3, none⟩ = some (.int .i64 l[j].a) ∧ w.cell? ⟨b, o + j * 3 + 1, none⟩ = some (.int .i64 l[j].n) ∧ w.cell? ⟨b, o + j * 3 + 2, none⟩ = some v ∧ RdT G w v l[j].txs ∧ ∀ t ∈ l[j].txs, t.length ≤ 9223372036854775807 := by
  obtain ⟨b, o, cs, ha, hb, hc, v, rfl, hr, hl⟩ := h.at j hj
  exact ⟨b, o, v, ha, hb, hc 0 _ rfl, hc 1 _ rfl, hc 2 _ rfl, hr, hl⟩
def batD (b : Bat) : Bytes := if batCode b = 0 then batSum b else []
theorem batchDigest_any {G : Nat → Prop} (b : Bat) (v : Value) (w : World) (h : RdT G w v b.txs) (hl : ∀ t ∈ b.txs, t.length ≤ 9223372036854775807) (ht : Tabs w) :
    Calls Tryd.prog 34 #[.agg #[.int .i64 b.a, .int .i64 b.n, v]] w fun e w' => ∃ v', e = .returned (.tuple #[v', .int .i64 (batCode b)]) ∧ RdB (fun b => w.heap.size ≤ b) w' v' (batD b) ∧ Below w.heap.size w w' := by
  by_cases hc : batCode b = 0
  · have e : batD b = batSum b := by unfold batD; rw [if_pos hc]
    rw [hc, e]
    exact batchDigest_ok b v w h hc ht
  · have e : batD b = [] := by unfold batD; rw [if_neg hc]
    exact (batchDigest_no b.a b.n (batCode b) v w h hl rfl hc).mono fun e' w' ⟨he, hb⟩ => ⟨.slice none 0 0, he, by rw [e]; exact RdS.nil _ _ _, hb⟩

end Go.Proofs.YtpfmmncnhlfdgaaDoor
