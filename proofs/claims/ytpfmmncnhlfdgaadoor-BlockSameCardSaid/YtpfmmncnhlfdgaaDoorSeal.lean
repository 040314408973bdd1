/- seal: sign, has, own, Check: what they compute. -/
import Derived.Test.YtpfmmncnhlfdgaaDoorChk
import Derived.Test.YtpfmmncnhlfdgaaDoorBas
import Derived.Deep.RegionLaw
set_option linter.unusedVariables false
set_option linter.unusedSimpArgs false
attribute [local go_sem ↓] Go.wp_at_zero Go.wp_at_succ
namespace Go.Proofs.YtpfmmncnhlfdgaaDoor
open Go Go.RowKit

/-- A sign: its node; its slot's author, round, digest. -/
abbrev Sgn := Int × Int × Int × Bytes
def RSign : Rel Sgn where
  size := 4
  rd := fun G w cs x => ∃ v, cs = [.int .i64 x.1, .int .i64 x.2.1, .int .i64 x.2.2.1, v] ∧ RdB G w v x.2.2.2
  len := fun ⟨_, h, _⟩ => by simp [h]
  keep := fun ⟨v, h, hr⟩ hk hg => ⟨v, h, hr.keep hk hg⟩
  low := fun ⟨v, h, hr⟩ => ⟨v, h, hr.low (by decide)⟩
def sgnCode (n a r : Int) (k : Nat) : Int := if n < 0 ∨ 4 ≤ n then 2 else sltCode a r k
def sgnOk (x : Sgn) : Bool := decide (sgnCode x.1 x.2.1 x.2.2.1 x.2.2.2.length = 0)

theorem RdS.sign {G : Nat → Prop} {w : World} {l : List Sgn} {ad : Option Addr} {n cap : Nat} (h : RdS RSign G w (.slice ad n cap) l) (j : Nat) (hj : j < l.length) :
    ∃ b o v, ad = some ⟨b, o, none⟩ ∧ G b ∧ w.cell? ⟨b, o + j * 4, none⟩ = some (.int .i64 l[j].1) ∧ w.cell? ⟨b, o + j * 4 + 1, none⟩ = some (.int .i64 l[j].2.1) ∧ w.cell? ⟨b, o + j * 4 + 2, none⟩ = some (.int .i64 l[j].2.2.1) ∧ w.cell? ⟨b, o + j * 4 + 3, none⟩ = some v ∧ RdB G w v l[j].2.2.2 := by
  obtain ⟨b, o, cs, ha, hb, hc, v, rfl, hr⟩ := h.at j hj
  exact ⟨b, o, v, ha, hb, hc 0 _ rfl, hc 1 _ rfl, hc 2 _ rfl, hc 3 _ rfl, hr⟩

theorem sgn_eq (x y : Sgn) (h1 : x.1 = y.1) (h2 : x.2.1 = y.2.1) (h3 : x.2.2.1 = y.2.2.1) : decide (x = y) = decide (x.2.2.2 = y.2.2.2) := by
  obtain ⟨a, b, c, d⟩ := x
  obtain ⟨a', b', c', d'⟩ := y
  simp only at h1 h2 h3
  subst h1 h2 h3
  simp
end Go.Proofs.YtpfmmncnhlfdgaaDoor
