/- The reach: how long an argument may be. No program is named. -/
import Derived.Test.YtpfmmncnhlfdgaaDoorBas
import Derived.ProofKit
import Derived.OpenShut
import Derived.Deep.Slices
import Derived.SizedLaws
set_option linter.unusedVariables false
set_option linter.unusedSimpArgs false
namespace Go.Proofs.YtpfmmncnhlfdgaaDoor
open Go Go.RowKit

theorem reach_len {H : Type} {enc : TypeId × Value → H} {P : Program} {W : World} {ts : List TypeId} {ds : List (DataW H)} {j : Nat} {t e : TypeId} {v : Value} {d : DataW H} {ps : List MemPlace} {a : Option Addr} {n c : Nat}
    (hsz : (DataW.weightsEach P ts ds).all (· ≤ reachBytes) = true) (ht : ts[j]? = some t) (hd : ds[j]? = some d) (hu : P.underlying t = some (.slice e)) (hv : v = .slice a n c)
    (h : DataW.Trod enc P W 0 (fun _ => true) true t v d ps) : n * P.bytesOf e ≤ reachBytes := by
  subst hv
  obtain ⟨fuel, hf⟩ := h
  rcases Go.Deep.open_slice hu hf with ⟨h1, _⟩ | ⟨a', len, cap, m, n', D, Pl, h1, _, hl, hm, hmm, hx, hi⟩
  · simp only [Value.cells, List.cons.injEq, and_true, Value.slice.injEq] at h1
    rw [h1.2.1]; simp
  · simp only [Value.cells, List.cons.injEq, and_true, Value.slice.injEq] at h1
    have hd' : d = .slice ((List.range len).map D) ((List.range (m - len)).map fun j => D (len + j)) := congrArg Prod.fst hx
    subst hd'
    have := sized_slice hsz (j := j) ht hd hu
    simp only [List.length_map, List.length_range] at this
    rw [h1.2.1]
    exact Nat.le_trans (Nat.mul_le_mul_right _ (by omega)) this
end Go.Proofs.YtpfmmncnhlfdgaaDoor
