/- make([]api.Act, n), and its kinds set one by one; the texts of flows. -/
import Derived.Test.YtodcebhfkmlmgaaDoorActSl
set_option linter.unusedVariables false
set_option linter.unusedSimpArgs false
namespace Go.Proofs.YtodcebhfkmlmgaaDoor
open Go Go.RowKit

def FlowTo (K i : Nat) (cs : List Value) : Prop :=
  cs.length = K * 4 ∧ ∀ j, j < K → cs[j * 4]? = some (.int .i64 (if j < i then 10 else 0)) ∧ cs[j * 4 + 1]? = some (.int .i64 0) ∧ cs[j * 4 + 2]? = some (.int .i64 0) ∧ cs[j * 4 + 3]? = some (.string ⟨#[]⟩)
theorem FlowTo.len {K i : Nat} {cs : List Value} (h : FlowTo K i cs) : cs.length = K * 4 := h.1
theorem FlowTo.step {K i : Nat} {cs : List Value} (h : FlowTo K i cs) (hi : i < K) : FlowTo K (i + 1) (cs.set (i * 4) (.int .i64 10)) := by
  refine ⟨by rw [List.length_set]; exact h.1, fun j hj => ?_⟩
  obtain ⟨h0, h1, h2, h3⟩ := h.2 j hj
  refine ⟨?_, ?_, ?_, ?_⟩
  · by_cases e : j = i
    · subst e
      rw [List.getElem?_set_self (by rw [h.1]; omega), if_pos (by omega)]
    · rw [List.getElem?_set_ne (by omega), h0]
      by_cases q : j < i
      · rw [if_pos q, if_pos (by omega)]
      · rw [if_neg q, if_neg (by omega)]
  · rw [List.getElem?_set_ne (by omega)]; exact h1
  · rw [List.getElem?_set_ne (by omega)]; exact h2
  · rw [List.getElem?_set_ne (by omega)]; exact h3
theorem FlowTo.done {K : Nat} {cs : List Value} (h : FlowTo K K cs) : cs = (List.replicate K flowA).flatMap actCells := by
  refine acts_flat _ _ (by rw [h.1, List.length_replicate]) (fun j x hx => ?_)
  have hj : j < K := by
    rcases Nat.lt_or_ge j K with q | q
    · exact q
    · rw [List.getElem?_eq_none (by simpa using q)] at hx; simp at hx
  obtain rfl : x = flowA := by
    rw [List.getElem?_eq_getElem (by simpa using hj), List.getElem_replicate] at hx
    exact (Option.some.inj hx).symm
  obtain ⟨h0, h1, h2, h3⟩ := h.2 j hj
  rw [if_pos hj] at h0
  apply List.ext_getElem?
  intro t
  rcases Nat.lt_or_ge t 4 with ht | ht
  · rw [List.getElem?_take_of_lt ht, List.getElem?_drop]
    match t, ht with
    | 0, _ => exact h0
    | 1, _ => exact h1
    | 2, _ => exact h2
    | 3, _ => exact h3
  · rw [List.getElem?_eq_none (by simp; omega), List.getElem?_eq_none (by simpa [actCells] using ht)]
theorem flow_make (K : Nat) (hK : K ≤ 1000000) : ∃ cs : List Value, FlowTo K 0 cs ∧ ∀ w : World, (Instr.makeSlice 32 (.int .i64 (K : Int)) (.int .i64 (K : Int))).run Tryd.prog w = .ok (.slice (some ⟨w.heap.size, 0, none⟩) K K) (w.alloc (.cells cs.toArray 25)) := by
  obtain ⟨ht, i, z, hi, hz, hsize, hby, hzs, -⟩ := elemAct
  have hz' : z = .agg #[.int .i64 0, .int .i64 0, .int .i64 0, .string ⟨#[]⟩] := by
    have h0 : (Tryd.prog.info? 25).map (fun i => i.zero) = some (some (.agg #[.int .i64 0, .int .i64 0, .int .i64 0, .string ⟨#[]⟩])) := by kernel_rfl
    rw [hi] at h0
    simp only [Option.map_some, Option.some.injEq] at h0
    rw [hz] at h0
    exact Option.some.inj h0
  subst hz'
  refine ⟨(madeCells (Value.agg #[.int .i64 0, .int .i64 0, .int .i64 0, .string ⟨#[]⟩]).cells (K * 4)).toList, ⟨by simp [madeCells], fun j hj => ?_⟩, fun w => ?_⟩
  · have e0 : (j * 4) % 4 = 0 := by omega
    have e1 : (j * 4 + 1) % 4 = 1 := by omega
    have e2 : (j * 4 + 2) % 4 = 2 := by omega
    have e3 : (j * 4 + 3) % 4 = 3 := by omega
    have hc : (Value.agg #[.int .i64 0, .int .i64 0, .int .i64 0, .string ⟨#[]⟩]).cells = #[.int .i64 0, .int .i64 0, .int .i64 0, .string ⟨#[]⟩] := by rfl
    have b0 : j * 4 < K * 4 := by omega
    have b1 : j * 4 + 1 < K * 4 := by omega
    have b2 : j * 4 + 2 < K * 4 := by omega
    have b3 : j * 4 + 3 < K * 4 := by omega
    rw [hc]
    refine ⟨?_, ?_, ?_, ?_⟩ <;> simp [madeCells, b0, b1, b2, b3, e0, e1, e2, e3]
  · have hr := run_make (P := Tryd.prog) w 32 25 i _ ht hi hz .i64 .i64 K K (by omega) (by omega) (by rw [hby]; omega) (by omega)
    rw [hr, hsize]
    simp only [Int.toNat_natCast, Array.toArray_toList]
def flowS (j : Nat) : List UInt8 := showL (List.replicate j flowA)
theorem flowS_add (a b : Nat) : flowS a ++ flowS b = flowS (a + b) := by
  unfold flowS; rw [← showL_append, List.replicate_append_replicate]
theorem flowS_one : flowS 1 = [102, 108, 111, 119, 10] := by decide +kernel
theorem flowS_len (j : Nat) : (flowS j).length = 5 * j := by
  induction j with
  | zero => rfl
  | succ j ih => rw [← flowS_add, List.length_append, ih, flowS_one]; simp; omega
def lenV : Value → Nat
  | .string b => b.size
  | _ => 0
theorem lenV_flow (j : Nat) : lenV (strV (flowS j)) = 5 * j := by
  show (flowS j).toArray.size = _
  rw [List.size_toArray, flowS_len]
theorem flows_ok (K : Nat) : ∀ a ∈ List.replicate K flowA, lineCode a = 0 := fun a ha => by rw [(List.mem_replicate.1 ha).2]; exact flowA_ok
theorem readGo_many : ∀ (f : Nat) (l : List LAct) (i : Nat) (out : List LAct), (∀ a ∈ l, lineCode a = 0) → f < l.length → readGo (f + 1) (showL l) i out = ([], i + f, 1)
  | f, [], i, out, _, hf => by simp at hf
  | 0, a :: l, i, out, h, hf => by rw [readGo, if_neg showL_ne, if_pos rfl]; rfl
  | f + 1, a :: l, i, out, h, hf => by
    have ha := h a (by simp)
    have hc := cutN_at (lineOf_no10 ha) (showL l)
    rw [readGo, if_neg showL_ne, if_neg (by omega), showL_cons, hc]
    simp only [oneL_line ha, Bool.true_eq_false, if_false]
    rw [if_neg (by simp [ha]), readGo_many f l (i + 1) _ (fun x hx => h x (by simp [hx])) (by simp at hf; omega)]
    simp; omega
theorem flows_long {K : Nat} (h : 3000 < K) : readL (flowS K) = ([], 3000, 1) := by
  have := readGo_many 3000 (List.replicate K flowA) 0 [] (flows_ok K) (by simpa using h)
  simpa [readL, flowS] using this
theorem flows_short {K : Nat} (h : K ≤ 3000) : readL (flowS K) = (List.replicate K flowA, 0, 0) := readL_show (flows_ok K) (by simpa using h)
end Go.Proofs.YtodcebhfkmlmgaaDoor
