/- Who has proven what: the plain laws of ProvenAll, ProvenJust, ProvenForm, ProvenRogue. -/
import Derived.Test.YtpfmmncnhlfdgaaDoorSeal3
import Derived.Test.YtpfmmncnhlfdgaaDoorBadOk
import Derived.Test.YtpfmmncnhlfdgaaDoorBDig
import Derived.Test.YtpfmmncnhlfdgaaDoorHdrLaw
set_option linter.unusedVariables false
set_option linter.unusedSimpArgs false
namespace Go.Proofs.YtpfmmncnhlfdgaaDoor
open Go Go.RowKit

def signOfN (h : Hdr) (n : Int) : Sgn := (n, h.a, h.r, hdrSum h)
def signedL (h : Hdr) (ns : List Int) : List Sgn := (ns.map (signOfN h)).foldl signAdd []
def nodeAdd (l : List Int) (n : Int) : List Int := if n ∈ l then l else l ++ [n]
def nodesL (ns : List Int) : List Int := ns.foldl nodeAdd []
theorem signOfN_inj {h : Hdr} {n m : Int} (e : signOfN h n = signOfN h m) : n = m := congrArg (fun x : Sgn => x.1) e
theorem signOfN_mem {h : Hdr} {n : Int} {l : List Int} : signOfN h n ∈ l.map (signOfN h) ↔ n ∈ l := by
  rw [List.mem_map]
  constructor
  · rintro ⟨m, hm, e⟩; exact signOfN_inj e ▸ hm
  · intro hn; exact ⟨n, hn, rfl⟩
theorem signFold (h : Hdr) : ∀ (ns l : List Int), (ns.map (signOfN h)).foldl signAdd (l.map (signOfN h)) = (ns.foldl nodeAdd l).map (signOfN h)
  | [], _ => rfl
  | n :: ns, l => by
    rw [List.map_cons, List.foldl_cons, List.foldl_cons]
    have e : signAdd (l.map (signOfN h)) (signOfN h n) = (nodeAdd l n).map (signOfN h) := by
      unfold signAdd nodeAdd
      by_cases hn : n ∈ l
      · rw [if_pos (signOfN_mem.2 hn), if_pos hn]
      · rw [if_neg (fun q => hn (signOfN_mem.1 q)), if_neg hn]; simp
    rw [e, signFold h ns]
theorem signedL_eq (h : Hdr) (ns : List Int) : signedL h ns = (nodesL ns).map (signOfN h) := signFold h ns []
theorem nodeFold_mem : ∀ (ns l : List Int) (n : Int), n ∈ ns.foldl nodeAdd l ↔ n ∈ l ∨ n ∈ ns
  | [], _, _ => by simp
  | m :: ns, l, n => by
    rw [List.foldl_cons, nodeFold_mem ns]
    have e : n ∈ nodeAdd l m ↔ n ∈ l ∨ n = m := by
      unfold nodeAdd; split
      · rename_i hm; constructor
        · exact .inl
        · rintro (h | rfl); exact h; exact hm
      · simp
    rw [e, List.mem_cons, or_assoc]
theorem nodesL_mem (ns : List Int) (n : Int) : n ∈ nodesL ns ↔ n ∈ ns := by unfold nodesL; rw [nodeFold_mem]; simp
theorem signedL_mem {h : Hdr} {ns : List Int} {n : Int} : signOfN h n ∈ signedL h ns ↔ n ∈ ns := by rw [signedL_eq, signOfN_mem, nodesL_mem]
theorem signedL_other {h h' : Hdr} {ns : List Int} {n : Int} (hne : h.r ≠ h'.r) : ¬ signOfN h' n ∈ signedL h ns := by
  rw [signedL_eq, List.mem_map]
  rintro ⟨m, -, e⟩
  exact hne (congrArg (fun x : Sgn => x.2.2.1) e)
theorem signOfN_ok {h : Hdr} {n : Int} (hc : hdrCode h = 0) (h0 : 0 ≤ n) (h4 : n < 4) : sgnOk (signOfN h n) = true := by
  unfold hdrCode at hc
  split at hc
  · simp at hc
  · rename_i h1
    unfold sgnOk sgnCode sltCode signOfN
    simp only [decide_eq_true_eq]
    rw [if_neg (by omega), if_neg h1, if_neg (by simp [hdrSum_length])]
theorem foldSign_ok : ∀ (l acc : List Sgn), (∀ x ∈ l, sgnOk x = true) → signsOk acc = true → signsOk (l.foldl signAdd acc) = true
  | [], _, _, h => h
  | x :: l, acc, hx, h => by
    rw [List.foldl_cons]
    refine foldSign_ok l _ (fun y hy => hx y (by simp [hy])) ?_
    have hs := hx x (by simp)
    unfold signAdd
    split
    · exact h
    · rename_i hn
      unfold signsOk at *
      simp only [decide_eq_true_eq] at *
      refine ⟨fun y hy => ?_, ?_⟩
      · rcases List.mem_append.1 hy with hy | hy
        · exact h.1 y hy
        · rw [List.mem_singleton.1 hy]; exact hs
      · rw [List.nodup_append]
        exact ⟨h.2, by simp, fun a ha b hb => by rw [List.mem_singleton.1 hb]; exact fun e => hn (e ▸ ha)⟩
theorem signedL_ok {h : Hdr} {ns : List Int} (hc : hdrCode h = 0) (hn : ∀ n ∈ ns, 0 ≤ n ∧ n < 4) : signsOk (signedL h ns) = true :=
  foldSign_ok _ _ (fun x hx => by
    obtain ⟨n, hm, rfl⟩ := List.mem_map.1 hx
    exact signOfN_ok hc (hn n hm).1 (hn n hm).2) (by decide)
theorem signedL_len (h : Hdr) (ns : List Int) : (signedL h ns).length = (nodesL ns).length := by rw [signedL_eq]; simp
theorem nodeFold_le : ∀ (ns l : List Int), (ns.foldl nodeAdd l).length ≤ l.length + ns.length
  | [], _ => by simp
  | n :: ns, l => by
    rw [List.foldl_cons]
    have h1 := nodeFold_le ns (nodeAdd l n)
    have h2 : (nodeAdd l n).length ≤ l.length + 1 := by unfold nodeAdd; split <;> simp
    simp only [List.length_cons]; omega
theorem signedL_le (h : Hdr) (ns : List Int) : (signedL h ns).length ≤ ns.length := by
  rw [signedL_len]; have := nodeFold_le ns []; simpa [nodesL] using this
/-- What seal.Proven answers. -/
def prvAll (L : List Sgn) (rogue : Int) (h : Hdr) (ns : List Int) : Bool := ns.all fun n => decide (n = rogue ∨ signOfN h n ∈ L)
def prvC (L : List Sgn) (rogue : Int) (c : Crt) : Int :=
  if signsCode L ≠ 0 then signsCode L else if badOk rogue = false then 2 else if crtCode c ≠ 0 then crtCode c else if prvAll L rogue c.h (c.vs ++ [c.h.a]) = true then 0 else 11
theorem prvC_go {L : List Sgn} {rogue : Int} {c : Crt} (h1 : signsOk L = true) (h2 : badOk rogue = true) (h3 : crtCode c = 0) : prvC L rogue c = if prvAll L rogue c.h (c.vs ++ [c.h.a]) = true then 0 else 11 := by
  unfold prvC
  rw [if_neg (by unfold signsCode; rw [if_pos h1]; simp), if_neg (by simp [h2]), if_neg (by simp [h3])]
theorem prvC_yes {L : List Sgn} {rogue : Int} {c : Crt} (h1 : signsOk L = true) (h2 : badOk rogue = true) (h3 : crtCode c = 0) (h : ∀ n ∈ c.vs ++ [c.h.a], n = rogue ∨ signOfN c.h n ∈ L) : prvC L rogue c = 0 := by
  rw [prvC_go h1 h2 h3, if_pos]
  unfold prvAll; rw [List.all_eq_true]; intro n hn; simpa using h n hn
theorem prvC_not {L : List Sgn} {rogue : Int} {c : Crt} {n : Int} (h1 : signsOk L = true) (h2 : badOk rogue = true) (h3 : crtCode c = 0) (hn : n ∈ c.vs ++ [c.h.a]) (h : ¬ (n = rogue ∨ signOfN c.h n ∈ L)) : prvC L rogue c = 11 := by
  rw [prvC_go h1 h2 h3, if_neg]
  unfold prvAll
  intro hall
  rw [List.all_eq_true] at hall
  exact h (by simpa using hall n hn)
theorem prvC_form {L : List Sgn} {rogue : Int} {c : Crt} (h1 : signsOk L = true) (h2 : badOk rogue = true) (h3 : crtCode c ≠ 0) : prvC L rogue c = crtCode c := by
  unfold prvC
  rw [if_neg (by unfold signsCode; rw [if_pos h1]; simp), if_neg (by simp [h2]), if_pos h3]
theorem prvC_bad {L : List Sgn} {rogue : Int} {c : Crt} (h1 : signsOk L = true) (h2 : badOk rogue = false) : prvC L rogue c = 2 := by
  unfold prvC
  rw [if_neg (by unfold signsCode; rw [if_pos h1]; simp), if_pos h2]
/-! ### The laws -/
theorem hdrOf_author (A B C : Int) : 0 ≤ (hdrOf A B C).a ∧ (hdrOf A B C).a < 4 := pickedZ_range A 4 (by omega)
theorem voters_range (C : Int) : ∀ v ∈ votersL C, 0 ≤ v ∧ v < 4 := by
  have h := voters_cases C
  simp only [List.mem_cons, List.not_mem_nil, or_false] at h
  rcases h with h | h | h | h | h <;> rw [h] <;> decide
theorem all_range (A B C : Int) : ∀ n ∈ votersL C ++ [(hdrOf A B C).a], 0 ≤ n ∧ n < 4 := fun n hn => by
  rcases List.mem_append.1 hn with h | h
  · exact voters_range C n h
  · rw [List.mem_singleton.1 h]; exact hdrOf_author A B C
theorem all_three (A B C : Int) : 3 ≤ (signedL (hdrOf A B C) (votersL C ++ [(hdrOf A B C).a])).length := by
  rw [signedL_len]
  have h := voters_cases C
  obtain ⟨h1, h2⟩ := hdrOf_author A B C
  generalize (hdrOf A B C).a = a at *
  have ha : a = 0 ∨ a = 1 ∨ a = 2 ∨ a = 3 := by omega
  simp only [List.mem_cons, List.not_mem_nil, or_false] at h
  rcases h with h | h | h | h | h <;> rcases ha with rfl | rfl | rfl | rfl <;> rw [h] <;> decide
theorem provenAll_law (A B C k : Int) (hk : k ∈ votersL C ++ [(hdrOf A B C).a]) :
    prvC (signedL (hdrOf A B C) (votersL C ++ [(hdrOf A B C).a])) (-1) ⟨hdrOf A B C, votersL C⟩ = 0 ∧
    prvC (signedL (hdrOf A B C) ((votersL C ++ [(hdrOf A B C).a]).filter fun n => !decide (n = k))) (-1) ⟨hdrOf A B C, votersL C⟩ = 11 ∧
    prvC (signedL (hdrOf A B C) ((votersL C ++ [(hdrOf A B C).a]).filter fun n => !decide (n = k))) k ⟨hdrOf A B C, votersL C⟩ = 0 := by
  have hr := all_range A B C
  have hk4 := hr k hk
  have hok := hdrOf_ok A B C
  have hcr := crtOf_ok A B C
  generalize hns : votersL C ++ [(hdrOf A B C).a] = ns at *
  have hf : ∀ n ∈ ns.filter (fun n => !decide (n = k)), 0 ≤ n ∧ n < 4 := fun n hn => hr n (List.mem_filter.1 hn).1
  refine ⟨prvC_yes (signedL_ok hok hr) (by decide) hcr (fun n hn => .inr ?_), prvC_not (n := k) (signedL_ok hok hf) (by decide) hcr (by show k ∈ votersL C ++ [(hdrOf A B C).a]; rw [hns]; exact hk) ?_, prvC_yes (signedL_ok hok hf) ?_ hcr (fun n hn => ?_)⟩
  · rw [signedL_mem]
    have : n ∈ votersL C ++ [(hdrOf A B C).a] := hn
    rw [hns] at this; exact this
  · rw [signedL_mem, List.mem_filter]
    rintro (h | h)
    · omega
    · simp at h
  · unfold badOk; simp only [decide_eq_true_eq]; omega
  · have hn' : n ∈ votersL C ++ [(hdrOf A B C).a] := hn
    rw [hns] at hn'
    by_cases e : n = k
    · exact .inl e
    · exact .inr (signedL_mem.2 (List.mem_filter.2 ⟨hn', by simp [e]⟩))
def hdrJust (A B C n : Int) : Hdr := ⟨(hdrOf A B C).a, (hdrOf A B C).r + 1 + pickedZ n 9, (hdrOf A B C).bs, [someL 1 1, someL 1 2, someL 1 3]⟩
theorem dig_three : digCode [someL 1 1, someL 1 2, someL 1 3] = 0 := by
  rw [digCode_zero]
  refine ⟨fun d hd => ?_, by decide⟩
  simp only [List.mem_cons, List.not_mem_nil, or_false] at hd
  rcases hd with rfl | rfl | rfl <;> exact someL_length _ _
theorem hdrJust_ok (A B C n : Int) : hdrCode (hdrJust A B C n) = 0 := by
  have h := hdrOf_ok A B C
  obtain ⟨h1, h2, h3, h4, h5, h6⟩ := hdr_partsD h
  obtain ⟨r1, r2⟩ := pickedZ_range B 9 (by omega)
  obtain ⟨n1, n2⟩ := pickedZ_range n 9 (by omega)
  have hr : (hdrOf A B C).r = 1 + pickedZ B 9 := rfl
  unfold hdrCode hdrJust
  simp only
  rw [if_neg, if_neg, if_neg, if_neg, if_neg]
  · rw [hr]; simp; omega
  · rw [dig_three]; simp
  · rw [h5]; simp
  · simp; omega
  · rw [h1]; unfold countOk; rw [hr]; simp; omega
theorem provenJust_law (A B C n : Int) :
    prvC (signedL (hdrOf A B C) [0, 1, 2, 3]) (-1) ⟨hdrOf A B C, votersL C⟩ = 0 ∧ prvC (signedL (hdrOf A B C) [0, 1, 2, 3]) (-1) ⟨hdrJust A B C n, votersL C⟩ = 11 ∧ (signedL (hdrOf A B C) [0, 1, 2, 3]).length = 4 := by
  have hok := hdrOf_ok A B C
  have h4 : ∀ n ∈ ([0, 1, 2, 3] : List Int), 0 ≤ n ∧ n < 4 := by decide
  refine ⟨prvC_yes (signedL_ok hok h4) (by decide) (crtOf_ok A B C) (fun m hm => .inr (signedL_mem.2 ?_)), ?_, by rw [signedL_len]; decide⟩
  · have := all_range A B C m hm
    have : m = 0 ∨ m = 1 ∨ m = 2 ∨ m = 3 := by omega
    rcases this with rfl | rfl | rfl | rfl <;> decide
  · have hcr : crtCode ⟨hdrJust A B C n, votersL C⟩ = 0 := by
      rw [crt_of_hdr (hdrJust_ok A B C n)]
      have := crtOf_ok A B C
      rwa [crt_of_hdr hok] at this
    refine prvC_not (n := (hdrJust A B C n).a) (signedL_ok hok h4) (by decide) hcr (by simp) ?_
    obtain ⟨n1, n2⟩ := pickedZ_range n 9 (by omega)
    have ha := hdrOf_author A B C
    rintro (h | h)
    · have : (hdrJust A B C n).a = (hdrOf A B C).a := rfl
      omega
    · refine signedL_other (h := hdrOf A B C) (h' := hdrJust A B C n) ?_ h
      show (hdrOf A B C).r ≠ (hdrOf A B C).r + 1 + pickedZ n 9
      omega
theorem provenForm_law (A B C k : Int) (hk : badOk k = true) :
    prvC (signedL (hdrOf A B C) [0, 1, 2, 3]) k ⟨hdrOf A B C, (votersL C).take 2⟩ = 10 ∧
    prvC (signedL (hdrOf A B C) [0, 1, 2, 3]) k ⟨⟨9, (hdrOf A B C).r, (hdrOf A B C).bs, (hdrOf A B C).ps⟩, (votersL C).take 2⟩ = 2 ∧
    prvC (signedL (hdrOf A B C) [0, 1, 2, 3]) 4 ⟨hdrOf A B C, (votersL C).take 2⟩ = 2 := by
  have hok := hdrOf_ok A B C
  have h4 : ∀ n ∈ ([0, 1, 2, 3] : List Int), 0 ≤ n ∧ n < 4 := by decide
  have h9 : crtCode ⟨⟨9, (hdrOf A B C).r, (hdrOf A B C).bs, (hdrOf A B C).ps⟩, (votersL C).take 2⟩ = 2 := by
    have : hdrCode ⟨9, (hdrOf A B C).r, (hdrOf A B C).bs, (hdrOf A B C).ps⟩ = 2 := by unfold hdrCode; rw [if_pos (.inl (by show nodeOk 9 = false; decide))]
    unfold crtCode; rw [if_pos (by simp [this]), this]
  refine ⟨?_, ?_, prvC_bad (signedL_ok hok h4) (by decide)⟩
  · rw [prvC_form (signedL_ok hok h4) hk (by rw [crt_few]; simp), crt_few]
  · rw [prvC_form (signedL_ok hok h4) hk (by rw [h9]; simp), h9]
/-- The author is a rogue, and its certificate has three voters. -/
def hdrRogue (A B C k : Int) : Hdr := ⟨k, (hdrOf A B C).r, (hdrOf A B C).bs, (hdrOf A B C).ps⟩
def votersBut (k : Int) : List Int := [0, 1, 2, 3].filter fun i => !decide (i = (k + 1) % 4)
theorem hdrRogue_ok (A B C k : Int) (h0 : 0 ≤ k) (h4 : k < 4) : hdrCode (hdrRogue A B C k) = 0 := by
  have h := hdrOf_ok A B C
  have hn : nodeOk k = true := by unfold nodeOk; simp only [decide_eq_true_eq]; omega
  obtain ⟨hm, hm2, -⟩ := hdr_partsD h
  unfold hdrCode at h ⊢
  rw [if_neg (by simp [hm, hm2])] at h
  rw [if_neg (by show ¬ (nodeOk k = false ∨ countOk (hdrOf A B C).r = false); simp [hn, hm2])]
  exact h
theorem provenRogue_law (A B C k : Int) (h0 : 0 ≤ k) (h4 : k < 4) :
    prvC [] k ⟨hdrRogue A B C k, votersBut k⟩ = 11 ∧ prvC (signedL (hdrRogue A B C k) [(k + 2) % 4]) k ⟨hdrRogue A B C k, votersBut k⟩ = 11 ∧
    prvC (signedL (hdrRogue A B C k) [(k + 2) % 4, (k + 3) % 4]) k ⟨hdrRogue A B C k, votersBut k⟩ = 0 := by
  have hok := hdrRogue_ok A B C k h0 h4
  have hb : badOk k = true := by unfold badOk; simp only [decide_eq_true_eq]; omega
  have hv : (votersBut k).length ≤ 4 ∧ votGo none (votersBut k) = 0 ∧ ¬ (votersBut k).length < 3 := by
    have : k = 0 ∨ k = 1 ∨ k = 2 ∨ k = 3 := by omega
    rcases this with rfl | rfl | rfl | rfl <;> decide
  have hcr : crtCode ⟨hdrRogue A B C k, votersBut k⟩ = 0 := by
    rw [crt_of_hdr hok, if_neg (by omega), if_neg (by simp [hv.2.1]), if_neg hv.2.2]
  have h2 : ∀ n ∈ [(k + 2) % 4], 0 ≤ n ∧ n < 4 := fun n hn => by rw [List.mem_singleton.1 hn]; omega
  have h3 : ∀ n ∈ [(k + 2) % 4, (k + 3) % 4], 0 ≤ n ∧ n < 4 := fun n hn => by
    simp only [List.mem_cons, List.not_mem_nil, or_false] at hn
    rcases hn with rfl | rfl <;> omega
  have m3 : (k + 3) % 4 ∈ votersBut k := by
    have : k = 0 ∨ k = 1 ∨ k = 2 ∨ k = 3 := by omega
    rcases this with rfl | rfl | rfl | rfl <;> decide
  refine ⟨prvC_not (n := (k + 3) % 4) (by decide) hb hcr (List.mem_append.2 (.inl m3)) ?_, prvC_not (n := (k + 3) % 4) (signedL_ok hok h2) hb hcr (List.mem_append.2 (.inl m3)) ?_, prvC_yes (signedL_ok hok h3) hb hcr (fun n hn => ?_)⟩
  · rintro (h | h)
    · omega
    · simp at h
  · rintro (h | h)
    · omega
    · rw [signedL_mem] at h
      have := List.mem_singleton.1 h
      omega
  · have hn' : n = k ∨ n = (k + 2) % 4 ∨ n = (k + 3) % 4 := by
      rcases List.mem_append.1 hn with h | h
      · have : k = 0 ∨ k = 1 ∨ k = 2 ∨ k = 3 := by omega
        have hmem : n ∈ votersBut k := h
        unfold votersBut at hmem
        obtain ⟨h1, h2⟩ := List.mem_filter.1 hmem
        simp only [List.mem_cons, List.not_mem_nil, or_false] at h1
        simp only [Bool.not_eq_true', decide_eq_false_iff_not] at h2
        omega
      · exact .inl (List.mem_singleton.1 h)
    rcases hn' with h | h | h
    · exact .inl h
    · exact .inr (signedL_mem.2 (by rw [h]; simp))
    · exact .inr (signedL_mem.2 (by rw [h]; simp))
end Go.Proofs.YtpfmmncnhlfdgaaDoor
