/- order.CheckBatches: what it computes. -/
import Derived.Test.YtpfmmncnhlfdgaaDoorBatR
import Derived.Test.YtpfmmncnhlfdgaaDoorBas
import Derived.Maps.OwnSet
set_option linter.unusedVariables false
set_option linter.unusedSimpArgs false
namespace Go.Proofs.YtpfmmncnhlfdgaaDoor
open Go Go.RowKit Go.Maps

def bsOk (l : List Bat) : Bool := decide (l.length ≤ 800 ∧ (∀ b ∈ l, batCode b = 0) ∧ (l.map batSum).Nodup)
def bsCode (l : List Bat) : Int := if bsOk l then 0 else 12
def bsTo (l : List Bat) (k : Nat) : Prop := (∀ b ∈ l.take k, batCode b = 0) ∧ ((l.take k).map batSum).Nodup
theorem bsTo_zero (l : List Bat) : bsTo l 0 := by simp [bsTo]
theorem bsTo_succ {l : List Bat} {k : Nat} (hk : k < l.length) (h : bsTo l k) (h1 : batCode l[k] = 0) (h2 : ¬ batSum l[k] ∈ (l.take k).map batSum) : bsTo l (k + 1) := by
  unfold bsTo at *
  rw [List.take_succ_eq_append_getElem hk]
  refine ⟨fun t ht => ?_, ?_⟩
  · rcases List.mem_append.1 ht with ht | ht
    · exact h.1 t ht
    · simp at ht; subst ht; exact h1
  · rw [List.map_append, List.nodup_append]
    refine ⟨h.2, by simp, fun a ha b hb => ?_⟩
    simp only [List.map_cons, List.map_nil, List.mem_singleton] at hb
    subst hb; exact fun e => h2 (e ▸ ha)
theorem bsCode_bad {l : List Bat} {k : Nat} (hk : k < l.length) (h1 : batCode l[k] ≠ 0) : bsCode l = 12 := by
  unfold bsCode bsOk; rw [if_neg]; simp only [decide_eq_true_eq]; rintro ⟨_, h, _⟩; exact h1 (h _ (List.getElem_mem hk))
theorem bsCode_twice {l : List Bat} {k : Nat} (hk : k < l.length) (h1 : batSum l[k] ∈ (l.take k).map batSum) : bsCode l = 12 := by
  unfold bsCode bsOk; rw [if_neg]; simp only [decide_eq_true_eq]; rintro ⟨_, _, h⟩
  obtain ⟨x, hx, hp⟩ := List.mem_map.1 h1
  obtain ⟨j, hj, e⟩ := List.mem_iff_getElem.1 hx
  simp at hj e
  have := List.nodup_iff_pairwise_ne.1 h
  have := List.pairwise_iff_getElem.1 this j k (by simp; omega) (by simpa using hk) (by omega)
  simp only [List.getElem_map] at this
  subst e
  exact this hp
theorem bsCode_long {l : List Bat} (h : 800 < l.length) : bsCode l = 12 := by
  unfold bsCode bsOk; rw [if_neg]; simp only [decide_eq_true_eq]; omega
theorem bsCode_ok {l : List Bat} (h0 : l.length ≤ 800) (h : bsTo l l.length) : bsCode l = 0 := by
  unfold bsCode bsOk; rw [if_pos]
  simp only [decide_eq_true_eq]
  unfold bsTo at h
  rw [List.take_length] at h
  exact ⟨h0, h⟩
/-! ### The set of digests -/
def litB (b : Bytes) : Lit := .string b
theorem litB_key (l : List Bytes) : ∀ x ∈ l.map litB, WideAt.IsKeyLit x := fun x hx => by
  obtain ⟨b, _, rfl⟩ := List.mem_map.1 hx; trivial
def setB (l : List Bytes) : DataW Unit := setOf (.agg []) (l.map litB)
theorem setB_nil : setB [] = .map [] := rfl
theorem setB_snoc (l : List Bytes) (x : Bytes) : setB (l ++ [x]) = (setB l).put (litB x) (.agg []) := by unfold setB; rw [List.map_append]; exact setOf_snoc _ _ _
theorem has_setB (l : List Bytes) (x : Bytes) : has (setB l) (litB x) = decide (x ∈ l) := by
  unfold setB
  rw [has_setOf _ _ _ (litB_key l)]
  rw [Bool.eq_iff_iff]
  simp only [List.any_eq_true, List.mem_map, decide_eq_true_eq]
  constructor
  · rintro ⟨_, ⟨b, hb, rfl⟩, h⟩
    have : b = x := by simpa [litB, Lit.sameKey] using h
    exact this ▸ hb
  · intro h; exact ⟨_, ⟨x, h, rfl⟩, by simp [litB, Lit.sameKey]⟩
theorem lawStr : Keyed Tryd.prog 9 := string_keyed Tryd.underlying9
theorem keyStr (b : Bytes) (h : b.length ≤ 9223372036854775807) : keyOf Tryd.prog 9 (.string ⟨b.toArray⟩) = some (litB b) :=
  Go.WideMaps.keyOf_string_mk Tryd.underlying9 (s := ⟨b.toArray⟩) (by unfold maxLen; exact h)
theorem zeroUnit (w : World) : (zeroValue 76).run Tryd.prog w = .ok (.agg #[]) w := by kernel_rfl
theorem ownsMap_below {w w' : World} {P : Program} {k b n : Nat} {R : Value → Option (DataW Unit × List MemPlace)} {D : DataW Unit} (h : w.ownsMap P k R b n D) (hb : Below w.heap.size w w') : w'.ownsMap P k R b n D :=
  h.kept (grownBy_of_below hb none) (by simp)

set_option maxRecDepth 100000 in
set_option maxHeartbeats 2000000 in
theorem checkBatches_any {G : Nat → Prop} {l : List Bat} (v : Value) (w : World) (h : RdS RBat G w v l) (ht : Tabs w) :
    Calls Tryd.prog 33 #[v] w fun e w' => e = .returned (.int .i64 (bsCode l)) ∧ Below w.heap.size w w' := by
  have hmm := @run_makeMap Tryd.prog
  obtain ⟨ad, cap, rfl, h1, h2⟩ := h.form
  unfold maxLen at h2
  by_cases h8 : 800 < l.length
  · have i8 : (800 : Int) < (l.length : Int) := by omega
    have HR := Lib.hid (bsCode_long h8)
    clear h8
    go_enter Tryd.func33, Tryd.ntmps33
    go_wp2
    go_ret
    exact ⟨ret_intH HR.out, Below.refl _ _⟩
  have i8 : ¬ (800 : Int) < (l.length : Int) := by omega
  have l8 : l.length ≤ 800 := by omega
  have HV := Lib.hid h
  have HT := Lib.hid ht
  clear h8 h ht
  go_enter Tryd.func33, Tryd.ntmps33
  go_wp2_with fail
  go_loopw [16] (fun i wr => ∃ k : Nat, k ≤ l.length ∧ i = .int .i64 k ∧ bsTo l k ∧ wr.ownsMap Tryd.prog 9 (unitElem (H := Unit)) w.heap.size k (setB ((l.take k).map batSum)) ∧ Below w.heap.size w wr) (fun i _ => l.length - (intOf i).toNat)
  case atStart => exact ⟨0, Nat.zero_le _, rfl, bsTo_zero l, by simpa [setB_nil] using World.ownsMap_made w Tryd.prog 9 (unitElem (H := Unit)), (Below.refl _ _).alloc (Nat.le_refl _) _⟩
  case round =>
    obtain ⟨k, hk, rfl, hto, hown, hB⟩ := hrel
    have HTO := Lib.hid hto
    have HOW := Lib.hid hown
    have hz := hB.size
    have hzm := hown.lt
    clear hto hown
    by_cases hlt : k < l.length
    · obtain ⟨b, o, vt, rfl, -, e0, e1, e2, hr, hls⟩ := (HV.out.below hB (fun _ h => h)).bat k hlt
      obtain ⟨ad2, cap2, rfl, -, -⟩ := hr.form
      have i0 : (0 : Int) ≤ (k : Int) := by omega
      have i1 : (k : Int) < (l.length : Int) := by omega
      have hba := (Below.refl wr.heap.size wr).alloc (Nat.le_refl _) (.cells #[.int .i64 l[k].a, .int .i64 l[k].n, .slice ad2 l[k].txs.length cap2] 58)
      have HX := Lib.hid (BoxAt.new wr [.int .i64 l[k].a, .int .i64 l[k].n, .slice ad2 l[k].txs.length cap2] 58)
      have HRa := Lib.hid (hr.below hba (fun _ h => h))
      have HLS := Lib.hid hls
      have HOa := Lib.hid (HOW.out.alloc (.cells #[.int .i64 l[k].a, .int .i64 l[k].n, .slice ad2 l[k].txs.length cap2] 58))
      have HBa := Lib.hid (hB.trans (hba.mono hz))
      have HTa := Lib.hid (HT.out.belowS HBa.out)
      have HS := Lib.hid (fun h1 h2 => bsTo_succ hlt HTO.out h1 h2)
      have HBAD := Lib.hid (fun h1 => bsCode_bad (l := l) hlt h1)
      have HTW := Lib.hid (fun h1 => bsCode_twice (l := l) hlt h1)
      have HTK := Lib.hid (show (l.take (k + 1)).map batSum = (l.take k).map batSum ++ [batSum l[k]] by rw [List.take_succ_eq_append_getElem hlt, List.map_append]; rfl)
      generalize hlk : l[k] = x at *
      clear hr hls hba hB hlk
      go_upto_region 7 with (fail)
      generalize wr.alloc (.cells #[.int .i64 x.a, .int .i64 x.n, .slice ad2 x.txs.length cap2] 58) = wa at *
      have bx := HX.out
      have p0 := bx.cell 0 rfl
      have p1 := bx.cell 1 rfl
      have p2 := bx.cell 2 rfl
      clear bx e0 e1 e2
      go_wp2_with fail
      refine (batchDigest_any x _ wa HRa.out HLS.out HTa.out).mono ?_
      rintro e w2 ⟨v2, rfl, hd, hb2⟩
      obtain ⟨add, capd, rfl, hcd, hcm⟩ := hd.form
      have HD := Lib.hid hd
      have HB2 := Lib.hid (HBa.out.trans (hb2.mono HBa.out.size))
      have HO2 := Lib.hid (ownsMap_below HOa.out hb2)
      have hz2 := HB2.out.size
      have hzm2 := HO2.out.lt
      clear hd hb2 p0 p1 p2
      by_cases hc : batCode x = 0
      · have HC := Lib.hid hc
        have hdd : batD x = batSum x := by unfold batD; rw [if_pos hc]
        rw [hc]
        rw [hdd] at HD ⊢
        have h32 := batSum_length x
        have HKEY := Lib.hid (keyStr (batSum x) (by omega))
        have hcv := conv_bytes_str (P := Tryd.prog) Tryd.underlying39 Tryd.underlying5 Tryd.underlying9 HD.out
        generalize hS : batSum x = S at *
        have HSS := Lib.hid hS
        clear hS h32
        by_cases hin : S ∈ (l.take k).map batSum
        · have HR := Lib.hid (HTW.out hin)
          have HH := Lib.hid (show has (setB ((l.take k).map batSum)) (litB S) = true by rw [has_setB]; simpa using hin)
          clear hin
          go_upto_region 10 with (fail)
          go_wp2_with (at_lookup; refine wpList_lookup_own_unit _ rfl _ _ 74 rfl 9 76 lawStr Tryd.underlying74 (zeroUnit _) w.heap.size k _ rfl HO2.out _ _ rfl HKEY.out ?_; rw [HH.out])
          go_ret
          exact ⟨ret_intH HR.out, by first | exact HB2.out | exact HB2.out.alloc hz2 _⟩
        · have HSU := Lib.hid (HS.out HC.out hin)
          have HH := Lib.hid (show has (setB ((l.take k).map batSum)) (litB S) = false by rw [has_setB]; simpa using hin)
          clear hin
          go_upto_region 10 with (fail)
          go_upto_region 13 with (at_lookup; refine wpList_lookup_own_unit _ rfl _ _ 74 rfl 9 76 lawStr Tryd.underlying74 (zeroUnit _) w.heap.size k _ rfl HO2.out _ _ rfl HKEY.out ?_; rw [HH.out])
          have hcv2 := conv_bytes_str (P := Tryd.prog) Tryd.underlying39 Tryd.underlying5 Tryd.underlying9 (HD.out.keep (Keep.alloc _ _ (.cells #[] 76)) (fun _ h => h))
          go_wp2_with (at_mapUpdate; refine wpList_mapUpdate_own _ rfl _ _ _ 74 rfl 9 76 lawStr Tryd.underlying74 (unitElem (H := Unit)) w.heap.size k _ rfl (by first | exact HO2.out | exact HO2.out.alloc _) (by unfold maxLen; omega) _ _ _ rfl rfl HKEY.out _ [] unitElem_mk ?_; intro w3 hown3 hgr3)
          have hB3 : Below w.heap.size w w3 := (by first | exact HB2.out.grown hgr3 hz2 (fun j hj => by cases hj; exact Nat.le_refl _) | exact (HB2.out.alloc hz2 _).grown hgr3 (by simp; omega) (fun j hj => by cases hj; exact Nat.le_refl _))
          have HO3 := Lib.hid (show w3.ownsMap Tryd.prog 9 (unitElem (H := Unit)) w.heap.size (k + 1) (setB ((l.take (k + 1)).map batSum)) by rw [HTK.out, setB_snoc]; exact hown3)
          clear hown3 hgr3
          go_roundw
          case rel => exact ⟨k + 1, by omega, by go_num, HSU.out, HO3.out, hB3⟩
          case measure => simp [intOf]; omega
      · have HR := Lib.hid (HBAD.out hc)
        have hne : (batCode x != 0) = true := by simpa using hc
        clear hc
        go_wp2
        go_ret
        exact ⟨ret_intH HR.out, HB2.out⟩
    · have HR := Lib.hid (bsCode_ok l8 (by have e : l.length = k := (by omega); rw [e]; exact HTO.out))
      go_wp2
      go_ret
      exact ⟨ret_intH HR.out, hB⟩
end Go.Proofs.YtpfmmncnhlfdgaaDoor
