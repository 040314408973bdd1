/- BlockOnce: the walk. -/
import Derived.Test.YtpfmmncnhlfdgaaDoorHistAll
import Derived.Test.YtpfmmncnhlfdgaaDoorBats
import Derived.Maps.OwnSet
import Derived.Deep.LoopGhost
/- Blocks: plain laws. -/
set_option linter.unusedVariables false
set_option linter.unusedSimpArgs false
attribute [local go_sem ↓] Go.wp_at_zero Go.wp_at_succ
namespace Go.Proofs.YtpfmmncnhlfdgaaDoor
open Go Go.RowKit

open Go.Maps
/-- The texts of a batch, by its digest. -/
def txsB (bs : List Bat) (d : Bytes) : List Bytes := match bs.find? (fun b => decide (batSum b = d)) with | some b => b.txs | none => []
def addT (acc : List Bytes) (t : Bytes) : List Bytes := if t ∈ acc then acc else acc ++ [t]
def addTs (acc ts : List Bytes) : List Bytes := ts.foldl addT acc
def addDs (bs : List Bat) (acc ds : List Bytes) : List Bytes := ds.foldl (fun a d => addTs a (txsB bs d)) acc
/-- The digests of batches of a history. -/
def blkDs (L : List Crt) (M : List Nat) : List Bytes := M.flatMap fun j => (L.getD j crtZ).h.bs
def blkHas (bs : List Bat) (ds : List Bytes) : Bool := ds.all fun d => decide (d ∈ bs.map batSum)
def blkCode (L : List Crt) (bs : List Bat) (k : Bytes) (M : List Nat) : Int := if findCode L k ≠ 0 then findCode L k else if bsCode bs ≠ 0 then bsCode bs else if blkHas bs (blkDs L M) = true then 0 else 8
def blkOut (L : List Crt) (bs : List Bat) (k : Bytes) (M : List Nat) : List Bytes := if blkCode L bs k M = 0 then addDs bs [] (blkDs L M) else []
theorem blkDs_take {L : List Crt} {M : List Nat} {i : Nat} (h : i < M.length) : blkDs L (M.take (i + 1)) = blkDs L (M.take i) ++ (L.getD M[i] crtZ).h.bs := by
  unfold blkDs; rw [List.take_succ_eq_append_getElem h, List.flatMap_append]; simp
theorem addDs_app (bs : List Bat) (acc a b : List Bytes) : addDs bs acc (a ++ b) = addDs bs (addDs bs acc a) b := by unfold addDs; rw [List.foldl_append]
theorem addDs_take {bs : List Bat} {acc ds : List Bytes} {i : Nat} (h : i < ds.length) : addDs bs acc (ds.take (i + 1)) = addTs (addDs bs acc (ds.take i)) (txsB bs ds[i]) := by
  rw [List.take_succ_eq_append_getElem h, addDs_app]; rfl
theorem addTs_take {acc ts : List Bytes} {i : Nat} (h : i < ts.length) : addTs acc (ts.take (i + 1)) = addT (addTs acc (ts.take i)) ts[i] := by
  unfold addTs; rw [List.take_succ_eq_append_getElem h, List.foldl_append]; rfl
theorem blkHas_app (bs : List Bat) (a b : List Bytes) : blkHas bs (a ++ b) = (blkHas bs a && blkHas bs b) := by unfold blkHas; rw [List.all_append]
theorem blkHas_take {bs : List Bat} {ds : List Bytes} {i : Nat} (h : i < ds.length) : blkHas bs (ds.take (i + 1)) = (blkHas bs (ds.take i) && decide (ds[i] ∈ bs.map batSum)) := by
  rw [List.take_succ_eq_append_getElem h, blkHas_app]; simp [blkHas]
theorem blkHas_false {bs : List Bat} {ds : List Bytes} {d : Bytes} (h : d ∈ ds) (h2 : ¬ d ∈ bs.map batSum) : blkHas bs ds = false := by
  unfold blkHas
  rw [List.all_eq_false]
  exact ⟨d, h, by simpa using h2⟩
theorem mem_blkDs {L : List Crt} {M : List Nat} {j : Nat} (hj : j ∈ M) {d : Bytes} (hd : d ∈ (L.getD j crtZ).h.bs) : d ∈ blkDs L M := List.mem_flatMap.2 ⟨j, hj, hd⟩
theorem txsB_mem {bs : List Bat} {d : Bytes} (h : d ∈ bs.map batSum) : ∃ b ∈ bs, batSum b = d ∧ txsB bs d = b.txs := by
  obtain ⟨b0, h0, e0⟩ := List.mem_map.1 h
  rcases hq : bs.find? (fun b => decide (batSum b = d)) with _ | b
  · have := List.find?_eq_none.1 hq b0 h0
    simp [e0] at this
  · have h1 := List.mem_of_find?_eq_some hq
    have h2 := List.find?_some hq
    exact ⟨b, h1, by simpa using h2, by unfold txsB; rw [hq]⟩
theorem bsOk_txs {bs : List Bat} (h : bsOk bs = true) {b : Bat} (hb : b ∈ bs) : b.txs.length ≤ 4 := by
  unfold bsOk at h
  have h1 := (of_decide_eq_true h).2.1 b hb
  unfold batCode at h1
  split at h1
  · simp at h1
  · split at h1
    · simp at h1
    · omega
theorem addT_len (acc : List Bytes) (t : Bytes) : (addT acc t).length ≤ acc.length + 1 := by unfold addT; split <;> simp
/-- What the map of texts holds. -/
def heldElem : Value → Option (DataW Value × List MemPlace) := fun v => some (.held v, [])
structure TxMap (G : Nat → Prop) (w : World) (bs : List Bat) (D : DataW Value) : Prop where
  has : ∀ d : Bytes, has D (litB d) = decide (d ∈ bs.map batSum)
  at_ : ∀ b ∈ bs, ∃ v, (∀ zd, D.atKey (litB (batSum b)) zd = .held v) ∧ RdT G w v b.txs
theorem TxMap.nil (G : Nat → Prop) (w : World) : TxMap G w [] (.map []) := ⟨fun d => by simp [Maps.has], fun b hb => by simp at hb⟩
theorem TxMap.keep {G : Nat → Prop} {w w' : World} {bs : List Bat} {D : DataW Value} (h : TxMap G w bs D) (hb : Keep G w w') : TxMap G w' bs D :=
  ⟨h.has, fun b hm => by obtain ⟨v, h1, h2⟩ := h.at_ b hm; exact ⟨v, h1, h2.keep hb (fun _ h => h)⟩⟩
theorem TxMap.below {G : Nat → Prop} {w w' : World} {bs : List Bat} {D : DataW Value} (h : TxMap G w bs D) (hb : Below w.heap.size w w') : TxMap G w' bs D := h.keep (Keep.below hb)
theorem litB_inj {a b : Bytes} (h : litB a = litB b) : a = b := by unfold litB at h; injection h
theorem TxMap.put {G : Nat → Prop} {w : World} {bs : List Bat} {D : DataW Value} (h : TxMap G w bs D) (hD : IsMap D) {b : Bat} {v : Value} (hn : ¬ batSum b ∈ bs.map batSum) (hv : RdT G w v b.txs) : TxMap G w (bs ++ [b]) (D.put (litB (batSum b)) (.held v)) := by
  refine ⟨fun d => ?_, fun x hx => ?_⟩
  · by_cases e : d = batSum b
    · subst e
      rw [has_put_same hD (show WideAt.IsKeyLit (litB _) from trivial)]
      simp
    · rw [has_put_other (fun q => e (litB_inj q)), h.has]
      simp [e]
  · rcases List.mem_append.1 hx with hx | hx
    · obtain ⟨u, h1, h2⟩ := h.at_ x hx
      refine ⟨u, fun zd => ?_, h2⟩
      rw [atKey_put_other (fun q => hn (by rw [← litB_inj q]; exact List.mem_map.2 ⟨x, hx, rfl⟩))]
      exact h1 zd
    · rw [List.mem_singleton] at hx; subst hx
      exact ⟨v, fun zd => atKey_put_same hD (show WideAt.IsKeyLit (litB _) from trivial) _ _, hv⟩
theorem ownsMap_belowG {H : Type} {w w' : World} {P : Program} {k b n : Nat} {R : Value → Option (DataW H × List MemPlace)} {D : DataW H} (h : w.ownsMap P k R b n D) (hb : Below w.heap.size w w') : w'.ownsMap P k R b n D :=
  h.kept (grownBy_of_below hb none) (by simp)
theorem map_nodup_new {bs : List Bat} (h : bsOk bs = true) {k : Nat} (hk : k < bs.length) : ¬ batSum bs[k] ∈ (bs.take k).map batSum := by
  intro hm
  have := bsCode_twice hk hm
  unfold bsCode at this
  rw [h] at this
  simp at this
theorem bs_ok {bs : List Bat} (h : bsCode bs = 0) : bsOk bs = true := by
  unfold bsCode at h
  by_cases q : bsOk bs = true
  · exact q
  · rw [if_neg q] at h; simp at h
end Go.Proofs.YtpfmmncnhlfdgaaDoor

/- order.Block: what it computes. -/
set_option linter.unusedVariables false
set_option linter.unusedSimpArgs false
attribute [local go_sem ↓] Go.wp_at_zero Go.wp_at_succ
namespace Go.Proofs.YtpfmmncnhlfdgaaDoor
open Go Go.RowKit

open Go.Maps
theorem zeroSl (w : World) : (zeroValue 48).run Tryd.prog w = .ok (.slice none 0 0) w := by kernel_rfl
theorem elemST : ElemOk Tryd.prog 48 9 1 16 := elemOk_of (z := .string ByteArray.empty) (by kernel_rfl) (by kernel_rfl) rfl (by decide)
/-- All blocks below B are as they were, but for one. -/
structure ButB (B s : Nat) (w w' : World) : Prop where
  os : w'.os = w.os
  tape : w'.tape = w.tape
  output : w'.output = w.output
  size : w.heap.size ≤ w'.heap.size
  block : ∀ k, k < B → k ≠ s → w'.heap[k]? = w.heap[k]?
theorem ButB.refl (B s : Nat) (w : World) : ButB B s w w := ⟨rfl, rfl, rfl, Nat.le_refl _, fun _ _ _ => rfl⟩
theorem ButB.trans {B s : Nat} {a b c : World} (h : ButB B s a b) (k : ButB B s b c) : ButB B s a c :=
  ⟨k.os.trans h.os, k.tape.trans h.tape, k.output.trans h.output, Nat.le_trans h.size k.size, fun i hi hs => (k.block i hi hs).trans (h.block i hi hs)⟩
theorem ButB.ofBelow {B s : Nat} {w w' : World} (h : Below B w w') : ButB B s w w' := ⟨h.os, h.tape, h.output, h.size, fun k hk _ => h.block k hk⟩
theorem ButB.alloc {B s : Nat} {a w : World} (h : ButB B s a w) (hb : B ≤ w.heap.size) (o : Obj) : ButB B s a (w.alloc o) := h.trans (.ofBelow ((Below.refl B w).alloc hb o))
theorem ButB.grown {B s : Nat} {a w w' : World} {row : Option Nat} (h : ButB B s a w) (hg : w.grownBy w' row) (hb : B ≤ w.heap.size) (hr : ∀ k, row = some k → B ≤ k ∨ k = s) : ButB B s a w' :=
  h.trans ⟨hg.os, hg.tape, hg.output, hg.size, fun k hk hs => hg.block k (by omega) (fun e => by rcases hr k e.symm with q | q <;> omega)⟩
theorem ButB.keep {B s : Nat} {G : Nat → Prop} {w w' : World} (h : ButB B s w w') (hG : ∀ b, G b → b < B ∧ b ≠ s) : Keep G w w' := fun b o v hb hc => by
  rw [World.cell?_of_block (w := w) (a := ⟨b, o, none⟩) (h.block b (hG b hb).1 (hG b hb).2)]; exact hc
theorem ButB.map {H : Type} {B s : Nat} {w w' : World} (h : ButB B s w w') {P : Program} {k b n : Nat} {R : Value → Option (DataW H × List MemPlace)} {D : DataW H} (hm : w.ownsMap P k R b n D) (hb : b < B) (hs : b ≠ s) : w'.ownsMap P k R b n D := by
  obtain ⟨es, clock, h1, r⟩ := hm
  exact ⟨es, clock, (h.block b hb hs).trans h1, r⟩
theorem ButB.box {B s : Nat} {w w' : World} (h : ButB B s w w') {b : Nat} {cs : List Value} {T : TypeId} (hx : BoxAt w b cs T) (hb : b < B) (hs : b ≠ s) : BoxAt w' b cs T := (h.block b hb hs).trans hx
theorem ButB.below {B s C : Nat} {w w' : World} (h : ButB B s w w') (hB : C ≤ B) (hs : C ≤ s) : Below C w w' := ⟨h.os, h.tape, h.output, h.size, fun k hk => h.block k (by omega) (by omega)⟩
theorem held_eq {v v0 : Value} {d : DataW Value} {ps : List MemPlace} (h : heldElem v = some (d, ps)) (h2 : d = .held v0) : v = v0 := by
  unfold heldElem at h
  simp only [Option.some.injEq, Prod.mk.injEq] at h
  rw [h2] at h
  exact DataW.held.inj h.1
theorem txsB_small {bs : List Bat} (hok : bsOk bs = true) {d : Bytes} {t : Bytes} (h : t ∈ txsB bs d) : t.length ≤ 20 := by
  unfold txsB at h
  split at h
  · rename_i b hb
    have h1 := List.mem_of_find?_eq_some hb
    unfold bsOk at hok
    have h2 := (of_decide_eq_true hok).2.1 b h1
    unfold batCode at h2
    split at h2
    · simp at h2
    · split at h2
      · simp at h2
      · split at h2
        · rename_i h3
          have := (List.all_eq_true.1 h3) t h
          unfold txLen at this
          have := of_decide_eq_true this
          omega
        · simp at h2
  · simp at h
theorem addT_yes {acc : List Bytes} {t : Bytes} (h : t ∈ acc) : addT acc t = acc := by unfold addT; rw [if_pos h]
theorem addT_no {acc : List Bytes} {t : Bytes} (h : ¬ t ∈ acc) : addT acc t = acc ++ [t] := by unfold addT; rw [if_neg h]
theorem map_strV_snoc (l : List Bytes) (t : Bytes) : (l ++ [t]).map strV = l.map strV ++ [strV t] := by simp
theorem blk_no {L : List Crt} {bs : List Bat} {k : Bytes} (M : List Nat) (h : findCode L k ≠ 0) : blkCode L bs k M = findCode L k ∧ blkOut L bs k M = [] := by
  have e : blkCode L bs k M = findCode L k := by unfold blkCode; rw [if_pos h]
  exact ⟨e, by unfold blkOut; rw [e, if_neg h]⟩
theorem blk_bad {L : List Crt} {bs : List Bat} {k : Bytes} (M : List Nat) (h : findCode L k = 0) (h2 : bsCode bs ≠ 0) : blkCode L bs k M = bsCode bs ∧ blkOut L bs k M = [] := by
  have e : blkCode L bs k M = bsCode bs := by unfold blkCode; rw [if_neg (by simp [h]), if_pos h2]
  exact ⟨e, by unfold blkOut; rw [e, if_neg h2]⟩
theorem blk_none {L : List Crt} {bs : List Bat} {k : Bytes} {M : List Nat} (h : findCode L k = 0) (h2 : bsCode bs = 0) (h3 : blkHas bs (blkDs L M) = false) : blkCode L bs k M = 8 ∧ blkOut L bs k M = [] := by
  have e : blkCode L bs k M = 8 := by unfold blkCode; rw [if_neg (by simp [h]), if_neg (by simp [h2]), if_neg (by simp [h3])]
  exact ⟨e, by unfold blkOut; rw [e, if_neg (by simp)]⟩
theorem blk_yes {L : List Crt} {bs : List Bat} {k : Bytes} {M : List Nat} (h : findCode L k = 0) (h2 : bsCode bs = 0) (h3 : blkHas bs (blkDs L M) = true) : blkCode L bs k M = 0 ∧ blkOut L bs k M = addDs bs [] (blkDs L M) := by
  have e : blkCode L bs k M = 0 := by unfold blkCode; rw [if_neg (by simp [h]), if_neg (by simp [h2]), if_pos h3]
  exact ⟨e, by unfold blkOut; rw [e, if_pos rfl]⟩
set_option maxRecDepth 100000 in
set_option maxHeartbeats 8000000 in
theorem oBlock_any {G G2 G3 : Nat → Prop} {L : List Crt} {bs : List Bat} {k : Bytes} (v vb vk : Value) (w : World) (h : RdS RCert G w v L) (hs : RdS RBat G3 w vb bs) (hk : RdB G2 w vk k) (ht : Tabs w) (hok : dagOk L = true) :
    Calls Tryd.prog 25 #[.agg #[v], vb, vk] w fun e w' => ∃ (v' : Value) (M : List Nat), e = .returned (.tuple #[v', .int .i64 (blkCode L bs k M)]) ∧ (0 ≤ idxP (isB k) (crtSums L) → bsCode bs = 0 → IsHist L (placeP L k) M) ∧ RdT (fun b => w.heap.size ≤ b) w' v' (blkOut L bs k M) ∧ Below w.heap.size w w' := by
  have hmm := @run_makeMap Tryd.prog
  have hl4 := (dagOk_iff.1 hok).1
  have HH := Lib.hid (fun c (hc : c ∈ L) => (crt_partsP ((dagOk_iff.1 hok).2.1 c hc)).1)
  obtain ⟨adv, capv, rfl, hcv, hcm⟩ := h.form
  obtain ⟨adk, capk, rfl, hck, hckm⟩ := hk.form
  obtain ⟨adb, capb, rfl, hcb, hcbm⟩ := hs.form
  unfold maxLen at hcm hckm hcbm
  have hb0 := (Below.refl w.heap.size w).alloc (Nat.le_refl _) (.cells #[.slice adv L.length capv] 30)
  have HV := Lib.hid ((h.mono (G' := fun _ => True) (fun _ _ => trivial)).below hb0 (fun _ h => h))
  have HS := Lib.hid ((hs.mono (G' := fun _ => True) (fun _ _ => trivial)).below hb0 (fun _ h => h))
  have HK := Lib.hid ((hk.mono (G' := fun _ => True) (fun _ _ => trivial)).below hb0 (fun _ h => h))
  have HT := Lib.hid (ht.belowS hb0)
  have HB := Lib.hid hb0
  have HX := Lib.hid (BoxAt.new w [.slice adv L.length capv] 30)
  have HOK := Lib.hid hok
  clear h hk hs hok hb0 ht
  go_enter Tryd.func25, Tryd.ntmps25
  go_upto_region 1 with fail
  obtain ⟨w0, hw0⟩ : ∃ w0, w0 = w.alloc (.cells #[.slice adv L.length capv] 30) := ⟨_, rfl⟩
  rw [← hw0] at HV HS HT HK HX HB ⊢
  have hz0 := HX.out.lt
  clear hw0
  replace HV := Lib.hid ((HV.out.low (by decide)).mono (G' := fun b => b < w0.heap.size) (fun b hb => hb.2))
  have hw00 : w0.heap.size ≤ w0.heap.size := Nat.le_refl _
  have x0 := HX.out.cell 0 rfl
  go_wp2_with fail
  refine (dagFind_any _ _ _ HV.out HK.out HT.out HOK.out).mono ?_
  rintro e w1 ⟨vb, vp, vv, rfl, hvb, hvp, hvv, hb1⟩
  have hz1 := hb1.size
  obtain ⟨fb, fbc, rfl, -, -⟩ := hvb.form
  obtain ⟨fp, fpc, rfl, -, -⟩ := hvp.form
  obtain ⟨fv, fvc, rfl, -, -⟩ := hvv.form
  replace HV := Lib.hid (HV.out.below hb1 (fun _ h => h))
  replace HS := Lib.hid (HS.out.below hb1 (fun _ h => h))
  replace HK := Lib.hid (HK.out.below hb1 (fun _ h => h))
  replace HT := Lib.hid (HT.out.belowS hb1)
  replace HX := Lib.hid (HX.out.belowS hb1)
  replace HB := Lib.hid (HB.out.trans (hb1.mono HB.out.size))
  clear hvb hvp hvv hb1 x0
  have HFC := Lib.hid (show findCode L k = if idxP (isB k) (crtSums L) < 0 then 8 else 0 from rfl)
  generalize findCrt L k = F at *
  go_upto_region 2 with fail
  obtain ⟨w2, hwl⟩ : ∃ w2, w2 = (w1.alloc (.cells #[.int .i64 F.h.a, .int .i64 F.h.r, .slice fb F.h.bs.length fbc, .slice fp F.h.ps.length fpc, .slice fv F.vs.length fvc] 45)) := ⟨_, rfl⟩
  have hBl : Below w1.heap.size w1 w2 := by rw [hwl]; exact ((Below.refl _ _).alloc (by first | exact Nat.le_refl _ | (simp; done) | (simp; omega)) _)
  have hz12 := hBl.size
  rw [← hwl]
  replace HV := Lib.hid (HV.out.below hBl (fun _ h => h))
  replace HS := Lib.hid (HS.out.below hBl (fun _ h => h))
  replace HK := Lib.hid (HK.out.below hBl (fun _ h => h))
  replace HT := Lib.hid (HT.out.belowS hBl)
  replace HX := Lib.hid (HX.out.belowS hBl)
  replace HB := Lib.hid (HB.out.trans (hBl.mono HB.out.size))
  clear hwl hBl
  have hz2 := HB.out.size
  have hz02 : w0.heap.size ≤ w2.heap.size := Nat.le_trans hz1 hz12
  by_cases hneg : idxP (isB k) (crtSums L) < 0
  · have HR := Lib.hid (findCode_no hneg)
    have HNG := Lib.hid hneg
    have HBN := Lib.hid (blk_no (bs := bs) [] (show findCode L k ≠ 0 by rw [HR.out]; decide))
    rw [HR.out]
    clear hneg
    go_wp2
    refine bodyPost_ret (v := .tuple #[.slice none 0 0, .int .i64 8]) (by simp [results, Tryd.results25, go_sem]) rfl ⟨_, [], by rw [HBN.out.1, HR.out], fun h => absurd HNG.out (by omega), by rw [HBN.out.2]; exact RdS.nil _ _ _, HB.out⟩
  have HYS := Lib.hid (findCode_yes (k := k) (L := L) (by omega))
  have HNG := Lib.hid hneg
  rw [HYS.out.1]
  clear hneg
  have hpl := HYS.out.2.1
  go_wp2_with fail
  refine (checkBatches_any _ _ HS.out HT.out).mono ?_
  rintro e w3 ⟨rfl, hb3⟩
  have hz03 : w0.heap.size ≤ w3.heap.size := Nat.le_trans hz02 hb3.size
  replace HV := Lib.hid (HV.out.below hb3 (fun _ h => h))
  replace HS := Lib.hid (HS.out.below hb3 (fun _ h => h))
  replace HK := Lib.hid (HK.out.below hb3 (fun _ h => h))
  replace HT := Lib.hid (HT.out.belowS hb3)
  replace HX := Lib.hid (HX.out.belowS hb3)
  replace HB := Lib.hid (HB.out.trans (hb3.mono HB.out.size))
  clear hb3
  by_cases hbs : bsCode bs = 0
  · have HBS := Lib.hid hbs
    have HBO := Lib.hid (bs_ok hbs)
    have hb8 : bs.length ≤ 800 := by have h1 := bs_ok hbs; unfold bsOk at h1; exact (of_decide_eq_true h1).1
    rw [hbs]
    clear hbs
    have hz3 := HB.out.size
    replace HS := Lib.hid ((HS.out.low (by decide)).mono (G' := fun b => b < w3.heap.size) (fun b hb => hb.2))
    go_wp2_with fail
    go_loopw [45] (fun u wr => ∃ (q : Nat) (D : DataW Value), q ≤ bs.length ∧ u = .int .i64 q ∧ TxMap (fun b => b < w3.heap.size) wr (bs.take q) D ∧ wr.ownsMap Tryd.prog 9 heldElem w3.heap.size q D ∧ Below w3.heap.size w3 wr) (fun u _ => bs.length - (intOf u).toNat)
    case atStart => exact ⟨0, .map [], Nat.zero_le _, rfl, by simpa using TxMap.nil _ _, World.ownsMap_made w3 Tryd.prog 9 heldElem, (Below.refl _ _).alloc (Nat.le_refl _) _⟩
    case round =>
      obtain ⟨q, D, hq, rfl, hTX, hOM, hBr⟩ := hrel
      have HTX := Lib.hid hTX
      have HOM := Lib.hid hOM
      have HBr := Lib.hid hBr
      have hzr := hBr.size
      have hzm := hOM.lt
      clear hTX hOM
      by_cases hlt : q < bs.length
      · obtain ⟨b, o, vt, rfl, -, e0, e1, e2, hr, hls⟩ := (HS.out.below hBr (fun _ h => h)).bat q hlt
        obtain ⟨ad2, cap2, rfl, -, -⟩ := hr.form
        have i0 : (0 : Int) ≤ (q : Int) := by omega
        have i1 : (q : Int) < (bs.length : Int) := by omega
        have wq : IntKind.i64.wrap ((q : Int) + 1) = (q : Int) + 1 := IntWalk.i64_in _ (by omega)
        have HRD := Lib.hid hr
        have HLS := Lib.hid hls
        have HCB := Lib.hid (show batCode bs[q] = 0 by have h1 := HBO.out; unfold bsOk at h1; exact (of_decide_eq_true h1).2.1 _ (List.getElem_mem hlt))
        have HNW := Lib.hid (map_nodup_new HBO.out hlt)
        have HTK := Lib.hid (List.take_succ_eq_append_getElem hlt)
        generalize hlk : bs[q] = x at *
        clear hr hls hBr hlk
        go_upto_region 11 with fail
        obtain ⟨wa, hwl⟩ : ∃ wa, wa = (wr.alloc (.cells #[.int .i64 x.a, .int .i64 x.n, .slice ad2 x.txs.length cap2] 58)) := ⟨_, rfl⟩
        have hBl : Below wr.heap.size wr wa := by rw [hwl]; exact ((Below.refl _ _).alloc (by first | exact Nat.le_refl _ | (simp; done) | (simp; omega)) _)
        have HXX := Lib.hid (show BoxAt wa wr.heap.size [.int .i64 x.a, .int .i64 x.n, .slice ad2 x.txs.length cap2] 58 by rw [hwl]; exact BoxAt.new wr [_, _, _] _)
        replace HTX := Lib.hid (HTX.out.below hBl)
        replace HOM := Lib.hid (ownsMap_belowG HOM.out hBl)
        have hza := hBl.size
        rw [← hwl]
        replace HRD := Lib.hid (HRD.out.below hBl (fun _ h => h))
        replace HBr := Lib.hid (HBr.out.trans (hBl.mono HBr.out.size))
        clear hwl hBl
        have p0 := HXX.out.cell 0 rfl
        have p1 := HXX.out.cell 1 rfl
        have p2 := HXX.out.cell 2 rfl
        clear e0 e1 e2
        go_wp2_with fail
        refine (batchDigest_any x _ wa HRD.out HLS.out (HT.out.belowS HBr.out)).mono ?_
        rintro e wb ⟨v2, rfl, hd, hbb⟩
        have hdd : batD x = batSum x := by unfold batD; rw [if_pos HCB.out]
        rw [hdd] at hd
        rw [HCB.out]
        obtain ⟨add, capd, rfl, -, -⟩ := hd.form
        have HDD := Lib.hid hd
        replace HXX := Lib.hid (HXX.out.belowS hbb)
        replace HRD := Lib.hid (HRD.out.below hbb (fun _ h => h))
        replace HTX := Lib.hid (HTX.out.below hbb)
        replace HOM := Lib.hid (ownsMap_belowG HOM.out hbb)
        replace HBr := Lib.hid (HBr.out.trans (hbb.mono HBr.out.size))
        have hzb := hbb.size
        clear hd hbb p0 p1 p2 hdd
        have h32 := batSum_length x
        have HKEY := Lib.hid (keyStr (batSum x) (by omega))
        clear h32
        have hcv := conv_bytes_str (P := Tryd.prog) Tryd.underlying39 Tryd.underlying5 Tryd.underlying9 HDD.out
        have p2 := HXX.out.cell 2 rfl
        go_wp2_with (at_mapUpdate; refine wpList_mapUpdate_own _ rfl _ _ _ 73 rfl 9 48 lawStr Tryd.underlying73 heldElem w3.heap.size q D rfl HOM.out (by unfold maxLen; omega) _ _ _ rfl rfl HKEY.out _ [] rfl ?_; intro w4 hown4 hgr4)
        have hBg : Below w3.heap.size w3 w4 := HBr.out.grown hgr4 HBr.out.size (fun j hj => by cases hj; exact Nat.le_refl _)
        have HT4 := Lib.hid (show TxMap (fun b => b < w3.heap.size) w4 (bs.take (q + 1)) (D.put (litB (batSum x)) (.held (.slice ad2 x.txs.length cap2))) by
          rw [HTK.out]
          exact (HTX.out.put HOM.out.isMap HNW.out HRD.out).keep (Keep.grown hgr4 (fun k hk h => by cases hk; omega)))
        have HO4 := Lib.hid hown4
        have HB4 := Lib.hid hBg
        clear hown4 hgr4 hBg hcv p2
        go_wp2
        go_roundw
        case rel => exact ⟨q + 1, _, by omega, by go_num, HT4.out, HO4.out, HB4.out⟩
        case measure => simp [intOf]; omega
      · obtain rfl : q = bs.length := by omega
        rw [List.take_length] at HTX
        have t1 : ¬ (bs.length : Int) < (bs.length : Int) := by omega
        replace HV := Lib.hid (HV.out.below HBr.out (fun _ h => h))
        replace HK := Lib.hid (HK.out.below HBr.out (fun _ h => h))
        replace HT := Lib.hid (HT.out.belowS HBr.out)
        replace HX := Lib.hid (HX.out.belowS HBr.out)
        replace HB := Lib.hid (HB.out.trans (HBr.out.mono HB.out.size))
        clear hBr
        go_upto_region 16 with fail
        obtain ⟨w5, hw5⟩ : ∃ w5, w5 = wr.alloc (.map #[] 0) := ⟨_, rfl⟩
        have hb5 : Below wr.heap.size wr w5 := by rw [hw5]; exact (Below.refl _ _).alloc (Nat.le_refl _) _
        have HSM := Lib.hid (show w5.ownsMap Tryd.prog 9 (unitElem (H := Unit)) wr.heap.size 0 (setB []) by rw [hw5]; simpa [setB_nil] using World.ownsMap_made wr Tryd.prog 9 (unitElem (H := Unit)))
        have hz51 : w5.heap.size ≤ wr.heap.size + 1 := by rw [hw5]; simp
        rw [← hw5]
        clear hw5
        replace HV := Lib.hid (HV.out.below hb5 (fun _ h => h))
        replace HK := Lib.hid (HK.out.below hb5 (fun _ h => h))
        replace HT := Lib.hid (HT.out.belowS hb5)
        replace HX := Lib.hid (HX.out.belowS hb5)
        replace HB := Lib.hid (HB.out.trans (hb5.mono HB.out.size))
        replace HTX := Lib.hid (HTX.out.below hb5)
        replace HOM := Lib.hid (ownsMap_belowG HOM.out hb5)
        have hz5 := HSM.out.lt
        clear hb5
        refine wp_region_held_drew (S := fun w' => Below w5.heap.size w5 w') (by kernel_rfl) (by exact (Below.refl _ _).drew) (fun hHeld => ?_)
        obtain ⟨wd, hwd⟩ : ∃ wd, wd = w5.drew := ⟨_, rfl⟩
        rw [← hwd] at hHeld ⊢
        have HBd := Lib.hid (show Below w5.heap.size w5 wd from hHeld)
        have zwd : w5.heap.size ≤ wd.heap.size := by rw [hwd]; exact Nat.le_refl _
        clear hwd
        refine wpAnyH_take (i := 0) (v := .agg #[.slice adv L.length capv]) rfl (by kernel_rfl) (by kernel_rfl) (by kernel_rfl) (fun _ _ _ h => h) (Or.inl ⟨by rfl, fun w hSw => ?_⟩) hHeld ?_
        · have q0 := (HX.out.belowS hSw).cell 0 rfl; clear hSw; go_simp
        try simp only [Act.put, List.getElem_toArray, List.getElem_cons_succ, List.getElem_cons_zero, List.setIfInBounds_toArray, List.set_cons_zero, List.set_cons_succ]
        refine wpAnyH_take (i := 1) (v := .agg #[.slice adv L.length capv]) rfl (by kernel_rfl) (by kernel_rfl) (by kernel_rfl) (fun _ _ _ h => h) (Or.inl ⟨by rfl, fun w hSw => ?_⟩) hHeld ?_
        · have q0 := (HX.out.belowS hSw).cell 0 rfl; clear hSw; go_simp
        try simp only [Act.put, List.getElem_toArray, List.getElem_cons_succ, List.getElem_cons_zero, List.setIfInBounds_toArray, List.set_cons_zero, List.set_cons_succ]
        refine wpAnyH_take (i := 3) (v := .slice adk k.length capk) rfl (by kernel_rfl) (by kernel_rfl) (by kernel_rfl) (fun _ _ _ h => h) (Or.inl ⟨by rfl, fun w hSw => ?_⟩) hHeld ?_
        · clear hSw; go_simp; all_goals (try first | rfl | omega)
        try simp only [Act.put, List.getElem_toArray, List.getElem_cons_succ, List.getElem_cons_zero, List.setIfInBounds_toArray, List.set_cons_zero, List.set_cons_succ]
        refine wpAnyH_take (i := 6) (v := .int .i64 0) rfl (by kernel_rfl) (by kernel_rfl) (by kernel_rfl) (fun _ _ _ h => h) (Or.inl ⟨by rfl, fun w hSw => ?_⟩) hHeld ?_
        · clear hSw; go_simp; all_goals (try first | rfl | omega)
        try simp only [Act.put, List.getElem_toArray, List.getElem_cons_succ, List.getElem_cons_zero, List.setIfInBounds_toArray, List.set_cons_zero, List.set_cons_succ]
        refine wpAnyH_ready (rs := [2]) (by kernel_rfl) (by simp) ?_
        refine AllReadyH.cons rfl (fun K hK => ?_) ?_
        · rw [if_pos (by rfl)]
          go_simp
          go_at_call 39
          refine (oall_ok _ _ (HV.out.below HBd.out (fun _ h => h)) HH.out (by omega) (HT.out.belowS HBd.out)).mono ?_
          rintro e w6 ⟨vds, rfl, hds, hb_w6⟩
          obtain ⟨ads, cds, rfl, -, -⟩ := hds.form
          have HDS := Lib.hid (hds.mono (G' := fun _ => True) (fun _ _ => trivial))
          clear hds
          have HBw6 := Lib.hid (HBd.out.trans (hb_w6.mono (Below.size HBd.out)))
          have zw6 := hb_w6.size
          clear hb_w6
          show K _ _
          refine hK.out _ _ (by exact HBw6.out) (fun hHeld => ?_)
          clear hK K
          try simp only [Act.put, List.getElem_toArray, List.getElem_cons_succ, List.getElem_cons_zero, List.setIfInBounds_toArray, List.set_cons_zero, List.set_cons_succ]
          refine wpAnyH_ready (rs := [4]) (by kernel_rfl) (by simp) ?_
          refine AllReadyH.cons rfl (fun K hK => ?_) ?_
          · rw [if_pos (by rfl)]
            go_simp
            go_at_call 40
            refine (history_any _ _ _ _ (HV.out.below HBw6.out (fun _ h => h)) HDS.out (HK.out.below HBw6.out (fun _ h => h)) HOK.out hpl HYS.out.2.2).mono ?_
            rintro e w7 ⟨vi, M, rfl, hM, hI, hb_w7⟩
            have HM := Lib.hid hM
            obtain ⟨adi, ci, rfl, hci, hmi⟩ := hI.form
            rw [intsOf_len] at hci hI ⊢
            have HI := Lib.hid (hI.mono (G' := fun b => w5.heap.size ≤ b) (fun b hb => by have h0 : w6.heap.size ≤ b := hb; omega))
            clear hM hI
            have HBw7 := Lib.hid (HBw6.out.trans (hb_w7.mono (Below.size HBw6.out)))
            have zw7 := hb_w7.size
            clear hb_w7
            show K _ _
            refine hK.out _ _ (by exact HBw7.out) (fun hHeld => ?_)
            clear hK K
            try simp only [Act.put, List.getElem_toArray, List.getElem_cons_succ, List.getElem_cons_zero, List.setIfInBounds_toArray, List.set_cons_zero, List.set_cons_succ]
            refine wpAnyH_take (i := 5) (v := .int .i64 (M.length : Int)) rfl (by kernel_rfl) (by kernel_rfl) (by kernel_rfl) (fun _ _ _ h => h) (Or.inl ⟨by rfl, fun w hSw => ?_⟩) hHeld ?_
            · clear hSw; go_simp; all_goals (try first | rfl | omega)
            try simp only [Act.put, List.getElem_toArray, List.getElem_cons_succ, List.getElem_cons_zero, List.setIfInBounds_toArray, List.set_cons_zero, List.set_cons_succ]
            refine wpAnyH_done (by kernel_rfl) ?_ _
            obtain ⟨w8, hw8⟩ : ∃ w8, w8 = w7 := ⟨_, rfl⟩
            rw [← hw8] at HI HBw7 ⊢
            replace HV := Lib.hid (HV.out.below HBw7.out (fun _ h => h))
            replace HX := Lib.hid (HX.out.belowS HBw7.out)
            replace HB := Lib.hid (HB.out.trans (HBw7.out.mono HB.out.size))
            replace HTX := Lib.hid (HTX.out.below HBw7.out)
            replace HOM := Lib.hid (ownsMap_belowG HOM.out HBw7.out)
            replace HSM := Lib.hid (ownsMap_belowG HSM.out HBw7.out)
            have hz8 := HSM.out.lt
            have hz8m := HOM.out.lt
            have hzw8 := HB.out.size
            have hml := HM.out.len
            have HHM := Lib.hid (fun j hj => HM.out.lt j hj)
            clear hHeld HBw7 HBd HBw6 HDS zwd zw6 zw7 hw8
            generalize hSB : wr.heap.size = SB at *
            have s1 : w3.heap.size < SB := by omega
            have s2 : SB < w5.heap.size := by omega
            have s3 : w5.heap.size ≤ w8.heap.size := by omega
            have s4 : w.heap.size < SB := by omega
            clear hSB
            replace HI := Lib.hid (HI.out.low (by decide))
            go_wp2_with fail
            go_loopw [16, 67] (fun o u wx => ∃ (i : Nat) (ad : Option Addr) (cap : Nat) (ac : List Bytes), i ≤ M.length ∧ u = .int .i64 i ∧ o = .slice ad ac.length cap ∧ ac = addDs bs [] (blkDs L (M.take i)) ∧ blkHas bs (blkDs L (M.take i)) = true ∧ ac.length ≤ 12 * i ∧ wx.ownsRow w8.heap.size 9 1 (.slice ad ac.length cap) ac.length (ac.map strV) ∧ wx.ownsMap Tryd.prog 9 (unitElem (H := Unit)) SB ac.length (setB ac) ∧ ButB w8.heap.size SB w8 wx) (fun _ u _ => M.length - (intOf u).toNat)
            case atStart => exact ⟨0, none, 0, [], Nat.zero_le _, rfl, rfl, rfl, rfl, Nat.zero_le _, World.ownsRow_nil _ _ _ _, HSM.out, ButB.refl _ _ _⟩
            case round =>
              rename World => wx
              obtain ⟨i, ad, cap, ac, hi, rfl, rfl, hac, hhas, hacl, hOW, hSM, hBx⟩ := hrel
              have HAC := Lib.hid hac
              have HHS := Lib.hid hhas
              have HOW := Lib.hid hOW
              have HSc := Lib.hid hSM
              have HBx := Lib.hid hBx
              have hzx := hBx.size
              have HXx := Lib.hid (hBx.box HX.out (by omega) (by omega))
              have HIx := Lib.hid (HI.out.keep (hBx.keep (fun b hb => by omega)) (fun _ h => h))
              clear hac hhas hOW hSM hBx
              by_cases hlt : i < M.length
              · have i0 : (0 : Int) ≤ (i : Int) := by omega
                have i1 : (i : Int) < (M.length : Int) := by omega
                have wi : IntKind.i64.wrap ((i : Int) + 1) = (i : Int) + 1 := IntWalk.i64_in _ (by omega)
                have hil : i < (intsOf M).length := by rw [intsOf_len]; exact hlt
                obtain ⟨bi, oi, rfl, -, ei⟩ := HIx.out.cell i hil
                have e1 : (intsOf M)[i] = (M[i] : Int) := by simp [intsOf]
                rw [e1] at ei
                have hmj := HHM.out _ (List.getElem_mem hlt)
                have HTK := Lib.hid (blkDs_take (L := L) hlt)
                have HMM := Lib.hid (List.getElem_mem hlt)
                obtain ⟨bc, oc, xb, xp, xv, rfl, hgc, d0, d1, d28, d3, d4, hxb, hxp, hxv⟩ := HV.out.crt M[i] hmj
                have d2 := (HBx.out.keep (G := fun b => b < w0.heap.size) (fun b hb => by omega)) _ _ _ hgc d28
                have HCG := Lib.hid (getD_at hmj)
                have HBL := Lib.hid (show L[M[i]].h.bs.length ≤ 3 from (hdr_partsD (HH.out _ (List.getElem_mem hmj))).2.2.1)
                generalize M[i] = m at *
                have m0 : (0 : Int) ≤ (m : Int) := by omega
                have m1 : (m : Int) < (L.length : Int) := by omega
                generalize L[m] = c at *
                obtain ⟨ub, ubc, rfl, -, -⟩ := hxb.form
                have hb3 := HBL.out
                have HCB := Lib.hid hxb
                have x0 := HXx.out.cell 0 rfl
                clear hxb hxp hxv d0 d1 d28 d3 d4 e1
                go_wp2_with fail
                go_loopw [16, 79] (fun o u wy => ∃ (q : Nat) (ad : Option Addr) (cap : Nat) (ac2 : List Bytes), q ≤ c.h.bs.length ∧ u = .int .i64 q ∧ o = .slice ad ac2.length cap ∧ ac2 = addDs bs ac (c.h.bs.take q) ∧ blkHas bs (c.h.bs.take q) = true ∧ ac2.length ≤ 12 * i + 4 * q ∧ wy.ownsRow w8.heap.size 9 1 (.slice ad ac2.length cap) ac2.length (ac2.map strV) ∧ wy.ownsMap Tryd.prog 9 (unitElem (H := Unit)) SB ac2.length (setB ac2) ∧ ButB w8.heap.size SB w8 wy) (fun _ u _ => c.h.bs.length - (intOf u).toNat)
                case atStart => exact ⟨0, ad, cap, ac, Nat.zero_le _, rfl, rfl, rfl, rfl, by omega, HOW.out, HSc.out, HBx.out⟩
                case round =>
                  rename World => wy
                  obtain ⟨q, ad2, cap2, ac2, hq, rfl, rfl, hac2, hhas2, hacl2, hOW, hSM, hBy⟩ := hrel
                  have HAC2 := Lib.hid hac2
                  have HHS2 := Lib.hid hhas2
                  have HOW2 := Lib.hid hOW
                  have HSy := Lib.hid hSM
                  have HBy := Lib.hid hBy
                  have hzy := hBy.size
                  have HTXy := Lib.hid (HTX.out.keep (hBy.keep (fun b hb => by omega)))
                  have HOy := Lib.hid (hBy.map HOM.out (by omega) (by omega))
                  have HCBy := Lib.hid (HCB.out.keep (hBy.keep (fun b hb => by omega)) (fun _ h => h))
                  clear hac2 hhas2 hOW hSM hBy
                  by_cases hqt : q < c.h.bs.length
                  · have q0 : (0 : Int) ≤ (q : Int) := by omega
                    have q1 : (q : Int) < (c.h.bs.length : Int) := by omega
                    have wq : IntKind.i64.wrap ((q : Int) + 1) = (q : Int) + 1 := IntWalk.i64_in _ (by omega)
                    obtain ⟨bd, od, vd, rfl, -, ed, hd⟩ := HCBy.out.cellS q hqt
                    obtain ⟨add, capd, rfl, -, hdm⟩ := hd.form
                    have HDD := Lib.hid hd
                    have hdl := hd.len
                    unfold maxLen at hdl hdm
                    have HKEY := Lib.hid (keyStr c.h.bs[q] (by omega))
                    have HMD := Lib.hid (List.getElem_mem hqt)
                    have HAT := Lib.hid (addDs_take (bs := bs) (acc := ac) hqt)
                    have HHT := Lib.hid (blkHas_take (bs := bs) hqt)
                    generalize c.h.bs[q] = dg at *
                    have hcv := conv_bytes_str (P := Tryd.prog) Tryd.underlying39 Tryd.underlying5 Tryd.underlying9 HDD.out
                    clear hd hdl hdm
                    by_cases hin : dg ∈ bs.map batSum
                    · have HHD := Lib.hid (show has D (litB dg) = true by rw [HTXy.out.has]; exact decide_eq_true hin)
                      obtain ⟨bt, hbt, hbs2, htx⟩ := txsB_mem hin
                      obtain ⟨v0, hv0, hr0⟩ := HTX.out.at_ bt hbt
                      rw [hbs2] at hv0
                      rw [← htx] at hr0
                      obtain ⟨adt, capt, rfl, -, -⟩ := hr0.form
                      have HV0 := Lib.hid hv0
                      have h4 := bsOk_txs HBO.out hbt
                      rw [← htx] at h4
                      have HSML := Lib.hid (fun (t : Bytes) (ht : t ∈ txsB bs dg) => txsB_small HBO.out ht)
                      have HR0 := Lib.hid (show RdT (fun b => b < w3.heap.size) w8 _ (txsB bs dg) from hr0)
                      have HHT2 := Lib.hid (show blkHas bs (c.h.bs.take (q + 1)) = true by rw [HHT.out, HHS2.out, decide_eq_true hin]; rfl)
                      clear hv0 hr0 htx hbs2 hbt hin HHT
                      generalize hTS : txsB bs dg = ts at *
                      clear hTS
                      go_upto_region 25 with (at_lookup; refine wpList_lookup_own_ok _ rfl _ _ 73 rfl 9 48 lawStr Tryd.underlying73 heldElem (zeroSl _) (.held (.slice none 0 0)) [] rfl w3.heap.size bs.length D rfl HOy.out _ _ rfl HKEY.out ?_; intro vz ps hvz; rw [HHD.out]; obtain rfl := held_eq hvz (HV0.out _))
                      clear hcv ed
                      go_wp2_with fail
                      go_loopw [16, 94] (fun o u wz => ∃ (r : Nat) (ad : Option Addr) (cap : Nat) (ac3 : List Bytes), r ≤ ts.length ∧ u = .int .i64 r ∧ o = .slice ad ac3.length cap ∧ ac3 = addTs ac2 (ts.take r) ∧ ac3.length ≤ 12 * i + 4 * q + r ∧ wz.ownsRow w8.heap.size 9 1 (.slice ad ac3.length cap) ac3.length (ac3.map strV) ∧ wz.ownsMap Tryd.prog 9 (unitElem (H := Unit)) SB ac3.length (setB ac3) ∧ ButB w8.heap.size SB w8 wz) (fun _ u _ => ts.length - (intOf u).toNat)
                      case atStart => exact ⟨0, ad2, cap2, ac2, Nat.zero_le _, rfl, rfl, rfl, by omega, HOW2.out, HSy.out, HBy.out⟩
                      case round =>
                        rename World => wz
                        obtain ⟨r, ad3, cap3, ac3, hr, rfl, rfl, hac3, hacl3, hOW, hSM, hBz⟩ := hrel
                        have HAC3 := Lib.hid hac3
                        have HOW3 := Lib.hid hOW
                        have HSz := Lib.hid hSM
                        have HBz := Lib.hid hBz
                        have hzz := hBz.size
                        have HRz := Lib.hid (HR0.out.keep (hBz.keep (fun b hb => by omega)) (fun _ h => h))
                        clear hac3 hOW hSM hBz
                        by_cases hrt : r < ts.length
                        · have r0 : (0 : Int) ≤ (r : Int) := by omega
                          have r1 : (r : Int) < (ts.length : Int) := by omega
                          have wr1 : IntKind.i64.wrap ((r : Int) + 1) = (r : Int) + 1 := IntWalk.i64_in _ (by omega)
                          obtain ⟨bt2, ot2, rfl, -, et⟩ := HRz.out.cell r hrt
                          have HKT := Lib.hid (keyStr ts[r] (by have := HSML.out _ (List.getElem_mem hrt); omega))
                          have HA3 := Lib.hid (addTs_take (acc := ac2) hrt)
                          generalize ts[r] = tx at *
                          by_cases hmem : tx ∈ ac3
                          · have HH2 := Lib.hid (show has (setB ac3) (litB tx) = true by rw [has_setB]; exact decide_eq_true hmem)
                            have HN3 := Lib.hid (show ac3 = addTs ac2 (ts.take (r + 1)) by rw [HA3.out, ← HAC3.out, addT_yes hmem])
                            clear hmem
                            go_wp2_with (at_lookup; refine wpList_lookup_own_unit _ rfl _ _ 74 rfl 9 76 lawStr Tryd.underlying74 (zeroUnit _) SB ac3.length _ rfl HSz.out _ _ rfl HKT.out ?_; rw [HH2.out])
                            go_roundw
                            case rel => exact ⟨r + 1, ad3, cap3, ac3, by omega, by go_num, rfl, HN3.out, by omega, ownsRow_below HOW3.out ((Below.refl _ _).alloc (Nat.le_refl _) _), ownsMap_belowG HSz.out ((Below.refl _ _).alloc (Nat.le_refl _) _), HBz.out.alloc (by omega) _⟩
                            case measure => simp [intOf]; omega
                          · have HH2 := Lib.hid (show has (setB ac3) (litB tx) = false by rw [has_setB]; exact decide_eq_false hmem)
                            have HN3 := Lib.hid (show ac3 ++ [tx] = addTs ac2 (ts.take (r + 1)) by rw [HA3.out, ← HAC3.out, addT_no hmem])
                            clear hmem
                            go_upto_region 30 with (at_lookup; refine wpList_lookup_own_unit _ rfl _ _ 74 rfl 9 76 lawStr Tryd.underlying74 (zeroUnit _) SB ac3.length _ rfl HSz.out _ _ rfl HKT.out ?_; rw [HH2.out])
                            obtain ⟨wa, hwa⟩ : ∃ wa, wa = wz.alloc (.cells #[] 76) := ⟨_, rfl⟩
                            have hba : Below wz.heap.size wz wa := by rw [hwa]; exact (Below.refl _ _).alloc (Nat.le_refl _) _
                            rw [← hwa]
                            clear hwa
                            have hza := hba.size
                            replace HOW3 := Lib.hid (ownsRow_below HOW3.out hba)
                            replace HSz := Lib.hid (ownsMap_belowG HSz.out hba)
                            replace HBz := Lib.hid (HBz.out.trans (ButB.ofBelow (hba.mono (by omega))))
                            clear hba
                            go_upto_region 31 with (at_mapUpdate; refine wpList_mapUpdate_own _ rfl _ _ _ 74 rfl 9 76 lawStr Tryd.underlying74 (unitElem (H := Unit)) SB ac3.length _ rfl HSz.out (by unfold maxLen; omega) _ _ _ rfl rfl HKT.out _ [] unitElem_mk ?_; intro wu hownu hgru)
                            have hzu := hgru.size
                            have HSu := Lib.hid (show wu.ownsMap Tryd.prog 9 (unitElem (H := Unit)) SB (ac3.length + 1) (setB (ac3 ++ [tx])) by rw [setB_snoc]; exact hownu)
                            have HOu := Lib.hid (show wu.ownsRow w8.heap.size 9 1 (.slice ad3 ac3.length cap3) ac3.length (ac3.map strV) from by
                              obtain ⟨q1, q2⟩ := HOW3.out
                              refine ⟨q1, ?_⟩
                              rcases q2 with q2 | ⟨g', c', cur', hv', hb', hh', r'⟩
                              · exact .inl q2
                              · refine .inr ⟨g', c', cur', hv', hb', ?_, r'⟩
                                rw [hgru.block g' (lt_of_block hh') (by simp; omega)]; exact hh')
                            have HBu := Lib.hid (HBz.out.grown hgru (by omega) (fun k hk => by cases hk; exact .inr rfl))
                            have hovl := HOu.out.lt
                            clear hownu hgru
                            go_wp2_with (at_builtin; refine wpList_append_one rfl _ _ 48 rfl elemST w8.heap.size _ ac3.length (ac3.map strV) rfl (ownsRow_below HOu.out ((Below.refl _ _).alloc (Nat.le_refl _) _)) wu.heap.size 9 [strV tx] rfl (BoxAt.new wu [_] _) rfl (by simp [Value.oneCell']) (by unfold maxLen; omega) (by omega) (by simp; omega) ?_; intro g6 cap6 w6' hown6 hgr6 hat6 hlt6)
                            have HL6 := Lib.hid (show (ac3 ++ [tx]).length = ac3.length + 1 by simp)
                            have HO6 := Lib.hid (show w6'.ownsRow w8.heap.size 9 1 (.slice (some ⟨g6, 0, none⟩) (ac3 ++ [tx]).length cap6) (ac3 ++ [tx]).length ((ac3 ++ [tx]).map strV) by rw [HL6.out, map_strV_snoc]; exact hown6)
                            have HB6 := Lib.hid ((HBu.out.alloc (by omega) (.cells #[strV tx] 9)).grown hgr6 (by simp; omega) (fun k hk => .inl (hovl k hk).1))
                            have HS6 := Lib.hid (show w6'.ownsMap Tryd.prog 9 (unitElem (H := Unit)) SB (ac3 ++ [tx]).length (setB (ac3 ++ [tx])) by
                              rw [HL6.out]
                              exact (ownsMap_belowG HSu.out ((Below.refl _ _).alloc (Nat.le_refl _) _)).kept hgr6 (fun e => by have := (hovl _ e.symm).1; omega))
                            clear hown6 hgr6 hat6
                            go_wp2
                            go_roundw
                            case rel => exact ⟨r + 1, _, cap6, ac3 ++ [tx], by omega, by go_num, by rw [HL6.out], HN3.out, by rw [HL6.out]; omega, HO6.out, HS6.out, HB6.out⟩
                            case measure => simp [intOf]; omega
                        · obtain rfl : r = ts.length := by omega
                          have HN3 := Lib.hid (show ac3 = addDs bs ac (c.h.bs.take (q + 1)) by rw [HAT.out, ← HAC2.out, HAC3.out, List.take_length])
                          have t1 : ¬ (ts.length : Int) < (ts.length : Int) := by omega
                          go_wp2
                          go_roundw
                          case rel => exact ⟨q + 1, ad3, cap3, ac3, by omega, by go_num, rfl, HN3.out, HHT2.out, by omega, HOW3.out, HSz.out, HBz.out⟩
                          case measure => simp [intOf]; omega
                    · have HHD := Lib.hid (show has D (litB dg) = false by rw [HTXy.out.has]; exact decide_eq_false hin)
                      have HBN := Lib.hid (blk_none (k := k) (M := M) HYS.out.1 HBS.out (blkHas_false (mem_blkDs HMM.out (by rw [HCG.out]; exact HMD.out)) hin))
                      have HBE := Lib.hid (HB.out.trans (HBy.out.below (by omega) (by omega)))
                      clear hin HHT
                      go_wp2_with (at_lookup; refine wpList_lookup_own_ok _ rfl _ _ 73 rfl 9 48 lawStr Tryd.underlying73 heldElem (zeroSl _) (.held (.slice none 0 0)) [] rfl w3.heap.size bs.length D rfl HOy.out _ _ rfl HKEY.out ?_; intro vz ps hvz; rw [HHD.out])
                      refine bodyPost_ret (v := .tuple #[.slice none 0 0, .int .i64 8]) (by simp [results, Tryd.results25, go_sem]) rfl ?_
                      exact ⟨_, M, by rw [HBN.out.1], fun _ _ => HM.out, by rw [HBN.out.2]; exact RdS.nil _ _ _, HBE.out⟩
                  · obtain rfl : q = c.h.bs.length := by omega
                    rw [List.take_length] at HAC2 HHS2
                    have HN2 := Lib.hid (show ac2 = addDs bs [] (blkDs L (M.take (i + 1))) by rw [HTK.out, HCG.out, addDs_app, ← HAC.out]; exact HAC2.out)
                    have HHN := Lib.hid (show blkHas bs (blkDs L (M.take (i + 1))) = true by rw [HTK.out, HCG.out, blkHas_app, HHS.out, HHS2.out]; rfl)
                    have t1 : ¬ (c.h.bs.length : Int) < (c.h.bs.length : Int) := by omega
                    go_wp2
                    go_roundw
                    case rel => exact ⟨i + 1, ad2, cap2, ac2, by omega, by go_num, rfl, HN2.out, HHN.out, by omega, HOW2.out, HSy.out, HBy.out⟩
                    case measure => simp [intOf]; omega
              · obtain rfl : i = M.length := by omega
                rw [List.take_length] at HAC HHS
                have HBN := Lib.hid (blk_yes (k := k) (M := M) HYS.out.1 HBS.out HHS.out)
                have HBE := Lib.hid (HB.out.trans (HBx.out.below (by omega) (by omega)))
                have HRR := Lib.hid (show RdT (fun b => w.heap.size ≤ b) wx (.slice ad ac.length cap) ac from RdS.of_owns HOW.out (fun b hb => by omega))
                have t1 : ¬ (M.length : Int) < (M.length : Int) := by omega
                go_wp2
                refine bodyPost_ret (v := .tuple #[.slice ad ac.length cap, .int .i64 0]) (by simp [results, Tryd.results25, go_sem]) rfl ?_
                exact ⟨_, M, by rw [HBN.out.1], fun _ _ => HM.out, by rw [HBN.out.2, ← HAC.out]; exact HRR.out, HBE.out⟩
          exact AllReadyH.nil
        exact AllReadyH.nil
  · have HBN := Lib.hid (blk_bad (k := k) [] HYS.out.1 hbs)
    obtain ⟨bz, hbz⟩ : ∃ bz, bz = bsCode bs := ⟨_, rfl⟩
    have hne : (bz != 0) = true := by rw [hbz]; simpa using hbs
    have HBS := Lib.hid hbs
    rw [← hbz]
    have HZ := Lib.hid hbz
    clear hbs hbz
    go_wp2
    refine bodyPost_ret (v := .tuple #[.slice none 0 0, .int .i64 bz]) (by simp [results, Tryd.results25, go_sem]) rfl ?_
    exact ⟨_, [], by rw [HBN.out.1, ← HZ.out], fun _ h => absurd h HBS.out, by rw [HBN.out.2]; exact RdS.nil _ _ _, HB.out⟩
end Go.Proofs.YtpfmmncnhlfdgaaDoor

/- Blocks of dags of raw numbers: plain laws. -/
set_option linter.unusedVariables false
set_option linter.unusedSimpArgs false
attribute [local go_sem ↓] Go.wp_at_zero Go.wp_at_succ
namespace Go.Proofs.YtpfmmncnhlfdgaaDoor
open Go Go.RowKit

theorem dig_place {L : List Crt} {d : Bytes} (h : 0 ≤ idxP (isB d) (crtSums L)) : digP L (placeP L d) = d := by
  obtain ⟨n, hn, hin, hpn, -⟩ := idxP_at h
  have : placeP L d = n := by unfold placeP; omega
  rw [this]
  have hnl : n < L.length := by rw [crtSums_len] at hn; exact hn
  rw [digP_at hnl]
  have e : (crtSums L)[n] = crtSum L[n] := by simp [crtSums]
  rw [← e]
  unfold isB at hpn
  exact of_decide_eq_true hpn
theorem histD_at {L : List Crt} {M : List Nat} {j : Nat} (h : j < (histD L M).length) : (histD L M)[j] = digP L (M[j]'(by rw [histD_len] at h; exact h)) := by simp [histD]
/-- What Find hands back of a digest of a history. -/
theorem hist_find {L : List Crt} {j : Nat} (hj : j < L.length) : findCode L (digP L j) = 0 ∧ (∃ k : Nat, ∃ h : k < L.length, findCrt L (digP L j) = L[k]) ∧ ((crtSums L).Nodup → findCrt L (digP L j) = L[j]) := by
  have h0 : 0 ≤ idxP (isB (digP L j)) (crtSums L) := idxP_ge.2 ⟨digP L j, by rw [digP_at hj]; exact List.mem_map.2 ⟨_, List.getElem_mem hj, rfl⟩, by unfold isB; exact decide_eq_true rfl⟩
  obtain ⟨k, hk, hik, -, -⟩ := idxP_at h0
  have hkl : k < L.length := by rw [crtSums_len] at hk; exact hk
  have e := find_yes hkl hik
  refine ⟨e.1, ⟨k, hkl, e.2⟩, fun hn => ?_⟩
  rw [digP_at hj]
  exact (find_yes hj (find_clear hn hj)).2
/-- All digests are different: of headers, and of batches. -/
def Clr (l : List Stp) : Prop := (crtSums (grownL l)).Nodup ∧ ((grownBs l).map batSum).Nodup
theorem stpBs_pair (i : Nat) (s : Stp) : ∀ k : Nat, (stpBs i s k).Pairwise (fun x y => x.n < y.n) ∧ ∀ b ∈ stpBs i s k, 1 + 3 * (i : Int) ≤ b.n ∧ b.n < 1 + 3 * (i : Int) + k
  | 0 => by simp [stpBs]
  | k + 1 => by
    obtain ⟨h1, h2⟩ := stpBs_pair i s k
    rw [stpBs_succ]
    refine ⟨List.pairwise_append.2 ⟨h1, by simp, fun a ha b hb => ?_⟩, fun b hb => ?_⟩
    · rw [List.mem_singleton] at hb; subst hb
      have := h2 a ha
      show a.n < 1 + 3 * (i : Int) + (k : Int)
      omega
    · rcases List.mem_append.1 hb with hb | hb
      · have := h2 b hb; omega
      · rw [List.mem_singleton] at hb; subst hb
        show 1 + 3 * (i : Int) ≤ 1 + 3 * (i : Int) + (k : Int) ∧ 1 + 3 * (i : Int) + (k : Int) < _
        omega
theorem batTo_pair (l : List Stp) : ∀ n : Nat, (batTo l n).Pairwise (fun x y => x.n < y.n) ∧ ∀ b ∈ batTo l n, b.n < 1 + 3 * (n : Int)
  | 0 => by simp [batTo]
  | n + 1 => by
    obtain ⟨h1, h2⟩ := batTo_pair l n
    obtain ⟨h3, h4⟩ := stpBs_pair n (l.getD n stpZ) (stpN (l.getD n stpZ))
    have h5 := stpN_le (l.getD n stpZ)
    refine ⟨List.pairwise_append.2 ⟨h1, h3, fun a ha b hb => ?_⟩, fun b hb => ?_⟩
    · have := h2 a ha; have := h4 b hb; omega
    · rcases List.mem_append.1 hb with hb | hb
      · have := h2 b hb; omega
      · have := h4 b hb; omega
theorem grownBs_le (l : List Stp) : (grownBs l).length ≤ 48 := by
  have h1 := batTo_len (stp1 :: l) (stpMany (stp1 :: l))
  unfold grownBs dagBs
  unfold stpMany at *
  omega
theorem grownBs_ok (l : List Stp) : ∀ b ∈ grownBs l, batCode b = 0 := batTo_ok _ _ (by unfold stpMany; omega)
theorem grownBs_bsOk {l : List Stp} (h : ((grownBs l).map batSum).Nodup) : bsOk (grownBs l) = true := by
  unfold bsOk
  exact decide_eq_true ⟨by have := grownBs_le l; omega, grownBs_ok l, h⟩
theorem grownBs_code {l : List Stp} (h : ((grownBs l).map batSum).Nodup) : bsCode (grownBs l) = 0 := by unfold bsCode; rw [grownBs_bsOk h]; rfl
/-- Batches of one sum are one batch, or two unlike ones have one sum. -/
theorem bats_of {l : List Bat} (hok : ∀ b ∈ l, batCode b = 0) (hp : l.Pairwise fun x y => x.n < y.n) {H : List Hdr} {X : List Bat} (h : oneSumL H (l ++ X) = false) : (l.map batSum).Nodup := by
  rw [List.nodup_iff_pairwise_ne, List.pairwise_iff_getElem]
  intro i j hi hj hij he
  have hi' : i < l.length := by simpa using hi
  have hj' : j < l.length := by simpa using hj
  simp only [List.getElem_map] at he
  have hn := (List.pairwise_iff_getElem.1 hp) i j hi' hj' hij
  have g1 : (l ++ X)[j]'(by simp; omega) = l[j] := List.getElem_append_left hj'
  have g2 : (l ++ X)[i]'(by simp; omega) = l[i] := List.getElem_append_left hi'
  have hq : pairBt ((l ++ X)[j]'(by simp; omega)) ((l ++ X)[i]'(by simp; omega)) = true := by
    rw [g1, g2]
    unfold pairBt
    refine decide_eq_true ⟨hok _ (List.getElem_mem hj'), hok _ (List.getElem_mem hi'), he.symm, ?_⟩
    unfold sameBt
    exact decide_eq_false (fun q => by have := q.2.1; omega)
  have ht := anyPair_at (p := pairBt) (l := l ++ X) (by simp; omega) hij hq
  unfold oneSumL at h
  rw [ht] at h
  simp at h
theorem gsum_clr {l : List Stp} (h : gsumB l = false) : Clr l := ⟨clear_of (grown_ok l) h, bats_of (grownBs_ok l) (batTo_pair _ _).1 h⟩
/-- The batches of a dag's headers are there. -/
theorem batTo_has (l : List Stp) : ∀ n : Nat, ∀ c ∈ dagTo l n, ∀ d ∈ c.h.bs, d ∈ (batTo l n).map batSum
  | 0 => by simp [dagTo]
  | n + 1 => by
    intro c hc d hd
    have hc' : c ∈ dagStep (dagTo l n) n (l.getD n stpZ) := hc
    show d ∈ (batTo l n ++ stpBs n (l.getD n stpZ) (stpN (l.getD n stpZ))).map batSum
    rw [List.map_append, List.mem_append]
    unfold dagStep at hc'
    split at hc'
    · rcases List.mem_append.1 hc' with h | h
      · exact .inl (batTo_has l n c h d hd)
      · rw [List.mem_singleton] at h; subst h
        exact .inr hd
    · exact .inl (batTo_has l n c hc' d hd)
theorem grown_has {l : List Stp} {c : Crt} (hc : c ∈ grownL l) {d : Bytes} (hd : d ∈ c.h.bs) : d ∈ (grownBs l).map batSum := batTo_has _ _ c hc d hd
theorem grown_all {l : List Stp} {M : List Nat} (hM : ∀ j ∈ M, j < (grownL l).length) : blkHas (grownBs l) (blkDs (grownL l) M) = true := by
  unfold blkHas
  rw [List.all_eq_true]
  intro d hd
  obtain ⟨j, hj, hd⟩ := List.mem_flatMap.1 hd
  have hl := hM j hj
  rw [getD_at hl] at hd
  exact decide_eq_true (grown_has (List.getElem_mem hl) hd)
/-- What a block has. -/
theorem mem_addT {acc : List Bytes} {t x : Bytes} : x ∈ addT acc t ↔ x ∈ acc ∨ x = t := by
  unfold addT
  split
  · rename_i h
    exact ⟨.inl, fun q => q.elim id (fun e => e ▸ h)⟩
  · simp
theorem mem_addTs {ts acc : List Bytes} {x : Bytes} : x ∈ addTs acc ts ↔ x ∈ acc ∨ x ∈ ts := by
  unfold addTs
  induction ts generalizing acc with
  | nil => simp
  | cons t ts ih => rw [List.foldl_cons, ih, mem_addT, List.mem_cons]; simp only [or_assoc]
theorem mem_addDs {bs : List Bat} {ds acc : List Bytes} {x : Bytes} : x ∈ addDs bs acc ds ↔ x ∈ acc ∨ ∃ d ∈ ds, x ∈ txsB bs d := by
  unfold addDs
  induction ds generalizing acc with
  | nil => simp
  | cons d ds ih =>
    rw [List.foldl_cons, ih, mem_addTs]
    simp only [List.mem_cons, exists_eq_or_imp, or_assoc]
theorem nodup_addT {acc : List Bytes} {t : Bytes} (h : acc.Nodup) : (addT acc t).Nodup := by
  unfold addT
  split
  · exact h
  · rename_i q
    rw [List.nodup_append]
    refine ⟨h, by simp, fun a ha b hb => ?_⟩
    rw [List.mem_singleton] at hb; subst hb
    exact fun e => q (e ▸ ha)
theorem nodup_addTs {ts acc : List Bytes} (h : acc.Nodup) : (addTs acc ts).Nodup := by
  unfold addTs
  induction ts generalizing acc with
  | nil => exact h
  | cons t ts ih => exact ih (nodup_addT h)
theorem nodup_addDs {bs : List Bat} {ds acc : List Bytes} (h : acc.Nodup) : (addDs bs acc ds).Nodup := by
  unfold addDs
  induction ds generalizing acc with
  | nil => exact h
  | cons t ts ih => exact ih (nodup_addTs h)
theorem addT_sub (acc : List Bytes) (t : Bytes) : (addT acc t).length ≤ acc.length + 1 := addT_len acc t
theorem addTs_len (ts : List Bytes) : ∀ acc : List Bytes, (addTs acc ts).length ≤ acc.length + ts.length := by
  unfold addTs
  induction ts with
  | nil => intro acc; simp
  | cons t ts ih => intro acc; have h1 := ih (addT acc t); have h2 := addT_len acc t; simp only [List.foldl_cons, List.length_cons]; omega
theorem addDs_len {bs : List Bat} (h4 : ∀ d, (txsB bs d).length ≤ 4) (ds : List Bytes) : ∀ acc : List Bytes, (addDs bs acc ds).length ≤ acc.length + 4 * ds.length := by
  unfold addDs
  induction ds with
  | nil => intro acc; simp
  | cons t ts ih => intro acc; have h1 := ih (addTs acc (txsB bs t)); have h2 := addTs_len (txsB bs t) acc; have h3 := h4 t; simp only [List.foldl_cons, List.length_cons]; omega
theorem txsB_len {bs : List Bat} (h : ∀ b ∈ bs, b.txs.length ≤ 4) (d : Bytes) : (txsB bs d).length ≤ 4 := by
  unfold txsB
  split
  · rename_i b hb; exact h b (List.mem_of_find?_eq_some hb)
  · simp
theorem grownBs_txs {l : List Stp} {b : Bat} (hb : b ∈ grownBs l) : b.txs.length ≤ 4 := by
  have h1 := grownBs_ok l b hb
  unfold batCode at h1
  split at h1
  · simp at h1
  · split at h1
    · simp at h1
    · omega
theorem blkDs_len {L : List Crt} (h3 : ∀ c ∈ L, c.h.bs.length ≤ 3) {M : List Nat} (hM : ∀ j ∈ M, j < L.length) : (blkDs L M).length ≤ 3 * M.length := by
  unfold blkDs
  induction M with
  | nil => simp
  | cons j M ih =>
    have h1 := ih (fun k hk => hM k (List.mem_cons_of_mem _ hk))
    have h2 := hM j (List.mem_cons_self ..)
    have h4 : (L.getD j crtZ).h.bs.length ≤ 3 := by rw [getD_at h2]; exact h3 _ (List.getElem_mem h2)
    simp only [List.flatMap_cons, List.length_append, List.length_cons]; omega
/-- A block of a dag of raw numbers: there, and short. -/
theorem grown_blk {l : List Stp} {k : Bytes} {M : List Nat} (hf : 0 ≤ idxP (isB k) (crtSums (grownL l))) (hc : ((grownBs l).map batSum).Nodup) (hM : IsHist (grownL l) (placeP (grownL l) k) M) :
    blkCode (grownL l) (grownBs l) k M = 0 ∧ blkOut (grownL l) (grownBs l) k M = addDs (grownBs l) [] (blkDs (grownL l) M) := by
  have e : blkCode (grownL l) (grownBs l) k M = 0 := by
    unfold blkCode
    have h1 : findCode (grownL l) k = 0 := by unfold findCode; rw [if_neg (by omega)]
    rw [if_neg (by simp [h1]), if_neg (by simp [grownBs_code hc]), if_pos (grown_all hM.lt)]
  exact ⟨e, by unfold blkOut; rw [e, if_pos rfl]⟩
theorem blkOut_len {l : List Stp} {k : Bytes} {M : List Nat} (hM : 0 ≤ idxP (isB k) (crtSums (grownL l)) → bsCode (grownBs l) = 0 → IsHist (grownL l) (placeP (grownL l) k) M) : (blkOut (grownL l) (grownBs l) k M).length ≤ 288 := by
  unfold blkOut
  split
  · rename_i h
    unfold blkCode at h
    split at h
    · rename_i h1; exact absurd h h1
    · rename_i h1
      split at h
      · rename_i h2; exact absurd h h2
      · rename_i h2
        have hf : 0 ≤ idxP (isB k) (crtSums (grownL l)) := by
          by_cases q : 0 ≤ idxP (isB k) (crtSums (grownL l))
          · exact q
          · exfalso
            apply h1
            unfold findCode; rw [if_pos (by omega)]; decide
        have hH := hM hf (by simpa using h2)
        have e1 := addDs_len (txsB_len (fun b hb => grownBs_txs (l := l) hb)) (blkDs (grownL l) M) []
        have e2 := blkDs_len (fun c hc => (hdr_partsD (crt_partsP ((dagOk_iff.1 (grown_ok l)).2.1 c hc)).1).2.2.1) hH.lt
        have e3 := hH.len
        have e4 := grown_len l
        simp only [List.length_nil] at e1
        omega
  · simp
/-- What stands in a parent's history stands in the child's. -/
theorem hist_parent {L : List Crt} (hok : dagOk L = true) {i : Nat} {M N : List Nat} (hM : IsHist L i M) (hi : i < L.length) {p : Bytes} (hp : p ∈ L[i].h.ps) (hN : IsHist L (placeP L p) N) : ∀ k ∈ N, k ∈ M :=
  hM.sub ((hM.mem _).2 (.up .here hi hp)) hN
theorem blk_sub {L : List Crt} {bs : List Bat} {M N : List Nat} (h : ∀ k ∈ N, k ∈ M) {x : Bytes} (hx : x ∈ addDs bs [] (blkDs L N)) : x ∈ addDs bs [] (blkDs L M) := by
  rw [mem_addDs] at *
  rcases hx with hx | ⟨d, hd, hx⟩
  · simp at hx
  · obtain ⟨j, hj, hd⟩ := List.mem_flatMap.1 hd
    exact .inr ⟨d, List.mem_flatMap.2 ⟨j, h j hj, hd⟩, hx⟩
end Go.Proofs.YtpfmmncnhlfdgaaDoor

/- blockOnce: the walk. -/
set_option linter.unusedVariables false
set_option linter.unusedSimpArgs false
attribute [local go_sem ↓] Go.wp_at_zero Go.wp_at_succ
namespace Go.Proofs.YtpfmmncnhlfdgaaDoor
open Go Go.RowKit

open Go.Maps
theorem wpList_lookup_held {H : Type} {P : Program} {w : World} {ops : Array Oper} {rest : List Oper} {o : Oper} {a : Act} {Q : Exit → Act → World → Prop} (hg : o.guard = none) (m x : Operand) (t : TypeId) (hop : o.op = Op.lookup t m x false)
    (k e : TypeId) (K : Keyed P k) (ht : P.underlying t = some (.map k e)) (R : Value → Option (DataW H × List MemPlace)) {z : Value} (hz : (zeroValue e).run P w = .ok z w) (zd : DataW H) (zp : List MemPlace) (hzd : R z = some (zd, zp)) (b n : Nat) (D : DataW H)
    (hm : a.eval m = .map (some b)) (hown : w.ownsMap P k R b n D) (key : Value) (kl : Lit) (hx : a.eval x = key) (hkey : keyOf P k key = some kl) (v0 : Value) (hv0 : ∀ v ps, R v = some (D.atKey kl zd, ps) → v = v0)
    (hK : wpList P ops Q rest (a.put o.dst v0) w) : wpList P ops Q (o :: rest) a w := by
  refine wpList_plain hg fun K' hK' => ?_
  obtain ⟨v, ps, hrun, hv⟩ := hown.lookup K ht hz hzd hkey
  obtain rfl := hv0 v ps hv
  unfold Oper.wp
  simp [execOp, hop, hm, hx, hrun, Result.andThen]
  exact hK' _ _ hK
/-- A set of texts, held as a map to true. -/
structure BoolMap (D : DataW Value) (ks : List Bytes) : Prop where
  tidy : Tidy D
  has : ∀ x : Bytes, has D (litB x) = decide (x ∈ ks)
  at_ : ∀ (x : Bytes) zd, D.atKey (litB x) zd = if x ∈ ks then .held (.bool true) else zd
  size : Maps.size D = ks.length
  nd : ks.Nodup
theorem BoolMap.nil : BoolMap (.map []) [] := ⟨tidy_empty, fun x => by simp [Maps.has], fun x zd => by simp [DataW.atKey], rfl, by simp⟩
theorem BoolMap.put {D : DataW Value} {ks : List Bytes} (h : BoolMap D ks) (t : Bytes) : BoolMap (D.put (litB t) (.held (.bool true))) (addT ks t) := by
  have hk : WideAt.IsKeyLit (litB t) := trivial
  refine ⟨h.tidy.put hk _, fun x => ?_, fun x zd => ?_, ?_, nodup_addT h.nd⟩
  · by_cases e : x = t
    · subst e
      rw [has_put_same h.tidy.isMap hk]
      exact (decide_eq_true (mem_addT.2 (.inr rfl))).symm
    · rw [has_put_other (fun q => e (litB_inj q)), h.has]
      rw [Bool.eq_iff_iff]
      simp only [decide_eq_true_eq, mem_addT, e, or_false]
  · by_cases e : x = t
    · subst e
      rw [atKey_put_same h.tidy.isMap hk, if_pos (mem_addT.2 (.inr rfl))]
    · rw [atKey_put_other (fun q => e (litB_inj q)), h.at_]
      simp only [mem_addT, e, or_false]
  · rw [size_put h.tidy, h.has, h.size]
    unfold addT
    by_cases e : t ∈ ks
    · rw [decide_eq_true e, if_pos rfl, if_pos e]
    · rw [decide_eq_false e, if_neg (by simp), if_neg e]; simp
theorem ButB.mono {B B' s : Nat} {w w' : World} (h : ButB B s w w') (hB : B' ≤ B) : ButB B' s w w' := ⟨h.os, h.tape, h.output, h.size, fun k hk hs => h.block k (by omega) hs⟩
theorem hist_unique {L : List Crt} {i : Nat} {M N : List Nat} (h : IsHist L i M) (h2 : IsHist L i N) : M = N := by
  have hp : M.Perm N := (List.perm_ext_iff_of_nodup h.nodup h2.nodup).2 (fun j => by rw [h.mem, h2.mem])
  refine List.Perm.eq_of_pairwise (le := fun x y => keyC (L.getD x crtZ) < keyC (L.getD y crtZ)) ?_ h.ord h2.ord hp
  intro a b _ _ h3 h4; omega
/-- What many has behind so many certificates, batches and texts. -/
def inHist (L : List Crt) (bs : List Bat) (M : List Nat) (i : Nat) (x : Bytes) : Prop := ∃ j, ∃ h : j < M.length, j < i ∧ ∃ b ∈ bs, batSum b ∈ (L.getD M[j] crtZ).h.bs ∧ x ∈ b.txs
def inBats (F : Crt) (bs : List Bat) (q : Nat) (x : Bytes) : Prop := ∃ b ∈ bs.take q, batSum b ∈ F.h.bs ∧ x ∈ b.txs
theorem inHist_succ {L : List Crt} {bs : List Bat} {M : List Nat} {i : Nat} (hi : i < M.length) {x : Bytes} : inHist L bs M (i + 1) x ↔ inHist L bs M i x ∨ inBats (L.getD M[i] crtZ) bs bs.length x := by
  unfold inHist inBats
  rw [List.take_length]
  constructor
  · rintro ⟨j, hj, h1, h2⟩
    by_cases q : j = i
    · subst q; exact .inr h2
    · exact .inl ⟨j, hj, by omega, h2⟩
  · rintro (⟨j, hj, h1, h2⟩ | h2)
    · exact ⟨j, hj, by omega, h2⟩
    · exact ⟨i, hi, by omega, h2⟩
theorem inBats_succ {F : Crt} {bs : List Bat} {q : Nat} (hq : q < bs.length) {x : Bytes} : inBats F bs (q + 1) x ↔ inBats F bs q x ∨ (batSum bs[q] ∈ F.h.bs ∧ x ∈ bs[q].txs) := by
  unfold inBats
  rw [List.take_succ_eq_append_getElem hq]
  simp only [List.mem_append, List.mem_singleton]
  constructor
  · rintro ⟨b, hb | rfl, h⟩
    · exact .inl ⟨b, hb, h⟩
    · exact .inr h
  · rintro (⟨b, hb, h⟩ | h)
    · exact ⟨b, .inl hb, h⟩
    · exact ⟨_, .inr rfl, h⟩
/-- It is what the block has. -/
theorem inHist_blk {l : List Stp} {M : List Nat} (hM : ∀ j ∈ M, j < (grownL l).length) (hc : ((grownBs l).map batSum).Nodup) {x : Bytes} : inHist (grownL l) (grownBs l) M M.length x ↔ x ∈ addDs (grownBs l) [] (blkDs (grownL l) M) := by
  rw [mem_addDs]
  constructor
  · rintro ⟨j, hj, -, b, hb, h1, h2⟩
    refine .inr ⟨batSum b, mem_blkDs (List.getElem_mem hj) h1, ?_⟩
    obtain ⟨b', hb', e, ht⟩ := txsB_mem (List.mem_map.2 ⟨b, hb, rfl⟩ : batSum b ∈ (grownBs l).map batSum)
    have : b' = b := by
      obtain ⟨i, hi, ei⟩ := List.getElem_of_mem hb
      obtain ⟨k, hk, ek⟩ := List.getElem_of_mem hb'
      rw [List.nodup_iff_pairwise_ne, List.pairwise_iff_getElem] at hc
      rcases Nat.lt_trichotomy i k with q | q | q
      · have h := hc i k (by simpa using hi) (by simpa using hk) q; rw [List.getElem_map, List.getElem_map, ei, ek] at h; exact absurd e.symm h
      · subst q; rw [← ei, ← ek]
      · have h := hc k i (by simpa using hk) (by simpa using hi) q; rw [List.getElem_map, List.getElem_map, ei, ek] at h; exact absurd e h
    rw [ht, this]; exact h2
  · rintro (h | ⟨d, hd, h⟩)
    · simp at h
    · obtain ⟨j, hj, hd⟩ := List.mem_flatMap.1 hd
      obtain ⟨p, hp, rfl⟩ := List.getElem_of_mem hj
      have hl := hM _ (List.getElem_mem hp)
      have hd2 := hd
      rw [getD_at hl] at hd2
      obtain ⟨b, hb, e, ht⟩ := txsB_mem (grown_has (List.getElem_mem hl) hd2)
      exact ⟨p, hp, hp, b, hb, by rw [e]; exact hd, by rw [← ht]; exact h⟩
theorem blkOut_nodup (L : List Crt) (bs : List Bat) (k : Bytes) (M : List Nat) : (blkOut L bs k M).Nodup := by
  unfold blkOut
  split
  · exact nodup_addDs (by simp)
  · simp
theorem blkOut_small {bs : List Bat} (hok : ∀ b ∈ bs, batCode b = 0) {L : List Crt} {k : Bytes} {M : List Nat} : ∀ t ∈ blkOut L bs k M, t.length ≤ 9223372036854775807 := by
  intro t ht
  unfold blkOut at ht
  split at ht
  · rw [mem_addDs] at ht
    rcases ht with h | ⟨d, -, h⟩
    · simp at h
    · unfold txsB at h
      split at h
      · rename_i b hb
        have h2 := hok b (List.mem_of_find?_eq_some hb)
        unfold batCode at h2
        split at h2
        · simp at h2
        · split at h2
          · simp at h2
          · split at h2
            · rename_i h3
              have := (List.all_eq_true.1 h3) t h
              unfold txLen at this
              have := of_decide_eq_true this
              omega
            · simp at h2
      · simp at h
  · simp at ht
theorem zeroBool (w : World) : (zeroValue 4).run Tryd.prog w = .ok (.bool false) w := by kernel_rfl
set_option maxRecDepth 100000 in
set_option maxHeartbeats 8000000 in
theorem blockOnce_any (v : Value) (l : List Stp) (n : Int) (w : World) (hv : RdS RStp (fun _ => True) w v l) (hz : l.length * 24 ≤ reachBytes) (n1 : -9223372036854775808 ≤ n) (n2 : n ≤ 9223372036854775807) (ht : Tabs w) :
    Calls Tryd.prog 18 #[v, .int .i64 n] w fun e w' => ∃ b, e = .returned (.bool b) ∧ (Clr l → b = true) ∧ Below w.heap.size w w' := by
  have HT := Lib.hid ht
  have hmm := @run_makeMap Tryd.prog
  go_enter Tryd.func18, Tryd.ntmps18
  go_wp2_with fail
  refine (grown_any _ _ hv hz ht).mono ?_
  rintro e w1 ⟨vd, vb, rfl, hd, hbb, hb1⟩
  obtain ⟨add, capd, rfl, -, -⟩ := hd.form
  obtain ⟨adb, capb, rfl, -, -⟩ := hbb.form
  have HBT1 := Lib.hid hbb
  clear hbb
  have HD1 := Lib.hid hd
  have HB1 := Lib.hid hb1
  clear hd hb1 ht hv
  go_upto_region 2 with fail
  obtain ⟨w2, hw2⟩ : ∃ w2, w2 = w1.alloc (.cells #[.slice add (grownL l).length capd] 30) := ⟨_, rfl⟩
  have HX := Lib.hid (show BoxAt w2 w1.heap.size [.slice add (grownL l).length capd] 30 by rw [hw2]; exact BoxAt.new w1 [_] _)
  have hB2 : Below w1.heap.size w1 w2 := by rw [hw2]; exact (Below.refl _ _).alloc (Nat.le_refl _) _
  rw [← hw2]
  have HD := Lib.hid ((HD1.out.mono (G' := fun _ => True) (fun _ _ => trivial)).below hB2 (fun _ h => h))
  have HBT := Lib.hid ((HBT1.out.mono (G' := fun _ => True) (fun _ _ => trivial)).below hB2 (fun _ h => h))
  clear HBT1
  have HB := Lib.hid (HB1.out.trans (hB2.mono HB1.out.size))
  have HOK := Lib.hid (grown_ok l)
  have hz2 := HX.out.lt
  have hzw2 := HB.out.size
  clear hw2 hB2 HD1 HB1
  have hg4 := grown_len l
  have hgp := grown_pos l
  obtain ⟨L, hLL⟩ : ∃ L, L = grownL l := ⟨_, rfl⟩
  obtain ⟨BS, hBS⟩ : ∃ BS, BS = grownBs l := ⟨_, rfl⟩
  rw [← hLL] at HX HD HOK hg4 hgp ⊢
  rw [← hBS] at HBT ⊢
  have HLL := Lib.hid hLL
  have HBS := Lib.hid hBS
  have hbl : BS.length ≤ 48 := by rw [hBS]; exact grownBs_le l
  have HLEN := Lib.hid (show ∀ (k : Bytes) (M : List Nat), (0 ≤ idxP (isB k) (crtSums L) → bsCode BS = 0 → IsHist L (placeP L k) M) → (blkOut L BS k M).length ≤ 288 by rw [hLL, hBS]; exact fun k M h => blkOut_len h)
  have HCLR := Lib.hid (show Clr l → (crtSums L).Nodup ∧ bsCode BS = 0 ∧ ∀ (k : Bytes) (M : List Nat), 0 ≤ idxP (isB k) (crtSums L) → IsHist L (placeP L k) M → blkCode L BS k M = 0 ∧ blkOut L BS k M = addDs BS [] (blkDs L M) by rw [hLL, hBS]; exact fun h => ⟨h.1, grownBs_code h.2, fun k M h1 h2 => grown_blk h1 h.2 h2⟩)
  have HBK := Lib.hid (show ∀ b ∈ BS, batCode b = 0 by rw [hBS]; exact grownBs_ok l)
  have HTX4 := Lib.hid (show ∀ b ∈ BS, b.txs.length ≤ 4 by rw [hBS]; exact fun b hb => grownBs_txs hb)
  have HIN := Lib.hid (show Clr l → ∀ (M : List Nat), (∀ j ∈ M, j < L.length) → ∀ x, inHist L BS M M.length x ↔ x ∈ addDs BS [] (blkDs L M) by subst hLL hBS; exact fun h M hM x => inHist_blk hM h.2)
  clear hLL hBS
  have HH := Lib.hid (fun c (hc : c ∈ L) => (crt_partsP ((dagOk_iff.1 HOK.out).2.1 c hc)).1)
  replace HD := Lib.hid ((HD.out.low (by decide)).mono (G' := fun b => b < w2.heap.size) (fun b hb => hb.2))
  replace HBT := Lib.hid ((HBT.out.low (by decide)).mono (G' := fun b => b < w2.heap.size) (fun b hb => hb.2))
  have x0 := HX.out.cell 0 rfl
  go_wp2_with fail
  refine (digestsOf_any _ _ HD.out HH.out (by omega) (HT.out.belowS HB.out)).mono ?_
  rintro e w3 ⟨vs, rfl, hS, hb3⟩
  obtain ⟨ads, caps, rfl, hcs, hms⟩ := hS.form
  unfold maxLen at hms
  have hSL := crtSums_len L
  have HS := Lib.hid (hS.mono (G' := fun _ => True) (fun _ _ => trivial))
  have hz23 := hb3.size
  replace HBT := Lib.hid (HBT.out.below hb3 (fun _ h => h))
  replace HX := Lib.hid (HX.out.belowS hb3)
  replace HD := Lib.hid (HD.out.below hb3 (fun _ h => h))
  replace HB := Lib.hid (HB.out.trans (hb3.mono HB.out.size))
  replace HD := Lib.hid (HD.out.mono (G' := fun _ => True) (fun _ _ => trivial))
  clear x0 hS hb3
  obtain ⟨DS, hDS⟩ : ∃ DS, DS = crtSums L := ⟨_, rfl⟩
  rw [← hDS] at HS hSL ⊢
  have HDS := Lib.hid hDS
  have hSL1 : DS.length ≤ L.length := by omega
  have hSL2 : L.length ≤ DS.length := by omega
  clear hDS hSL hcs
  have hzw3 := HB.out.size
  have hl0 : (0 : Int) < (DS.length : Int) := by omega
  have hl1 : DS.length ≤ 9223372036854775807 := by omega
  have q0 : ((DS.length : Int) == 0) = false := by rw [beq_eq_false_iff_ne]; omega
  obtain ⟨p0A, p1A⟩ := pickedZ_range n (DS.length : Int) (by omega)
  have HPA := Lib.hid (show ((pickedZ n (DS.length : Int)).toNat : Int) = pickedZ n (DS.length : Int) by omega)
  obtain ⟨pa, hpa⟩ : ∃ pa, pa = (pickedZ n (DS.length : Int)).toNat := ⟨_, rfl⟩
  rw [← hpa] at HPA
  have pal : pa < DS.length := by omega
  have paL : pa < L.length := by omega
  clear hpa p0A p1A
  have pa0 : (0 : Int) ≤ (pa : Int) := by omega
  have pa1 : (pa : Int) < (DS.length : Int) := by omega
  have HFA := Lib.hid (show (0 : Int) ≤ idxP (isB DS[pa]) (crtSums L) by have := HDS.out; subst this; exact idx_self (by omega))
  obtain ⟨bA, oA, vA, rsA, -, esA, hsA⟩ := HS.out.cellS pa pal
  subst rsA
  obtain ⟨adA, capA, rfl, -, -⟩ := hsA.form
  have HDKA := Lib.hid hsA
  have HEA := Lib.hid esA
  have hbkA : bA < _ := World.block_lt_of_cell? _ _ esA
  clear hsA esA
  have eA := HEA.out
  go_wp2_with fail
  refine (picked_any n (DS.length : Int) _ n1 n2 (by omega) (by omega)).mono ?_
  rintro e w' ⟨rfl, rfl⟩
  rw [← HPA.out]
  generalize DS[pa] = dk at *
  have x0 := HX.out.cell 0 rfl
  go_wp2_with fail
  refine (oBlock_any _ _ _ _ HD.out HBT.out HDKA.out (HT.out.belowS HB.out) HOK.out).mono ?_
  rintro e w4 ⟨va, MB, rfl, hMB, hRB, hb4⟩
  obtain ⟨ada, capa, rfl, hca, hma⟩ := hRB.form
  unfold maxLen at hma
  have hlB := HLEN.out _ _ hMB
  have HMB := Lib.hid hMB
  have HRB := Lib.hid (hRB.mono (G' := fun _ => True) (fun _ _ => trivial))
  replace HX := Lib.hid (HX.out.belowS hb4)
  replace HD := Lib.hid (HD.out.below hb4 (fun _ h => h))
  replace HS := Lib.hid (HS.out.below hb4 (fun _ h => h))
  replace HBT := Lib.hid (HBT.out.below hb4 (fun _ h => h))
  replace HDKA := Lib.hid (HDKA.out.below hb4 (fun _ h => h))
  replace HB := Lib.hid (HB.out.trans (hb4.mono HB.out.size))
  have hz34 := hb4.size
  clear hMB hRB hb4 x0
  obtain ⟨cB, hcB⟩ : ∃ cB, cB = blkCode L BS dk MB := ⟨_, rfl⟩
  obtain ⟨QB, hQB⟩ : ∃ QB, QB = blkOut L BS dk MB := ⟨_, rfl⟩
  rw [← hQB] at HRB hlB hca
  rw [← hcB, ← hQB]
  have HQN := Lib.hid (show QB.Nodup by rw [hQB]; exact blkOut_nodup _ _ _ _)
  have HQL := Lib.hid (show ∀ t ∈ QB, t.length ≤ 9223372036854775807 by rw [hQB]; exact blkOut_small HBK.out)
  have HCB := Lib.hid (show Clr l → cB = 0 ∧ QB = addDs BS [] (blkDs L MB) ∧ IsHist L (placeP L dk) MB from fun h => by
    obtain ⟨h1, h2, h3⟩ := HCLR.out h
    have h4 := HMB.out HFA.out h2
    have h5 := h3 _ _ HFA.out h4
    rw [hcB, hQB]
    exact ⟨h5.1, h5.2, h4⟩)
  clear hcB hQB
  have x0 := HX.out.cell 0 rfl
  go_wp2_with fail
  refine (oHistory_any _ _ _ HD.out HDKA.out (HT.out.belowS HB.out) HOK.out).mono ?_
  rintro e w5 ⟨vh, MA, rfl, hM1, hM2, hR, hb5⟩
  have hyy := findCode_yes (HFA.out)
  rw [hyy.1]
  have HMA := Lib.hid (hM1 HFA.out)
  have hpl := hyy.2.1
  obtain ⟨ah, ch, rfl, hch, hmh⟩ := hR.form
  rw [histD_len] at hch hR ⊢
  unfold maxLen at hmh
  have HRA := Lib.hid (hR.mono (G' := fun _ => True) (fun _ _ => trivial))
  replace HX := Lib.hid (HX.out.belowS hb5)
  replace HD := Lib.hid (HD.out.below hb5 (fun _ h => h))
  replace HS := Lib.hid (HS.out.below hb5 (fun _ h => h))
  replace HBT := Lib.hid (HBT.out.below hb5 (fun _ h => h))
  replace HDKA := Lib.hid (HDKA.out.below hb5 (fun _ h => h))
  replace HB := Lib.hid (HB.out.trans (hb5.mono HB.out.size))
  replace HRB := Lib.hid (HRB.out.below hb5 (fun _ h => h))
  have hz45 := hb5.size
  clear hM1 hM2 hR hyy hb5 x0
  have hpa := HMA.out.pos
  have hla := HMA.out.len
  have HBE5 := Lib.hid HB.out
  by_cases hz : cB = 0
  · subst hz
    go_wp2_with fail
    refine (checkBatches_any _ _ HBT.out (HT.out.belowS HB.out)).mono ?_
    rintro e w6 ⟨rfl, hb6⟩
    replace HX := Lib.hid (HX.out.belowS hb6)
    replace HD := Lib.hid (HD.out.below hb6 (fun _ h => h))
    replace HS := Lib.hid (HS.out.below hb6 (fun _ h => h))
    replace HBT := Lib.hid (HBT.out.below hb6 (fun _ h => h))
    replace HDKA := Lib.hid (HDKA.out.below hb6 (fun _ h => h))
    replace HB := Lib.hid (HB.out.trans (hb6.mono HB.out.size))
    replace HRB := Lib.hid (HRB.out.below hb6 (fun _ h => h))
    replace HRA := Lib.hid (HRA.out.below hb6 (fun _ h => h))
    have hz56 := hb6.size
    clear hb6
    have HBE6 := Lib.hid HB.out
    by_cases hbz : bsCode BS = 0
    · rw [hbz]
      clear hbz
      generalize hAA : histD L MA = QA at *
      have HAA := Lib.hid hAA
      have lAA : QA.length = MA.length := by rw [← hAA, histD_len]
      have lA1 : QA.length ≤ MA.length := by omega
      have lA2 : MA.length ≤ QA.length := by omega
      clear hAA lAA
      obtain ⟨bh, oh, rfl⟩ : ∃ bh oh, ah = some ⟨bh, oh, none⟩ := by
        obtain ⟨b, o, -, q, -⟩ := HRA.out.cellS 0 (by omega)
        exact ⟨b, o, q⟩
      have hz6 := HB.out.size
      go_wp2_with fail
      go_loopw [13] (fun u wr => ∃ i : Nat, i ≤ QB.length ∧ u = .int .i64 i ∧ Below w6.heap.size w6 wr) (fun u _ => QB.length - (intOf u).toNat)
      case atStart => exact ⟨0, Nat.zero_le _, rfl, Below.refl _ _⟩
      case round =>
        obtain ⟨i, hi, rfl, hBr⟩ := hrel
        have HBr := Lib.hid hBr
        have HRBr := Lib.hid (HRB.out.below hBr (fun _ h => h))
        have hzr := hBr.size
        clear hBr
        by_cases hlt : i < QB.length
        · have i0 : (0 : Int) ≤ (i : Int) := by omega
          have i1 : (i : Int) < (QB.length : Int) := by omega
          have wi : IntKind.i64.wrap ((i : Int) + 1) = (i : Int) + 1 := IntWalk.i64_in _ (by omega)
          go_wp2_with fail
          go_loopw [14] (fun u ws => ∃ j : Nat, j ≤ i ∧ u = .int .i64 j ∧ Below wr.heap.size wr ws) (fun u _ => i - (intOf u).toNat)
          case atStart => exact ⟨0, Nat.zero_le _, rfl, Below.refl _ _⟩
          case round =>
            rename World => ws
            obtain ⟨j, hj, rfl, hBs⟩ := hrel
            have HBs := Lib.hid hBs
            have HRBs := Lib.hid (HRBr.out.below hBs (fun _ h => h))
            clear hBs
            by_cases hjt : j < i
            · have j0 : (0 : Int) ≤ (j : Int) := by omega
              have j1 : (j : Int) < (QB.length : Int) := by omega
              have j2 : (j : Int) < (i : Int) := by omega
              have wj : IntKind.i64.wrap ((j : Int) + 1) = (j : Int) + 1 := IntWalk.i64_in _ (by omega)
              obtain ⟨bi, oi, rfl, -, ei⟩ := HRBs.out.cell i hlt
              obtain ⟨b9, o9, r9, -, ej⟩ := HRBs.out.cell j (by omega)
              simp only [Option.some.injEq, Addr.mk.injEq, and_true] at r9
              obtain ⟨e9, e9'⟩ := r9
              subst e9 e9'
              have HEI := Lib.hid ei
              have HEJ := Lib.hid ej
              have hbi : bi < ws.heap.size := World.block_lt_of_cell? ws _ ei
              have hne : QB[i] ≠ QB[j]'(by omega) := fun e => by
                have h := HQN.out
                rw [List.nodup_iff_pairwise_ne, List.pairwise_iff_getElem] at h
                exact h j i (by omega) hlt hjt e.symm
              clear ei ej
              generalize QB[i] = ti at *
              generalize QB[j]'(by omega) = tj at *
              have heb : ((ti : List UInt8) == tj) = false := by simp [hne]
              clear hne
              go_upto_region 16 with fail
              refine wp_region_held_drew (S := fun w' => Below ws.heap.size ws w') (by kernel_rfl) (by exact (Below.refl _ _).drew) (fun hHeld => ?_)
              obtain ⟨wd, hwd⟩ : ∃ wd, wd = ws.drew := ⟨_, rfl⟩
              rw [← hwd] at hHeld ⊢
              have HBd := Lib.hid (show Below ws.heap.size ws wd from hHeld)
              have zwd : ws.heap.size ≤ wd.heap.size := by rw [hwd]; exact Nat.le_refl _
              clear hwd
              refine wpAnyH_take (i := 0) (v := .slice (some ⟨bi, oi, none⟩) QB.length capa) rfl (by kernel_rfl) (by kernel_rfl) (by kernel_rfl) (fun _ _ _ h => h) (Or.inl ⟨by rfl, fun w hSw => ?_⟩) hHeld ?_
              · clear hSw; go_simp; all_goals (try first | rfl | omega)
              try simp only [Act.put, List.getElem_toArray, List.getElem_cons_succ, List.getElem_cons_zero, List.setIfInBounds_toArray, List.set_cons_zero, List.set_cons_succ]
              refine wpAnyH_take (i := 1) (v := .int .i64 (i : Int)) rfl (by kernel_rfl) (by kernel_rfl) (by kernel_rfl) (fun _ _ _ h => h) (Or.inl ⟨by rfl, fun w hSw => ?_⟩) hHeld ?_
              · clear hSw; go_simp; all_goals (try first | rfl | omega)
              try simp only [Act.put, List.getElem_toArray, List.getElem_cons_succ, List.getElem_cons_zero, List.setIfInBounds_toArray, List.set_cons_zero, List.set_cons_succ]
              refine wpAnyH_take (i := 2) (v := .pointer (some ⟨bi, oi + i, none⟩)) rfl (by kernel_rfl) (by kernel_rfl) (by kernel_rfl) (fun _ _ _ h => h) (Or.inl ⟨by rfl, fun w hSw => ?_⟩) hHeld ?_
              · clear hSw; go_simp; all_goals (try first | rfl | omega)
              try simp only [Act.put, List.getElem_toArray, List.getElem_cons_succ, List.getElem_cons_zero, List.setIfInBounds_toArray, List.set_cons_zero, List.set_cons_succ]
              refine wpAnyH_take (i := 3) (v := strV ti) rfl (by kernel_rfl) (by kernel_rfl) (by kernel_rfl) (fun _ _ _ h => h) (Or.inl ⟨by rfl, fun w hSw => ?_⟩) hHeld ?_
              · have q0 := (hSw.cell (p := ⟨bi, oi + i, none⟩) hbi).trans HEI.out; clear hSw; go_simp
              try simp only [Act.put, List.getElem_toArray, List.getElem_cons_succ, List.getElem_cons_zero, List.setIfInBounds_toArray, List.set_cons_zero, List.set_cons_succ]
              refine wpAnyH_take (i := 4) (v := .slice (some ⟨bi, oi, none⟩) QB.length capa) rfl (by kernel_rfl) (by kernel_rfl) (by kernel_rfl) (fun _ _ _ h => h) (Or.inl ⟨by rfl, fun w hSw => ?_⟩) hHeld ?_
              · clear hSw; go_simp; all_goals (try first | rfl | omega)
              try simp only [Act.put, List.getElem_toArray, List.getElem_cons_succ, List.getElem_cons_zero, List.setIfInBounds_toArray, List.set_cons_zero, List.set_cons_succ]
              refine wpAnyH_take (i := 5) (v := .int .i64 (j : Int)) rfl (by kernel_rfl) (by kernel_rfl) (by kernel_rfl) (fun _ _ _ h => h) (Or.inl ⟨by rfl, fun w hSw => ?_⟩) hHeld ?_
              · clear hSw; go_simp; all_goals (try first | rfl | omega)
              try simp only [Act.put, List.getElem_toArray, List.getElem_cons_succ, List.getElem_cons_zero, List.setIfInBounds_toArray, List.set_cons_zero, List.set_cons_succ]
              refine wpAnyH_take (i := 6) (v := .pointer (some ⟨bi, oi + j, none⟩)) rfl (by kernel_rfl) (by kernel_rfl) (by kernel_rfl) (fun _ _ _ h => h) (Or.inl ⟨by rfl, fun w hSw => ?_⟩) hHeld ?_
              · clear hSw; go_simp; all_goals (try first | rfl | omega)
              try simp only [Act.put, List.getElem_toArray, List.getElem_cons_succ, List.getElem_cons_zero, List.setIfInBounds_toArray, List.set_cons_zero, List.set_cons_succ]
              refine wpAnyH_take (i := 7) (v := strV tj) rfl (by kernel_rfl) (by kernel_rfl) (by kernel_rfl) (fun _ _ _ h => h) (Or.inl ⟨by rfl, fun w hSw => ?_⟩) hHeld ?_
              · have q0 := (hSw.cell (p := ⟨bi, oi + j, none⟩) hbi).trans HEJ.out; clear hSw; go_simp
              try simp only [Act.put, List.getElem_toArray, List.getElem_cons_succ, List.getElem_cons_zero, List.setIfInBounds_toArray, List.set_cons_zero, List.set_cons_succ]
              refine wpAnyH_take (i := 8) (v := .bool false) rfl (by kernel_rfl) (by kernel_rfl) (by kernel_rfl) (fun _ _ _ h => h) (Or.inl ⟨by rfl, fun w hSw => ?_⟩) hHeld ?_
              · clear hSw; go_simp
              try simp only [Act.put, List.getElem_toArray, List.getElem_cons_succ, List.getElem_cons_zero, List.setIfInBounds_toArray, List.set_cons_zero, List.set_cons_succ]
              refine wpAnyH_done (by kernel_rfl) ?_ _
              have HBG := Lib.hid (HBs.out.trans (HBd.out.mono HBs.out.size))
              clear hHeld
              go_wp2
              go_roundw
              case rel => exact ⟨j + 1, by omega, by go_num, HBG.out⟩
              case measure => simp [intOf]; omega
            · obtain rfl : j = i := by omega
              have t1 : ¬ (j : Int) < (j : Int) := by omega
              have HBG := Lib.hid (HBr.out.trans (HBs.out.mono HBr.out.size))
              go_wp2
              go_roundw
              case rel => exact ⟨j + 1, by omega, by go_num, HBG.out⟩
              case measure => simp [intOf]; omega
        · obtain rfl : i = QB.length := by omega
          have t1 : ¬ (QB.length : Int) < (QB.length : Int) := by omega
          have HBr2 := HBr.out
          replace HX := Lib.hid (HX.out.belowS HBr2)
          replace HD := Lib.hid (HD.out.below HBr2 (fun _ h => h))
          replace HS := Lib.hid (HS.out.below HBr2 (fun _ h => h))
          replace HBT := Lib.hid (HBT.out.below HBr2 (fun _ h => h))
          replace HDKA := Lib.hid (HDKA.out.below HBr2 (fun _ h => h))
          replace HB := Lib.hid (HB.out.trans (HBr2.mono HB.out.size))
          replace HRB := Lib.hid (HRB.out.below HBr2 (fun _ h => h))
          replace HRA := Lib.hid (HRA.out.below HBr2 (fun _ h => h))
          clear HRBr HBr HBr2
          go_upto_region 19 with fail
          obtain ⟨wm, hwm⟩ : ∃ wm, wm = wr.alloc (.map #[] 0) := ⟨_, rfl⟩
          have HM0 := Lib.hid (show wm.ownsMap Tryd.prog 9 heldElem wr.heap.size 0 (.map []) by rw [hwm]; exact World.ownsMap_made wr Tryd.prog 9 heldElem)
          have HBM := Lib.hid (show Below wr.heap.size wr wm by rw [hwm]; exact (Below.refl _ _).alloc (Nat.le_refl _) _)
          have hzm : wr.heap.size < wm.heap.size := by rw [hwm]; simp
          rw [← hwm]
          clear hwm
          go_wp2_with fail
          go_loopw [16] (fun u wx => ∃ (i nn : Nat) (D : DataW Value) (K : List Bytes), i ≤ MA.length ∧ u = .int .i64 i ∧ nn ≤ 200 * i ∧ BoolMap D K ∧ (Clr l → ∀ y, y ∈ K ↔ inHist L BS MA i y) ∧ wx.ownsMap Tryd.prog 9 heldElem wr.heap.size nn D ∧ Below wr.heap.size wr wx ∧ wr.heap.size < wx.heap.size) (fun u _ => MA.length - (intOf u).toNat)
          case atStart => exact ⟨0, 0, .map [], [], Nat.zero_le _, rfl, Nat.zero_le _, BoolMap.nil, fun _ y => by simp [inHist], HM0.out, HBM.out, hzm⟩
          case round =>
            rename World => wx
            obtain ⟨i, nn, D, K, hi, rfl, hnn, hbm, hk, hom, hBx, hzx0⟩ := hrel
            have HBO := Lib.hid hbm
            have HKI := Lib.hid hk
            have HOM := Lib.hid hom
            have HBx := Lib.hid hBx
            clear hbm hk hom hBx
            by_cases hlt : i < MA.length
            · have i0 : (0 : Int) ≤ (i : Int) := by omega
              have i1 : (i : Int) < (MA.length : Int) := by omega
              have wi : IntKind.i64.wrap ((i : Int) + 1) = (i : Int) + 1 := IntWalk.i64_in _ (by omega)
              have hltQ : i < QA.length := by omega
              have HXr := Lib.hid (HX.out.belowS HBx.out)
              have HDr := Lib.hid (HD.out.below HBx.out (fun _ h => h))
              obtain ⟨b0, o0, v0, r0, -, es, hq⟩ := (HRA.out.below HBx.out (fun _ h => h)).cellS i hltQ
              simp only [Option.some.injEq, Addr.mk.injEq, and_true] at r0
              obtain ⟨eb0, eo0⟩ := r0
              subst eb0 eo0
              obtain ⟨adk, capk, rfl, -, -⟩ := hq.form
              have HML := Lib.hid (HMA.out.lt _ (List.getElem_mem hlt))
              have HFi0 := Lib.hid (show findCode L QA[i] = 0 ∧ (∃ q : Nat, ∃ h : q < L.length, findCrt L QA[i] = L[q]) ∧ ((crtSums L).Nodup → findCrt L QA[i] = L[MA[i]]'(HML.out)) by have := HAA.out; subst this; rw [histD_at]; exact hist_find HML.out)
              have HDK := Lib.hid hq
              have HES := Lib.hid es
              have hbq : bh < wx.heap.size := World.block_lt_of_cell? wx _ es
              have hzx := HXr.out.lt
              clear hq es
              have HFi := Lib.hid (show findCode L QA[i] = 0 ∧ (∃ q : Nat, ∃ h : q < L.length, findCrt L QA[i] = L[q]) ∧ ((crtSums L).Nodup → findCrt L QA[i] = L.getD MA[i] crtZ) from ⟨HFi0.out.1, HFi0.out.2.1, fun hn => by rw [getD_at HML.out]; exact HFi0.out.2.2 hn⟩)
              clear HFi0
              generalize QA[i] = dq at *
              have HBE := Lib.hid (HB.out.trans (HBx.out.mono HB.out.size))
              go_upto_region 22 with fail
              go_cut [17, 18] (fun p e wcut => ∃ (P : Nat) (ab ap av : Option Addr) (cb cp cv : Nat), p = .pointer (some ⟨P, 0, none⟩) ∧ e = .int .i64 0 ∧ BoxAt wcut P [.int .i64 (findCrt L dq).h.a, .int .i64 (findCrt L dq).h.r, .slice ab (findCrt L dq).h.bs.length cb, .slice ap (findCrt L dq).h.ps.length cp, .slice av (findCrt L dq).vs.length cv] 45 ∧ wx.heap.size ≤ P ∧ RdBB (fun b => wx.heap.size ≤ b) wcut (.slice ab (findCrt L dq).h.bs.length cb) (findCrt L dq).h.bs ∧ RdBB (fun b => wx.heap.size ≤ b) wcut (.slice ap (findCrt L dq).h.ps.length cp) (findCrt L dq).h.ps ∧ RdI (fun b => wx.heap.size ≤ b) wcut (.slice av (findCrt L dq).vs.length cv) (findCrt L dq).vs ∧ Below wx.heap.size wx wcut)
              case first =>
                refine wp_region_held_drew (S := fun w' => Below wx.heap.size wx w') (by kernel_rfl) (by exact (Below.refl _ _).drew) (fun hHeld => ?_)
                obtain ⟨wd, hwd⟩ : ∃ wd, wd = wx.drew := ⟨_, rfl⟩
                rw [← hwd] at hHeld ⊢
                have HBd := Lib.hid (show Below wx.heap.size wx wd from hHeld)
                have zwd : wx.heap.size ≤ wd.heap.size := by rw [hwd]; exact Nat.le_refl _
                clear hwd
                refine wpAnyH_take (i := 0) (v := .agg #[.slice add L.length capd]) rfl (by kernel_rfl) (by kernel_rfl) (by kernel_rfl) (fun _ _ _ h => h) (Or.inl ⟨by rfl, fun w hSw => ?_⟩) hHeld ?_
                · have q0 := (HXr.out.belowS hSw).cell 0 rfl; clear hSw; go_simp
                try simp only [Act.put, List.getElem_toArray, List.getElem_cons_succ, List.getElem_cons_zero, List.setIfInBounds_toArray, List.set_cons_zero, List.set_cons_succ]
                refine wpAnyH_take (i := 1) (v := .slice (some ⟨bh, oh, none⟩) MA.length ch) rfl (by kernel_rfl) (by kernel_rfl) (by kernel_rfl) (fun _ _ _ h => h) (Or.inl ⟨by rfl, fun w hSw => ?_⟩) hHeld ?_
                · clear hSw; go_simp; all_goals (try first | rfl | omega)
                try simp only [Act.put, List.getElem_toArray, List.getElem_cons_succ, List.getElem_cons_zero, List.setIfInBounds_toArray, List.set_cons_zero, List.set_cons_succ]
                refine wpAnyH_take (i := 2) (v := .int .i64 (i : Int)) rfl (by kernel_rfl) (by kernel_rfl) (by kernel_rfl) (fun _ _ _ h => h) (Or.inl ⟨by rfl, fun w hSw => ?_⟩) hHeld ?_
                · clear hSw; go_simp; all_goals (try first | rfl | omega)
                try simp only [Act.put, List.getElem_toArray, List.getElem_cons_succ, List.getElem_cons_zero, List.setIfInBounds_toArray, List.set_cons_zero, List.set_cons_succ]
                refine wpAnyH_take (i := 3) (v := .pointer (some ⟨bh, oh + i, none⟩)) rfl (by kernel_rfl) (by kernel_rfl) (by kernel_rfl) (fun _ _ _ h => h) (Or.inl ⟨by rfl, fun w hSw => ?_⟩) hHeld ?_
                · clear hSw; go_simp; all_goals (try first | rfl | omega)
                try simp only [Act.put, List.getElem_toArray, List.getElem_cons_succ, List.getElem_cons_zero, List.setIfInBounds_toArray, List.set_cons_zero, List.set_cons_succ]
                refine wpAnyH_take (i := 4) (v := .slice adk dq.length capk) rfl (by kernel_rfl) (by kernel_rfl) (by kernel_rfl) (fun _ _ _ h => h) (Or.inl ⟨by rfl, fun w hSw => ?_⟩) hHeld ?_
                · have q3 := (Below.cell hSw (p := ⟨bh, oh + i, none⟩) hbq).trans HES.out; clear hSw; go_simp
                try simp only [Act.put, List.getElem_toArray, List.getElem_cons_succ, List.getElem_cons_zero, List.setIfInBounds_toArray, List.set_cons_zero, List.set_cons_succ]
                refine wpAnyH_ready (rs := [5, 9]) (by kernel_rfl) (by simp) ?_
                refine AllReadyH.cons rfl (fun K hK => ?_) ?_
                · rw [if_pos (by rfl)]
                  go_simp
                  go_at_call 24
                  refine (dagFind_any _ _ _ (HDr.out.below HBd.out (fun _ h => h)) (HDK.out.below HBd.out (fun _ h => h)) (HT.out.belowS (HBE.out.trans (HBd.out.mono (Below.size HBE.out)))) HOK.out).mono ?_
                  rintro e wf ⟨vb, vp, vv, rfl, hvb, hvp, hvv, hb_wf⟩
                  rw [HFi.out.1]
                  obtain ⟨ab, cb, rfl, -, -⟩ := hvb.form
                  obtain ⟨ap, cp, rfl, -, -⟩ := hvp.form
                  obtain ⟨av, cv, rfl, -, -⟩ := hvv.form
                  have HVB := Lib.hid (show RdBB (fun b => wx.heap.size ≤ b ∧ b ≠ wf.heap.size) _ _ (findCrt L dq).h.bs from (hvb.low (by decide)).mono (fun b hb => ⟨by have := hb.1; have := Below.size HBd.out; omega, by have h0 := hb.2; omega⟩))
                  have HVP := Lib.hid (show RdBB (fun b => wx.heap.size ≤ b ∧ b ≠ wf.heap.size) _ _ (findCrt L dq).h.ps from (hvp.low (by decide)).mono (fun b hb => ⟨by have := hb.1; have := Below.size HBd.out; omega, by have h0 := hb.2; omega⟩))
                  have HVV := Lib.hid (show RdI (fun b => wx.heap.size ≤ b ∧ b ≠ wf.heap.size) _ _ (findCrt L dq).vs from (hvv.low (by decide)).mono (fun b hb => ⟨by have := hb.1; have := Below.size HBd.out; omega, by have h0 := hb.2; omega⟩))
                  clear hvb hvp hvv
                  have HBwf := Lib.hid (HBd.out.trans (hb_wf.mono (Below.size HBd.out)))
                  have zwf := hb_wf.size
                  clear hb_wf
                  show K _ _
                  refine hK.out _ _ (by exact HBwf.out) (fun hHeld => ?_)
                  clear hK K
                  try simp only [Act.put, List.getElem_toArray, List.getElem_cons_succ, List.getElem_cons_zero, List.setIfInBounds_toArray, List.set_cons_zero, List.set_cons_succ]
                  refine wpAnyH_take (i := 6) (v := .tuple #[.agg #[.int .i64 (findCrt L dq).h.a, .int .i64 (findCrt L dq).h.r, .slice ab (findCrt L dq).h.bs.length cb, .slice ap (findCrt L dq).h.ps.length cp, .slice av (findCrt L dq).vs.length cv], .int .i64 0]) rfl (by kernel_rfl) (by kernel_rfl) (by kernel_rfl) (fun _ _ _ h => h) (Or.inl ⟨by rfl, fun w hSw => ?_⟩) hHeld ?_
                  · clear hSw; go_simp; all_goals (try first | rfl | omega)
                  try simp only [Act.put, List.getElem_toArray, List.getElem_cons_succ, List.getElem_cons_zero, List.setIfInBounds_toArray, List.set_cons_zero, List.set_cons_succ]
                  refine wpAnyH_take (i := 7) (v := .agg #[.int .i64 (findCrt L dq).h.a, .int .i64 (findCrt L dq).h.r, .slice ab (findCrt L dq).h.bs.length cb, .slice ap (findCrt L dq).h.ps.length cp, .slice av (findCrt L dq).vs.length cv]) rfl (by kernel_rfl) (by kernel_rfl) (by kernel_rfl) (fun _ _ _ h => h) (Or.inl ⟨by rfl, fun w hSw => ?_⟩) hHeld ?_
                  · clear hSw; go_simp; all_goals (try first | rfl | omega)
                  try simp only [Act.put, List.getElem_toArray, List.getElem_cons_succ, List.getElem_cons_zero, List.setIfInBounds_toArray, List.set_cons_zero, List.set_cons_succ]
                  refine wpAnyH_take (i := 8) (v := .int .i64 0) rfl (by kernel_rfl) (by kernel_rfl) (by kernel_rfl) (fun _ _ _ h => h) (Or.inl ⟨by rfl, fun w hSw => ?_⟩) hHeld ?_
                  · clear hSw; go_simp; all_goals (try first | rfl | omega)
                  try simp only [Act.put, List.getElem_toArray, List.getElem_cons_succ, List.getElem_cons_zero, List.setIfInBounds_toArray, List.set_cons_zero, List.set_cons_succ]
                  refine wpAnyH_ready (rs := [9]) (by kernel_rfl) (by simp) ?_
                  refine AllReadyH.cons rfl (fun K hK => ?_) ?_
                  · rw [if_pos (by rfl)]
                    go_simp
                    show K _ _
                    refine hK.out _ _ (by exact (HBwf.out.alloc (Below.size HBwf.out) _)) (fun hHeld => ?_)
                    clear hK K
                    try simp only [Act.put, List.getElem_toArray, List.getElem_cons_succ, List.getElem_cons_zero, List.setIfInBounds_toArray, List.set_cons_zero, List.set_cons_succ]
                    obtain ⟨wa1, hwn⟩ : ∃ wa1, wa1 = wf.alloc (.cells #[.int .i64 0, .int .i64 0, .slice none 0 0, .slice none 0 0, .slice none 0 0] 45) := ⟨_, rfl⟩
                    have FA1 := Lib.hid (show BoxAt wa1 (wf.heap.size) [.int .i64 0, .int .i64 0, .slice none 0 0, .slice none 0 0, .slice none 0 0] 45 by rw [hwn]; exact BoxAt.newAt wf [.int .i64 0, .int .i64 0, .slice none 0 0, .slice none 0 0, .slice none 0 0] 45 rfl)
                    have HBwa1 := Lib.hid (show Below wx.heap.size wx wa1 by rw [hwn]; exact HBwf.out.alloc (Below.size HBwf.out) _)
                    have HKL := Lib.hid (show Keep (fun b => wx.heap.size ≤ b ∧ b ≠ wf.heap.size) wf wa1 by rw [hwn]; exact Keep.alloc _ _ _)
                    rw [← hwn] at hHeld ⊢
                    clear hwn
                    have zwa1 := FA1.out.lt
                    refine wpAnyH_ready (rs := [10]) (by kernel_rfl) (by simp) ?_
                    refine AllReadyH.cons rfl (fun K hK => ?_) ?_
                    · rw [if_pos (by rfl)]
                      have q0 := FA1.out.cell 0 rfl
                      have q1 := FA1.out.cell 1 rfl
                      have q2 := FA1.out.cell 2 rfl
                      have q3 := FA1.out.cell 3 rfl
                      have q4 := FA1.out.cell 4 rfl
                      have qf0 := FA1.out.free 0
                      have qf1 := FA1.out.free 1
                      have qf2 := FA1.out.free 2
                      have qf3 := FA1.out.free 3
                      have qf4 := FA1.out.free 4
                      have qz := FA1.out.lt
                      go_simp
                      show K _ _
                      refine hK.out _ _ (by exact (((((HBwa1.out.setCell (p := ⟨wf.heap.size, 0, none⟩) (by simp; omega) (.int .i64 (findCrt L dq).h.a)).setCell (p := ⟨wf.heap.size, 1, none⟩) (by simp; omega) (.int .i64 (findCrt L dq).h.r)).setCell (p := ⟨wf.heap.size, 2, none⟩) (by simp; omega) (.slice ab (findCrt L dq).h.bs.length cb)).setCell (p := ⟨wf.heap.size, 3, none⟩) (by simp; omega) (.slice ap (findCrt L dq).h.ps.length cp)).setCell (p := ⟨wf.heap.size, 4, none⟩) (by simp; omega) (.slice av (findCrt L dq).vs.length cv))) (fun hHeld => ?_)
                      clear hK K
                      try simp only [Act.put, List.getElem_toArray, List.getElem_cons_succ, List.getElem_cons_zero, List.setIfInBounds_toArray, List.set_cons_zero, List.set_cons_succ]
                      refine wpAnyH_take (i := 11) (v := .int .i64 0) rfl (by kernel_rfl) (by kernel_rfl) (by kernel_rfl) (fun _ _ _ h => h) (Or.inl ⟨by rfl, fun w hSw => ?_⟩) hHeld ?_
                      · clear hSw; go_simp; all_goals (try first | rfl | omega)
                      try simp only [Act.put, List.getElem_toArray, List.getElem_cons_succ, List.getElem_cons_zero, List.setIfInBounds_toArray, List.set_cons_zero, List.set_cons_succ]
                      refine wpAnyH_done (by kernel_rfl) ?_ _
                      obtain ⟨wz, hwz⟩ : ∃ wz, wz = (((((wa1.setCell ⟨wf.heap.size, 0, none⟩ (.int .i64 (findCrt L dq).h.a)).setCell ⟨wf.heap.size, 1, none⟩ (.int .i64 (findCrt L dq).h.r)).setCell ⟨wf.heap.size, 2, none⟩ (.slice ab (findCrt L dq).h.bs.length cb)).setCell ⟨wf.heap.size, 3, none⟩ (.slice ap (findCrt L dq).h.ps.length cp)).setCell ⟨wf.heap.size, 4, none⟩ (.slice av (findCrt L dq).vs.length cv)) := ⟨_, rfl⟩
                      have HKz : Keep (fun b => wx.heap.size ≤ b ∧ b ≠ wf.heap.size) wa1 wz := by rw [hwz]; exact ((((Keep.setCell (by simp) _).trans (Keep.setCell (by simp) _)).trans (Keep.setCell (by simp) _)).trans (Keep.setCell (by simp) _)).trans (Keep.setCell (by simp) _)
                      have HZ := Lib.hid (show BoxAt wz (wf.heap.size) [.int .i64 (findCrt L dq).h.a, .int .i64 (findCrt L dq).h.r, .slice ab (findCrt L dq).h.bs.length cb, .slice ap (findCrt L dq).h.ps.length cp, .slice av (findCrt L dq).vs.length cv] 45 by rw [hwz]; exact (((((FA1.out.set 0 (.int .i64 (findCrt L dq).h.a)).set 1 (.int .i64 (findCrt L dq).h.r)).set 2 (.slice ab (findCrt L dq).h.bs.length cb)).set 3 (.slice ap (findCrt L dq).h.ps.length cp)).set 4 (.slice av (findCrt L dq).vs.length cv)))
                      have HBz := Lib.hid (show Below wx.heap.size wx wz by rw [hwz]; exact (((((HBwa1.out.setCell (p := ⟨wf.heap.size, 0, none⟩) (by simp; omega) (.int .i64 (findCrt L dq).h.a)).setCell (p := ⟨wf.heap.size, 1, none⟩) (by simp; omega) (.int .i64 (findCrt L dq).h.r)).setCell (p := ⟨wf.heap.size, 2, none⟩) (by simp; omega) (.slice ab (findCrt L dq).h.bs.length cb)).setCell (p := ⟨wf.heap.size, 3, none⟩) (by simp; omega) (.slice ap (findCrt L dq).h.ps.length cp)).setCell (p := ⟨wf.heap.size, 4, none⟩) (by simp; omega) (.slice av (findCrt L dq).vs.length cv)))
                      have hq0 : Keep (fun b => wx.heap.size ≤ b ∧ b ≠ wf.heap.size) wf wa1 := HKL.out
                      have HVBz := Lib.hid ((HVB.out.keep (hq0.trans HKz) (fun _ h => h)).mono (G' := fun b => wx.heap.size ≤ b) (fun _ h => h.1))
                      have HVPz := Lib.hid ((HVP.out.keep (hq0.trans HKz) (fun _ h => h)).mono (G' := fun b => wx.heap.size ≤ b) (fun _ h => h.1))
                      have HVVz := Lib.hid ((HVV.out.keep (hq0.trans HKz) (fun _ h => h)).mono (G' := fun b => wx.heap.size ≤ b) (fun _ h => h.1))
                      go_wp2
                      rw [← hwz]
                      clear hwz HKz
                      go_meet
                      exact ⟨wf.heap.size, ab, ap, av, cb, cp, cv, rfl, rfl, HZ.out, by omega, HVBz.out, HVPz.out, HVVz.out, HBz.out⟩
                    exact AllReadyH.nil
                  exact AllReadyH.nil
                refine AllReadyH.cons rfl (fun K hK => ?_) ?_
                · rw [if_pos (by rfl)]
                  go_simp
                  show K _ _
                  refine hK.out _ _ (by exact (HBd.out.alloc (Below.size HBd.out) _)) (fun hHeld => ?_)
                  clear hK K
                  try simp only [Act.put, List.getElem_toArray, List.getElem_cons_succ, List.getElem_cons_zero, List.setIfInBounds_toArray, List.set_cons_zero, List.set_cons_succ]
                  obtain ⟨wa1, hwn⟩ : ∃ wa1, wa1 = wd.alloc (.cells #[.int .i64 0, .int .i64 0, .slice none 0 0, .slice none 0 0, .slice none 0 0] 45) := ⟨_, rfl⟩
                  have FA1 := Lib.hid (show BoxAt wa1 (wd.heap.size) [.int .i64 0, .int .i64 0, .slice none 0 0, .slice none 0 0, .slice none 0 0] 45 by rw [hwn]; exact BoxAt.newAt wd [.int .i64 0, .int .i64 0, .slice none 0 0, .slice none 0 0, .slice none 0 0] 45 rfl)
                  have HBwa1 := Lib.hid (show Below wx.heap.size wx wa1 by rw [hwn]; exact HBd.out.alloc (Below.size HBd.out) _)
                  rw [← hwn] at hHeld ⊢
                  clear hwn
                  have zwa1 := FA1.out.lt
                  refine wpAnyH_ready (rs := [5]) (by kernel_rfl) (by simp) ?_
                  refine AllReadyH.cons rfl (fun K hK => ?_) ?_
                  · rw [if_pos (by rfl)]
                    go_simp
                    go_at_call 24
                    refine (dagFind_any _ _ _ (HDr.out.below HBwa1.out (fun _ h => h)) (HDK.out.below HBwa1.out (fun _ h => h)) (HT.out.belowS (HBE.out.trans (HBwa1.out.mono (Below.size HBE.out)))) HOK.out).mono ?_
                    rintro e wf ⟨vb, vp, vv, rfl, hvb, hvp, hvv, hb_wf⟩
                    rw [HFi.out.1]
                    obtain ⟨ab, cb, rfl, -, -⟩ := hvb.form
                    obtain ⟨ap, cp, rfl, -, -⟩ := hvp.form
                    obtain ⟨av, cv, rfl, -, -⟩ := hvv.form
                    have HVB := Lib.hid (show RdBB (fun b => wx.heap.size ≤ b ∧ b ≠ wd.heap.size) _ _ (findCrt L dq).h.bs from (hvb.low (by decide)).mono (fun b hb => ⟨by have := hb.1; have := Below.size HBwa1.out; omega, by have h0 := hb.1; have := FA1.out.lt; omega⟩))
                    have HVP := Lib.hid (show RdBB (fun b => wx.heap.size ≤ b ∧ b ≠ wd.heap.size) _ _ (findCrt L dq).h.ps from (hvp.low (by decide)).mono (fun b hb => ⟨by have := hb.1; have := Below.size HBwa1.out; omega, by have h0 := hb.1; have := FA1.out.lt; omega⟩))
                    have HVV := Lib.hid (show RdI (fun b => wx.heap.size ≤ b ∧ b ≠ wd.heap.size) _ _ (findCrt L dq).vs from (hvv.low (by decide)).mono (fun b hb => ⟨by have := hb.1; have := Below.size HBwa1.out; omega, by have h0 := hb.1; have := FA1.out.lt; omega⟩))
                    clear hvb hvp hvv
                    have HBwf := Lib.hid (HBwa1.out.trans (hb_wf.mono (Below.size HBwa1.out)))
                    replace FA1 := Lib.hid (FA1.out.belowS hb_wf)
                    have zwf := hb_wf.size
                    clear hb_wf
                    show K _ _
                    refine hK.out _ _ (by exact HBwf.out) (fun hHeld => ?_)
                    clear hK K
                    try simp only [Act.put, List.getElem_toArray, List.getElem_cons_succ, List.getElem_cons_zero, List.setIfInBounds_toArray, List.set_cons_zero, List.set_cons_succ]
                    refine wpAnyH_take (i := 6) (v := .tuple #[.agg #[.int .i64 (findCrt L dq).h.a, .int .i64 (findCrt L dq).h.r, .slice ab (findCrt L dq).h.bs.length cb, .slice ap (findCrt L dq).h.ps.length cp, .slice av (findCrt L dq).vs.length cv], .int .i64 0]) rfl (by kernel_rfl) (by kernel_rfl) (by kernel_rfl) (fun _ _ _ h => h) (Or.inl ⟨by rfl, fun w hSw => ?_⟩) hHeld ?_
                    · clear hSw; go_simp; all_goals (try first | rfl | omega)
                    try simp only [Act.put, List.getElem_toArray, List.getElem_cons_succ, List.getElem_cons_zero, List.setIfInBounds_toArray, List.set_cons_zero, List.set_cons_succ]
                    refine wpAnyH_take (i := 7) (v := .agg #[.int .i64 (findCrt L dq).h.a, .int .i64 (findCrt L dq).h.r, .slice ab (findCrt L dq).h.bs.length cb, .slice ap (findCrt L dq).h.ps.length cp, .slice av (findCrt L dq).vs.length cv]) rfl (by kernel_rfl) (by kernel_rfl) (by kernel_rfl) (fun _ _ _ h => h) (Or.inl ⟨by rfl, fun w hSw => ?_⟩) hHeld ?_
                    · clear hSw; go_simp; all_goals (try first | rfl | omega)
                    try simp only [Act.put, List.getElem_toArray, List.getElem_cons_succ, List.getElem_cons_zero, List.setIfInBounds_toArray, List.set_cons_zero, List.set_cons_succ]
                    refine wpAnyH_take (i := 8) (v := .int .i64 0) rfl (by kernel_rfl) (by kernel_rfl) (by kernel_rfl) (fun _ _ _ h => h) (Or.inl ⟨by rfl, fun w hSw => ?_⟩) hHeld ?_
                    · clear hSw; go_simp; all_goals (try first | rfl | omega)
                    try simp only [Act.put, List.getElem_toArray, List.getElem_cons_succ, List.getElem_cons_zero, List.setIfInBounds_toArray, List.set_cons_zero, List.set_cons_succ]
                    refine wpAnyH_ready (rs := [10]) (by kernel_rfl) (by simp) ?_
                    refine AllReadyH.cons rfl (fun K hK => ?_) ?_
                    · rw [if_pos (by rfl)]
                      have q0 := FA1.out.cell 0 rfl
                      have q1 := FA1.out.cell 1 rfl
                      have q2 := FA1.out.cell 2 rfl
                      have q3 := FA1.out.cell 3 rfl
                      have q4 := FA1.out.cell 4 rfl
                      have qf0 := FA1.out.free 0
                      have qf1 := FA1.out.free 1
                      have qf2 := FA1.out.free 2
                      have qf3 := FA1.out.free 3
                      have qf4 := FA1.out.free 4
                      have qz := FA1.out.lt
                      go_simp
                      show K _ _
                      refine hK.out _ _ (by exact (((((HBwf.out.setCell (p := ⟨wd.heap.size, 0, none⟩) (by simp; omega) (.int .i64 (findCrt L dq).h.a)).setCell (p := ⟨wd.heap.size, 1, none⟩) (by simp; omega) (.int .i64 (findCrt L dq).h.r)).setCell (p := ⟨wd.heap.size, 2, none⟩) (by simp; omega) (.slice ab (findCrt L dq).h.bs.length cb)).setCell (p := ⟨wd.heap.size, 3, none⟩) (by simp; omega) (.slice ap (findCrt L dq).h.ps.length cp)).setCell (p := ⟨wd.heap.size, 4, none⟩) (by simp; omega) (.slice av (findCrt L dq).vs.length cv))) (fun hHeld => ?_)
                      clear hK K
                      try simp only [Act.put, List.getElem_toArray, List.getElem_cons_succ, List.getElem_cons_zero, List.setIfInBounds_toArray, List.set_cons_zero, List.set_cons_succ]
                      refine wpAnyH_take (i := 11) (v := .int .i64 0) rfl (by kernel_rfl) (by kernel_rfl) (by kernel_rfl) (fun _ _ _ h => h) (Or.inl ⟨by rfl, fun w hSw => ?_⟩) hHeld ?_
                      · clear hSw; go_simp; all_goals (try first | rfl | omega)
                      try simp only [Act.put, List.getElem_toArray, List.getElem_cons_succ, List.getElem_cons_zero, List.setIfInBounds_toArray, List.set_cons_zero, List.set_cons_succ]
                      refine wpAnyH_done (by kernel_rfl) ?_ _
                      obtain ⟨wz, hwz⟩ : ∃ wz, wz = (((((wf.setCell ⟨wd.heap.size, 0, none⟩ (.int .i64 (findCrt L dq).h.a)).setCell ⟨wd.heap.size, 1, none⟩ (.int .i64 (findCrt L dq).h.r)).setCell ⟨wd.heap.size, 2, none⟩ (.slice ab (findCrt L dq).h.bs.length cb)).setCell ⟨wd.heap.size, 3, none⟩ (.slice ap (findCrt L dq).h.ps.length cp)).setCell ⟨wd.heap.size, 4, none⟩ (.slice av (findCrt L dq).vs.length cv)) := ⟨_, rfl⟩
                      have HKz : Keep (fun b => wx.heap.size ≤ b ∧ b ≠ wd.heap.size) wf wz := by rw [hwz]; exact ((((Keep.setCell (by simp) _).trans (Keep.setCell (by simp) _)).trans (Keep.setCell (by simp) _)).trans (Keep.setCell (by simp) _)).trans (Keep.setCell (by simp) _)
                      have HZ := Lib.hid (show BoxAt wz (wd.heap.size) [.int .i64 (findCrt L dq).h.a, .int .i64 (findCrt L dq).h.r, .slice ab (findCrt L dq).h.bs.length cb, .slice ap (findCrt L dq).h.ps.length cp, .slice av (findCrt L dq).vs.length cv] 45 by rw [hwz]; exact (((((FA1.out.set 0 (.int .i64 (findCrt L dq).h.a)).set 1 (.int .i64 (findCrt L dq).h.r)).set 2 (.slice ab (findCrt L dq).h.bs.length cb)).set 3 (.slice ap (findCrt L dq).h.ps.length cp)).set 4 (.slice av (findCrt L dq).vs.length cv)))
                      have HBz := Lib.hid (show Below wx.heap.size wx wz by rw [hwz]; exact (((((HBwf.out.setCell (p := ⟨wd.heap.size, 0, none⟩) (by simp; omega) (.int .i64 (findCrt L dq).h.a)).setCell (p := ⟨wd.heap.size, 1, none⟩) (by simp; omega) (.int .i64 (findCrt L dq).h.r)).setCell (p := ⟨wd.heap.size, 2, none⟩) (by simp; omega) (.slice ab (findCrt L dq).h.bs.length cb)).setCell (p := ⟨wd.heap.size, 3, none⟩) (by simp; omega) (.slice ap (findCrt L dq).h.ps.length cp)).setCell (p := ⟨wd.heap.size, 4, none⟩) (by simp; omega) (.slice av (findCrt L dq).vs.length cv)))
                      have HVBz := Lib.hid ((HVB.out.keep HKz (fun _ h => h)).mono (G' := fun b => wx.heap.size ≤ b) (fun _ h => h.1))
                      have HVPz := Lib.hid ((HVP.out.keep HKz (fun _ h => h)).mono (G' := fun b => wx.heap.size ≤ b) (fun _ h => h.1))
                      have HVVz := Lib.hid ((HVV.out.keep HKz (fun _ h => h)).mono (G' := fun b => wx.heap.size ≤ b) (fun _ h => h.1))
                      go_wp2
                      rw [← hwz]
                      clear hwz HKz
                      go_meet
                      exact ⟨wd.heap.size, ab, ap, av, cb, cp, cv, rfl, rfl, HZ.out, by omega, HVBz.out, HVPz.out, HVVz.out, HBz.out⟩
                    exact AllReadyH.nil
                  exact AllReadyH.nil
                exact AllReadyH.nil
              case rest =>
              obtain ⟨P, ab, ap, av, cb, cp, cv, rfl, rfl, hBP, hPge, hvb, hvp, hvv, hB5⟩ := hcut
              rename World => w7
              have HP := Lib.hid hBP
              have K1 := Lib.hid hvb
              have K2 := Lib.hid hvp
              have K3 := Lib.hid hvv
              clear hBP hvb hvp hvv
              have hz7 := hB5.size
              have HB7 := Lib.hid (HBx.out.trans (hB5.mono HBx.out.size))
              replace HOM := Lib.hid (ownsMap_belowG HOM.out hB5)
              clear hB5 HES HDK HXr HDr
              replace K1 := Lib.hid ((K1.out.low (by decide)).mono (G' := fun b => wx.heap.size ≤ b ∧ b < w7.heap.size) (fun _ h => h))
              have hPl := HP.out.lt
              have HFN := Lib.hid HFi.out.2.2
              clear HFi K2 K3
              generalize hFF : findCrt L dq = F at *
              clear hFF
              go_wp2_with fail
              go_loopw [19] (fun u wy => ∃ (q n2 : Nat) (D2 : DataW Value) (K2 : List Bytes), q ≤ BS.length ∧ u = .int .i64 q ∧ n2 ≤ 200 * i + 4 * q ∧ BoolMap D2 K2 ∧ (∀ y, y ∈ K2 ↔ y ∈ K ∨ inBats F BS q y) ∧ wy.ownsMap Tryd.prog 9 heldElem wr.heap.size n2 D2 ∧ ButB w7.heap.size wr.heap.size w7 wy) (fun u _ => BS.length - (intOf u).toNat)
              case atStart => exact ⟨0, nn, D, K, Nat.zero_le _, rfl, by omega, HBO.out, fun y => by simp [inBats], HOM.out, ButB.refl _ _ _⟩
              case round =>
                rename World => wy
                obtain ⟨q, n2, D2, K2, hq, rfl, hn2, hbm2, hk2, hom2, hBy⟩ := hrel
                have HBO2 := Lib.hid hbm2
                have HKI2 := Lib.hid hk2
                have HOM2 := Lib.hid hom2
                have HBy := Lib.hid hBy
                have hzy := hBy.size
                have HBWy := Lib.hid (HB7.out.trans (hBy.below (C := wr.heap.size) (by omega) (Nat.le_refl _)))
                clear hbm2 hk2 hom2 hBy
                by_cases hqt : q < BS.length
                · have q0 : (0 : Int) ≤ (q : Int) := by omega
                  have q1 : (q : Int) < (BS.length : Int) := by omega
                  have wq : IntKind.i64.wrap ((q : Int) + 1) = (q : Int) + 1 := IntWalk.i64_in _ (by omega)
                  obtain ⟨bb, ob, vt, rfl, hgb, e0, e1, e2, hr, hls⟩ := (HBT.out.below HBWy.out (fun _ h => h)).bat q hqt
                  obtain ⟨adt, capt, rfl, -, -⟩ := hr.form
                  have hgb : bb < w2.heap.size := hgb
                  have HE2 := Lib.hid e2
                  have HRD := Lib.hid hr
                  have HLS := Lib.hid hls
                  have HCB2 := Lib.hid (HBK.out BS[q] (List.getElem_mem hqt))
                  have hx4 := HTX4.out BS[q] (List.getElem_mem hqt)
                  have HIB := Lib.hid (fun y => inBats_succ (F := F) (bs := BS) hqt (x := y))
                  generalize hxb : BS[q] = xb at *
                  clear hr hls hxb
                  go_wp2_with fail
                  refine (batchDigest_any xb _ wy HRD.out HLS.out (HT.out.belowS (HB.out.trans (HBWy.out.mono HB.out.size)))).mono ?_
                  rintro e w8 ⟨v2, rfl, hd, hb8⟩
                  have hdd : batD xb = batSum xb := by unfold batD; rw [if_pos HCB2.out]
                  rw [hdd] at hd
                  rw [HCB2.out]
                  obtain ⟨add2, capd2, rfl, -, -⟩ := hd.form
                  have HDX := Lib.hid ((hd.low (by decide)).mono (G' := fun b => wy.heap.size ≤ b ∧ b < w8.heap.size) (fun _ h => h))
                  have hz8 := hb8.size
                  replace HRD := Lib.hid (HRD.out.below hb8 (fun _ h => h))
                  replace HE2 := Lib.hid ((hb8.cell (p := ⟨bb, ob + q * 3 + 2, none⟩) (by simp only; omega)).trans HE2.out)
                  replace HOM2 := Lib.hid (ownsMap_belowG HOM2.out hb8)
                  have HP8 := Lib.hid ((HBy.out.box HP.out hPl (by omega)).belowS hb8)
                  have HK8 := Lib.hid ((K1.out.keep (HBy.out.keep (fun b hb => by have h1 := hb.1; have h2 := hb.2; omega)) (fun _ h => h)).below hb8 (fun _ h => h))
                  have HBy8 := Lib.hid (HBy.out.trans (.ofBelow (hb8.mono hzy)))
                  clear hd hb8 hdd e0 e1 e2
                  obtain ⟨kz, hkz⟩ : ∃ kz, kz = idxP (isB (batSum xb)) F.h.bs := ⟨_, rfl⟩
                  have HKM := Lib.hid (show 0 ≤ kz ↔ batSum xb ∈ F.h.bs by
                    rw [hkz, idxP_ge]
                    exact ⟨fun ⟨x, hx, h⟩ => by unfold isB at h; rw [← of_decide_eq_true h]; exact hx, fun h => ⟨_, h, by unfold isB; exact decide_eq_true rfl⟩⟩)
                  have HKZ := Lib.hid hkz.symm
                  clear hkz
                  generalize hxs : batSum xb = xs at *
                  clear hxs
                  go_wp2_with fail
                  go_loopw [22] (fun u wz => ∃ (r n3 : Nat) (D3 : DataW Value) (K3 : List Bytes), r ≤ xb.txs.length ∧ u = .int .i64 r ∧ n3 ≤ 200 * i + 4 * q + r ∧ BoolMap D3 K3 ∧ (∀ y, y ∈ K3 ↔ y ∈ K2 ∨ (xs ∈ F.h.bs ∧ y ∈ xb.txs.take r)) ∧ wz.ownsMap Tryd.prog 9 heldElem wr.heap.size n3 D3 ∧ ButB w8.heap.size wr.heap.size w8 wz) (fun u _ => xb.txs.length - (intOf u).toNat)
                  case atStart => exact ⟨0, n2, D2, K2, Nat.zero_le _, rfl, by omega, HBO2.out, fun y => by simp, HOM2.out, ButB.refl _ _ _⟩
                  case round =>
                    rename World => wz
                    obtain ⟨r, n3, D3, K3, hr, rfl, hn3, hbm3, hk3, hom3, hBz⟩ := hrel
                    have HBO3 := Lib.hid hbm3
                    have HKI3 := Lib.hid hk3
                    have HOM3 := Lib.hid hom3
                    have HBz := Lib.hid hBz
                    have hzz := hBz.size
                    have HBy9 := Lib.hid (HBy8.out.trans ⟨hBz.os, hBz.tape, hBz.output, hBz.size, fun k hk hs => hBz.block k (by omega) hs⟩)
                    have HBzl := hBz.below (C := wr.heap.size) (by omega) (Nat.le_refl _)
                    have e2 := (HBzl.cell (p := ⟨bb, ob + q * 3 + 2, none⟩) (by simp only; omega)).trans HE2.out
                    clear hbm3 hk3 hom3 hBz HBzl
                    by_cases hrt : r < xb.txs.length
                    · have r0 : (0 : Int) ≤ (r : Int) := by omega
                      have r1 : (r : Int) < (xb.txs.length : Int) := by omega
                      have wr1 : IntKind.i64.wrap ((r : Int) + 1) = (r : Int) + 1 := IntWalk.i64_in _ (by omega)
                      have HP9 := Lib.hid (HBz.out.box HP8.out (by have := HP8.out.lt; omega) (by omega))
                      have y2 := HP9.out.cell 2 rfl
                      have HK9 := Lib.hid (HK8.out.keep (HBz.out.keep (fun b hb => by have h1 := hb.1; have h2 := hb.2; omega)) (fun _ h => h))
                      have HDX9 := Lib.hid (HDX.out.keep (HBz.out.keep (fun b hb => by have h1 := hb.1; have h2 := hb.2; omega)) (fun _ h => h))
                      go_wp2_with fail
                      refine (sat_any _ _ _ HK9.out HDX9.out).mono ?_
                      rintro e w' ⟨rfl, rfl⟩
                      rw [HKZ.out]
                      by_cases hk0 : 0 ≤ kz
                      · have hdz : decide (0 ≤ kz) = true := decide_eq_true hk0
                        have HIN2 := Lib.hid (HKM.out.1 hk0)
                        clear hk0
                        have HRz := Lib.hid (HRD.out.keep (HBz.out.keep (fun b hb => by have h1 : b < w2.heap.size := hb; omega)) (fun _ h => h))
                        obtain ⟨bt2, ot2, rfl, -, et⟩ := HRz.out.cell r hrt
                        have HKT := Lib.hid (keyStr xb.txs[r] (HLS.out _ (List.getElem_mem hrt)))
                        have HTK3 := Lib.hid (List.take_succ_eq_append_getElem hrt)
                        generalize hty : xb.txs[r] = tx at *
                        clear hty
                        go_wp2_with (at_mapUpdate; refine wpList_mapUpdate_own _ rfl _ _ _ 63 rfl 9 4 lawStr Tryd.underlying63 heldElem wr.heap.size n3 D3 rfl HOM3.out (by unfold maxLen; omega) _ _ _ rfl rfl HKT.out _ [] rfl ?_; intro wu hownu hgru)
                        have HOU := Lib.hid hownu
                        have HBU := Lib.hid (HBz.out.grown hgru (by omega) (fun k hk => by cases hk; exact .inr rfl))
                        have HBO4 := Lib.hid (HBO3.out.put tx)
                        have HKI4 := Lib.hid (show ∀ y, y ∈ addT K3 tx ↔ y ∈ K2 ∨ (xs ∈ F.h.bs ∧ y ∈ xb.txs.take (r + 1)) from fun y => by
                          rw [mem_addT, HKI3.out, HTK3.out, List.mem_append, List.mem_singleton]
                          constructor
                          · rintro ((h | h) | h)
                            · exact .inl h
                            · exact .inr ⟨h.1, .inl h.2⟩
                            · exact .inr ⟨HIN2.out, .inr h⟩
                          · rintro (h | ⟨h, h2 | h2⟩)
                            · exact .inl (.inl h)
                            · exact .inl (.inr ⟨h, h2⟩)
                            · exact .inr h2)
                        clear hownu hgru
                        go_wp2
                        go_roundw
                        case rel => exact ⟨r + 1, n3 + 1, _, _, by omega, by go_num, by omega, HBO4.out, HKI4.out, HOU.out, HBU.out⟩
                        case measure => simp [intOf]; omega
                      · have hdz : decide (0 ≤ kz) = false := decide_eq_false hk0
                        have HKI4 := Lib.hid (show ∀ y, y ∈ K3 ↔ y ∈ K ∨ inBats F BS (q + 1) y from fun y => by
                          have hn : ¬ xs ∈ F.h.bs := fun h => hk0 (HKM.out.2 h)
                          rw [HKI3.out, HIB.out, HKI2.out]
                          constructor
                          · rintro ((h | h) | h)
                            · exact .inl h
                            · exact .inr (.inl h)
                            · exact absurd h.1 hn
                          · rintro (h | h | h)
                            · exact .inl (.inl h)
                            · exact .inl (.inr h)
                            · exact absurd h.1 hn)
                        clear hk0
                        go_wp2
                        go_roundw
                        case rel => exact ⟨q + 1, n3, D3, K3, by omega, by go_num, by omega, HBO3.out, HKI4.out, HOM3.out, HBy9.out⟩
                        case measure => simp [intOf]; omega
                    · obtain rfl : r = xb.txs.length := by omega
                      rw [List.take_length] at HKI3
                      have t1 : ¬ (xb.txs.length : Int) < (xb.txs.length : Int) := by omega
                      have HKI4 := Lib.hid (show ∀ y, y ∈ K3 ↔ y ∈ K ∨ inBats F BS (q + 1) y from fun y => by
                        rw [HKI3.out, HIB.out, HKI2.out, or_assoc])
                      go_wp2
                      go_roundw
                      case rel => exact ⟨q + 1, n3, D3, K3, by omega, by go_num, by omega, HBO3.out, HKI4.out, HOM3.out, HBy9.out⟩
                      case measure => simp [intOf]; omega
                · obtain rfl : q = BS.length := by omega
                  have t1 : ¬ (BS.length : Int) < (BS.length : Int) := by omega
                  have HKI3 := Lib.hid (show Clr l → ∀ y, y ∈ K2 ↔ inHist L BS MA (i + 1) y from fun h y => by
                    rw [HKI2.out, HKI.out h, inHist_succ hlt, HFN.out (HCLR.out h).1])
                  go_wp2
                  go_roundw
                  case rel => exact ⟨i + 1, n2, D2, K2, by omega, by go_num, by omega, HBO2.out, HKI3.out, HOM2.out, HBWy.out, by omega⟩
                  case measure => simp [intOf]; omega
            · obtain rfl : i = MA.length := by omega
              have t1 : ¬ (MA.length : Int) < (MA.length : Int) := by omega
              have HKQ := Lib.hid (show Clr l → ∀ y, y ∈ K ↔ y ∈ QB from fun h y => by
                obtain ⟨-, h2, h3⟩ := HCB.out h
                have hu := hist_unique h3 HMA.out
                rw [HKI.out h, HIN.out h MA (fun j hj => HMA.out.lt j hj), h2, hu])
              have HKL := Lib.hid (show Clr l → QB.length = K.length from fun h => ((List.perm_ext_iff_of_nodup HQN.out HBO.out.nd).2 (fun y => (HKQ.out h y).symm)).length_eq)
              have HRBx := Lib.hid (HRB.out.below HBx.out (fun _ h => h))
              have HBEx := Lib.hid (HB.out.trans (HBx.out.mono HB.out.size))
              go_wp2_with fail
              go_loopw [23] (fun u ws => ∃ r : Nat, r ≤ QB.length ∧ u = .int .i64 r ∧ Below wx.heap.size wx ws) (fun u _ => QB.length - (intOf u).toNat)
              case atStart => exact ⟨0, Nat.zero_le _, rfl, Below.refl _ _⟩
              case round =>
                rename World => ws
                obtain ⟨r, hr, rfl, hBs⟩ := hrel
                have HBs := Lib.hid hBs
                have HOMs := Lib.hid (ownsMap_belowG HOM.out hBs)
                have HRBs := Lib.hid (HRBx.out.below hBs (fun _ h => h))
                have HBEs := Lib.hid (HBEx.out.trans (hBs.mono HBEx.out.size))
                clear hBs
                by_cases hrt : r < QB.length
                · have r0 : (0 : Int) ≤ (r : Int) := by omega
                  have r1 : (r : Int) < (QB.length : Int) := by omega
                  have wr1 : IntKind.i64.wrap ((r : Int) + 1) = (r : Int) + 1 := IntWalk.i64_in _ (by omega)
                  obtain ⟨bt2, ot2, rfl, -, et⟩ := HRBs.out.cell r hrt
                  have HKT := Lib.hid (keyStr QB[r] (HQL.out _ (List.getElem_mem hrt)))
                  have HQI := Lib.hid (List.getElem_mem hrt)
                  generalize hty : QB[r] = tx at *
                  clear hty
                  by_cases hm : tx ∈ K
                  · have HV0 := Lib.hid (show ∀ (v : Value) ps, heldElem v = some (D.atKey (litB tx) (.held (.bool false)), ps) → v = .bool true from fun v ps h => held_eq h (by rw [HBO.out.at_, if_pos hm]))
                    clear hm
                    go_wp2_with (at_lookup; refine wpList_lookup_held rfl _ _ 63 rfl 9 4 lawStr Tryd.underlying63 heldElem (zeroBool _) (.held (.bool false)) [] rfl wr.heap.size nn D rfl HOMs.out _ _ rfl HKT.out (.bool true) HV0.out ?_)
                    go_roundw
                    case rel => exact ⟨r + 1, by omega, by go_num, HBs.out⟩
                    case measure => simp [intOf]; omega
                  · have HV0 := Lib.hid (show ∀ (v : Value) ps, heldElem v = some (D.atKey (litB tx) (.held (.bool false)), ps) → v = .bool false from fun v ps h => held_eq h (by rw [HBO.out.at_, if_neg hm]))
                    have HNM := Lib.hid (show ¬ Clr l from fun h => hm ((HKQ.out h _).2 HQI.out))
                    clear hm
                    go_wp2_with (at_lookup; refine wpList_lookup_held rfl _ _ 63 rfl 9 4 lawStr Tryd.underlying63 heldElem (zeroBool _) (.held (.bool false)) [] rfl wr.heap.size nn D rfl HOMs.out _ _ rfl HKT.out (.bool false) HV0.out ?_)
                    go_ret
                    first | exact ⟨false, rfl, fun hn => absurd hn HNM.out, HBEs.out⟩ | exact .inl ⟨rfl, fun hn => absurd hn HNM.out, HBEs.out⟩
                · obtain rfl : r = QB.length := by omega
                  have t2 : ¬ (QB.length : Int) < (QB.length : Int) := by omega
                  have HSZ := Lib.hid HBO.out.size
                  by_cases he : QB.length = K.length
                  · have hb : ((QB.length : Int) == (K.length : Int)) = true := by rw [beq_iff_eq]; omega
                    clear he
                    go_wp2_with (at_len; refine wpList_len_own _ rfl _ 63 rfl 9 4 Tryd.underlying63 heldElem wr.heap.size nn D rfl HOMs.out ?_; rw [HSZ.out])
                    go_ret
                    first | exact ⟨true, rfl, fun _ => rfl, HBEs.out⟩ | exact .inr ⟨rfl, HBEs.out⟩
                  · have hb : ((QB.length : Int) == (K.length : Int)) = false := by rw [beq_eq_false_iff_ne]; omega
                    have HNM := Lib.hid (show ¬ Clr l from fun h => he (HKL.out h))
                    clear he
                    go_wp2_with (at_len; refine wpList_len_own _ rfl _ 63 rfl 9 4 Tryd.underlying63 heldElem wr.heap.size nn D rfl HOMs.out ?_; rw [HSZ.out])
                    go_ret
                    first | exact ⟨false, rfl, fun hn => absurd hn HNM.out, HBEs.out⟩ | exact .inl ⟨rfl, fun hn => absurd hn HNM.out, HBEs.out⟩
    · have hne : (bsCode BS != 0) = true := by simpa using hbz
      have HBZ := Lib.hid hbz
      generalize bsCode BS = bz at *
      clear hbz
      go_wp2
      go_ret
      first | exact ⟨false, rfl, fun hn => absurd (HCLR.out hn).2.1 HBZ.out, HBE6.out⟩ | exact .inl ⟨rfl, fun hn => absurd (HCLR.out hn).2.1 HBZ.out, HBE6.out⟩
  · have hne : (cB != 0) = true := by simpa using hz
    go_wp2
    go_ret
    first | exact ⟨false, rfl, fun hn => absurd (HCB.out hn).1 hz, HBE5.out⟩ | exact .inl ⟨rfl, fun hn => absurd (HCB.out hn).1 hz, HBE5.out⟩
  skip
end Go.Proofs.YtpfmmncnhlfdgaaDoor
namespace Go.Proofs.YtpfmmncnhlfdgaaDoor
open Go Go.RowKit
set_option maxRecDepth 100000 in
set_option maxHeartbeats 8000000 in
theorem blockOnce_walk (v : Value) (l : List Stp) (n : Int) (w : World) (hv : RdS RStp (fun _ => True) w v l) (hz : l.length * 24 ≤ reachBytes) (n1 : -9223372036854775808 ≤ n) (n2 : n ≤ 9223372036854775807) (ht : Tabs w) :
    Calls Tryd.prog 9 #[v, .int .i64 n] w fun e w' => e = .returned (.bool true) ∧ Below w.heap.size w w' := by
  go_enter Tryd.func9, Tryd.ntmps9
  go_wp2_with fail
  refine (blockOnce_any _ l n _ hv hz n1 n2 ht).mono ?_
  rintro e w1 ⟨b, rfl, hn, hb1⟩
  have HN := Lib.hid hn
  clear hn
  cases b with
  | true =>
    go_wp2
    go_ret
    exact ⟨rfl, hb1⟩
  | false =>
    have hg : gsumB l = true := by
      by_cases q : gsumB l = true
      · exact q
      · have := HN.out (gsum_clr (by simpa using q)); cases this
    go_wp2_with fail
    refine (grownSum_any _ _ (hv.below hb1 (fun _ h => h)) hz (ht.belowS hb1)).mono ?_
    rintro e w2 ⟨rfl, hb2⟩
    rw [hg]
    go_wp2
    go_ret
    exact ⟨rfl, hb1.trans (hb2.mono hb1.size)⟩
end Go.Proofs.YtpfmmncnhlfdgaaDoor
