/- BlockSame: the walk. -/
import Derived.Test.YtpfmmncnhlfdgaaDoorHistAll
import Derived.Test.YtpfmmncnhlfdgaaDoorBats
import Derived.Maps.OwnSet
import Derived.Deep.LoopGhost
/- Blocks: plain laws. -/
set_option linter.unusedVariables false
set_option linter.unusedSimpArgs false
attribute [local go_sem ↓] Go.wp_at_zero Go.wp_at_succ
namespace Go.Proofs.YtpfmmncnhlfdgaaDoor
open Go Go.RowKit

open Go.Maps
/-- The texts of a batch, by its digest. -/
def txsB (bs : List Bat) (d : Bytes) : List Bytes := match bs.find? (fun b => decide (batSum b = d)) with | some b => b.txs | none => []
def addT (acc : List Bytes) (t : Bytes) : List Bytes := if t ∈ acc then acc else acc ++ [t]
def addTs (acc ts : List Bytes) : List Bytes := ts.foldl addT acc
def addDs (bs : List Bat) (acc ds : List Bytes) : List Bytes := ds.foldl (fun a d => addTs a (txsB bs d)) acc
/-- The digests of batches of a history. -/
def blkDs (L : List Crt) (M : List Nat) : List Bytes := M.flatMap fun j => (L.getD j crtZ).h.bs
def blkHas (bs : List Bat) (ds : List Bytes) : Bool := ds.all fun d => decide (d ∈ bs.map batSum)
def blkCode (L : List Crt) (bs : List Bat) (k : Bytes) (M : List Nat) : Int := if findCode L k ≠ 0 then findCode L k else if bsCode bs ≠ 0 then bsCode bs else if blkHas bs (blkDs L M) = true then 0 else 8
def blkOut (L : List Crt) (bs : List Bat) (k : Bytes) (M : List Nat) : List Bytes := if blkCode L bs k M = 0 then addDs bs [] (blkDs L M) else []
theorem blkDs_take {L : List Crt} {M : List Nat} {i : Nat} (h : i < M.length) : blkDs L (M.take (i + 1)) = blkDs L (M.take i) ++ (L.getD M[i] crtZ).h.bs := by
  unfold blkDs; rw [List.take_succ_eq_append_getElem h, List.flatMap_append]; simp
theorem addDs_app (bs : List Bat) (acc a b : List Bytes) : addDs bs acc (a ++ b) = addDs bs (addDs bs acc a) b := by unfold addDs; rw [List.foldl_append]
theorem addDs_take {bs : List Bat} {acc ds : List Bytes} {i : Nat} (h : i < ds.length) : addDs bs acc (ds.take (i + 1)) = addTs (addDs bs acc (ds.take i)) (txsB bs ds[i]) := by
  rw [List.take_succ_eq_append_getElem h, addDs_app]; rfl
theorem addTs_take {acc ts : List Bytes} {i : Nat} (h : i < ts.length) : addTs acc (ts.take (i + 1)) = addT (addTs acc (ts.take i)) ts[i] := by
  unfold addTs; rw [List.take_succ_eq_append_getElem h, List.foldl_append]; rfl
theorem blkHas_app (bs : List Bat) (a b : List Bytes) : blkHas bs (a ++ b) = (blkHas bs a && blkHas bs b) := by unfold blkHas; rw [List.all_append]
theorem blkHas_take {bs : List Bat} {ds : List Bytes} {i : Nat} (h : i < ds.length) : blkHas bs (ds.take (i + 1)) = (blkHas bs (ds.take i) && decide (ds[i] ∈ bs.map batSum)) := by
  rw [List.take_succ_eq_append_getElem h, blkHas_app]; simp [blkHas]
theorem blkHas_false {bs : List Bat} {ds : List Bytes} {d : Bytes} (h : d ∈ ds) (h2 : ¬ d ∈ bs.map batSum) : blkHas bs ds = false := by
  unfold blkHas
  rw [List.all_eq_false]
  exact ⟨d, h, by simpa using h2⟩
theorem mem_blkDs {L : List Crt} {M : List Nat} {j : Nat} (hj : j ∈ M) {d : Bytes} (hd : d ∈ (L.getD j crtZ).h.bs) : d ∈ blkDs L M := List.mem_flatMap.2 ⟨j, hj, hd⟩
theorem txsB_mem {bs : List Bat} {d : Bytes} (h : d ∈ bs.map batSum) : ∃ b ∈ bs, batSum b = d ∧ txsB bs d = b.txs := by
  obtain ⟨b0, h0, e0⟩ := List.mem_map.1 h
  rcases hq : bs.find? (fun b => decide (batSum b = d)) with _ | b
  · have := List.find?_eq_none.1 hq b0 h0
    simp [e0] at this
  · have h1 := List.mem_of_find?_eq_some hq
    have h2 := List.find?_some hq
    exact ⟨b, h1, by simpa using h2, by unfold txsB; rw [hq]⟩
theorem bsOk_txs {bs : List Bat} (h : bsOk bs = true) {b : Bat} (hb : b ∈ bs) : b.txs.length ≤ 4 := by
  unfold bsOk at h
  have h1 := (of_decide_eq_true h).2.1 b hb
  unfold batCode at h1
  split at h1
  · simp at h1
  · split at h1
    · simp at h1
    · omega
theorem addT_len (acc : List Bytes) (t : Bytes) : (addT acc t).length ≤ acc.length + 1 := by unfold addT; split <;> simp
/-- What the map of texts holds. -/
def heldElem : Value → Option (DataW Value × List MemPlace) := fun v => some (.held v, [])
structure TxMap (G : Nat → Prop) (w : World) (bs : List Bat) (D : DataW Value) : Prop where
  has : ∀ d : Bytes, has D (litB d) = decide (d ∈ bs.map batSum)
  at_ : ∀ b ∈ bs, ∃ v, (∀ zd, D.atKey (litB (batSum b)) zd = .held v) ∧ RdT G w v b.txs
theorem TxMap.nil (G : Nat → Prop) (w : World) : TxMap G w [] (.map []) := ⟨fun d => by simp [Maps.has], fun b hb => by simp at hb⟩
theorem TxMap.keep {G : Nat → Prop} {w w' : World} {bs : List Bat} {D : DataW Value} (h : TxMap G w bs D) (hb : Keep G w w') : TxMap G w' bs D :=
  ⟨h.has, fun b hm => by obtain ⟨v, h1, h2⟩ := h.at_ b hm; exact ⟨v, h1, h2.keep hb (fun _ h => h)⟩⟩
theorem TxMap.below {G : Nat → Prop} {w w' : World} {bs : List Bat} {D : DataW Value} (h : TxMap G w bs D) (hb : Below w.heap.size w w') : TxMap G w' bs D := h.keep (Keep.below hb)
theorem litB_inj {a b : Bytes} (h : litB a = litB b) : a = b := by unfold litB at h; injection h
theorem TxMap.put {G : Nat → Prop} {w : World} {bs : List Bat} {D : DataW Value} (h : TxMap G w bs D) (hD : IsMap D) {b : Bat} {v : Value} (hn : ¬ batSum b ∈ bs.map batSum) (hv : RdT G w v b.txs) : TxMap G w (bs ++ [b]) (D.put (litB (batSum b)) (.held v)) := by
  refine ⟨fun d => ?_, fun x hx => ?_⟩
  · by_cases e : d = batSum b
    · subst e
      rw [has_put_same hD (show WideAt.IsKeyLit (litB _) from trivial)]
      simp
    · rw [has_put_other (fun q => e (litB_inj q)), h.has]
      simp [e]
  · rcases List.mem_append.1 hx with hx | hx
    · obtain ⟨u, h1, h2⟩ := h.at_ x hx
      refine ⟨u, fun zd => ?_, h2⟩
      rw [atKey_put_other (fun q => hn (by rw [← litB_inj q]; exact List.mem_map.2 ⟨x, hx, rfl⟩))]
      exact h1 zd
    · rw [List.mem_singleton] at hx; subst hx
      exact ⟨v, fun zd => atKey_put_same hD (show WideAt.IsKeyLit (litB _) from trivial) _ _, hv⟩
theorem ownsMap_belowG {H : Type} {w w' : World} {P : Program} {k b n : Nat} {R : Value → Option (DataW H × List MemPlace)} {D : DataW H} (h : w.ownsMap P k R b n D) (hb : Below w.heap.size w w') : w'.ownsMap P k R b n D :=
  h.kept (grownBy_of_below hb none) (by simp)
theorem map_nodup_new {bs : List Bat} (h : bsOk bs = true) {k : Nat} (hk : k < bs.length) : ¬ batSum bs[k] ∈ (bs.take k).map batSum := by
  intro hm
  have := bsCode_twice hk hm
  unfold bsCode at this
  rw [h] at this
  simp at this
theorem bs_ok {bs : List Bat} (h : bsCode bs = 0) : bsOk bs = true := by
  unfold bsCode at h
  by_cases q : bsOk bs = true
  · exact q
  · rw [if_neg q] at h; simp at h
end Go.Proofs.YtpfmmncnhlfdgaaDoor

/- order.Block: what it computes. -/
set_option linter.unusedVariables false
set_option linter.unusedSimpArgs false
attribute [local go_sem ↓] Go.wp_at_zero Go.wp_at_succ
namespace Go.Proofs.YtpfmmncnhlfdgaaDoor
open Go Go.RowKit

open Go.Maps
theorem zeroSl (w : World) : (zeroValue 48).run Tryd.prog w = .ok (.slice none 0 0) w := by kernel_rfl
theorem elemST : ElemOk Tryd.prog 48 9 1 16 := elemOk_of (z := .string ByteArray.empty) (by kernel_rfl) (by kernel_rfl) rfl (by decide)
/-- All blocks below B are as they were, but for one. -/
structure ButB (B s : Nat) (w w' : World) : Prop where
  os : w'.os = w.os
  tape : w'.tape = w.tape
  output : w'.output = w.output
  size : w.heap.size ≤ w'.heap.size
  block : ∀ k, k < B → k ≠ s → w'.heap[k]? = w.heap[k]?
theorem ButB.refl (B s : Nat) (w : World) : ButB B s w w := ⟨rfl, rfl, rfl, Nat.le_refl _, fun _ _ _ => rfl⟩
theorem ButB.trans {B s : Nat} {a b c : World} (h : ButB B s a b) (k : ButB B s b c) : ButB B s a c :=
  ⟨k.os.trans h.os, k.tape.trans h.tape, k.output.trans h.output, Nat.le_trans h.size k.size, fun i hi hs => (k.block i hi hs).trans (h.block i hi hs)⟩
theorem ButB.ofBelow {B s : Nat} {w w' : World} (h : Below B w w') : ButB B s w w' := ⟨h.os, h.tape, h.output, h.size, fun k hk _ => h.block k hk⟩
theorem ButB.alloc {B s : Nat} {a w : World} (h : ButB B s a w) (hb : B ≤ w.heap.size) (o : Obj) : ButB B s a (w.alloc o) := h.trans (.ofBelow ((Below.refl B w).alloc hb o))
theorem ButB.grown {B s : Nat} {a w w' : World} {row : Option Nat} (h : ButB B s a w) (hg : w.grownBy w' row) (hb : B ≤ w.heap.size) (hr : ∀ k, row = some k → B ≤ k ∨ k = s) : ButB B s a w' :=
  h.trans ⟨hg.os, hg.tape, hg.output, hg.size, fun k hk hs => hg.block k (by omega) (fun e => by rcases hr k e.symm with q | q <;> omega)⟩
theorem ButB.keep {B s : Nat} {G : Nat → Prop} {w w' : World} (h : ButB B s w w') (hG : ∀ b, G b → b < B ∧ b ≠ s) : Keep G w w' := fun b o v hb hc => by
  rw [World.cell?_of_block (w := w) (a := ⟨b, o, none⟩) (h.block b (hG b hb).1 (hG b hb).2)]; exact hc
theorem ButB.map {H : Type} {B s : Nat} {w w' : World} (h : ButB B s w w') {P : Program} {k b n : Nat} {R : Value → Option (DataW H × List MemPlace)} {D : DataW H} (hm : w.ownsMap P k R b n D) (hb : b < B) (hs : b ≠ s) : w'.ownsMap P k R b n D := by
  obtain ⟨es, clock, h1, r⟩ := hm
  exact ⟨es, clock, (h.block b hb hs).trans h1, r⟩
theorem ButB.box {B s : Nat} {w w' : World} (h : ButB B s w w') {b : Nat} {cs : List Value} {T : TypeId} (hx : BoxAt w b cs T) (hb : b < B) (hs : b ≠ s) : BoxAt w' b cs T := (h.block b hb hs).trans hx
theorem ButB.below {B s C : Nat} {w w' : World} (h : ButB B s w w') (hB : C ≤ B) (hs : C ≤ s) : Below C w w' := ⟨h.os, h.tape, h.output, h.size, fun k hk => h.block k (by omega) (by omega)⟩
theorem held_eq {v v0 : Value} {d : DataW Value} {ps : List MemPlace} (h : heldElem v = some (d, ps)) (h2 : d = .held v0) : v = v0 := by
  unfold heldElem at h
  simp only [Option.some.injEq, Prod.mk.injEq] at h
  rw [h2] at h
  exact DataW.held.inj h.1
theorem txsB_small {bs : List Bat} (hok : bsOk bs = true) {d : Bytes} {t : Bytes} (h : t ∈ txsB bs d) : t.length ≤ 20 := by
  unfold txsB at h
  split at h
  · rename_i b hb
    have h1 := List.mem_of_find?_eq_some hb
    unfold bsOk at hok
    have h2 := (of_decide_eq_true hok).2.1 b h1
    unfold batCode at h2
    split at h2
    · simp at h2
    · split at h2
      · simp at h2
      · split at h2
        · rename_i h3
          have := (List.all_eq_true.1 h3) t h
          unfold txLen at this
          have := of_decide_eq_true this
          omega
        · simp at h2
  · simp at h
theorem addT_yes {acc : List Bytes} {t : Bytes} (h : t ∈ acc) : addT acc t = acc := by unfold addT; rw [if_pos h]
theorem addT_no {acc : List Bytes} {t : Bytes} (h : ¬ t ∈ acc) : addT acc t = acc ++ [t] := by unfold addT; rw [if_neg h]
theorem map_strV_snoc (l : List Bytes) (t : Bytes) : (l ++ [t]).map strV = l.map strV ++ [strV t] := by simp
theorem blk_no {L : List Crt} {bs : List Bat} {k : Bytes} (M : List Nat) (h : findCode L k ≠ 0) : blkCode L bs k M = findCode L k ∧ blkOut L bs k M = [] := by
  have e : blkCode L bs k M = findCode L k := by unfold blkCode; rw [if_pos h]
  exact ⟨e, by unfold blkOut; rw [e, if_neg h]⟩
theorem blk_bad {L : List Crt} {bs : List Bat} {k : Bytes} (M : List Nat) (h : findCode L k = 0) (h2 : bsCode bs ≠ 0) : blkCode L bs k M = bsCode bs ∧ blkOut L bs k M = [] := by
  have e : blkCode L bs k M = bsCode bs := by unfold blkCode; rw [if_neg (by simp [h]), if_pos h2]
  exact ⟨e, by unfold blkOut; rw [e, if_neg h2]⟩
theorem blk_none {L : List Crt} {bs : List Bat} {k : Bytes} {M : List Nat} (h : findCode L k = 0) (h2 : bsCode bs = 0) (h3 : blkHas bs (blkDs L M) = false) : blkCode L bs k M = 8 ∧ blkOut L bs k M = [] := by
  have e : blkCode L bs k M = 8 := by unfold blkCode; rw [if_neg (by simp [h]), if_neg (by simp [h2]), if_neg (by simp [h3])]
  exact ⟨e, by unfold blkOut; rw [e, if_neg (by simp)]⟩
theorem blk_yes {L : List Crt} {bs : List Bat} {k : Bytes} {M : List Nat} (h : findCode L k = 0) (h2 : bsCode bs = 0) (h3 : blkHas bs (blkDs L M) = true) : blkCode L bs k M = 0 ∧ blkOut L bs k M = addDs bs [] (blkDs L M) := by
  have e : blkCode L bs k M = 0 := by unfold blkCode; rw [if_neg (by simp [h]), if_neg (by simp [h2]), if_pos h3]
  exact ⟨e, by unfold blkOut; rw [e, if_pos rfl]⟩
set_option maxRecDepth 100000 in
set_option maxHeartbeats 8000000 in
theorem oBlock_any {G G2 G3 : Nat → Prop} {L : List Crt} {bs : List Bat} {k : Bytes} (v vb vk : Value) (w : World) (h : RdS RCert G w v L) (hs : RdS RBat G3 w vb bs) (hk : RdB G2 w vk k) (ht : Tabs w) (hok : dagOk L = true) :
    Calls Tryd.prog 25 #[.agg #[v], vb, vk] w fun e w' => ∃ (v' : Value) (M : List Nat), e = .returned (.tuple #[v', .int .i64 (blkCode L bs k M)]) ∧ (0 ≤ idxP (isB k) (crtSums L) → bsCode bs = 0 → IsHist L (placeP L k) M) ∧ RdT (fun b => w.heap.size ≤ b) w' v' (blkOut L bs k M) ∧ Below w.heap.size w w' := by
  have hmm := @run_makeMap Tryd.prog
  have hl4 := (dagOk_iff.1 hok).1
  have HH := Lib.hid (fun c (hc : c ∈ L) => (crt_partsP ((dagOk_iff.1 hok).2.1 c hc)).1)
  obtain ⟨adv, capv, rfl, hcv, hcm⟩ := h.form
  obtain ⟨adk, capk, rfl, hck, hckm⟩ := hk.form
  obtain ⟨adb, capb, rfl, hcb, hcbm⟩ := hs.form
  unfold maxLen at hcm hckm hcbm
  have hb0 := (Below.refl w.heap.size w).alloc (Nat.le_refl _) (.cells #[.slice adv L.length capv] 30)
  have HV := Lib.hid ((h.mono (G' := fun _ => True) (fun _ _ => trivial)).below hb0 (fun _ h => h))
  have HS := Lib.hid ((hs.mono (G' := fun _ => True) (fun _ _ => trivial)).below hb0 (fun _ h => h))
  have HK := Lib.hid ((hk.mono (G' := fun _ => True) (fun _ _ => trivial)).below hb0 (fun _ h => h))
  have HT := Lib.hid (ht.belowS hb0)
  have HB := Lib.hid hb0
  have HX := Lib.hid (BoxAt.new w [.slice adv L.length capv] 30)
  have HOK := Lib.hid hok
  clear h hk hs hok hb0 ht
  go_enter Tryd.func25, Tryd.ntmps25
  go_upto_region 1 with fail
  obtain ⟨w0, hw0⟩ : ∃ w0, w0 = w.alloc (.cells #[.slice adv L.length capv] 30) := ⟨_, rfl⟩
  rw [← hw0] at HV HS HT HK HX HB ⊢
  have hz0 := HX.out.lt
  clear hw0
  replace HV := Lib.hid ((HV.out.low (by decide)).mono (G' := fun b => b < w0.heap.size) (fun b hb => hb.2))
  have hw00 : w0.heap.size ≤ w0.heap.size := Nat.le_refl _
  have x0 := HX.out.cell 0 rfl
  go_wp2_with fail
  refine (dagFind_any _ _ _ HV.out HK.out HT.out HOK.out).mono ?_
  rintro e w1 ⟨vb, vp, vv, rfl, hvb, hvp, hvv, hb1⟩
  have hz1 := hb1.size
  obtain ⟨fb, fbc, rfl, -, -⟩ := hvb.form
  obtain ⟨fp, fpc, rfl, -, -⟩ := hvp.form
  obtain ⟨fv, fvc, rfl, -, -⟩ := hvv.form
  replace HV := Lib.hid (HV.out.below hb1 (fun _ h => h))
  replace HS := Lib.hid (HS.out.below hb1 (fun _ h => h))
  replace HK := Lib.hid (HK.out.below hb1 (fun _ h => h))
  replace HT := Lib.hid (HT.out.belowS hb1)
  replace HX := Lib.hid (HX.out.belowS hb1)
  replace HB := Lib.hid (HB.out.trans (hb1.mono HB.out.size))
  clear hvb hvp hvv hb1 x0
  have HFC := Lib.hid (show findCode L k = if idxP (isB k) (crtSums L) < 0 then 8 else 0 from rfl)
  generalize findCrt L k = F at *
  go_upto_region 2 with fail
  obtain ⟨w2, hwl⟩ : ∃ w2, w2 = (w1.alloc (.cells #[.int .i64 F.h.a, .int .i64 F.h.r, .slice fb F.h.bs.length fbc, .slice fp F.h.ps.length fpc, .slice fv F.vs.length fvc] 45)) := ⟨_, rfl⟩
  have hBl : Below w1.heap.size w1 w2 := by rw [hwl]; exact ((Below.refl _ _).alloc (by first | exact Nat.le_refl _ | (simp; done) | (simp; omega)) _)
  have hz12 := hBl.size
  rw [← hwl]
  replace HV := Lib.hid (HV.out.below hBl (fun _ h => h))
  replace HS := Lib.hid (HS.out.below hBl (fun _ h => h))
  replace HK := Lib.hid (HK.out.below hBl (fun _ h => h))
  replace HT := Lib.hid (HT.out.belowS hBl)
  replace HX := Lib.hid (HX.out.belowS hBl)
  replace HB := Lib.hid (HB.out.trans (hBl.mono HB.out.size))
  clear hwl hBl
  have hz2 := HB.out.size
  have hz02 : w0.heap.size ≤ w2.heap.size := Nat.le_trans hz1 hz12
  by_cases hneg : idxP (isB k) (crtSums L) < 0
  · have HR := Lib.hid (findCode_no hneg)
    have HNG := Lib.hid hneg
    have HBN := Lib.hid (blk_no (bs := bs) [] (show findCode L k ≠ 0 by rw [HR.out]; decide))
    rw [HR.out]
    clear hneg
    go_wp2
    refine bodyPost_ret (v := .tuple #[.slice none 0 0, .int .i64 8]) (by simp [results, Tryd.results25, go_sem]) rfl ⟨_, [], by rw [HBN.out.1, HR.out], fun h => absurd HNG.out (by omega), by rw [HBN.out.2]; exact RdS.nil _ _ _, HB.out⟩
  have HYS := Lib.hid (findCode_yes (k := k) (L := L) (by omega))
  have HNG := Lib.hid hneg
  rw [HYS.out.1]
  clear hneg
  have hpl := HYS.out.2.1
  go_wp2_with fail
  refine (checkBatches_any _ _ HS.out HT.out).mono ?_
  rintro e w3 ⟨rfl, hb3⟩
  have hz03 : w0.heap.size ≤ w3.heap.size := Nat.le_trans hz02 hb3.size
  replace HV := Lib.hid (HV.out.below hb3 (fun _ h => h))
  replace HS := Lib.hid (HS.out.below hb3 (fun _ h => h))
  replace HK := Lib.hid (HK.out.below hb3 (fun _ h => h))
  replace HT := Lib.hid (HT.out.belowS hb3)
  replace HX := Lib.hid (HX.out.belowS hb3)
  replace HB := Lib.hid (HB.out.trans (hb3.mono HB.out.size))
  clear hb3
  by_cases hbs : bsCode bs = 0
  · have HBS := Lib.hid hbs
    have HBO := Lib.hid (bs_ok hbs)
    have hb8 : bs.length ≤ 800 := by have h1 := bs_ok hbs; unfold bsOk at h1; exact (of_decide_eq_true h1).1
    rw [hbs]
    clear hbs
    have hz3 := HB.out.size
    replace HS := Lib.hid ((HS.out.low (by decide)).mono (G' := fun b => b < w3.heap.size) (fun b hb => hb.2))
    go_wp2_with fail
    go_loopw [45] (fun u wr => ∃ (q : Nat) (D : DataW Value), q ≤ bs.length ∧ u = .int .i64 q ∧ TxMap (fun b => b < w3.heap.size) wr (bs.take q) D ∧ wr.ownsMap Tryd.prog 9 heldElem w3.heap.size q D ∧ Below w3.heap.size w3 wr) (fun u _ => bs.length - (intOf u).toNat)
    case atStart => exact ⟨0, .map [], Nat.zero_le _, rfl, by simpa using TxMap.nil _ _, World.ownsMap_made w3 Tryd.prog 9 heldElem, (Below.refl _ _).alloc (Nat.le_refl _) _⟩
    case round =>
      obtain ⟨q, D, hq, rfl, hTX, hOM, hBr⟩ := hrel
      have HTX := Lib.hid hTX
      have HOM := Lib.hid hOM
      have HBr := Lib.hid hBr
      have hzr := hBr.size
      have hzm := hOM.lt
      clear hTX hOM
      by_cases hlt : q < bs.length
      · obtain ⟨b, o, vt, rfl, -, e0, e1, e2, hr, hls⟩ := (HS.out.below hBr (fun _ h => h)).bat q hlt
        obtain ⟨ad2, cap2, rfl, -, -⟩ := hr.form
        have i0 : (0 : Int) ≤ (q : Int) := by omega
        have i1 : (q : Int) < (bs.length : Int) := by omega
        have wq : IntKind.i64.wrap ((q : Int) + 1) = (q : Int) + 1 := IntWalk.i64_in _ (by omega)
        have HRD := Lib.hid hr
        have HLS := Lib.hid hls
        have HCB := Lib.hid (show batCode bs[q] = 0 by have h1 := HBO.out; unfold bsOk at h1; exact (of_decide_eq_true h1).2.1 _ (List.getElem_mem hlt))
        have HNW := Lib.hid (map_nodup_new HBO.out hlt)
        have HTK := Lib.hid (List.take_succ_eq_append_getElem hlt)
        generalize hlk : bs[q] = x at *
        clear hr hls hBr hlk
        go_upto_region 11 with fail
        obtain ⟨wa, hwl⟩ : ∃ wa, wa = (wr.alloc (.cells #[.int .i64 x.a, .int .i64 x.n, .slice ad2 x.txs.length cap2] 58)) := ⟨_, rfl⟩
        have hBl : Below wr.heap.size wr wa := by rw [hwl]; exact ((Below.refl _ _).alloc (by first | exact Nat.le_refl _ | (simp; done) | (simp; omega)) _)
        have HXX := Lib.hid (show BoxAt wa wr.heap.size [.int .i64 x.a, .int .i64 x.n, .slice ad2 x.txs.length cap2] 58 by rw [hwl]; exact BoxAt.new wr [_, _, _] _)
        replace HTX := Lib.hid (HTX.out.below hBl)
        replace HOM := Lib.hid (ownsMap_belowG HOM.out hBl)
        have hza := hBl.size
        rw [← hwl]
        replace HRD := Lib.hid (HRD.out.below hBl (fun _ h => h))
        replace HBr := Lib.hid (HBr.out.trans (hBl.mono HBr.out.size))
        clear hwl hBl
        have p0 := HXX.out.cell 0 rfl
        have p1 := HXX.out.cell 1 rfl
        have p2 := HXX.out.cell 2 rfl
        clear e0 e1 e2
        go_wp2_with fail
        refine (batchDigest_any x _ wa HRD.out HLS.out (HT.out.belowS HBr.out)).mono ?_
        rintro e wb ⟨v2, rfl, hd, hbb⟩
        have hdd : batD x = batSum x := by unfold batD; rw [if_pos HCB.out]
        rw [hdd] at hd
        rw [HCB.out]
        obtain ⟨add, capd, rfl, -, -⟩ := hd.form
        have HDD := Lib.hid hd
        replace HXX := Lib.hid (HXX.out.belowS hbb)
        replace HRD := Lib.hid (HRD.out.below hbb (fun _ h => h))
        replace HTX := Lib.hid (HTX.out.below hbb)
        replace HOM := Lib.hid (ownsMap_belowG HOM.out hbb)
        replace HBr := Lib.hid (HBr.out.trans (hbb.mono HBr.out.size))
        have hzb := hbb.size
        clear hd hbb p0 p1 p2 hdd
        have h32 := batSum_length x
        have HKEY := Lib.hid (keyStr (batSum x) (by omega))
        clear h32
        have hcv := conv_bytes_str (P := Tryd.prog) Tryd.underlying39 Tryd.underlying5 Tryd.underlying9 HDD.out
        have p2 := HXX.out.cell 2 rfl
        go_wp2_with (at_mapUpdate; refine wpList_mapUpdate_own _ rfl _ _ _ 73 rfl 9 48 lawStr Tryd.underlying73 heldElem w3.heap.size q D rfl HOM.out (by unfold maxLen; omega) _ _ _ rfl rfl HKEY.out _ [] rfl ?_; intro w4 hown4 hgr4)
        have hBg : Below w3.heap.size w3 w4 := HBr.out.grown hgr4 HBr.out.size (fun j hj => by cases hj; exact Nat.le_refl _)
        have HT4 := Lib.hid (show TxMap (fun b => b < w3.heap.size) w4 (bs.take (q + 1)) (D.put (litB (batSum x)) (.held (.slice ad2 x.txs.length cap2))) by
          rw [HTK.out]
          exact (HTX.out.put HOM.out.isMap HNW.out HRD.out).keep (Keep.grown hgr4 (fun k hk h => by cases hk; omega)))
        have HO4 := Lib.hid hown4
        have HB4 := Lib.hid hBg
        clear hown4 hgr4 hBg hcv p2
        go_wp2
        go_roundw
        case rel => exact ⟨q + 1, _, by omega, by go_num, HT4.out, HO4.out, HB4.out⟩
        case measure => simp [intOf]; omega
      · obtain rfl : q = bs.length := by omega
        rw [List.take_length] at HTX
        have t1 : ¬ (bs.length : Int) < (bs.length : Int) := by omega
        replace HV := Lib.hid (HV.out.below HBr.out (fun _ h => h))
        replace HK := Lib.hid (HK.out.below HBr.out (fun _ h => h))
        replace HT := Lib.hid (HT.out.belowS HBr.out)
        replace HX := Lib.hid (HX.out.belowS HBr.out)
        replace HB := Lib.hid (HB.out.trans (HBr.out.mono HB.out.size))
        clear hBr
        go_upto_region 16 with fail
        obtain ⟨w5, hw5⟩ : ∃ w5, w5 = wr.alloc (.map #[] 0) := ⟨_, rfl⟩
        have hb5 : Below wr.heap.size wr w5 := by rw [hw5]; exact (Below.refl _ _).alloc (Nat.le_refl _) _
        have HSM := Lib.hid (show w5.ownsMap Tryd.prog 9 (unitElem (H := Unit)) wr.heap.size 0 (setB []) by rw [hw5]; simpa [setB_nil] using World.ownsMap_made wr Tryd.prog 9 (unitElem (H := Unit)))
        have hz51 : w5.heap.size ≤ wr.heap.size + 1 := by rw [hw5]; simp
        rw [← hw5]
        clear hw5
        replace HV := Lib.hid (HV.out.below hb5 (fun _ h => h))
        replace HK := Lib.hid (HK.out.below hb5 (fun _ h => h))
        replace HT := Lib.hid (HT.out.belowS hb5)
        replace HX := Lib.hid (HX.out.belowS hb5)
        replace HB := Lib.hid (HB.out.trans (hb5.mono HB.out.size))
        replace HTX := Lib.hid (HTX.out.below hb5)
        replace HOM := Lib.hid (ownsMap_belowG HOM.out hb5)
        have hz5 := HSM.out.lt
        clear hb5
        refine wp_region_held_drew (S := fun w' => Below w5.heap.size w5 w') (by kernel_rfl) (by exact (Below.refl _ _).drew) (fun hHeld => ?_)
        obtain ⟨wd, hwd⟩ : ∃ wd, wd = w5.drew := ⟨_, rfl⟩
        rw [← hwd] at hHeld ⊢
        have HBd := Lib.hid (show Below w5.heap.size w5 wd from hHeld)
        have zwd : w5.heap.size ≤ wd.heap.size := by rw [hwd]; exact Nat.le_refl _
        clear hwd
        refine wpAnyH_take (i := 0) (v := .agg #[.slice adv L.length capv]) rfl (by kernel_rfl) (by kernel_rfl) (by kernel_rfl) (fun _ _ _ h => h) (Or.inl ⟨by rfl, fun w hSw => ?_⟩) hHeld ?_
        · have q0 := (HX.out.belowS hSw).cell 0 rfl; clear hSw; go_simp
        try simp only [Act.put, List.getElem_toArray, List.getElem_cons_succ, List.getElem_cons_zero, List.setIfInBounds_toArray, List.set_cons_zero, List.set_cons_succ]
        refine wpAnyH_take (i := 1) (v := .agg #[.slice adv L.length capv]) rfl (by kernel_rfl) (by kernel_rfl) (by kernel_rfl) (fun _ _ _ h => h) (Or.inl ⟨by rfl, fun w hSw => ?_⟩) hHeld ?_
        · have q0 := (HX.out.belowS hSw).cell 0 rfl; clear hSw; go_simp
        try simp only [Act.put, List.getElem_toArray, List.getElem_cons_succ, List.getElem_cons_zero, List.setIfInBounds_toArray, List.set_cons_zero, List.set_cons_succ]
        refine wpAnyH_take (i := 3) (v := .slice adk k.length capk) rfl (by kernel_rfl) (by kernel_rfl) (by kernel_rfl) (fun _ _ _ h => h) (Or.inl ⟨by rfl, fun w hSw => ?_⟩) hHeld ?_
        · clear hSw; go_simp; all_goals (try first | rfl | omega)
        try simp only [Act.put, List.getElem_toArray, List.getElem_cons_succ, List.getElem_cons_zero, List.setIfInBounds_toArray, List.set_cons_zero, List.set_cons_succ]
        refine wpAnyH_take (i := 6) (v := .int .i64 0) rfl (by kernel_rfl) (by kernel_rfl) (by kernel_rfl) (fun _ _ _ h => h) (Or.inl ⟨by rfl, fun w hSw => ?_⟩) hHeld ?_
        · clear hSw; go_simp; all_goals (try first | rfl | omega)
        try simp only [Act.put, List.getElem_toArray, List.getElem_cons_succ, List.getElem_cons_zero, List.setIfInBounds_toArray, List.set_cons_zero, List.set_cons_succ]
        refine wpAnyH_ready (rs := [2]) (by kernel_rfl) (by simp) ?_
        refine AllReadyH.cons rfl (fun K hK => ?_) ?_
        · rw [if_pos (by rfl)]
          go_simp
          go_at_call 39
          refine (oall_ok _ _ (HV.out.below HBd.out (fun _ h => h)) HH.out (by omega) (HT.out.belowS HBd.out)).mono ?_
          rintro e w6 ⟨vds, rfl, hds, hb_w6⟩
          obtain ⟨ads, cds, rfl, -, -⟩ := hds.form
          have HDS := Lib.hid (hds.mono (G' := fun _ => True) (fun _ _ => trivial))
          clear hds
          have HBw6 := Lib.hid (HBd.out.trans (hb_w6.mono (Below.size HBd.out)))
          have zw6 := hb_w6.size
          clear hb_w6
          show K _ _
          refine hK.out _ _ (by exact HBw6.out) (fun hHeld => ?_)
          clear hK K
          try simp only [Act.put, List.getElem_toArray, List.getElem_cons_succ, List.getElem_cons_zero, List.setIfInBounds_toArray, List.set_cons_zero, List.set_cons_succ]
          refine wpAnyH_ready (rs := [4]) (by kernel_rfl) (by simp) ?_
          refine AllReadyH.cons rfl (fun K hK => ?_) ?_
          · rw [if_pos (by rfl)]
            go_simp
            go_at_call 40
            refine (history_any _ _ _ _ (HV.out.below HBw6.out (fun _ h => h)) HDS.out (HK.out.below HBw6.out (fun _ h => h)) HOK.out hpl HYS.out.2.2).mono ?_
            rintro e w7 ⟨vi, M, rfl, hM, hI, hb_w7⟩
            have HM := Lib.hid hM
            obtain ⟨adi, ci, rfl, hci, hmi⟩ := hI.form
            rw [intsOf_len] at hci hI ⊢
            have HI := Lib.hid (hI.mono (G' := fun b => w5.heap.size ≤ b) (fun b hb => by have h0 : w6.heap.size ≤ b := hb; omega))
            clear hM hI
            have HBw7 := Lib.hid (HBw6.out.trans (hb_w7.mono (Below.size HBw6.out)))
            have zw7 := hb_w7.size
            clear hb_w7
            show K _ _
            refine hK.out _ _ (by exact HBw7.out) (fun hHeld => ?_)
            clear hK K
            try simp only [Act.put, List.getElem_toArray, List.getElem_cons_succ, List.getElem_cons_zero, List.setIfInBounds_toArray, List.set_cons_zero, List.set_cons_succ]
            refine wpAnyH_take (i := 5) (v := .int .i64 (M.length : Int)) rfl (by kernel_rfl) (by kernel_rfl) (by kernel_rfl) (fun _ _ _ h => h) (Or.inl ⟨by rfl, fun w hSw => ?_⟩) hHeld ?_
            · clear hSw; go_simp; all_goals (try first | rfl | omega)
            try simp only [Act.put, List.getElem_toArray, List.getElem_cons_succ, List.getElem_cons_zero, List.setIfInBounds_toArray, List.set_cons_zero, List.set_cons_succ]
            refine wpAnyH_done (by kernel_rfl) ?_ _
            obtain ⟨w8, hw8⟩ : ∃ w8, w8 = w7 := ⟨_, rfl⟩
            rw [← hw8] at HI HBw7 ⊢
            replace HV := Lib.hid (HV.out.below HBw7.out (fun _ h => h))
            replace HX := Lib.hid (HX.out.belowS HBw7.out)
            replace HB := Lib.hid (HB.out.trans (HBw7.out.mono HB.out.size))
            replace HTX := Lib.hid (HTX.out.below HBw7.out)
            replace HOM := Lib.hid (ownsMap_belowG HOM.out HBw7.out)
            replace HSM := Lib.hid (ownsMap_belowG HSM.out HBw7.out)
            have hz8 := HSM.out.lt
            have hz8m := HOM.out.lt
            have hzw8 := HB.out.size
            have hml := HM.out.len
            have HHM := Lib.hid (fun j hj => HM.out.lt j hj)
            clear hHeld HBw7 HBd HBw6 HDS zwd zw6 zw7 hw8
            generalize hSB : wr.heap.size = SB at *
            have s1 : w3.heap.size < SB := by omega
            have s2 : SB < w5.heap.size := by omega
            have s3 : w5.heap.size ≤ w8.heap.size := by omega
            have s4 : w.heap.size < SB := by omega
            clear hSB
            replace HI := Lib.hid (HI.out.low (by decide))
            go_wp2_with fail
            go_loopw [16, 67] (fun o u wx => ∃ (i : Nat) (ad : Option Addr) (cap : Nat) (ac : List Bytes), i ≤ M.length ∧ u = .int .i64 i ∧ o = .slice ad ac.length cap ∧ ac = addDs bs [] (blkDs L (M.take i)) ∧ blkHas bs (blkDs L (M.take i)) = true ∧ ac.length ≤ 12 * i ∧ wx.ownsRow w8.heap.size 9 1 (.slice ad ac.length cap) ac.length (ac.map strV) ∧ wx.ownsMap Tryd.prog 9 (unitElem (H := Unit)) SB ac.length (setB ac) ∧ ButB w8.heap.size SB w8 wx) (fun _ u _ => M.length - (intOf u).toNat)
            case atStart => exact ⟨0, none, 0, [], Nat.zero_le _, rfl, rfl, rfl, rfl, Nat.zero_le _, World.ownsRow_nil _ _ _ _, HSM.out, ButB.refl _ _ _⟩
            case round =>
              rename World => wx
              obtain ⟨i, ad, cap, ac, hi, rfl, rfl, hac, hhas, hacl, hOW, hSM, hBx⟩ := hrel
              have HAC := Lib.hid hac
              have HHS := Lib.hid hhas
              have HOW := Lib.hid hOW
              have HSc := Lib.hid hSM
              have HBx := Lib.hid hBx
              have hzx := hBx.size
              have HXx := Lib.hid (hBx.box HX.out (by omega) (by omega))
              have HIx := Lib.hid (HI.out.keep (hBx.keep (fun b hb => by omega)) (fun _ h => h))
              clear hac hhas hOW hSM hBx
              by_cases hlt : i < M.length
              · have i0 : (0 : Int) ≤ (i : Int) := by omega
                have i1 : (i : Int) < (M.length : Int) := by omega
                have wi : IntKind.i64.wrap ((i : Int) + 1) = (i : Int) + 1 := IntWalk.i64_in _ (by omega)
                have hil : i < (intsOf M).length := by rw [intsOf_len]; exact hlt
                obtain ⟨bi, oi, rfl, -, ei⟩ := HIx.out.cell i hil
                have e1 : (intsOf M)[i] = (M[i] : Int) := by simp [intsOf]
                rw [e1] at ei
                have hmj := HHM.out _ (List.getElem_mem hlt)
                have HTK := Lib.hid (blkDs_take (L := L) hlt)
                have HMM := Lib.hid (List.getElem_mem hlt)
                obtain ⟨bc, oc, xb, xp, xv, rfl, hgc, d0, d1, d28, d3, d4, hxb, hxp, hxv⟩ := HV.out.crt M[i] hmj
                have d2 := (HBx.out.keep (G := fun b => b < w0.heap.size) (fun b hb => by omega)) _ _ _ hgc d28
                have HCG := Lib.hid (getD_at hmj)
                have HBL := Lib.hid (show L[M[i]].h.bs.length ≤ 3 from (hdr_partsD (HH.out _ (List.getElem_mem hmj))).2.2.1)
                generalize M[i] = m at *
                have m0 : (0 : Int) ≤ (m : Int) := by omega
                have m1 : (m : Int) < (L.length : Int) := by omega
                generalize L[m] = c at *
                obtain ⟨ub, ubc, rfl, -, -⟩ := hxb.form
                have hb3 := HBL.out
                have HCB := Lib.hid hxb
                have x0 := HXx.out.cell 0 rfl
                clear hxb hxp hxv d0 d1 d28 d3 d4 e1
                go_wp2_with fail
                go_loopw [16, 79] (fun o u wy => ∃ (q : Nat) (ad : Option Addr) (cap : Nat) (ac2 : List Bytes), q ≤ c.h.bs.length ∧ u = .int .i64 q ∧ o = .slice ad ac2.length cap ∧ ac2 = addDs bs ac (c.h.bs.take q) ∧ blkHas bs (c.h.bs.take q) = true ∧ ac2.length ≤ 12 * i + 4 * q ∧ wy.ownsRow w8.heap.size 9 1 (.slice ad ac2.length cap) ac2.length (ac2.map strV) ∧ wy.ownsMap Tryd.prog 9 (unitElem (H := Unit)) SB ac2.length (setB ac2) ∧ ButB w8.heap.size SB w8 wy) (fun _ u _ => c.h.bs.length - (intOf u).toNat)
                case atStart => exact ⟨0, ad, cap, ac, Nat.zero_le _, rfl, rfl, rfl, rfl, by omega, HOW.out, HSc.out, HBx.out⟩
                case round =>
                  rename World => wy
                  obtain ⟨q, ad2, cap2, ac2, hq, rfl, rfl, hac2, hhas2, hacl2, hOW, hSM, hBy⟩ := hrel
                  have HAC2 := Lib.hid hac2
                  have HHS2 := Lib.hid hhas2
                  have HOW2 := Lib.hid hOW
                  have HSy := Lib.hid hSM
                  have HBy := Lib.hid hBy
                  have hzy := hBy.size
                  have HTXy := Lib.hid (HTX.out.keep (hBy.keep (fun b hb => by omega)))
                  have HOy := Lib.hid (hBy.map HOM.out (by omega) (by omega))
                  have HCBy := Lib.hid (HCB.out.keep (hBy.keep (fun b hb => by omega)) (fun _ h => h))
                  clear hac2 hhas2 hOW hSM hBy
                  by_cases hqt : q < c.h.bs.length
                  · have q0 : (0 : Int) ≤ (q : Int) := by omega
                    have q1 : (q : Int) < (c.h.bs.length : Int) := by omega
                    have wq : IntKind.i64.wrap ((q : Int) + 1) = (q : Int) + 1 := IntWalk.i64_in _ (by omega)
                    obtain ⟨bd, od, vd, rfl, -, ed, hd⟩ := HCBy.out.cellS q hqt
                    obtain ⟨add, capd, rfl, -, hdm⟩ := hd.form
                    have HDD := Lib.hid hd
                    have hdl := hd.len
                    unfold maxLen at hdl hdm
                    have HKEY := Lib.hid (keyStr c.h.bs[q] (by omega))
                    have HMD := Lib.hid (List.getElem_mem hqt)
                    have HAT := Lib.hid (addDs_take (bs := bs) (acc := ac) hqt)
                    have HHT := Lib.hid (blkHas_take (bs := bs) hqt)
                    generalize c.h.bs[q] = dg at *
                    have hcv := conv_bytes_str (P := Tryd.prog) Tryd.underlying39 Tryd.underlying5 Tryd.underlying9 HDD.out
                    clear hd hdl hdm
                    by_cases hin : dg ∈ bs.map batSum
                    · have HHD := Lib.hid (show has D (litB dg) = true by rw [HTXy.out.has]; exact decide_eq_true hin)
                      obtain ⟨bt, hbt, hbs2, htx⟩ := txsB_mem hin
                      obtain ⟨v0, hv0, hr0⟩ := HTX.out.at_ bt hbt
                      rw [hbs2] at hv0
                      rw [← htx] at hr0
                      obtain ⟨adt, capt, rfl, -, -⟩ := hr0.form
                      have HV0 := Lib.hid hv0
                      have h4 := bsOk_txs HBO.out hbt
                      rw [← htx] at h4
                      have HSML := Lib.hid (fun (t : Bytes) (ht : t ∈ txsB bs dg) => txsB_small HBO.out ht)
                      have HR0 := Lib.hid (show RdT (fun b => b < w3.heap.size) w8 _ (txsB bs dg) from hr0)
                      have HHT2 := Lib.hid (show blkHas bs (c.h.bs.take (q + 1)) = true by rw [HHT.out, HHS2.out, decide_eq_true hin]; rfl)
                      clear hv0 hr0 htx hbs2 hbt hin HHT
                      generalize hTS : txsB bs dg = ts at *
                      clear hTS
                      go_upto_region 25 with (at_lookup; refine wpList_lookup_own_ok _ rfl _ _ 73 rfl 9 48 lawStr Tryd.underlying73 heldElem (zeroSl _) (.held (.slice none 0 0)) [] rfl w3.heap.size bs.length D rfl HOy.out _ _ rfl HKEY.out ?_; intro vz ps hvz; rw [HHD.out]; obtain rfl := held_eq hvz (HV0.out _))
                      clear hcv ed
                      go_wp2_with fail
                      go_loopw [16, 94] (fun o u wz => ∃ (r : Nat) (ad : Option Addr) (cap : Nat) (ac3 : List Bytes), r ≤ ts.length ∧ u = .int .i64 r ∧ o = .slice ad ac3.length cap ∧ ac3 = addTs ac2 (ts.take r) ∧ ac3.length ≤ 12 * i + 4 * q + r ∧ wz.ownsRow w8.heap.size 9 1 (.slice ad ac3.length cap) ac3.length (ac3.map strV) ∧ wz.ownsMap Tryd.prog 9 (unitElem (H := Unit)) SB ac3.length (setB ac3) ∧ ButB w8.heap.size SB w8 wz) (fun _ u _ => ts.length - (intOf u).toNat)
                      case atStart => exact ⟨0, ad2, cap2, ac2, Nat.zero_le _, rfl, rfl, rfl, by omega, HOW2.out, HSy.out, HBy.out⟩
                      case round =>
                        rename World => wz
                        obtain ⟨r, ad3, cap3, ac3, hr, rfl, rfl, hac3, hacl3, hOW, hSM, hBz⟩ := hrel
                        have HAC3 := Lib.hid hac3
                        have HOW3 := Lib.hid hOW
                        have HSz := Lib.hid hSM
                        have HBz := Lib.hid hBz
                        have hzz := hBz.size
                        have HRz := Lib.hid (HR0.out.keep (hBz.keep (fun b hb => by omega)) (fun _ h => h))
                        clear hac3 hOW hSM hBz
                        by_cases hrt : r < ts.length
                        · have r0 : (0 : Int) ≤ (r : Int) := by omega
                          have r1 : (r : Int) < (ts.length : Int) := by omega
                          have wr1 : IntKind.i64.wrap ((r : Int) + 1) = (r : Int) + 1 := IntWalk.i64_in _ (by omega)
                          obtain ⟨bt2, ot2, rfl, -, et⟩ := HRz.out.cell r hrt
                          have HKT := Lib.hid (keyStr ts[r] (by have := HSML.out _ (List.getElem_mem hrt); omega))
                          have HA3 := Lib.hid (addTs_take (acc := ac2) hrt)
                          generalize ts[r] = tx at *
                          by_cases hmem : tx ∈ ac3
                          · have HH2 := Lib.hid (show has (setB ac3) (litB tx) = true by rw [has_setB]; exact decide_eq_true hmem)
                            have HN3 := Lib.hid (show ac3 = addTs ac2 (ts.take (r + 1)) by rw [HA3.out, ← HAC3.out, addT_yes hmem])
                            clear hmem
                            go_wp2_with (at_lookup; refine wpList_lookup_own_unit _ rfl _ _ 74 rfl 9 76 lawStr Tryd.underlying74 (zeroUnit _) SB ac3.length _ rfl HSz.out _ _ rfl HKT.out ?_; rw [HH2.out])
                            go_roundw
                            case rel => exact ⟨r + 1, ad3, cap3, ac3, by omega, by go_num, rfl, HN3.out, by omega, ownsRow_below HOW3.out ((Below.refl _ _).alloc (Nat.le_refl _) _), ownsMap_belowG HSz.out ((Below.refl _ _).alloc (Nat.le_refl _) _), HBz.out.alloc (by omega) _⟩
                            case measure => simp [intOf]; omega
                          · have HH2 := Lib.hid (show has (setB ac3) (litB tx) = false by rw [has_setB]; exact decide_eq_false hmem)
                            have HN3 := Lib.hid (show ac3 ++ [tx] = addTs ac2 (ts.take (r + 1)) by rw [HA3.out, ← HAC3.out, addT_no hmem])
                            clear hmem
                            go_upto_region 30 with (at_lookup; refine wpList_lookup_own_unit _ rfl _ _ 74 rfl 9 76 lawStr Tryd.underlying74 (zeroUnit _) SB ac3.length _ rfl HSz.out _ _ rfl HKT.out ?_; rw [HH2.out])
                            obtain ⟨wa, hwa⟩ : ∃ wa, wa = wz.alloc (.cells #[] 76) := ⟨_, rfl⟩
                            have hba : Below wz.heap.size wz wa := by rw [hwa]; exact (Below.refl _ _).alloc (Nat.le_refl _) _
                            rw [← hwa]
                            clear hwa
                            have hza := hba.size
                            replace HOW3 := Lib.hid (ownsRow_below HOW3.out hba)
                            replace HSz := Lib.hid (ownsMap_belowG HSz.out hba)
                            replace HBz := Lib.hid (HBz.out.trans (ButB.ofBelow (hba.mono (by omega))))
                            clear hba
                            go_upto_region 31 with (at_mapUpdate; refine wpList_mapUpdate_own _ rfl _ _ _ 74 rfl 9 76 lawStr Tryd.underlying74 (unitElem (H := Unit)) SB ac3.length _ rfl HSz.out (by unfold maxLen; omega) _ _ _ rfl rfl HKT.out _ [] unitElem_mk ?_; intro wu hownu hgru)
                            have hzu := hgru.size
                            have HSu := Lib.hid (show wu.ownsMap Tryd.prog 9 (unitElem (H := Unit)) SB (ac3.length + 1) (setB (ac3 ++ [tx])) by rw [setB_snoc]; exact hownu)
                            have HOu := Lib.hid (show wu.ownsRow w8.heap.size 9 1 (.slice ad3 ac3.length cap3) ac3.length (ac3.map strV) from by
                              obtain ⟨q1, q2⟩ := HOW3.out
                              refine ⟨q1, ?_⟩
                              rcases q2 with q2 | ⟨g', c', cur', hv', hb', hh', r'⟩
                              · exact .inl q2
                              · refine .inr ⟨g', c', cur', hv', hb', ?_, r'⟩
                                rw [hgru.block g' (lt_of_block hh') (by simp; omega)]; exact hh')
                            have HBu := Lib.hid (HBz.out.grown hgru (by omega) (fun k hk => by cases hk; exact .inr rfl))
                            have hovl := HOu.out.lt
                            clear hownu hgru
                            go_wp2_with (at_builtin; refine wpList_append_one rfl _ _ 48 rfl elemST w8.heap.size _ ac3.length (ac3.map strV) rfl (ownsRow_below HOu.out ((Below.refl _ _).alloc (Nat.le_refl _) _)) wu.heap.size 9 [strV tx] rfl (BoxAt.new wu [_] _) rfl (by simp [Value.oneCell']) (by unfold maxLen; omega) (by omega) (by simp; omega) ?_; intro g6 cap6 w6' hown6 hgr6 hat6 hlt6)
                            have HL6 := Lib.hid (show (ac3 ++ [tx]).length = ac3.length + 1 by simp)
                            have HO6 := Lib.hid (show w6'.ownsRow w8.heap.size 9 1 (.slice (some ⟨g6, 0, none⟩) (ac3 ++ [tx]).length cap6) (ac3 ++ [tx]).length ((ac3 ++ [tx]).map strV) by rw [HL6.out, map_strV_snoc]; exact hown6)
                            have HB6 := Lib.hid ((HBu.out.alloc (by omega) (.cells #[strV tx] 9)).grown hgr6 (by simp; omega) (fun k hk => .inl (hovl k hk).1))
                            have HS6 := Lib.hid (show w6'.ownsMap Tryd.prog 9 (unitElem (H := Unit)) SB (ac3 ++ [tx]).length (setB (ac3 ++ [tx])) by
                              rw [HL6.out]
                              exact (ownsMap_belowG HSu.out ((Below.refl _ _).alloc (Nat.le_refl _) _)).kept hgr6 (fun e => by have := (hovl _ e.symm).1; omega))
                            clear hown6 hgr6 hat6
                            go_wp2
                            go_roundw
                            case rel => exact ⟨r + 1, _, cap6, ac3 ++ [tx], by omega, by go_num, by rw [HL6.out], HN3.out, by rw [HL6.out]; omega, HO6.out, HS6.out, HB6.out⟩
                            case measure => simp [intOf]; omega
                        · obtain rfl : r = ts.length := by omega
                          have HN3 := Lib.hid (show ac3 = addDs bs ac (c.h.bs.take (q + 1)) by rw [HAT.out, ← HAC2.out, HAC3.out, List.take_length])
                          have t1 : ¬ (ts.length : Int) < (ts.length : Int) := by omega
                          go_wp2
                          go_roundw
                          case rel => exact ⟨q + 1, ad3, cap3, ac3, by omega, by go_num, rfl, HN3.out, HHT2.out, by omega, HOW3.out, HSz.out, HBz.out⟩
                          case measure => simp [intOf]; omega
                    · have HHD := Lib.hid (show has D (litB dg) = false by rw [HTXy.out.has]; exact decide_eq_false hin)
                      have HBN := Lib.hid (blk_none (k := k) (M := M) HYS.out.1 HBS.out (blkHas_false (mem_blkDs HMM.out (by rw [HCG.out]; exact HMD.out)) hin))
                      have HBE := Lib.hid (HB.out.trans (HBy.out.below (by omega) (by omega)))
                      clear hin HHT
                      go_wp2_with (at_lookup; refine wpList_lookup_own_ok _ rfl _ _ 73 rfl 9 48 lawStr Tryd.underlying73 heldElem (zeroSl _) (.held (.slice none 0 0)) [] rfl w3.heap.size bs.length D rfl HOy.out _ _ rfl HKEY.out ?_; intro vz ps hvz; rw [HHD.out])
                      refine bodyPost_ret (v := .tuple #[.slice none 0 0, .int .i64 8]) (by simp [results, Tryd.results25, go_sem]) rfl ?_
                      exact ⟨_, M, by rw [HBN.out.1], fun _ _ => HM.out, by rw [HBN.out.2]; exact RdS.nil _ _ _, HBE.out⟩
                  · obtain rfl : q = c.h.bs.length := by omega
                    rw [List.take_length] at HAC2 HHS2
                    have HN2 := Lib.hid (show ac2 = addDs bs [] (blkDs L (M.take (i + 1))) by rw [HTK.out, HCG.out, addDs_app, ← HAC.out]; exact HAC2.out)
                    have HHN := Lib.hid (show blkHas bs (blkDs L (M.take (i + 1))) = true by rw [HTK.out, HCG.out, blkHas_app, HHS.out, HHS2.out]; rfl)
                    have t1 : ¬ (c.h.bs.length : Int) < (c.h.bs.length : Int) := by omega
                    go_wp2
                    go_roundw
                    case rel => exact ⟨i + 1, ad2, cap2, ac2, by omega, by go_num, rfl, HN2.out, HHN.out, by omega, HOW2.out, HSy.out, HBy.out⟩
                    case measure => simp [intOf]; omega
              · obtain rfl : i = M.length := by omega
                rw [List.take_length] at HAC HHS
                have HBN := Lib.hid (blk_yes (k := k) (M := M) HYS.out.1 HBS.out HHS.out)
                have HBE := Lib.hid (HB.out.trans (HBx.out.below (by omega) (by omega)))
                have HRR := Lib.hid (show RdT (fun b => w.heap.size ≤ b) wx (.slice ad ac.length cap) ac from RdS.of_owns HOW.out (fun b hb => by omega))
                have t1 : ¬ (M.length : Int) < (M.length : Int) := by omega
                go_wp2
                refine bodyPost_ret (v := .tuple #[.slice ad ac.length cap, .int .i64 0]) (by simp [results, Tryd.results25, go_sem]) rfl ?_
                exact ⟨_, M, by rw [HBN.out.1], fun _ _ => HM.out, by rw [HBN.out.2, ← HAC.out]; exact HRR.out, HBE.out⟩
          exact AllReadyH.nil
        exact AllReadyH.nil
  · have HBN := Lib.hid (blk_bad (k := k) [] HYS.out.1 hbs)
    obtain ⟨bz, hbz⟩ : ∃ bz, bz = bsCode bs := ⟨_, rfl⟩
    have hne : (bz != 0) = true := by rw [hbz]; simpa using hbs
    have HBS := Lib.hid hbs
    rw [← hbz]
    have HZ := Lib.hid hbz
    clear hbs hbz
    go_wp2
    refine bodyPost_ret (v := .tuple #[.slice none 0 0, .int .i64 bz]) (by simp [results, Tryd.results25, go_sem]) rfl ?_
    exact ⟨_, [], by rw [HBN.out.1, ← HZ.out], fun _ h => absurd h HBS.out, by rw [HBN.out.2]; exact RdS.nil _ _ _, HB.out⟩
end Go.Proofs.YtpfmmncnhlfdgaaDoor

/- Blocks of dags of raw numbers: plain laws. -/
set_option linter.unusedVariables false
set_option linter.unusedSimpArgs false
attribute [local go_sem ↓] Go.wp_at_zero Go.wp_at_succ
namespace Go.Proofs.YtpfmmncnhlfdgaaDoor
open Go Go.RowKit

theorem dig_place {L : List Crt} {d : Bytes} (h : 0 ≤ idxP (isB d) (crtSums L)) : digP L (placeP L d) = d := by
  obtain ⟨n, hn, hin, hpn, -⟩ := idxP_at h
  have : placeP L d = n := by unfold placeP; omega
  rw [this]
  have hnl : n < L.length := by rw [crtSums_len] at hn; exact hn
  rw [digP_at hnl]
  have e : (crtSums L)[n] = crtSum L[n] := by simp [crtSums]
  rw [← e]
  unfold isB at hpn
  exact of_decide_eq_true hpn
theorem histD_at {L : List Crt} {M : List Nat} {j : Nat} (h : j < (histD L M).length) : (histD L M)[j] = digP L (M[j]'(by rw [histD_len] at h; exact h)) := by simp [histD]
/-- What Find hands back of a digest of a history. -/
theorem hist_find {L : List Crt} {j : Nat} (hj : j < L.length) : findCode L (digP L j) = 0 ∧ (∃ k : Nat, ∃ h : k < L.length, findCrt L (digP L j) = L[k]) ∧ ((crtSums L).Nodup → findCrt L (digP L j) = L[j]) := by
  have h0 : 0 ≤ idxP (isB (digP L j)) (crtSums L) := idxP_ge.2 ⟨digP L j, by rw [digP_at hj]; exact List.mem_map.2 ⟨_, List.getElem_mem hj, rfl⟩, by unfold isB; exact decide_eq_true rfl⟩
  obtain ⟨k, hk, hik, -, -⟩ := idxP_at h0
  have hkl : k < L.length := by rw [crtSums_len] at hk; exact hk
  have e := find_yes hkl hik
  refine ⟨e.1, ⟨k, hkl, e.2⟩, fun hn => ?_⟩
  rw [digP_at hj]
  exact (find_yes hj (find_clear hn hj)).2
/-- All digests are different: of headers, and of batches. -/
def Clr (l : List Stp) : Prop := (crtSums (grownL l)).Nodup ∧ ((grownBs l).map batSum).Nodup
theorem stpBs_pair (i : Nat) (s : Stp) : ∀ k : Nat, (stpBs i s k).Pairwise (fun x y => x.n < y.n) ∧ ∀ b ∈ stpBs i s k, 1 + 3 * (i : Int) ≤ b.n ∧ b.n < 1 + 3 * (i : Int) + k
  | 0 => by simp [stpBs]
  | k + 1 => by
    obtain ⟨h1, h2⟩ := stpBs_pair i s k
    rw [stpBs_succ]
    refine ⟨List.pairwise_append.2 ⟨h1, by simp, fun a ha b hb => ?_⟩, fun b hb => ?_⟩
    · rw [List.mem_singleton] at hb; subst hb
      have := h2 a ha
      show a.n < 1 + 3 * (i : Int) + (k : Int)
      omega
    · rcases List.mem_append.1 hb with hb | hb
      · have := h2 b hb; omega
      · rw [List.mem_singleton] at hb; subst hb
        show 1 + 3 * (i : Int) ≤ 1 + 3 * (i : Int) + (k : Int) ∧ 1 + 3 * (i : Int) + (k : Int) < _
        omega
theorem batTo_pair (l : List Stp) : ∀ n : Nat, (batTo l n).Pairwise (fun x y => x.n < y.n) ∧ ∀ b ∈ batTo l n, b.n < 1 + 3 * (n : Int)
  | 0 => by simp [batTo]
  | n + 1 => by
    obtain ⟨h1, h2⟩ := batTo_pair l n
    obtain ⟨h3, h4⟩ := stpBs_pair n (l.getD n stpZ) (stpN (l.getD n stpZ))
    have h5 := stpN_le (l.getD n stpZ)
    refine ⟨List.pairwise_append.2 ⟨h1, h3, fun a ha b hb => ?_⟩, fun b hb => ?_⟩
    · have := h2 a ha; have := h4 b hb; omega
    · rcases List.mem_append.1 hb with hb | hb
      · have := h2 b hb; omega
      · have := h4 b hb; omega
theorem grownBs_le (l : List Stp) : (grownBs l).length ≤ 48 := by
  have h1 := batTo_len (stp1 :: l) (stpMany (stp1 :: l))
  unfold grownBs dagBs
  unfold stpMany at *
  omega
theorem grownBs_ok (l : List Stp) : ∀ b ∈ grownBs l, batCode b = 0 := batTo_ok _ _ (by unfold stpMany; omega)
theorem grownBs_bsOk {l : List Stp} (h : ((grownBs l).map batSum).Nodup) : bsOk (grownBs l) = true := by
  unfold bsOk
  exact decide_eq_true ⟨by have := grownBs_le l; omega, grownBs_ok l, h⟩
theorem grownBs_code {l : List Stp} (h : ((grownBs l).map batSum).Nodup) : bsCode (grownBs l) = 0 := by unfold bsCode; rw [grownBs_bsOk h]; rfl
/-- Batches of one sum are one batch, or two unlike ones have one sum. -/
theorem bats_of {l : List Bat} (hok : ∀ b ∈ l, batCode b = 0) (hp : l.Pairwise fun x y => x.n < y.n) {H : List Hdr} {X : List Bat} (h : oneSumL H (l ++ X) = false) : (l.map batSum).Nodup := by
  rw [List.nodup_iff_pairwise_ne, List.pairwise_iff_getElem]
  intro i j hi hj hij he
  have hi' : i < l.length := by simpa using hi
  have hj' : j < l.length := by simpa using hj
  simp only [List.getElem_map] at he
  have hn := (List.pairwise_iff_getElem.1 hp) i j hi' hj' hij
  have g1 : (l ++ X)[j]'(by simp; omega) = l[j] := List.getElem_append_left hj'
  have g2 : (l ++ X)[i]'(by simp; omega) = l[i] := List.getElem_append_left hi'
  have hq : pairBt ((l ++ X)[j]'(by simp; omega)) ((l ++ X)[i]'(by simp; omega)) = true := by
    rw [g1, g2]
    unfold pairBt
    refine decide_eq_true ⟨hok _ (List.getElem_mem hj'), hok _ (List.getElem_mem hi'), he.symm, ?_⟩
    unfold sameBt
    exact decide_eq_false (fun q => by have := q.2.1; omega)
  have ht := anyPair_at (p := pairBt) (l := l ++ X) (by simp; omega) hij hq
  unfold oneSumL at h
  rw [ht] at h
  simp at h
theorem gsum_clr {l : List Stp} (h : gsumB l = false) : Clr l := ⟨clear_of (grown_ok l) h, bats_of (grownBs_ok l) (batTo_pair _ _).1 h⟩
/-- The batches of a dag's headers are there. -/
theorem batTo_has (l : List Stp) : ∀ n : Nat, ∀ c ∈ dagTo l n, ∀ d ∈ c.h.bs, d ∈ (batTo l n).map batSum
  | 0 => by simp [dagTo]
  | n + 1 => by
    intro c hc d hd
    have hc' : c ∈ dagStep (dagTo l n) n (l.getD n stpZ) := hc
    show d ∈ (batTo l n ++ stpBs n (l.getD n stpZ) (stpN (l.getD n stpZ))).map batSum
    rw [List.map_append, List.mem_append]
    unfold dagStep at hc'
    split at hc'
    · rcases List.mem_append.1 hc' with h | h
      · exact .inl (batTo_has l n c h d hd)
      · rw [List.mem_singleton] at h; subst h
        exact .inr hd
    · exact .inl (batTo_has l n c hc' d hd)
theorem grown_has {l : List Stp} {c : Crt} (hc : c ∈ grownL l) {d : Bytes} (hd : d ∈ c.h.bs) : d ∈ (grownBs l).map batSum := batTo_has _ _ c hc d hd
theorem grown_all {l : List Stp} {M : List Nat} (hM : ∀ j ∈ M, j < (grownL l).length) : blkHas (grownBs l) (blkDs (grownL l) M) = true := by
  unfold blkHas
  rw [List.all_eq_true]
  intro d hd
  obtain ⟨j, hj, hd⟩ := List.mem_flatMap.1 hd
  have hl := hM j hj
  rw [getD_at hl] at hd
  exact decide_eq_true (grown_has (List.getElem_mem hl) hd)
/-- What a block has. -/
theorem mem_addT {acc : List Bytes} {t x : Bytes} : x ∈ addT acc t ↔ x ∈ acc ∨ x = t := by
  unfold addT
  split
  · rename_i h
    exact ⟨.inl, fun q => q.elim id (fun e => e ▸ h)⟩
  · simp
theorem mem_addTs {ts acc : List Bytes} {x : Bytes} : x ∈ addTs acc ts ↔ x ∈ acc ∨ x ∈ ts := by
  unfold addTs
  induction ts generalizing acc with
  | nil => simp
  | cons t ts ih => rw [List.foldl_cons, ih, mem_addT, List.mem_cons]; simp only [or_assoc]
theorem mem_addDs {bs : List Bat} {ds acc : List Bytes} {x : Bytes} : x ∈ addDs bs acc ds ↔ x ∈ acc ∨ ∃ d ∈ ds, x ∈ txsB bs d := by
  unfold addDs
  induction ds generalizing acc with
  | nil => simp
  | cons d ds ih =>
    rw [List.foldl_cons, ih, mem_addTs]
    simp only [List.mem_cons, exists_eq_or_imp, or_assoc]
theorem nodup_addT {acc : List Bytes} {t : Bytes} (h : acc.Nodup) : (addT acc t).Nodup := by
  unfold addT
  split
  · exact h
  · rename_i q
    rw [List.nodup_append]
    refine ⟨h, by simp, fun a ha b hb => ?_⟩
    rw [List.mem_singleton] at hb; subst hb
    exact fun e => q (e ▸ ha)
theorem nodup_addTs {ts acc : List Bytes} (h : acc.Nodup) : (addTs acc ts).Nodup := by
  unfold addTs
  induction ts generalizing acc with
  | nil => exact h
  | cons t ts ih => exact ih (nodup_addT h)
theorem nodup_addDs {bs : List Bat} {ds acc : List Bytes} (h : acc.Nodup) : (addDs bs acc ds).Nodup := by
  unfold addDs
  induction ds generalizing acc with
  | nil => exact h
  | cons t ts ih => exact ih (nodup_addTs h)
theorem addT_sub (acc : List Bytes) (t : Bytes) : (addT acc t).length ≤ acc.length + 1 := addT_len acc t
theorem addTs_len (ts : List Bytes) : ∀ acc : List Bytes, (addTs acc ts).length ≤ acc.length + ts.length := by
  unfold addTs
  induction ts with
  | nil => intro acc; simp
  | cons t ts ih => intro acc; have h1 := ih (addT acc t); have h2 := addT_len acc t; simp only [List.foldl_cons, List.length_cons]; omega
theorem addDs_len {bs : List Bat} (h4 : ∀ d, (txsB bs d).length ≤ 4) (ds : List Bytes) : ∀ acc : List Bytes, (addDs bs acc ds).length ≤ acc.length + 4 * ds.length := by
  unfold addDs
  induction ds with
  | nil => intro acc; simp
  | cons t ts ih => intro acc; have h1 := ih (addTs acc (txsB bs t)); have h2 := addTs_len (txsB bs t) acc; have h3 := h4 t; simp only [List.foldl_cons, List.length_cons]; omega
theorem txsB_len {bs : List Bat} (h : ∀ b ∈ bs, b.txs.length ≤ 4) (d : Bytes) : (txsB bs d).length ≤ 4 := by
  unfold txsB
  split
  · rename_i b hb; exact h b (List.mem_of_find?_eq_some hb)
  · simp
theorem grownBs_txs {l : List Stp} {b : Bat} (hb : b ∈ grownBs l) : b.txs.length ≤ 4 := by
  have h1 := grownBs_ok l b hb
  unfold batCode at h1
  split at h1
  · simp at h1
  · split at h1
    · simp at h1
    · omega
theorem blkDs_len {L : List Crt} (h3 : ∀ c ∈ L, c.h.bs.length ≤ 3) {M : List Nat} (hM : ∀ j ∈ M, j < L.length) : (blkDs L M).length ≤ 3 * M.length := by
  unfold blkDs
  induction M with
  | nil => simp
  | cons j M ih =>
    have h1 := ih (fun k hk => hM k (List.mem_cons_of_mem _ hk))
    have h2 := hM j (List.mem_cons_self ..)
    have h4 : (L.getD j crtZ).h.bs.length ≤ 3 := by rw [getD_at h2]; exact h3 _ (List.getElem_mem h2)
    simp only [List.flatMap_cons, List.length_append, List.length_cons]; omega
/-- A block of a dag of raw numbers: there, and short. -/
theorem grown_blk {l : List Stp} {k : Bytes} {M : List Nat} (hf : 0 ≤ idxP (isB k) (crtSums (grownL l))) (hc : ((grownBs l).map batSum).Nodup) (hM : IsHist (grownL l) (placeP (grownL l) k) M) :
    blkCode (grownL l) (grownBs l) k M = 0 ∧ blkOut (grownL l) (grownBs l) k M = addDs (grownBs l) [] (blkDs (grownL l) M) := by
  have e : blkCode (grownL l) (grownBs l) k M = 0 := by
    unfold blkCode
    have h1 : findCode (grownL l) k = 0 := by unfold findCode; rw [if_neg (by omega)]
    rw [if_neg (by simp [h1]), if_neg (by simp [grownBs_code hc]), if_pos (grown_all hM.lt)]
  exact ⟨e, by unfold blkOut; rw [e, if_pos rfl]⟩
theorem blkOut_len {l : List Stp} {k : Bytes} {M : List Nat} (hM : 0 ≤ idxP (isB k) (crtSums (grownL l)) → bsCode (grownBs l) = 0 → IsHist (grownL l) (placeP (grownL l) k) M) : (blkOut (grownL l) (grownBs l) k M).length ≤ 288 := by
  unfold blkOut
  split
  · rename_i h
    unfold blkCode at h
    split at h
    · rename_i h1; exact absurd h h1
    · rename_i h1
      split at h
      · rename_i h2; exact absurd h h2
      · rename_i h2
        have hf : 0 ≤ idxP (isB k) (crtSums (grownL l)) := by
          by_cases q : 0 ≤ idxP (isB k) (crtSums (grownL l))
          · exact q
          · exfalso
            apply h1
            unfold findCode; rw [if_pos (by omega)]; decide
        have hH := hM hf (by simpa using h2)
        have e1 := addDs_len (txsB_len (fun b hb => grownBs_txs (l := l) hb)) (blkDs (grownL l) M) []
        have e2 := blkDs_len (fun c hc => (hdr_partsD (crt_partsP ((dagOk_iff.1 (grown_ok l)).2.1 c hc)).1).2.2.1) hH.lt
        have e3 := hH.len
        have e4 := grown_len l
        simp only [List.length_nil] at e1
        omega
  · simp
/-- What stands in a parent's history stands in the child's. -/
theorem hist_parent {L : List Crt} (hok : dagOk L = true) {i : Nat} {M N : List Nat} (hM : IsHist L i M) (hi : i < L.length) {p : Bytes} (hp : p ∈ L[i].h.ps) (hN : IsHist L (placeP L p) N) : ∀ k ∈ N, k ∈ M :=
  hM.sub ((hM.mem _).2 (.up .here hi hp)) hN
theorem blk_sub {L : List Crt} {bs : List Bat} {M N : List Nat} (h : ∀ k ∈ N, k ∈ M) {x : Bytes} (hx : x ∈ addDs bs [] (blkDs L N)) : x ∈ addDs bs [] (blkDs L M) := by
  rw [mem_addDs] at *
  rcases hx with hx | ⟨d, hd, hx⟩
  · simp at hx
  · obtain ⟨j, hj, hd⟩ := List.mem_flatMap.1 hd
    exact .inr ⟨d, List.mem_flatMap.2 ⟨j, h j hj, hd⟩, hx⟩
end Go.Proofs.YtpfmmncnhlfdgaaDoor

/- grown, grownSum with more steps. -/
set_option linter.unusedVariables false
set_option linter.unusedSimpArgs false
attribute [local go_sem ↓] Go.wp_at_zero Go.wp_at_succ
namespace Go.Proofs.YtpfmmncnhlfdgaaDoor
open Go Go.RowKit

set_option maxRecDepth 100000 in
set_option maxHeartbeats 8000000 in
theorem grown_any2 {G : Nat → Prop} {l : List Stp} (v : Value) (w : World) (h : RdS RStp G w v l) (hz : l.length * 24 ≤ 140737488351520) (ht : Tabs w) :
    Calls Tryd.prog 20 #[v] w fun e w' => ∃ vd vb, e = .returned (.tuple #[.agg #[vd], vb]) ∧ RdS RCert (fun b => w.heap.size ≤ b) w' vd (grownL l) ∧ RdS RBat (fun b => w.heap.size ≤ b) w' vb (grownBs l) ∧ Below w.heap.size w w' := by
  have hlz : l.length * 24 ≤ 140737488351520 := hz
  obtain ⟨news, hsl, hrd, hone⟩ := RdS.flatOf h (by decide) (fun h => RStp_one h)
  obtain ⟨adl, capl, rfl, hcl, hml⟩ := h.form
  have hB0 : Below w.heap.size w ((w.alloc (.cells #[.slice none 0 0] 30)).alloc (.cells #[.int .i64 0, .int .i64 0, .int .i64 1] 66)) := ((Below.refl _ _).alloc (Nat.le_refl _) _).alloc (by simp) _
  have HSL := Lib.hid (hsl.below hB0)
  have HT := Lib.hid ht
  have HRD := Lib.hid hrd
  have HONE := Lib.hid hone
  have HNL := Lib.hid (show news.length = l.length * 3 by obtain ⟨_, _, _, _, q, _⟩ := hsl; exact q)
  have B2 := Lib.hid ((BoxAt.new w [.slice none 0 0] 30).alloc (.cells #[.int .i64 0, .int .i64 0, .int .i64 1] 66))
  clear h hsl ht hrd hone hB0 hz
  go_enter Tryd.func20, Tryd.ntmps20
  go_wp2_with (at_builtin; refine wpList_append_sl rfl _ _ 22 rfl elemStp (w.heap.size + 1) (.slice (some ⟨w.heap.size + 1, 0, none⟩) 1 1) rfl 1 [.int .i64 0, .int .i64 0, .int .i64 1] (by exact ownsRow_of_box (BoxAt.newAt (w.alloc (.cells #[.slice none 0 0] 30)) [.int .i64 0, .int .i64 0, .int .i64 1] 66 (n := w.heap.size + 1) (by simp)) (by simp) (by simp) (by unfold maxLen; simp)) _ rfl l.length news HSL.out HONE.out (by unfold maxLen; omega) (by omega) (by simp) ?_; intro v5 w5 hown5 hgr5)
  have HL5 := Lib.hid (stps_of (w' := w) hown5 HNL.out HRD.out)
  have hlt5 := HL5.out.lt
  have HB5 := Lib.hid (show Below w.heap.size w w5 from (((Below.refl _ _).alloc (Nat.le_refl _) _).alloc (by simp) _).grown hgr5 (by simp; omega) (fun k hk => by simp [Value.ownBlock] at hk; omega))
  have B25 := Lib.hid (B2.out.grown hgr5 (by simp [Value.ownBlock]))
  clear hown5 hgr5 B2
  go_wp2_with fail
  refine (sdag_any _ _ (HL5.out.rd (G' := fun _ => True) (by decide) (fun _ _ _ => trivial) (fun _ _ _ => trivial)) (HT.out.belowS HB5.out)).mono ?_
  rintro e w6 ⟨vd, vb, rfl, hd, hb, hb6⟩
  have B26 := Lib.hid (B25.out.belowS hb6)
  have zw5 := HB5.out.size
  have HD6 := Lib.hid (hd.mono (G' := fun b => w.heap.size < b) (fun b hb => by have := B25.out.lt; omega))
  have HBB6 := Lib.hid (hb.mono (G' := fun b => w.heap.size < b) (fun b hb => by have := B25.out.lt; omega))
  have HB6 := Lib.hid (HB5.out.trans (hb6.mono zw5))
  clear hd hb hb6
  have y0 := B26.out.cell 0 rfl
  have yf := B26.out.free 0
  have yz := B26.out.lt
  have HZ := Lib.hid (B26.out.set 0 vd)
  have g0 := HZ.out.cell 0 rfl
  have HDF := Lib.hid ((HD6.out.keep (G' := fun b => w.heap.size ≤ b) (Keep.setCell (p := ⟨w.heap.size, 0, none⟩) (by simp) vd) (fun b hb => Nat.le_of_lt hb)))
  have HBF := Lib.hid ((HBB6.out.keep (G' := fun b => w.heap.size ≤ b) (Keep.setCell (p := ⟨w.heap.size, 0, none⟩) (by simp) vd) (fun b hb => Nat.le_of_lt hb)))
  have HBE := Lib.hid (HB6.out.setCell (p := ⟨w.heap.size, 0, none⟩) (by simp) vd)
  obtain ⟨fd, fc, rfl, -, -⟩ := HD6.out.form
  go_wp2
  refine bodyPost_ret (v := .tuple #[.agg #[.slice fd (grownL l).length fc], vb]) (by simp [results, Tryd.results20, go_sem, g0, grownL]) rfl ⟨_, _, rfl, HDF.out, HBF.out, HBE.out⟩
def gsumB2 (l mm : List Stp) : Bool := oneSumL (hdrsOf (grownL l) ++ hdrsOf (grownL (l.take 12 ++ mm))) (grownBs l ++ grownBs (l.take 12 ++ mm))
set_option maxRecDepth 100000 in
set_option maxHeartbeats 8000000 in
theorem grownSum2_any {l mm : List Stp} (v vm : Value) (w : World) (hv : RdS RStp (fun _ => True) w v l) (hvm : RdS RStp (fun _ => True) w vm mm) (hz : l.length * 24 ≤ reachBytes) (hzm : mm.length * 24 ≤ reachBytes) (ht : Tabs w) :
    Calls Tryd.prog 12 #[v, vm] w fun e w' => e = .returned (.bool (gsumB2 l mm)) ∧ Below w.heap.size w w' := by
  have HT := Lib.hid ht
  have hlz : l.length * 24 ≤ 140737488351232 := hz
  obtain ⟨adl, capl, rfl, hcl, hml⟩ := hv.form
  unfold maxLen at hml
  have HV := Lib.hid hv
  have hlm : mm.length * 24 ≤ 140737488351232 := hzm
  obtain ⟨adm, capm, rfl, hcm, hmm2⟩ := hvm.form
  unfold maxLen at hmm2
  have HVM := Lib.hid hvm
  obtain ⟨m, hm⟩ : ∃ m, m = min l.length 12 := ⟨_, rfl⟩
  have hm1 : m ≤ l.length := by omega
  have hm2 : m ≤ 12 := by omega
  have hm3 : ((l.length : Int) ≤ 12 ∧ (m : Int) = (l.length : Int)) ∨ (¬ (l.length : Int) ≤ 12 ∧ (m : Int) = 12) := by omega
  have HM3 := Lib.hid hm3
  have HTK := Lib.hid (show l.take m ++ mm = l.take 12 ++ mm by rw [hm]; rw [take_min12 l])
  have htl : (l.take m).length = m := by rw [List.length_take]; omega
  have HTL := Lib.hid htl
  have HZ2 := Lib.hid (show (l.take m ++ mm).length * 24 ≤ 140737488351520 by rw [List.length_append, htl]; omega)
  clear hv hvm hzm ht hm hm3 htl
  go_enter Tryd.func12, Tryd.ntmps12
  go_wp2_with fail
  refine (grown_any _ _ HV.out hz HT.out).mono ?_
  rintro e w1 ⟨vd, vb, rfl, hd, hb, hb1⟩
  obtain ⟨add, capd, rfl, -, -⟩ := hd.form
  obtain ⟨adb, capb, rfl, -, -⟩ := hb.form
  have HD1 := Lib.hid ((hd.mono (G' := fun _ => True) (fun _ _ => trivial)))
  have HS1 := Lib.hid ((hb.mono (G' := fun _ => True) (fun _ _ => trivial)))
  have HB1 := Lib.hid hb1
  have HV1 := Lib.hid (HV.out.below hb1 (fun _ h => h))
  have HVM1 := Lib.hid (HVM.out.below hb1 (fun _ h => h))
  clear hd hb hb1 HV HVM
  have hg4 := grown_len l
  have hgp := grown_pos l
  have hb4 := grownBs_len l
  have hbp := grownBs_pos l
  obtain ⟨D1, hD1⟩ : ∃ D1, D1 = grownL l := ⟨_, rfl⟩
  obtain ⟨S1, hS1⟩ : ∃ S1, S1 = grownBs l := ⟨_, rfl⟩
  rw [← hD1] at HD1 hg4 hgp ⊢
  rw [← hS1] at HS1 hb4 hbp ⊢
  have HDE1 := Lib.hid hD1
  have HSE1 := Lib.hid hS1
  clear hD1 hS1
  go_upto_region 2 with fail
  obtain ⟨w2, hwl⟩ : ∃ w2, w2 = w1.alloc (.cells #[.slice add D1.length capd] 30) := ⟨_, rfl⟩
  have hBl : Below w1.heap.size w1 w2 := by rw [hwl]; exact (Below.refl _ _).alloc (Nat.le_refl _) _
  have HX := Lib.hid (show BoxAt w2 w1.heap.size [.slice add D1.length capd] 30 by rw [hwl]; exact BoxAt.new w1 [_] _)
  rw [← hwl]
  replace HD1 := Lib.hid (HD1.out.below hBl (fun _ h => h))
  replace HS1 := Lib.hid (HS1.out.below hBl (fun _ h => h))
  replace HB1 := Lib.hid (HB1.out.trans (hBl.mono HB1.out.size))
  replace HV1 := Lib.hid (HV1.out.below hBl (fun _ h => h))
  replace HVM1 := Lib.hid (HVM1.out.below hBl (fun _ h => h))
  clear hwl hBl
  obtain ⟨news, hsl, hrd, hone⟩ := (HV1.out.take m hm1).flatOf (by decide) (fun h => RStp_one h)
  rw [HTL.out] at hsl
  have HSL := Lib.hid hsl
  have HRD := Lib.hid hrd
  have HON := Lib.hid hone
  clear hsl hrd hone
  have k1 : (m : Int) ≤ (capl : Int) := by omega
  have k0 : (0 : Int) ≤ (m : Int) := by omega
  have kmin : min (l.length : Int) 12 = (m : Int) := by have q := HM3.out; omega
  go_wp2_with (first
    | (refine wpList_min rfl (.tmp 17) (.const (.int .i64 12)) 3 3 rfl (l.length : Int) 12 (m : Int) rfl rfl HM3.out ?_)
    | (at_builtin; refine wpList_append_sl rfl (.const (.slice none 0 0)) (.tmp 19) 22 rfl elemStp w2.heap.size (.slice none 0 0) rfl 0 [] (World.ownsRow_nil _ _ _ _) _ rfl m news HSL.out HON.out (by unfold maxLen; omega) (by omega) (Nat.le_refl _) ?_; intro v20 w20 hown20 hgr20)
    | (at_builtin; obtain ⟨newsm, hslm, hrdm, honem⟩ := (HVM1.out.keep (G' := fun _ => True) (Keep.grown hgr20 (fun k hk h => by simp [Value.ownBlock] at hk)) (fun _ _ => trivial)).flatOf (by decide) (fun h => RStp_one h); refine wpList_append_sl rfl (.tmp 20) (.tmp 21) 22 rfl elemStp w2.heap.size v20 rfl (0 + m) ([] ++ news) hown20 (.slice adm mm.length capm) rfl mm.length newsm hslm honem (by unfold maxLen; omega) (by omega) hgr20.size ?_; intro v22 w22 hown22 hgr22))
  have hlt20 := hown20.lt
  have hnl : news.length = (l.take m).length * 3 := by rw [HTL.out]; obtain ⟨_, _, _, _, q, _⟩ := HSL.out; exact q
  have hown22' : w22.ownsRow w2.heap.size 66 3 v22 ((l.take m).length + mm.length) (news ++ newsm) := by
    rw [HTL.out]; exact own_zero hown22
  have HR22 := Lib.hid (show RdS RStp (fun _ => True) w22 v22 (l.take m ++ mm) from RdS.ofAppend2 (R := RStp) (by decide) hnl hown22' (fun j x hx => HRD.out j x hx) (fun j x hx => hrdm j x hx))
  have hB22 : Below w2.heap.size w2 w22 := ((Below.refl _ _).grown hgr20 (Nat.le_refl _) (fun k hk => by simp [Value.ownBlock] at hk)).grown hgr22 hgr20.size (fun k hk => (hlt20 k hk).1)
  replace HD1 := Lib.hid (HD1.out.below hB22 (fun _ h => h))
  replace HS1 := Lib.hid (HS1.out.below hB22 (fun _ h => h))
  replace HX := Lib.hid (HX.out.belowS hB22)
  replace HB1 := Lib.hid (HB1.out.trans (hB22.mono HB1.out.size))
  clear hown20 hgr20 hown22 hown22' hgr22 hB22 hlt20 HSL HRD HON HV1 HVM1 hslm hrdm honem hnl
  refine (grown_any2 _ _ HR22.out HZ2.out (HT.out.belowS HB1.out)).mono ?_
  rintro e w3 ⟨ve, vf, rfl, hd, hb, hb3⟩
  obtain ⟨ade, cape, rfl, -, -⟩ := hd.form
  obtain ⟨adf, capf, rfl, -, -⟩ := hb.form
  have HD2 := Lib.hid ((hd.mono (G' := fun _ => True) (fun _ _ => trivial)))
  have HS2 := Lib.hid ((hb.mono (G' := fun _ => True) (fun _ _ => trivial)))
  replace HD1 := Lib.hid (HD1.out.below hb3 (fun _ h => h))
  replace HS1 := Lib.hid (HS1.out.below hb3 (fun _ h => h))
  replace HX := Lib.hid (HX.out.belowS hb3)
  replace HB1 := Lib.hid (HB1.out.trans (hb3.mono HB1.out.size))
  rw [HTK.out] at HD2 HS2 ⊢
  clear hd hb hb3 HR22
  have hg4' := grown_len (l.take 12 ++ mm)
  have hgp' := grown_pos (l.take 12 ++ mm)
  have hb4' := grownBs_len (l.take 12 ++ mm)
  have hbp' := grownBs_pos (l.take 12 ++ mm)
  have HG := Lib.hid (show gsumB2 l mm = oneSumL (hdrsOf (grownL l) ++ hdrsOf (grownL (l.take 12 ++ mm))) (grownBs l ++ grownBs (l.take 12 ++ mm)) from rfl)
  rw [← HDE1.out, ← HSE1.out] at HG
  generalize grownL (l.take 12 ++ mm) = D2 at *
  generalize grownBs (l.take 12 ++ mm) = S2 at *
  go_upto_region 3 with fail
  obtain ⟨w5, hwl⟩ : ∃ w5, w5 = w3.alloc (.cells #[.slice ade D2.length cape] 30) := ⟨_, rfl⟩
  have hBl : Below w3.heap.size w3 w5 := by rw [hwl]; exact (Below.refl _ _).alloc (Nat.le_refl _) _
  have HY := Lib.hid (show BoxAt w5 w3.heap.size [.slice ade D2.length cape] 30 by rw [hwl]; exact BoxAt.new w3 [_] _)
  rw [← hwl]
  replace HD1 := Lib.hid (((HD1.out.low (by decide)).mono (G' := fun b => b < w3.heap.size) (fun b hb => hb.2)).below hBl (fun _ h => h))
  replace HS1 := Lib.hid (((HS1.out.low (by decide)).mono (G' := fun b => b < w3.heap.size) (fun b hb => hb.2)).below hBl (fun _ h => h))
  replace HD2 := Lib.hid (((HD2.out.low (by decide)).mono (G' := fun b => b < w3.heap.size) (fun b hb => hb.2)).below hBl (fun _ h => h))
  replace HS2 := Lib.hid (((HS2.out.low (by decide)).mono (G' := fun b => b < w3.heap.size) (fun b hb => hb.2)).below hBl (fun _ h => h))
  replace HX := Lib.hid (HX.out.belowS hBl)
  replace HB1 := Lib.hid (HB1.out.trans (hBl.mono HB1.out.size))
  clear hwl hBl
  have zx := HX.out.lt
  have zy := HY.out.lt
  have hzw := HB1.out.size
  refine wp_region_held_drew (S := fun w' => Below w5.heap.size w5 w') (by kernel_rfl) (by exact (Below.refl _ _).drew) (fun hHeld => ?_)
  obtain ⟨wd, hwd⟩ : ∃ wd, wd = w5.drew := ⟨_, rfl⟩
  have HBd := Lib.hid (show Below w5.heap.size w5 wd by rw [hwd]; exact (Below.refl _ _).drew)
  rw [← hwd] at hHeld ⊢
  clear hwd
  refine wpAnyH_take (i := 0) (v := .agg #[.slice add D1.length capd]) rfl (by kernel_rfl) (by kernel_rfl) (by kernel_rfl) (fun _ _ _ h => h) (Or.inl ⟨by rfl, fun w hSw => ?_⟩) hHeld ?_
  · have q0 := (HX.out.belowS hSw).cell 0 rfl; clear hSw; go_simp
  try simp only [Act.put, List.getElem_toArray, List.getElem_cons_succ, List.getElem_cons_zero, List.setIfInBounds_toArray, List.set_cons_zero, List.set_cons_succ]
  refine wpAnyH_take (i := 2) (v := .agg #[.slice ade D2.length cape]) rfl (by kernel_rfl) (by kernel_rfl) (by kernel_rfl) (fun _ _ _ h => h) (Or.inl ⟨by rfl, fun w hSw => ?_⟩) hHeld ?_
  · have q0 := (HY.out.belowS hSw).cell 0 rfl; clear hSw; go_simp
  try simp only [Act.put, List.getElem_toArray, List.getElem_cons_succ, List.getElem_cons_zero, List.setIfInBounds_toArray, List.set_cons_zero, List.set_cons_succ]
  refine wpAnyH_take (i := 5) (v := .slice adb S1.length capb) rfl (by kernel_rfl) (by kernel_rfl) (by kernel_rfl) (fun _ _ _ h => h) (Or.inl ⟨by rfl, fun w hSw => ?_⟩) hHeld ?_
  · clear hSw; go_simp; all_goals (try first | rfl | omega)
  try simp only [Act.put, List.getElem_toArray, List.getElem_cons_succ, List.getElem_cons_zero, List.setIfInBounds_toArray, List.set_cons_zero, List.set_cons_succ]
  refine wpAnyH_take (i := 7) (v := .slice adf S2.length capf) rfl (by kernel_rfl) (by kernel_rfl) (by kernel_rfl) (fun _ _ _ h => h) (Or.inl ⟨by rfl, fun w hSw => ?_⟩) hHeld ?_
  · clear hSw; go_simp; all_goals (try first | rfl | omega)
  try simp only [Act.put, List.getElem_toArray, List.getElem_cons_succ, List.getElem_cons_zero, List.setIfInBounds_toArray, List.set_cons_zero, List.set_cons_succ]
  refine wpAnyH_ready (rs := [1]) (by kernel_rfl) (by simp) ?_
  refine AllReadyH.cons rfl (fun K hK => ?_) ?_
  · rw [if_pos (by rfl)]
    go_simp
    go_at_call 27
    refine (headers_any _ _ (HD1.out.below HBd.out (fun _ h => h)) (by omega)).mono ?_
    rintro e wh ⟨ah, ch, rfl, hL, hbh⟩
    have hBh : Below w5.heap.size w5 wh := HBd.out.trans (hbh.mono (Below.size HBd.out))
    have HBh := Lib.hid hBh
    have zh := hBh.size
    have HL1 := Lib.hid (show LstO RHdr (fun b => b < w3.heap.size) w5.heap.size 42 wh (.slice ah D1.length ch) (hdrsOf D1) from (hL.mono (G' := fun b => b < w3.heap.size) (fun b hb => hb.1)).baseMono (by have := Below.size HBd.out; omega))
    have hL1up := HL1.out.lt
    clear hL hbh hBh
    show K _ _
    refine hK.out _ _ (by exact HBh.out) (fun hHeld => ?_)
    clear hK K
    try simp only [Act.put, List.getElem_toArray, List.getElem_cons_succ, List.getElem_cons_zero, List.setIfInBounds_toArray, List.set_cons_zero, List.set_cons_succ]
    refine wpAnyH_ready (rs := [3]) (by kernel_rfl) (by simp) ?_
    refine AllReadyH.cons rfl (fun K hK => ?_) ?_
    · rw [if_pos (by rfl)]
      go_simp
      go_at_call 27
      refine (headers_any _ _ (HD2.out.below HBh.out (fun _ h => h)) (by omega)).mono ?_
      rintro e wi ⟨ai, ci, rfl, hL, hbi⟩
      have hBi : Below w5.heap.size w5 wi := HBh.out.trans (hbi.mono (Below.size HBh.out))
      have HBi := Lib.hid hBi
      have zi := hbi.size
      replace HL1 := Lib.hid (HL1.out.below hbi)
      have hL2 := (hL.mono (G' := fun b => b < w3.heap.size) (fun b hb => hb.1)).rd (G' := fun b => b < w3.heap.size ∨ wh.heap.size ≤ b) (by decide) (fun b h1 h2 => .inr (by omega)) (fun b h1 h2 => .inl h1)
      obtain ⟨newsh, hslh, hrdh, honeh⟩ := hL2.flatOf (by decide) (fun h => RHdr_one h)
      rw [hdrsOf_len] at hslh
      have HSLH := Lib.hid hslh
      have HRDH := Lib.hid hrdh
      have HONH := Lib.hid honeh
      obtain ⟨valsh, hVh⟩ := HL1.out.valsOf
      have HVH := Lib.hid hVh
      have hvlt := hVh.lt
      have HL1n := Lib.hid (hdrsOf_len D1)
      have HL2n := Lib.hid (hdrsOf_len D2)
      clear hL hbi hBi hL2 hslh hrdh honeh hVh
      show K _ _
      refine hK.out _ _ (by exact HBi.out) (fun hHeld => ?_)
      clear hK K
      try simp only [Act.put, List.getElem_toArray, List.getElem_cons_succ, List.getElem_cons_zero, List.setIfInBounds_toArray, List.set_cons_zero, List.set_cons_succ]
      refine wpAnyH_ready (rs := [4]) (by kernel_rfl) (by simp) ?_
      refine AllReadyH.cons rfl (fun K hK => ?_) ?_
      · rw [if_pos (by rfl)]
        have hownH : wi.ownsRow w5.heap.size 42 4 (.slice ah D1.length ch) D1.length valsh := by have q := HVH.out.own; rw [HL1n.out] at q; exact q
        refine wp_append_at1 _ _ _ (by rfl) elemHdrD w5.heap.size (.slice ah D1.length ch) D1.length valsh (by rfl) hownH (.slice ai D2.length ci) D2.length newsh (by rfl) HSLH.out HONH.out hgp' (by unfold maxLen; omega) (by omega) (by omega) ?_
        intro gj cj wj hownj hgrj hatj hltj
        have HHJ := Lib.hid (show RdS RHdr (fun b => b < wj.heap.size) wj (.slice (some ⟨gj, 0, none⟩) (D1.length + D2.length) cj) (hdrsOf D1 ++ hdrsOf D2) from ((RdS.ofAppend2 (by decide) (by rw [HL1n.out]; exact hownH.1) (by rw [HL1n.out, HL2n.out]; exact hownj) (fun j x hx => RHdr.keep (HVH.out.2 j x hx) (Keep.grown hgrj (fun k hk h => h.2.2 hk)) (fun _ _ => trivial)) (fun j x hx => RHdr.keep (HRDH.out j x hx) (Keep.grown hgrj (fun k hk h => by have q1 := (hL1up k hk).1; have q2 := (hL1up k hk).2; omega)) (fun _ _ => trivial))).low (by decide)).mono (fun b hb => hb.2))
        have HBj := Lib.hid (show Below w5.heap.size w5 wj from HBi.out.grown hgrj (Below.size HBi.out) (fun k hk => (hL1up k hk).1))
        have zj := hgrj.size
        clear hownH hownj hgrj hatj
        show K _ _
        refine hK.out _ _ (by exact HBj.out) (fun hHeld => ?_)
        clear hK K
        try simp only [Act.put, List.getElem_toArray, List.getElem_cons_succ, List.getElem_cons_zero, List.setIfInBounds_toArray, List.set_cons_zero, List.set_cons_succ]
        refine wpAnyH_ready (rs := [6]) (by kernel_rfl) (by simp) ?_
        refine AllReadyH.cons rfl (fun K hK => ?_) ?_
        · rw [if_pos (by rfl)]
          obtain ⟨newsb, hslb, hrdb, honeb⟩ := (HS1.out.below HBj.out (fun _ h => h)).flatOf (by decide) (fun h => RBat_one h)
          refine wp_append_at1 _ _ _ (by rfl) elemBatD wj.heap.size (.slice none 0 0) 0 [] (by rfl) (World.ownsRow_nil _ _ _ _) (.slice adb S1.length capb) S1.length newsb (by rfl) hslb honeb hbp (by unfold maxLen; omega) (by omega) (Nat.le_refl _) ?_
          intro gk ck wk hownk hgrk hatk hltk
          have HOK := Lib.hid (show wk.ownsRow wj.heap.size 58 3 (.slice (some ⟨gk, 0, none⟩) (0 + S1.length) ck) (0 + S1.length) ([] ++ newsb) from hownk)
          have HNB := Lib.hid (show newsb.length = S1.length * 3 by obtain ⟨_, _, _, _, q, _⟩ := hslb; exact q)
          have HRK := Lib.hid (show ∀ j x, S1[j]? = some x → RBat.rd (fun b => b < w3.heap.size) wk ((newsb.drop (j * 3)).take 3) x from fun j x hx => RBat.keep (hrdb j x hx) (Keep.grown hgrk (fun k hk h => by simp [Value.ownBlock] at hk)) (fun _ h => h))
          have HBk := Lib.hid (show Below w5.heap.size w5 wk from HBj.out.grown hgrk (Below.size HBj.out) (fun k hk => by simp [Value.ownBlock] at hk))
          have HHK := Lib.hid (HHJ.out.keep (G' := fun b => b < wj.heap.size) (Keep.grown hgrk (fun k hk h => by simp [Value.ownBlock] at hk)) (fun _ h => h))
          have zk := hgrk.size
          clear hslb hrdb honeb hownk hgrk hatk
          show K _ _
          refine hK.out _ _ (by exact HBk.out) (fun hHeld => ?_)
          clear hK K
          try simp only [Act.put, List.getElem_toArray, List.getElem_cons_succ, List.getElem_cons_zero, List.setIfInBounds_toArray, List.set_cons_zero, List.set_cons_succ]
          refine wpAnyH_ready (rs := [8]) (by kernel_rfl) (by simp) ?_
          refine AllReadyH.cons rfl (fun K hK => ?_) ?_
          · rw [if_pos (by rfl)]
            obtain ⟨newsc, hslc, hrdc, honec⟩ := (HS2.out.below HBk.out (fun _ h => h)).flatOf (by decide) (fun h => RBat_one h)
            have hltk2 := HOK.out.lt
            refine wp_append_at1 _ _ _ (by rfl) elemBatD wj.heap.size (.slice (some ⟨gk, 0, none⟩) (0 + S1.length) ck) (0 + S1.length) ([] ++ newsb) (by rfl) HOK.out (.slice adf S2.length capf) S2.length newsc (by rfl) hslc honec hbp' (by unfold maxLen; omega) (by omega) zk ?_
            intro gm cm wm hownm hgrm hatm hltm
            have hgk : wj.heap.size ≤ gk := (hltk2 gk rfl).1
            have HBM := Lib.hid (show RdS RBat (fun _ => True) wm (.slice (some ⟨gm, 0, none⟩) (0 + S1.length + S2.length) cm) (S1 ++ S2) from RdS.ofAppend2 (vals := newsb) (by decide) HNB.out (own_zero hownm) (fun j x hx => RBat.keep (HRK.out j x hx) (Keep.grown hgrm (fun k hk h => by have := (hltk2 k hk).1; omega)) (fun _ _ => trivial)) (fun j x hx => RBat.keep (hrdc j x hx) (Keep.grown hgrm (fun k hk h => by have := (hltk2 k hk).1; omega)) (fun _ _ => trivial)))
            have HHM := Lib.hid (HHK.out.keep (G' := fun _ => True) (Keep.grown hgrm (fun k hk h => by have := (hltk2 k hk).1; have h0 : k < wj.heap.size := h; omega)) (fun _ _ => trivial))
            have HBm := Lib.hid (show Below w5.heap.size w5 wm from HBk.out.grown hgrm (Below.size HBk.out) (fun k hk => by have := (hltk2 k hk).1; omega))
            clear hslc hrdc honec hownm hgrm hatm
            show K _ _
            refine hK.out _ _ (by exact HBm.out) (fun hHeld => ?_)
            clear hK K
            try simp only [Act.put, List.getElem_toArray, List.getElem_cons_succ, List.getElem_cons_zero, List.setIfInBounds_toArray, List.set_cons_zero, List.set_cons_succ]
            refine wpAnyH_ready (rs := [9]) (by kernel_rfl) (by simp) ?_
            refine AllReadyH.cons rfl (fun K hK => ?_) ?_
            · rw [if_pos (by rfl)]
              go_simp
              go_at_call 26
              refine (oneSum_any _ _ _ HHM.out (show RdS RBat (fun _ => True) wm (.slice (some ⟨gm, 0, none⟩) (S1.length + S2.length) cm) (S1 ++ S2) by have q := HBM.out; rw [Nat.zero_add] at q; exact q) (HT.out.belowS (HB1.out.trans (HBm.out.mono HB1.out.size)))).mono ?_
              rintro e wn ⟨rfl, hbn⟩
              have HBn := Lib.hid (HBm.out.trans (hbn.mono (Below.size HBm.out)))
              rw [← HG.out]
              clear hbn
              show K _ _
              refine hK.out _ _ (by exact HBn.out) (fun hHeld => ?_)
              clear hK K
              try simp only [Act.put, List.getElem_toArray, List.getElem_cons_succ, List.getElem_cons_zero, List.setIfInBounds_toArray, List.set_cons_zero, List.set_cons_succ]
              refine wpAnyH_take (i := 10) (v := .bool (gsumB2 l mm)) rfl (by kernel_rfl) (by kernel_rfl) (by kernel_rfl) (fun _ _ _ h => h) (Or.inl ⟨by rfl, fun w hSw => ?_⟩) hHeld ?_
              · clear hSw; go_simp; all_goals (try first | rfl | omega)
              try simp only [Act.put, List.getElem_toArray, List.getElem_cons_succ, List.getElem_cons_zero, List.setIfInBounds_toArray, List.set_cons_zero, List.set_cons_succ]
              refine wpAnyH_done (by kernel_rfl) ?_ _
              go_wp2
              go_ret
              exact ⟨rfl, HB1.out.trans (HBn.out.mono HB1.out.size)⟩
            exact AllReadyH.nil
          exact AllReadyH.nil
        exact AllReadyH.nil
      exact AllReadyH.nil
    exact AllReadyH.nil
  exact AllReadyH.nil
end Go.Proofs.YtpfmmncnhlfdgaaDoor

/- BlockSame: the plain law. -/
set_option linter.unusedVariables false
set_option linter.unusedSimpArgs false
attribute [local go_sem ↓] Go.wp_at_zero Go.wp_at_succ
namespace Go.Proofs.YtpfmmncnhlfdgaaDoor
open Go Go.RowKit

theorem anyPair_no {α : Type} {p : α → α → Bool} {l m : List α} (h : anyPair p [] (l ++ m) = false) {x y : α} (hx : x ∈ l) (hy : y ∈ m) : p y x = false := by
  obtain ⟨i, hi, ei⟩ := List.getElem_of_mem hx
  obtain ⟨j, hj, ej⟩ := List.getElem_of_mem hy
  cases q : p y x with
  | false => rfl
  | true =>
    have e1 : (l ++ m)[l.length + j]'(by simp; omega) = y := by rw [List.getElem_append_right (by omega)]; simp [ej]
    have e2 : (l ++ m)[i]'(by simp; omega) = x := by rw [List.getElem_append_left hi]; exact ei
    have := anyPair_at (p := p) (l := l ++ m) (k := l.length + j) (j := i) (by simp; omega) (by omega) (by rw [e1, e2]; exact q)
    rw [this] at h; simp at h
theorem one_parts {H : List Hdr} {B : List Bat} (h : oneSumL H B = false) : anyPair pairH [] H = false ∧ anyPair pairBt [] B = false := by
  unfold oneSumL at h; exact Bool.or_eq_false_iff.1 h
theorem hdr_one {A X : List Crt} (hA : dagOk A = true) (hX : dagOk X = true) {B : List Bat} (h : oneSumL (hdrsOf A ++ hdrsOf X) B = false) : ∀ c ∈ A, ∀ e ∈ X, crtSum c = crtSum e → c.h = e.h := by
  intro c hc e he hs
  have h1 := anyPair_no (one_parts h).1 (x := c.h) (y := e.h) (List.mem_map.2 ⟨c, hc, rfl⟩) (List.mem_map.2 ⟨e, he, rfl⟩)
  unfold pairH at h1
  have h2 := of_decide_eq_false h1
  have c1 := (crt_partsP ((dagOk_iff.1 hA).2.1 c hc)).1
  have c2 := (crt_partsP ((dagOk_iff.1 hX).2.1 e he)).1
  cases q : sameH e.h c.h with
  | false => exact absurd ⟨c2, c1, hs.symm, q⟩ h2
  | true =>
    unfold sameH at q
    obtain ⟨q1, q2, q3, q4⟩ := of_decide_eq_true q
    rcases hc : c.h with ⟨a, r, bs, ps⟩
    rcases hx : e.h with ⟨a', r', bs', ps'⟩
    rw [hc, hx] at q1 q2 q3 q4
    simp only at q1 q2 q3 q4
    rw [q1, q2, q3, q4]
theorem bat_one {A X : List Bat} (hA : ∀ b ∈ A, batCode b = 0) (hX : ∀ b ∈ X, batCode b = 0) {H : List Hdr} (h : oneSumL H (A ++ X) = false) : ∀ b ∈ A, ∀ c ∈ X, batSum b = batSum c → b.txs = c.txs := by
  intro b hb c hc hs
  have h1 := anyPair_no (one_parts h).2 hb hc
  unfold pairBt at h1
  have h2 := of_decide_eq_false h1
  cases q : sameBt c b with
  | false => exact absurd ⟨hX c hc, hA b hb, hs.symm, q⟩ h2
  | true =>
    unfold sameBt at q
    exact (of_decide_eq_true q).2.2.symm
theorem bats_of2 {l : List Bat} (hok : ∀ b ∈ l, batCode b = 0) (hp : l.Pairwise fun x y => x.n < y.n) {H : List Hdr} {X : List Bat} (h : oneSumL H (X ++ l) = false) : (l.map batSum).Nodup := by
  rw [List.nodup_iff_pairwise_ne, List.pairwise_iff_getElem]
  intro i j hi hj hij he
  have hi' : i < l.length := by simpa using hi
  have hj' : j < l.length := by simpa using hj
  simp only [List.getElem_map] at he
  have hn := (List.pairwise_iff_getElem.1 hp) i j hi' hj' hij
  have g1 : (X ++ l)[X.length + j]'(by simp; omega) = l[j] := by rw [List.getElem_append_right (by omega)]; simp
  have g2 : (X ++ l)[X.length + i]'(by simp; omega) = l[i] := by rw [List.getElem_append_right (by omega)]; simp
  have hq : pairBt ((X ++ l)[X.length + j]'(by simp; omega)) ((X ++ l)[X.length + i]'(by simp; omega)) = true := by
    rw [g1, g2]
    unfold pairBt
    refine decide_eq_true ⟨hok _ (List.getElem_mem hj'), hok _ (List.getElem_mem hi'), he.symm, ?_⟩
    unfold sameBt
    exact decide_eq_false (fun q => by have := q.2.1; omega)
  have ht := anyPair_at (p := pairBt) (l := X ++ l) (by simp; omega) (by omega) hq
  rw [(one_parts h).2] at ht; simp at ht
theorem dig_at {L : List Crt} {p : Bytes} {j : Nat} (hj : j < L.length) (h : idxP (isB p) (crtSums L) = (j : Int)) : crtSum L[j] = p := by
  have e : placeP L p = j := by unfold placeP; omega
  have h1 := dig_place (L := L) (d := p) (by omega)
  rw [e, digP_at hj] at h1
  exact h1
/-- What a certificate stands on in one dag, it stands on in the other. -/
theorem reach_map {A X : List Crt} (hA : dagOk A = true) (hX : dagOk X = true) (h1 : ∀ c ∈ A, ∀ e ∈ X, crtSum c = crtSum e → c.h = e.h) {i i' : Nat} (hi : i < A.length) (hi' : i' < X.length) (hs : crtSum A[i] = crtSum X[i']) {j : Nat} (hj : Reach A i j) :
    ∃ h : j < A.length, ∃ j', ∃ h' : j' < X.length, Reach X i' j' ∧ A[j].h = X[j'].h ∧ crtSum A[j] = crtSum X[j'] := by
  induction hj with
  | here => exact ⟨hi, i', hi', .here, h1 _ (List.getElem_mem hi) _ (List.getElem_mem hi') hs, hs⟩
  | up h hj hp ih =>
    obtain ⟨h0, j', h', hr, eh, e⟩ := ih
    have hp' := hp
    rw [eh] at hp'
    obtain ⟨q1, q2, -⟩ := place_par hA hj hp
    obtain ⟨r1, r2, -⟩ := place_par hX h' hp'
    have e1 := dig_at (by omega) q2
    have e2 := dig_at (by omega) r2
    exact ⟨by omega, _, by omega, .up hr h' hp', h1 _ (List.getElem_mem _) _ (List.getElem_mem _) (by rw [e1, e2]), by rw [e1, e2]⟩
theorem map_hd_mem {L : List Crt} {M : List Nat} {i : Nat} (hM : IsHist L i M) {h : Hdr} : h ∈ M.map (fun j => (L.getD j crtZ).h) ↔ ∃ j, ∃ hj : j < L.length, Reach L i j ∧ L[j].h = h := by
  rw [List.mem_map]
  constructor
  · rintro ⟨j, hj, e⟩
    have hl := hM.lt j hj
    exact ⟨j, hl, (hM.mem j).1 hj, by rw [getD_at hl] at e; exact e⟩
  · rintro ⟨j, hl, hj, e⟩
    exact ⟨j, (hM.mem j).2 hj, by rw [getD_at hl]; exact e⟩
theorem hist_same {A X : List Crt} (hA : dagOk A = true) (hX : dagOk X = true) (h1 : ∀ c ∈ A, ∀ e ∈ X, crtSum c = crtSum e → c.h = e.h) {i i' : Nat} (hi : i < A.length) (hi' : i' < X.length) (hs : crtSum A[i] = crtSum X[i']) {M N : List Nat} (hM : IsHist A i M) (hN : IsHist X i' N) :
    M.map (fun j => (A.getD j crtZ).h) = N.map (fun j => (X.getD j crtZ).h) := by
  have p1 : (M.map (fun j => (A.getD j crtZ).h)).Pairwise (fun x y : Hdr => 4 * x.r + x.a < 4 * y.r + y.a) := List.pairwise_map.2 hM.ord
  have p2 : (N.map (fun j => (X.getD j crtZ).h)).Pairwise (fun x y : Hdr => 4 * x.r + x.a < 4 * y.r + y.a) := List.pairwise_map.2 hN.ord
  have n1 : (M.map (fun j => (A.getD j crtZ).h)).Nodup := List.nodup_iff_pairwise_ne.2 (p1.imp (fun {x y} h e => by subst e; omega))
  have n2 : (N.map (fun j => (X.getD j crtZ).h)).Nodup := List.nodup_iff_pairwise_ne.2 (p2.imp (fun {x y} h e => by subst e; omega))
  have hp := (List.perm_ext_iff_of_nodup n1 n2).2 (fun h => by
    rw [map_hd_mem hM, map_hd_mem hN]
    constructor
    · rintro ⟨j, hj, hr, rfl⟩
      obtain ⟨hh0, j', h', hr', e, he0⟩ := reach_map hA hX h1 hi hi' hs hr
      exact ⟨j', h', hr', e.symm⟩
    · rintro ⟨j, hj, hr, rfl⟩
      obtain ⟨hh0, j', h', hr', e, he0⟩ := reach_map hX hA (fun c hc e he q => (h1 e he c hc q.symm).symm) hi' hi hs.symm hr
      exact ⟨j', h', hr', e.symm⟩)
  exact List.Perm.eq_of_pairwise (le := fun x y : Hdr => 4 * x.r + x.a < 4 * y.r + y.a) (fun a b _ _ h3 h4 => by omega) p1 p2 hp
theorem blkDs_map (L : List Crt) (M : List Nat) : blkDs L M = (M.map (fun j => (L.getD j crtZ).h)).flatMap Hdr.bs := by
  unfold blkDs; rw [List.flatMap_map]
theorem addDs_congr {B C : List Bat} {ds : List Bytes} (h : ∀ d ∈ ds, txsB B d = txsB C d) : ∀ acc, addDs B acc ds = addDs C acc ds := by
  unfold addDs
  induction ds with
  | nil => intro acc; rfl
  | cons d ds ih =>
    intro acc
    rw [List.foldl_cons, List.foldl_cons, h d (List.mem_cons_self ..)]
    exact ih (fun x hx => h x (List.mem_cons_of_mem _ hx)) _
theorem dagTo_congr (l m : List Stp) : ∀ n, (∀ i, i < n → l.getD i stpZ = m.getD i stpZ) → dagTo l n = dagTo m n
  | 0, _ => rfl
  | n + 1, h => by
    show dagStep (dagTo l n) n (l.getD n stpZ) = dagStep (dagTo m n) n (m.getD n stpZ)
    rw [dagTo_congr l m n (fun i hi => h i (by omega)), h n (by omega)]
theorem dagTo_sub (l : List Stp) (n : Nat) : ∀ k, ∀ c ∈ dagTo l n, c ∈ dagTo l (n + k)
  | 0, c, h => h
  | k + 1, c, h => by
    have h1 := dagTo_sub l n k c h
    show c ∈ dagStep (dagTo l (n + k)) (n + k) (l.getD (n + k) stpZ)
    unfold dagStep
    split
    · exact List.mem_append_left _ h1
    · exact h1
theorem grown_more {l m : List Stp} (h : l.length ≤ 12) : ∀ c ∈ grownL l, c ∈ grownL (l ++ m) := by
  intro c hc
  have e1 : stpMany (stp1 :: l) = l.length + 1 := by unfold stpMany; simp; omega
  obtain ⟨k, hk⟩ : ∃ k, stpMany (stp1 :: (l ++ m)) = l.length + 1 + k := ⟨stpMany (stp1 :: (l ++ m)) - (l.length + 1), by unfold stpMany; simp; omega⟩
  have h1 : c ∈ dagTo (stp1 :: l) (l.length + 1) := by rw [← e1]; exact hc
  show c ∈ dagTo (stp1 :: (l ++ m)) (stpMany (stp1 :: (l ++ m)))
  rw [hk]
  refine dagTo_sub _ _ _ c ?_
  rw [dagTo_congr (stp1 :: (l ++ m)) (stp1 :: l) (l.length + 1) (fun i hi => by
    rcases i with _ | i
    · rfl
    · rw [List.getD_cons_succ, List.getD_cons_succ, List.getD_eq_getElem?_getD, List.getD_eq_getElem?_getD, List.getElem?_append_left (by omega)])]
  exact h1
/-- THE BLOCK OF A CERTIFICATE IS ONE, wherever it stands. -/
theorem same_law {l mm : List Stp} (h : gsumB2 l mm = false) {dk : Bytes} (hd : 0 ≤ idxP (isB dk) (crtSums (grownL l))) {MA MX : List Nat} {X : List Crt} {BX : List Bat} (eX : X = grownL (l.take 12 ++ mm)) (eB : BX = grownBs (l.take 12 ++ mm))
    (hMA : 0 ≤ idxP (isB dk) (crtSums (grownL l)) → bsCode (grownBs l) = 0 → IsHist (grownL l) (placeP (grownL l) dk) MA) (hMX : 0 ≤ idxP (isB dk) (crtSums X) → bsCode BX.reverse = 0 → IsHist X (placeP X dk) MX) :
    blkCode (grownL l) (grownBs l) dk MA = 0 ∧ ((blkCode X BX.reverse dk MX = 8 ∧ 12 < l.length) ∨ (blkCode X BX.reverse dk MX = 0 ∧ blkOut (grownL l) (grownBs l) dk MA = blkOut X BX.reverse dk MX)) := by
  have hAok := grown_ok l
  have hXok : dagOk X = true := by rw [eX]; exact grown_ok _
  have hsum : oneSumL (hdrsOf (grownL l) ++ hdrsOf X) (grownBs l ++ BX) = false := by rw [eX, eB]; exact h
  have hBX0 : ∀ b ∈ BX, batCode b = 0 := by rw [eB]; exact grownBs_ok _
  have cA : ((grownBs l).map batSum).Nodup := bats_of (grownBs_ok l) (batTo_pair _ _).1 hsum
  have cX : (BX.map batSum).Nodup := bats_of2 hBX0 (by rw [eB]; exact (batTo_pair _ _).1) hsum
  have hMA' := hMA hd (grownBs_code cA)
  obtain ⟨gA1, gA2⟩ := grown_blk hd cA hMA'
  refine ⟨gA1, ?_⟩
  by_cases hx : 0 ≤ idxP (isB dk) (crtSums X)
  · right
    have hz : bsCode BX.reverse = 0 := by
      unfold bsCode
      have : bsOk BX.reverse = true := by
        unfold bsOk
        refine decide_eq_true ⟨?_, fun b hb => hBX0 b (List.mem_reverse.1 hb), ?_⟩
        · rw [List.length_reverse, eB]; have := grownBs_le (l.take 12 ++ mm); omega
        · rw [List.map_reverse]; exact (List.reverse_perm _).nodup_iff.2 cX
      rw [this]; rfl
    have hMX' := hMX hx hz
    have hall : blkHas BX.reverse (blkDs X MX) = true := by
      have h1 : blkHas BX (blkDs X MX) = true := by
        have := hMX'.lt
        rw [eX] at this ⊢
        rw [eB]; exact grown_all this
      unfold blkHas at h1 ⊢
      rw [List.all_eq_true] at h1 ⊢
      intro d hd2
      have := of_decide_eq_true (h1 d hd2)
      exact decide_eq_true (by rw [List.map_reverse]; exact List.mem_reverse.2 this)
    have e : blkCode X BX.reverse dk MX = 0 := by
      unfold blkCode
      have h1 : findCode X dk = 0 := by unfold findCode; rw [if_neg (by omega)]
      rw [if_neg (by simp [h1]), if_neg (by simp [hz]), if_pos hall]
    refine ⟨e, ?_⟩
    rw [gA2]
    unfold blkOut
    rw [if_pos e]
    obtain ⟨-, pA, iA⟩ := findCode_yes hd
    obtain ⟨-, pX, iX⟩ := findCode_yes hx
    have eqs : crtSum (grownL l)[placeP (grownL l) dk] = crtSum X[placeP X dk] := by rw [dig_at pA iA, dig_at pX iX]
    have hh := hist_same hAok hXok (hdr_one hAok hXok hsum) pA pX eqs hMA' hMX'
    have hds : blkDs (grownL l) MA = blkDs X MX := by rw [blkDs_map, blkDs_map, hh]
    rw [hds]
    refine addDs_congr (fun d hd2 => ?_) []
    have m1 : d ∈ (grownBs l).map batSum := by
      have q := grown_all hMA'.lt
      unfold blkHas at q
      rw [List.all_eq_true] at q
      exact of_decide_eq_true (q d (by rw [hds]; exact hd2))
    have m2 : d ∈ BX.reverse.map batSum := by
      have q := hall
      unfold blkHas at q
      rw [List.all_eq_true] at q
      exact of_decide_eq_true (q d hd2)
    obtain ⟨b, hb, eb, tb⟩ := txsB_mem m1
    obtain ⟨c, hc, ec, tc⟩ := txsB_mem m2
    rw [tb, tc]
    exact bat_one (grownBs_ok l) hBX0 hsum b hb c (List.mem_reverse.1 hc) (by rw [eb, ec])
  · left
    refine ⟨?_, ?_⟩
    · unfold blkCode
      have h1 : findCode X dk = 8 := by unfold findCode; rw [if_pos (by omega)]
      rw [if_pos (by rw [h1]; decide), h1]
    · rcases Nat.lt_or_ge 12 l.length with q | q
      · exact q
      · exfalso
        apply hx
        rw [idxP_ge] at hd ⊢
        obtain ⟨x, hx1, hx2⟩ := hd
        obtain ⟨c, hc, rfl⟩ := List.mem_map.1 hx1
        refine ⟨crtSum c, List.mem_map.2 ⟨c, ?_, rfl⟩, hx2⟩
        rw [eX, List.take_of_length_le q]
        exact grown_more q c hc
end Go.Proofs.YtpfmmncnhlfdgaaDoor

/- blockSame: the walk. -/
set_option linter.unusedVariables false
set_option linter.unusedSimpArgs false
attribute [local go_sem ↓] Go.wp_at_zero Go.wp_at_succ
namespace Go.Proofs.YtpfmmncnhlfdgaaDoor
open Go Go.RowKit

def revB (bs : List Bat) (j : Nat) : List Bat := (bs.drop j).reverse
theorem revB_full (bs : List Bat) : revB bs bs.length = [] := by simp [revB]
theorem revB_zero (bs : List Bat) : revB bs 0 = bs.reverse := by simp [revB]
theorem revB_len (bs : List Bat) (j : Nat) : (revB bs j).length ≤ bs.length := by simp [revB]
theorem revB_step {bs : List Bat} {j : Nat} (h : j < bs.length) : revB bs j = revB bs (j + 1) ++ [bs[j]] := by
  unfold revB; rw [List.drop_eq_getElem_cons h, List.reverse_cons]
set_option maxRecDepth 100000 in
set_option maxHeartbeats 8000000 in
theorem blockSame_any {l mm : List Stp} (v vm : Value) (n : Int) (w : World) (hv : RdS RStp (fun _ => True) w v l) (hvm : RdS RStp (fun _ => True) w vm mm) (hz : l.length * 24 ≤ reachBytes) (hzm : mm.length * 24 ≤ reachBytes) (n1 : -9223372036854775808 ≤ n) (n2 : n ≤ 9223372036854775807) (ht : Tabs w) :
    Calls Tryd.prog 16 #[v, vm, .int .i64 n] w fun e w' => ∃ b, e = .returned (.bool b) ∧ (gsumB2 l mm = false → b = true) ∧ Below w.heap.size w w' := by
  have HT := Lib.hid ht
  have hlz : l.length * 24 ≤ 140737488351232 := hz
  have hlm : mm.length * 24 ≤ 140737488351232 := hzm
  obtain ⟨adl, capl, rfl, hcl, hml⟩ := hv.form
  unfold maxLen at hml
  obtain ⟨adm, capm, rfl, hcm, hmm2⟩ := hvm.form
  unfold maxLen at hmm2
  have HV := Lib.hid hv
  have HVM := Lib.hid hvm
  clear hvm hzm
  go_enter Tryd.func16, Tryd.ntmps16
  go_wp2_with fail
  refine (grown_any _ _ hv hz ht).mono ?_
  rintro e w1 ⟨vd, vb, rfl, hd, hbb, hb1⟩
  obtain ⟨add, capd, rfl, -, -⟩ := hd.form
  obtain ⟨adb, capb, rfl, -, -⟩ := hbb.form
  have HBT1 := Lib.hid hbb
  clear hbb
  have HD1 := Lib.hid hd
  have HB1 := Lib.hid hb1
  clear hd hb1 ht hv
  go_upto_region 2 with fail
  obtain ⟨w2, hw2⟩ : ∃ w2, w2 = w1.alloc (.cells #[.slice add (grownL l).length capd] 30) := ⟨_, rfl⟩
  have HX := Lib.hid (show BoxAt w2 w1.heap.size [.slice add (grownL l).length capd] 30 by rw [hw2]; exact BoxAt.new w1 [_] _)
  have hB2 : Below w1.heap.size w1 w2 := by rw [hw2]; exact (Below.refl _ _).alloc (Nat.le_refl _) _
  rw [← hw2]
  have HD := Lib.hid ((HD1.out.mono (G' := fun _ => True) (fun _ _ => trivial)).below hB2 (fun _ h => h))
  have HBT := Lib.hid ((HBT1.out.mono (G' := fun _ => True) (fun _ _ => trivial)).below hB2 (fun _ h => h))
  clear HBT1
  have HB := Lib.hid (HB1.out.trans (hB2.mono HB1.out.size))
  have HOK := Lib.hid (grown_ok l)
  have hz2 := HX.out.lt
  have hzw2 := HB.out.size
  clear hw2 hB2 HD1 HB1
  have hg4 := grown_len l
  have hgp := grown_pos l
  obtain ⟨L, hLL⟩ : ∃ L, L = grownL l := ⟨_, rfl⟩
  obtain ⟨BS, hBS⟩ : ∃ BS, BS = grownBs l := ⟨_, rfl⟩
  rw [← hLL] at HX HD HOK hg4 hgp ⊢
  rw [← hBS] at HBT ⊢
  have HLL := Lib.hid hLL
  have HBS := Lib.hid hBS
  have hbl : BS.length ≤ 48 := by rw [hBS]; exact grownBs_le l
  have HLEN := Lib.hid (show ∀ (k : Bytes) (M : List Nat), (0 ≤ idxP (isB k) (crtSums L) → bsCode BS = 0 → IsHist L (placeP L k) M) → (blkOut L BS k M).length ≤ 288 by rw [hLL, hBS]; exact fun k M h => blkOut_len h)
  have HCLR := Lib.hid (show Clr l → (crtSums L).Nodup ∧ bsCode BS = 0 ∧ ∀ (k : Bytes) (M : List Nat), 0 ≤ idxP (isB k) (crtSums L) → IsHist L (placeP L k) M → blkCode L BS k M = 0 ∧ blkOut L BS k M = addDs BS [] (blkDs L M) by rw [hLL, hBS]; exact fun h => ⟨h.1, grownBs_code h.2, fun k M h1 h2 => grown_blk h1 h.2 h2⟩)
  have HLAW := Lib.hid (show gsumB2 l mm = false → ∀ dk, 0 ≤ idxP (isB dk) (crtSums L) → ∀ MA MX, (0 ≤ idxP (isB dk) (crtSums L) → bsCode BS = 0 → IsHist L (placeP L dk) MA) → (0 ≤ idxP (isB dk) (crtSums (grownL (l.take 12 ++ mm))) → bsCode (grownBs (l.take 12 ++ mm)).reverse = 0 → IsHist (grownL (l.take 12 ++ mm)) (placeP (grownL (l.take 12 ++ mm)) dk) MX) → blkCode L BS dk MA = 0 ∧ ((blkCode (grownL (l.take 12 ++ mm)) (grownBs (l.take 12 ++ mm)).reverse dk MX = 8 ∧ 12 < l.length) ∨ (blkCode (grownL (l.take 12 ++ mm)) (grownBs (l.take 12 ++ mm)).reverse dk MX = 0 ∧ blkOut L BS dk MA = blkOut (grownL (l.take 12 ++ mm)) (grownBs (l.take 12 ++ mm)).reverse dk MX)) by
    subst hLL hBS; exact fun h dk hd MA MX h1 h2 => same_law h hd rfl rfl h1 h2)
  clear hLL hBS
  have HH := Lib.hid (fun c (hc : c ∈ L) => (crt_partsP ((dagOk_iff.1 HOK.out).2.1 c hc)).1)
  replace HD := Lib.hid ((HD.out.low (by decide)).mono (G' := fun b => b < w2.heap.size) (fun b hb => hb.2))
  replace HBT := Lib.hid ((HBT.out.low (by decide)).mono (G' := fun b => b < w2.heap.size) (fun b hb => hb.2))
  have x0 := HX.out.cell 0 rfl
  go_wp2_with fail
  refine (digestsOf_any _ _ HD.out HH.out (by omega) (HT.out.belowS HB.out)).mono ?_
  rintro e w3 ⟨vs, rfl, hS, hb3⟩
  obtain ⟨ads, caps, rfl, hcs, hms⟩ := hS.form
  unfold maxLen at hms
  have hSL := crtSums_len L
  have HS := Lib.hid (hS.mono (G' := fun _ => True) (fun _ _ => trivial))
  have hz23 := hb3.size
  replace HBT := Lib.hid (HBT.out.below hb3 (fun _ h => h))
  replace HX := Lib.hid (HX.out.belowS hb3)
  replace HD := Lib.hid (HD.out.below hb3 (fun _ h => h))
  replace HB := Lib.hid (HB.out.trans (hb3.mono HB.out.size))
  replace HD := Lib.hid (HD.out.mono (G' := fun _ => True) (fun _ _ => trivial))
  clear x0 hS hb3
  obtain ⟨DS, hDS⟩ : ∃ DS, DS = crtSums L := ⟨_, rfl⟩
  rw [← hDS] at HS hSL ⊢
  have HDS := Lib.hid hDS
  have hSL1 : DS.length ≤ L.length := by omega
  have hSL2 : L.length ≤ DS.length := by omega
  clear hDS hSL hcs
  have hzw3 := HB.out.size
  have hl0 : (0 : Int) < (DS.length : Int) := by omega
  have hl1 : DS.length ≤ 9223372036854775807 := by omega
  have q0 : ((DS.length : Int) == 0) = false := by rw [beq_eq_false_iff_ne]; omega
  obtain ⟨p0A, p1A⟩ := pickedZ_range n (DS.length : Int) (by omega)
  have HPA := Lib.hid (show ((pickedZ n (DS.length : Int)).toNat : Int) = pickedZ n (DS.length : Int) by omega)
  obtain ⟨pa, hpa⟩ : ∃ pa, pa = (pickedZ n (DS.length : Int)).toNat := ⟨_, rfl⟩
  rw [← hpa] at HPA
  have pal : pa < DS.length := by omega
  have paL : pa < L.length := by omega
  clear hpa p0A p1A
  have pa0 : (0 : Int) ≤ (pa : Int) := by omega
  have pa1 : (pa : Int) < (DS.length : Int) := by omega
  have HFA := Lib.hid (show (0 : Int) ≤ idxP (isB DS[pa]) (crtSums L) by have := HDS.out; subst this; exact idx_self (by omega))
  obtain ⟨bA, oA, vA, rsA, -, esA, hsA⟩ := HS.out.cellS pa pal
  subst rsA
  obtain ⟨adA, capA, rfl, -, -⟩ := hsA.form
  have HDKA := Lib.hid hsA
  have HEA := Lib.hid esA
  have hbkA : bA < _ := World.block_lt_of_cell? _ _ esA
  clear hsA esA
  have eA := HEA.out
  go_wp2_with fail
  refine (picked_any n (DS.length : Int) _ n1 n2 (by omega) (by omega)).mono ?_
  rintro e w' ⟨rfl, rfl⟩
  rw [← HPA.out]
  generalize DS[pa] = dk at *
  have x0 := HX.out.cell 0 rfl
  go_wp2_with fail
  refine (oBlock_any _ _ _ _ HD.out HBT.out HDKA.out (HT.out.belowS HB.out) HOK.out).mono ?_
  rintro e w4 ⟨va, MB, rfl, hMB, hRB, hb4⟩
  obtain ⟨ada, capa, rfl, hca, hma⟩ := hRB.form
  unfold maxLen at hma
  have HLW := Lib.hid (fun h MX h2 => HLAW.out h dk HFA.out MB MX hMB h2)
  have HRB := Lib.hid (hRB.mono (G' := fun _ => True) (fun _ _ => trivial))
  replace HDKA := Lib.hid (HDKA.out.below hb4 (fun _ h => h))
  replace HB := Lib.hid (HB.out.trans (hb4.mono HB.out.size))
  clear hMB hRB hb4 x0 HLAW HLEN HCLR HX HD HBT HS
  generalize blkCode L BS dk MB = cB at *
  generalize blkOut L BS dk MB = QB at *
  obtain ⟨m, hm⟩ : ∃ m, m = min l.length 12 := ⟨_, rfl⟩
  have hm1 : m ≤ l.length := by omega
  have hm2 : m ≤ 12 := by omega
  have hm3 : ((l.length : Int) ≤ 12 ∧ (m : Int) = (l.length : Int)) ∨ (¬ (l.length : Int) ≤ 12 ∧ (m : Int) = 12) := by omega
  have HM3 := Lib.hid hm3
  have HTK := Lib.hid (show l.take m ++ mm = l.take 12 ++ mm by rw [hm]; rw [take_min12 l])
  have htl : (l.take m).length = m := by rw [List.length_take]; omega
  have HTL := Lib.hid htl
  have HZ2 := Lib.hid (show (l.take m ++ mm).length * 24 ≤ 140737488351520 by rw [List.length_append, htl]; omega)
  clear hm hm3 htl
  replace HV := Lib.hid (HV.out.below HB.out (fun _ h => h))
  replace HVM := Lib.hid (HVM.out.below HB.out (fun _ h => h))
  obtain ⟨news, hsl, hrd, hone⟩ := (HV.out.take m hm1).flatOf (by decide) (fun h => RStp_one h)
  rw [HTL.out] at hsl
  have HSL := Lib.hid hsl
  have HRD := Lib.hid hrd
  have HON := Lib.hid hone
  clear hsl hrd hone
  have k1 : (m : Int) ≤ (capl : Int) := by omega
  have k0 : (0 : Int) ≤ (m : Int) := by omega
  have kmin : min (l.length : Int) 12 = (m : Int) := by have q := HM3.out; omega
  go_wp2_with (first
    | (refine wpList_min rfl (.tmp 46) (.const (.int .i64 12)) 3 3 rfl (l.length : Int) 12 (m : Int) rfl rfl HM3.out ?_)
    | (at_builtin; refine wpList_append_sl rfl (.const (.slice none 0 0)) (.tmp 48) 22 rfl elemStp w4.heap.size (.slice none 0 0) rfl 0 [] (World.ownsRow_nil _ _ _ _) _ rfl m news HSL.out HON.out (by unfold maxLen; omega) (by omega) (Nat.le_refl _) ?_; intro v20 w20 hown20 hgr20)
    | (at_builtin; obtain ⟨newsm, hslm, hrdm, honem⟩ := (HVM.out.keep (G' := fun _ => True) (Keep.grown hgr20 (fun k hk h => by simp [Value.ownBlock] at hk)) (fun _ _ => trivial)).flatOf (by decide) (fun h => RStp_one h); refine wpList_append_sl rfl (.tmp 49) (.tmp 50) 22 rfl elemStp w4.heap.size v20 rfl (0 + m) ([] ++ news) hown20 (.slice adm mm.length capm) rfl mm.length newsm hslm honem (by unfold maxLen; omega) (by omega) hgr20.size ?_; intro v22 w22 hown22 hgr22))
  have hlt20 := hown20.lt
  have hnl : news.length = (l.take m).length * 3 := by rw [HTL.out]; obtain ⟨_, _, _, _, q, _⟩ := HSL.out; exact q
  have hown22' : w22.ownsRow w4.heap.size 66 3 v22 ((l.take m).length + mm.length) (news ++ newsm) := by
    rw [HTL.out]; exact own_zero hown22
  have HR22 := Lib.hid (show RdS RStp (fun _ => True) w22 v22 (l.take m ++ mm) from RdS.ofAppend2 (R := RStp) (by decide) hnl hown22' (fun j x hx => HRD.out j x hx) (fun j x hx => hrdm j x hx))
  have hB22 : Below w4.heap.size w4 w22 := ((Below.refl _ _).grown hgr20 (Nat.le_refl _) (fun k hk => by simp [Value.ownBlock] at hk)).grown hgr22 hgr20.size (fun k hk => (hlt20 k hk).1)
  replace HDKA := Lib.hid (HDKA.out.below hB22 (fun _ h => h))
  replace HRB := Lib.hid (HRB.out.below hB22 (fun _ h => h))
  replace HB := Lib.hid (HB.out.trans (hB22.mono HB.out.size))
  clear hown20 hgr20 hown22 hown22' hgr22 hB22 hlt20 HSL HRD HON hslm hrdm honem hnl HV HVM kmin k1 k0
  refine (grown_any2 _ _ HR22.out HZ2.out (HT.out.belowS HB.out)).mono ?_
  rintro e w5 ⟨ve, vf, rfl, hd, hb, hb5⟩
  obtain ⟨ade, cape, rfl, -, -⟩ := hd.form
  obtain ⟨adf, capf, rfl, hcf, hmf⟩ := hb.form
  unfold maxLen at hmf
  have HD := Lib.hid ((hd.mono (G' := fun _ => True) (fun _ _ => trivial)))
  have HBT := Lib.hid ((hb.mono (G' := fun _ => True) (fun _ _ => trivial)))
  replace HDKA := Lib.hid (HDKA.out.below hb5 (fun _ h => h))
  replace HRB := Lib.hid (HRB.out.below hb5 (fun _ h => h))
  replace HB := Lib.hid (HB.out.trans (hb5.mono HB.out.size))
  rw [HTK.out] at HD HBT ⊢
  clear hd hb hb5 HR22 HTK HTL HZ2 HM3
  have hx4 := grown_len (l.take 12 ++ mm)
  have hxb := grownBs_le (l.take 12 ++ mm)
  have HOX := Lib.hid (grown_ok (l.take 12 ++ mm))
  generalize grownL (l.take 12 ++ mm) = X at *
  generalize grownBs (l.take 12 ++ mm) = BX at *
  go_upto_region 8 with fail
  obtain ⟨w6, hwl⟩ : ∃ w6, w6 = (w5.alloc (.cells #[.slice ade X.length cape] 30)) := ⟨_, rfl⟩
  have hBl : Below w5.heap.size w5 w6 := by rw [hwl]; exact ((Below.refl _ _).alloc (by first | exact Nat.le_refl _ | (simp; done) | (simp; omega)) _)
  have HX := Lib.hid (show BoxAt w6 w5.heap.size [.slice ade X.length cape] 30 by rw [hwl]; exact BoxAt.new w5 [_] _)
  rw [← hwl]
  replace HDKA := Lib.hid (HDKA.out.below hBl (fun _ h => h))
  replace HRB := Lib.hid (HRB.out.below hBl (fun _ h => h))
  replace HB := Lib.hid (HB.out.trans (hBl.mono HB.out.size))
  replace HD := Lib.hid (HD.out.below hBl (fun _ h => h))
  replace HBT := Lib.hid (HBT.out.below hBl (fun _ h => h))
  clear hwl hBl
  replace HBT := Lib.hid ((HBT.out.low (by decide)).mono (G' := fun b => b < w6.heap.size) (fun b hb => hb.2))
  have wb : IntKind.i64.wrap ((BX.length : Int) - 1) = (BX.length : Int) - 1 := IntWalk.i64_in _ (by omega)
  have HXL := Lib.hid HX.out.lt
  go_wp2_with fail
  go_loopw [15, 16] (fun o u ws => ∃ (j : Nat) (z : Int) (ad : Option Addr) (cap : Nat), j ≤ BX.length ∧ z + 1 = (j : Int) ∧ u = .int .i64 z ∧ o = .slice ad (revB BX j).length cap ∧ LstO RBat (fun b => b < w6.heap.size) w6.heap.size 58 ws (.slice ad (revB BX j).length cap) (revB BX j) ∧ Below w6.heap.size w6 ws) (fun _ u _ => (intOf u + 1).toNat)
  case atStart => exact ⟨BX.length, (BX.length : Int) - 1, none, 0, Nat.le_refl _, by omega, by go_num, by rw [revB_full]; rfl, by rw [revB_full]; exact LstO.nil _ _ _ _ _, Below.refl _ _⟩
  case round =>
    rename World => ws
    obtain ⟨j, z, adl2, capl2, hj, hzj, rfl, rfl, hL, hBs⟩ := hrel
    have HBs := Lib.hid hBs
    have hzs := hBs.size
    have HBTs := Lib.hid (HBT.out.below hBs (fun _ h => h))
    have hll := revB_len BX j
    rcases j with _ | k
    · obtain rfl : z = -1 := by omega
      have HLR := Lib.hid (show RdS RBat (fun _ => True) ws (.slice adl2 (revB BX 0).length capl2) (revB BX 0) from hL.rd (G' := fun _ => True) (by decide) (fun _ _ _ => trivial) (fun _ _ _ => trivial))
      replace HX := Lib.hid (HX.out.belowS hBs)
      replace HD := Lib.hid (HD.out.below hBs (fun _ h => h))
      replace HDKA := Lib.hid (HDKA.out.below hBs (fun _ h => h))
      replace HRB := Lib.hid (HRB.out.below hBs (fun _ h => h))
      replace HB := Lib.hid (HB.out.trans (hBs.mono HB.out.size))
      clear hL hBs HBs HBTs HBT hzj
      rw [revB_zero] at HLR hll ⊢
      generalize BX.reverse = ZS at *
      have x0 := HX.out.cell 0 rfl
      go_wp2_with fail
      refine (oBlock_any _ _ _ _ HD.out HLR.out HDKA.out (HT.out.belowS HB.out) HOX.out).mono ?_
      rintro e w7 ⟨vg, MX, rfl, hMX, hRG, hb7⟩
      obtain ⟨adg, capg, rfl, hcg, hmg⟩ := hRG.form
      unfold maxLen at hmg
      have HYS := Lib.hid (fun h => HLW.out h MX hMX)
      have HRG := Lib.hid (hRG.mono (G' := fun _ => True) (fun _ _ => trivial))
      replace HRB := Lib.hid (HRB.out.below hb7 (fun _ h => h))
      replace HB := Lib.hid (HB.out.trans (hb7.mono HB.out.size))
      clear hMX hRG hb7 x0 HLW HX HD HLR
      generalize blkCode X ZS dk MX = cX at *
      generalize blkOut X ZS dk MX = QX at *
      have HB2 := Lib.hid HB.out
      by_cases h8 : cX = 8
      · subst h8
        by_cases h12 : 12 < l.length
        · have g12 : (12 : Int) < (l.length : Int) := by omega
          by_cases hb0 : cB = 0
          · subst hb0
            go_wp2
            go_ret
            first | exact ⟨true, rfl, fun _ => rfl, HB2.out⟩ | exact .inr ⟨rfl, HB2.out⟩
          · have hb1 : (cB == 0) = false := by rw [beq_eq_false_iff_ne]; exact hb0
            go_wp2
            go_ret
            first | exact ⟨false, rfl, fun h => absurd (HYS.out h).1 hb0, HB2.out⟩ | exact .inl ⟨rfl, fun h => absurd (HYS.out h).1 hb0, HB2.out⟩
        · have g12 : ¬ (12 : Int) < (l.length : Int) := by omega
          have HNO := Lib.hid (show ¬ gsumB2 l mm = false from fun h => by
            rcases (HYS.out h).2 with q | q
            · exact h12 q.2
            · exact absurd q.1 (by decide))
          clear HYS
          by_cases hb0 : cB = 0
          · subst hb0
            go_wp2
            go_ret
            first | exact ⟨false, rfl, fun h => absurd h HNO.out, HB2.out⟩ | exact .inl ⟨rfl, fun h => absurd h HNO.out, HB2.out⟩
          · have hb1 : (cB == 0) = false := by rw [beq_eq_false_iff_ne]; exact hb0
            clear hb0
            go_wp2
            go_ret
            first | exact ⟨false, rfl, fun h => absurd h HNO.out, HB2.out⟩ | exact .inl ⟨rfl, fun h => absurd h HNO.out, HB2.out⟩
      · have h81 : (cX == 8) = false := by rw [beq_eq_false_iff_ne]; exact h8
        have HYS2 := Lib.hid (show gsumB2 l mm = false → cB = 0 ∧ cX = 0 ∧ QB = QX from fun h => by
          obtain ⟨q1, q2⟩ := HYS.out h
          rcases q2 with q | q
          · exact absurd q.1 h8
          · exact ⟨q1, q.1, q.2⟩)
        clear HYS h8
        by_cases hb0 : cB = 0
        · subst hb0
          by_cases hx0 : cX = 0
          · subst hx0
            clear h81
            by_cases hq : QB = QX
            · have hdq : decide (QB = QX) = true := decide_eq_true hq
              clear hq
              go_wp2_with fail
              refine (sameTexts_any _ _ _ HRB.out HRG.out).mono ?_
              rintro e w8 ⟨rfl, hdr⟩
              have HB3 := Lib.hid (HB2.out.trans (hdr.below.mono HB2.out.size))
              clear hdr
              rw [hdq]
              go_wp2
              go_ret
              first | exact ⟨true, rfl, fun _ => rfl, HB3.out⟩ | exact .inr ⟨rfl, HB3.out⟩
            · have hdq : decide (QB = QX) = false := decide_eq_false hq
              have HNO := Lib.hid (show ¬ gsumB2 l mm = false from fun h => hq (HYS2.out h).2.2)
              clear hq HYS2
              go_wp2_with fail
              refine (sameTexts_any _ _ _ HRB.out HRG.out).mono ?_
              rintro e w8 ⟨rfl, hdr⟩
              have HB3 := Lib.hid (HB2.out.trans (hdr.below.mono HB2.out.size))
              clear hdr
              rw [hdq]
              go_wp2
              go_ret
              first | exact ⟨false, rfl, fun h => absurd h HNO.out, HB3.out⟩ | exact .inl ⟨rfl, fun h => absurd h HNO.out, HB3.out⟩
          · have hx1 : (cX == 0) = false := by rw [beq_eq_false_iff_ne]; exact hx0
            have HNO := Lib.hid (show ¬ gsumB2 l mm = false from fun h => hx0 (HYS2.out h).2.1)
            clear hx0 HYS2
            go_wp2
            go_ret
            first | exact ⟨false, rfl, fun h => absurd h HNO.out, HB2.out⟩ | exact .inl ⟨rfl, fun h => absurd h HNO.out, HB2.out⟩
        · have hb1 : (cB == 0) = false := by rw [beq_eq_false_iff_ne]; exact hb0
          have HNO := Lib.hid (show ¬ gsumB2 l mm = false from fun h => hb0 (HYS2.out h).1)
          clear hb0 HYS2
          go_wp2
          go_ret
          first | exact ⟨false, rfl, fun h => absurd h HNO.out, HB2.out⟩ | exact .inl ⟨rfl, fun h => absurd h HNO.out, HB2.out⟩
    · obtain rfl : z = (k : Int) := by omega
      have hk : k < BX.length := by omega
      have j0 : (0 : Int) ≤ (k : Int) := by omega
      have jd : decide ((0 : Int) ≤ (k : Int)) = true := decide_eq_true j0
      have j1 : (k : Int) < (BX.length : Int) := by omega
      have wj : IntKind.i64.wrap ((k : Int) - 1) = (k : Int) - 1 := IntWalk.i64_in _ (by omega)
      have HLS2 := Lib.hid (revB_step hk)
      have HLN2 := Lib.hid (show (revB BX k).length = (revB BX (k + 1)).length + 1 by rw [HLS2.out]; simp)
      obtain ⟨vals, hv⟩ := hL.valsOf
      have hvlt := hv.lt
      have HLV := Lib.hid hv
      obtain ⟨b9, o9, vu, r9, hg9, f0, f1, f2, hru, hlu⟩ := HBTs.out.bat k hk
      subst r9
      obtain ⟨adu, capu, rfl, -, -⟩ := hru.form
      have HRU := Lib.hid hru
      have HLU := Lib.hid hlu
      generalize BX[k] = ub at *
      generalize revB BX (k + 1) = LJ at *
      clear hL hBs hru hlu hv hzj
      go_wp2_with (at_builtin; refine wpList_append_one rfl _ _ 31 rfl elemBatD w6.heap.size _ LJ.length vals rfl (HLV.out.alloc (.cells #[.int .i64 ub.a, .int .i64 ub.n, .slice adu ub.txs.length capu] 58)).own ws.heap.size 58 [.int .i64 ub.a, .int .i64 ub.n, .slice adu ub.txs.length capu] rfl (BoxAt.new ws [_, _, _] _) rfl (by simp [Value.oneCell']) (by unfold maxLen; omega) (by omega) (by simp; omega) ?_; intro g cap6 w8 hown6 hgr6 hat6 hlt6)
      have hx : RBat.rd (fun b => b < w6.heap.size ∧ b < (ws.alloc (.cells #[.int .i64 ub.a, .int .i64 ub.n, .slice adu ub.txs.length capu] 58)).heap.size ∧ (Value.slice adl2 LJ.length capl2).ownBlock ≠ some b) (ws.alloc (.cells #[.int .i64 ub.a, .int .i64 ub.n, .slice adu ub.txs.length capu] 58)) [.int .i64 ub.a, .int .i64 ub.n, .slice adu ub.txs.length capu] ub :=
        ⟨_, rfl, HRU.out.keep (Keep.alloc _ _ _) (fun b hb => ⟨hb, by have h0 : b < w6.heap.size := hb; simp; omega, fun e => by have h0 : b < w6.heap.size := hb; have := (hvlt _ e).1; omega⟩), HLU.out⟩
      have hP := (HLV.out.alloc (.cells #[.int .i64 ub.a, .int .i64 ub.n, .slice adu ub.txs.length capu] 58)).push hx hown6 hgr6 hat6
      rw [← HLS2.out] at hP
      have HP6 := Lib.hid hP
      have HB6 := Lib.hid ((HBs.out.alloc HBs.out.size (.cells #[.int .i64 ub.a, .int .i64 ub.n, .slice adu ub.txs.length capu] 58)).grown hgr6 (by have := HBs.out.size; simp; omega) (fun k hk => (hvlt _ hk).1))
      clear hP hx hown6 hgr6 hat6 f0 f1 f2
      go_wp2
      go_roundw
      case rel => exact ⟨k, (k : Int) - 1, some ⟨g, 0, none⟩, cap6, by omega, by omega, by go_num, by rw [HLN2.out], by rw [HLN2.out]; exact HP6.out, HB6.out⟩
      case measure => first | (simp [intOf]; done) | (simp [intOf]; omega)
end Go.Proofs.YtpfmmncnhlfdgaaDoor
namespace Go.Proofs.YtpfmmncnhlfdgaaDoor
open Go Go.RowKit
set_option maxRecDepth 100000 in
set_option maxHeartbeats 8000000 in
theorem blockSame_walk (v : Value) (l : List Stp) (vm : Value) (mm : List Stp) (n : Int) (w : World) (hv : RdS RStp (fun _ => True) w v l) (hz : l.length * 24 ≤ reachBytes) (hvm : RdS RStp (fun _ => True) w vm mm) (hzm : mm.length * 24 ≤ reachBytes) (n1 : -9223372036854775808 ≤ n) (n2 : n ≤ 9223372036854775807) (ht : Tabs w) :
    Calls Tryd.prog 7 #[v, vm, .int .i64 n] w fun e w' => e = .returned (.bool true) ∧ Below w.heap.size w w' := by
  go_enter Tryd.func7, Tryd.ntmps7
  go_wp2_with fail
  refine (blockSame_any _ _ n _ hv hvm hz hzm n1 n2 ht).mono ?_
  rintro e w1 ⟨b, rfl, hn, hb1⟩
  have HN := Lib.hid hn
  clear hn
  cases b with
  | true =>
    go_wp2
    go_ret
    exact ⟨rfl, hb1⟩
  | false =>
    have hg : gsumB2 l mm = true := by
      by_cases q : gsumB2 l mm = true
      · exact q
      · have := HN.out (by simpa using q); cases this
    go_wp2_with fail
    refine (grownSum2_any _ _ _ (hv.below hb1 (fun _ h => h)) (hvm.below hb1 (fun _ h => h)) hz hzm (ht.belowS hb1)).mono ?_
    rintro e w2 ⟨rfl, hb2⟩
    rw [hg]
    go_wp2
    go_ret
    exact ⟨rfl, hb1.trans (hb2.mono hb1.size)⟩
end Go.Proofs.YtpfmmncnhlfdgaaDoor
