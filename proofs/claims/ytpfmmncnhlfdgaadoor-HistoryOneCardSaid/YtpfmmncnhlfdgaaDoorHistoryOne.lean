/- HistoryOne: the walk. -/
import Derived.Test.YtpfmmncnhlfdgaaDoorHistAll
import Derived.Test.YtpfmmncnhlfdgaaDoorBats
import Derived.Maps.OwnSet
import Derived.Deep.LoopGhost
/- Blocks: plain laws. -/
set_option linter.unusedVariables false
set_option linter.unusedSimpArgs false
attribute [local go_sem ↓] Go.wp_at_zero Go.wp_at_succ
namespace Go.Proofs.YtpfmmncnhlfdgaaDoor
open Go Go.RowKit

open Go.Maps
/-- The texts of a batch, by its digest. -/
def txsB (bs : List Bat) (d : Bytes) : List Bytes := match bs.find? (fun b => decide (batSum b = d)) with | some b => b.txs | none => []
def addT (acc : List Bytes) (t : Bytes) : List Bytes := if t ∈ acc then acc else acc ++ [t]
def addTs (acc ts : List Bytes) : List Bytes := ts.foldl addT acc
def addDs (bs : List Bat) (acc ds : List Bytes) : List Bytes := ds.foldl (fun a d => addTs a (txsB bs d)) acc
/-- The digests of batches of a history. -/
def blkDs (L : List Crt) (M : List Nat) : List Bytes := M.flatMap fun j => (L.getD j crtZ).h.bs
def blkHas (bs : List Bat) (ds : List Bytes) : Bool := ds.all fun d => decide (d ∈ bs.map batSum)
def blkCode (L : List Crt) (bs : List Bat) (k : Bytes) (M : List Nat) : Int := if findCode L k ≠ 0 then findCode L k else if bsCode bs ≠ 0 then bsCode bs else if blkHas bs (blkDs L M) = true then 0 else 8
def blkOut (L : List Crt) (bs : List Bat) (k : Bytes) (M : List Nat) : List Bytes := if blkCode L bs k M = 0 then addDs bs [] (blkDs L M) else []
theorem blkDs_take {L : List Crt} {M : List Nat} {i : Nat} (h : i < M.length) : blkDs L (M.take (i + 1)) = blkDs L (M.take i) ++ (L.getD M[i] crtZ).h.bs := by
  unfold blkDs; rw [List.take_succ_eq_append_getElem h, List.flatMap_append]; simp
theorem addDs_app (bs : List Bat) (acc a b : List Bytes) : addDs bs acc (a ++ b) = addDs bs (addDs bs acc a) b := by unfold addDs; rw [List.foldl_append]
theorem addDs_take {bs : List Bat} {acc ds : List Bytes} {i : Nat} (h : i < ds.length) : addDs bs acc (ds.take (i + 1)) = addTs (addDs bs acc (ds.take i)) (txsB bs ds[i]) := by
  rw [List.take_succ_eq_append_getElem h, addDs_app]; rfl
theorem addTs_take {acc ts : List Bytes} {i : Nat} (h : i < ts.length) : addTs acc (ts.take (i + 1)) = addT (addTs acc (ts.take i)) ts[i] := by
  unfold addTs; rw [List.take_succ_eq_append_getElem h, List.foldl_append]; rfl
theorem blkHas_app (bs : List Bat) (a b : List Bytes) : blkHas bs (a ++ b) = (blkHas bs a && blkHas bs b) := by unfold blkHas; rw [List.all_append]
theorem blkHas_take {bs : List Bat} {ds : List Bytes} {i : Nat} (h : i < ds.length) : blkHas bs (ds.take (i + 1)) = (blkHas bs (ds.take i) && decide (ds[i] ∈ bs.map batSum)) := by
  rw [List.take_succ_eq_append_getElem h, blkHas_app]; simp [blkHas]
theorem blkHas_false {bs : List Bat} {ds : List Bytes} {d : Bytes} (h : d ∈ ds) (h2 : ¬ d ∈ bs.map batSum) : blkHas bs ds = false := by
  unfold blkHas
  rw [List.all_eq_false]
  exact ⟨d, h, by simpa using h2⟩
theorem mem_blkDs {L : List Crt} {M : List Nat} {j : Nat} (hj : j ∈ M) {d : Bytes} (hd : d ∈ (L.getD j crtZ).h.bs) : d ∈ blkDs L M := List.mem_flatMap.2 ⟨j, hj, hd⟩
theorem txsB_mem {bs : List Bat} {d : Bytes} (h : d ∈ bs.map batSum) : ∃ b ∈ bs, batSum b = d ∧ txsB bs d = b.txs := by
  obtain ⟨b0, h0, e0⟩ := List.mem_map.1 h
  rcases hq : bs.find? (fun b => decide (batSum b = d)) with _ | b
  · have := List.find?_eq_none.1 hq b0 h0
    simp [e0] at this
  · have h1 := List.mem_of_find?_eq_some hq
    have h2 := List.find?_some hq
    exact ⟨b, h1, by simpa using h2, by unfold txsB; rw [hq]⟩
theorem bsOk_txs {bs : List Bat} (h : bsOk bs = true) {b : Bat} (hb : b ∈ bs) : b.txs.length ≤ 4 := by
  unfold bsOk at h
  have h1 := (of_decide_eq_true h).2.1 b hb
  unfold batCode at h1
  split at h1
  · simp at h1
  · split at h1
    · simp at h1
    · omega
theorem addT_len (acc : List Bytes) (t : Bytes) : (addT acc t).length ≤ acc.length + 1 := by unfold addT; split <;> simp
/-- What the map of texts holds. -/
def heldElem : Value → Option (DataW Value × List MemPlace) := fun v => some (.held v, [])
structure TxMap (G : Nat → Prop) (w : World) (bs : List Bat) (D : DataW Value) : Prop where
  has : ∀ d : Bytes, has D (litB d) = decide (d ∈ bs.map batSum)
  at_ : ∀ b ∈ bs, ∃ v, (∀ zd, D.atKey (litB (batSum b)) zd = .held v) ∧ RdT G w v b.txs
theorem TxMap.nil (G : Nat → Prop) (w : World) : TxMap G w [] (.map []) := ⟨fun d => by simp [Maps.has], fun b hb => by simp at hb⟩
theorem TxMap.keep {G : Nat → Prop} {w w' : World} {bs : List Bat} {D : DataW Value} (h : TxMap G w bs D) (hb : Keep G w w') : TxMap G w' bs D :=
  ⟨h.has, fun b hm => by obtain ⟨v, h1, h2⟩ := h.at_ b hm; exact ⟨v, h1, h2.keep hb (fun _ h => h)⟩⟩
theorem TxMap.below {G : Nat → Prop} {w w' : World} {bs : List Bat} {D : DataW Value} (h : TxMap G w bs D) (hb : Below w.heap.size w w') : TxMap G w' bs D := h.keep (Keep.below hb)
theorem litB_inj {a b : Bytes} (h : litB a = litB b) : a = b := by unfold litB at h; injection h
theorem TxMap.put {G : Nat → Prop} {w : World} {bs : List Bat} {D : DataW Value} (h : TxMap G w bs D) (hD : IsMap D) {b : Bat} {v : Value} (hn : ¬ batSum b ∈ bs.map batSum) (hv : RdT G w v b.txs) : TxMap G w (bs ++ [b]) (D.put (litB (batSum b)) (.held v)) := by
  refine ⟨fun d => ?_, fun x hx => ?_⟩
  · by_cases e : d = batSum b
    · subst e
      rw [has_put_same hD (show WideAt.IsKeyLit (litB _) from trivial)]
      simp
    · rw [has_put_other (fun q => e (litB_inj q)), h.has]
      simp [e]
  · rcases List.mem_append.1 hx with hx | hx
    · obtain ⟨u, h1, h2⟩ := h.at_ x hx
      refine ⟨u, fun zd => ?_, h2⟩
      rw [atKey_put_other (fun q => hn (by rw [← litB_inj q]; exact List.mem_map.2 ⟨x, hx, rfl⟩))]
      exact h1 zd
    · rw [List.mem_singleton] at hx; subst hx
      exact ⟨v, fun zd => atKey_put_same hD (show WideAt.IsKeyLit (litB _) from trivial) _ _, hv⟩
theorem ownsMap_belowG {H : Type} {w w' : World} {P : Program} {k b n : Nat} {R : Value → Option (DataW H × List MemPlace)} {D : DataW H} (h : w.ownsMap P k R b n D) (hb : Below w.heap.size w w') : w'.ownsMap P k R b n D :=
  h.kept (grownBy_of_below hb none) (by simp)
theorem map_nodup_new {bs : List Bat} (h : bsOk bs = true) {k : Nat} (hk : k < bs.length) : ¬ batSum bs[k] ∈ (bs.take k).map batSum := by
  intro hm
  have := bsCode_twice hk hm
  unfold bsCode at this
  rw [h] at this
  simp at this
theorem bs_ok {bs : List Bat} (h : bsCode bs = 0) : bsOk bs = true := by
  unfold bsCode at h
  by_cases q : bsOk bs = true
  · exact q
  · rw [if_neg q] at h; simp at h
end Go.Proofs.YtpfmmncnhlfdgaaDoor

/- order.Block: what it computes. -/
set_option linter.unusedVariables false
set_option linter.unusedSimpArgs false
attribute [local go_sem ↓] Go.wp_at_zero Go.wp_at_succ
namespace Go.Proofs.YtpfmmncnhlfdgaaDoor
open Go Go.RowKit

open Go.Maps
theorem zeroSl (w : World) : (zeroValue 48).run Tryd.prog w = .ok (.slice none 0 0) w := by kernel_rfl
theorem elemST : ElemOk Tryd.prog 48 9 1 16 := elemOk_of (z := .string ByteArray.empty) (by kernel_rfl) (by kernel_rfl) rfl (by decide)
/-- All blocks below B are as they were, but for one. -/
structure ButB (B s : Nat) (w w' : World) : Prop where
  os : w'.os = w.os
  tape : w'.tape = w.tape
  output : w'.output = w.output
  size : w.heap.size ≤ w'.heap.size
  block : ∀ k, k < B → k ≠ s → w'.heap[k]? = w.heap[k]?
theorem ButB.refl (B s : Nat) (w : World) : ButB B s w w := ⟨rfl, rfl, rfl, Nat.le_refl _, fun _ _ _ => rfl⟩
theorem ButB.trans {B s : Nat} {a b c : World} (h : ButB B s a b) (k : ButB B s b c) : ButB B s a c :=
  ⟨k.os.trans h.os, k.tape.trans h.tape, k.output.trans h.output, Nat.le_trans h.size k.size, fun i hi hs => (k.block i hi hs).trans (h.block i hi hs)⟩
theorem ButB.ofBelow {B s : Nat} {w w' : World} (h : Below B w w') : ButB B s w w' := ⟨h.os, h.tape, h.output, h.size, fun k hk _ => h.block k hk⟩
theorem ButB.alloc {B s : Nat} {a w : World} (h : ButB B s a w) (hb : B ≤ w.heap.size) (o : Obj) : ButB B s a (w.alloc o) := h.trans (.ofBelow ((Below.refl B w).alloc hb o))
theorem ButB.grown {B s : Nat} {a w w' : World} {row : Option Nat} (h : ButB B s a w) (hg : w.grownBy w' row) (hb : B ≤ w.heap.size) (hr : ∀ k, row = some k → B ≤ k ∨ k = s) : ButB B s a w' :=
  h.trans ⟨hg.os, hg.tape, hg.output, hg.size, fun k hk hs => hg.block k (by omega) (fun e => by rcases hr k e.symm with q | q <;> omega)⟩
theorem ButB.keep {B s : Nat} {G : Nat → Prop} {w w' : World} (h : ButB B s w w') (hG : ∀ b, G b → b < B ∧ b ≠ s) : Keep G w w' := fun b o v hb hc => by
  rw [World.cell?_of_block (w := w) (a := ⟨b, o, none⟩) (h.block b (hG b hb).1 (hG b hb).2)]; exact hc
theorem ButB.map {H : Type} {B s : Nat} {w w' : World} (h : ButB B s w w') {P : Program} {k b n : Nat} {R : Value → Option (DataW H × List MemPlace)} {D : DataW H} (hm : w.ownsMap P k R b n D) (hb : b < B) (hs : b ≠ s) : w'.ownsMap P k R b n D := by
  obtain ⟨es, clock, h1, r⟩ := hm
  exact ⟨es, clock, (h.block b hb hs).trans h1, r⟩
theorem ButB.box {B s : Nat} {w w' : World} (h : ButB B s w w') {b : Nat} {cs : List Value} {T : TypeId} (hx : BoxAt w b cs T) (hb : b < B) (hs : b ≠ s) : BoxAt w' b cs T := (h.block b hb hs).trans hx
theorem ButB.below {B s C : Nat} {w w' : World} (h : ButB B s w w') (hB : C ≤ B) (hs : C ≤ s) : Below C w w' := ⟨h.os, h.tape, h.output, h.size, fun k hk => h.block k (by omega) (by omega)⟩
theorem held_eq {v v0 : Value} {d : DataW Value} {ps : List MemPlace} (h : heldElem v = some (d, ps)) (h2 : d = .held v0) : v = v0 := by
  unfold heldElem at h
  simp only [Option.some.injEq, Prod.mk.injEq] at h
  rw [h2] at h
  exact DataW.held.inj h.1
theorem txsB_small {bs : List Bat} (hok : bsOk bs = true) {d : Bytes} {t : Bytes} (h : t ∈ txsB bs d) : t.length ≤ 20 := by
  unfold txsB at h
  split at h
  · rename_i b hb
    have h1 := List.mem_of_find?_eq_some hb
    unfold bsOk at hok
    have h2 := (of_decide_eq_true hok).2.1 b h1
    unfold batCode at h2
    split at h2
    · simp at h2
    · split at h2
      · simp at h2
      · split at h2
        · rename_i h3
          have := (List.all_eq_true.1 h3) t h
          unfold txLen at this
          have := of_decide_eq_true this
          omega
        · simp at h2
  · simp at h
theorem addT_yes {acc : List Bytes} {t : Bytes} (h : t ∈ acc) : addT acc t = acc := by unfold addT; rw [if_pos h]
theorem addT_no {acc : List Bytes} {t : Bytes} (h : ¬ t ∈ acc) : addT acc t = acc ++ [t] := by unfold addT; rw [if_neg h]
theorem map_strV_snoc (l : List Bytes) (t : Bytes) : (l ++ [t]).map strV = l.map strV ++ [strV t] := by simp
theorem blk_no {L : List Crt} {bs : List Bat} {k : Bytes} (M : List Nat) (h : findCode L k ≠ 0) : blkCode L bs k M = findCode L k ∧ blkOut L bs k M = [] := by
  have e : blkCode L bs k M = findCode L k := by unfold blkCode; rw [if_pos h]
  exact ⟨e, by unfold blkOut; rw [e, if_neg h]⟩
theorem blk_bad {L : List Crt} {bs : List Bat} {k : Bytes} (M : List Nat) (h : findCode L k = 0) (h2 : bsCode bs ≠ 0) : blkCode L bs k M = bsCode bs ∧ blkOut L bs k M = [] := by
  have e : blkCode L bs k M = bsCode bs := by unfold blkCode; rw [if_neg (by simp [h]), if_pos h2]
  exact ⟨e, by unfold blkOut; rw [e, if_neg h2]⟩
theorem blk_none {L : List Crt} {bs : List Bat} {k : Bytes} {M : List Nat} (h : findCode L k = 0) (h2 : bsCode bs = 0) (h3 : blkHas bs (blkDs L M) = false) : blkCode L bs k M = 8 ∧ blkOut L bs k M = [] := by
  have e : blkCode L bs k M = 8 := by unfold blkCode; rw [if_neg (by simp [h]), if_neg (by simp [h2]), if_neg (by simp [h3])]
  exact ⟨e, by unfold blkOut; rw [e, if_neg (by simp)]⟩
theorem blk_yes {L : List Crt} {bs : List Bat} {k : Bytes} {M : List Nat} (h : findCode L k = 0) (h2 : bsCode bs = 0) (h3 : blkHas bs (blkDs L M) = true) : blkCode L bs k M = 0 ∧ blkOut L bs k M = addDs bs [] (blkDs L M) := by
  have e : blkCode L bs k M = 0 := by unfold blkCode; rw [if_neg (by simp [h]), if_neg (by simp [h2]), if_pos h3]
  exact ⟨e, by unfold blkOut; rw [e, if_pos rfl]⟩
set_option maxRecDepth 100000 in
set_option maxHeartbeats 8000000 in
theorem oBlock_any {G G2 G3 : Nat → Prop} {L : List Crt} {bs : List Bat} {k : Bytes} (v vb vk : Value) (w : World) (h : RdS RCert G w v L) (hs : RdS RBat G3 w vb bs) (hk : RdB G2 w vk k) (ht : Tabs w) (hok : dagOk L = true) :
    Calls Tryd.prog 25 #[.agg #[v], vb, vk] w fun e w' => ∃ (v' : Value) (M : List Nat), e = .returned (.tuple #[v', .int .i64 (blkCode L bs k M)]) ∧ (0 ≤ idxP (isB k) (crtSums L) → bsCode bs = 0 → IsHist L (placeP L k) M) ∧ RdT (fun b => w.heap.size ≤ b) w' v' (blkOut L bs k M) ∧ Below w.heap.size w w' := by
  have hmm := @run_makeMap Tryd.prog
  have hl4 := (dagOk_iff.1 hok).1
  have HH := Lib.hid (fun c (hc : c ∈ L) => (crt_partsP ((dagOk_iff.1 hok).2.1 c hc)).1)
  obtain ⟨adv, capv, rfl, hcv, hcm⟩ := h.form
  obtain ⟨adk, capk, rfl, hck, hckm⟩ := hk.form
  obtain ⟨adb, capb, rfl, hcb, hcbm⟩ := hs.form
  unfold maxLen at hcm hckm hcbm
  have hb0 := (Below.refl w.heap.size w).alloc (Nat.le_refl _) (.cells #[.slice adv L.length capv] 30)
  have HV := Lib.hid ((h.mono (G' := fun _ => True) (fun _ _ => trivial)).below hb0 (fun _ h => h))
  have HS := Lib.hid ((hs.mono (G' := fun _ => True) (fun _ _ => trivial)).below hb0 (fun _ h => h))
  have HK := Lib.hid ((hk.mono (G' := fun _ => True) (fun _ _ => trivial)).below hb0 (fun _ h => h))
  have HT := Lib.hid (ht.belowS hb0)
  have HB := Lib.hid hb0
  have HX := Lib.hid (BoxAt.new w [.slice adv L.length capv] 30)
  have HOK := Lib.hid hok
  clear h hk hs hok hb0 ht
  go_enter Tryd.func25, Tryd.ntmps25
  go_upto_region 1 with fail
  obtain ⟨w0, hw0⟩ : ∃ w0, w0 = w.alloc (.cells #[.slice adv L.length capv] 30) := ⟨_, rfl⟩
  rw [← hw0] at HV HS HT HK HX HB ⊢
  have hz0 := HX.out.lt
  clear hw0
  replace HV := Lib.hid ((HV.out.low (by decide)).mono (G' := fun b => b < w0.heap.size) (fun b hb => hb.2))
  have hw00 : w0.heap.size ≤ w0.heap.size := Nat.le_refl _
  have x0 := HX.out.cell 0 rfl
  go_wp2_with fail
  refine (dagFind_any _ _ _ HV.out HK.out HT.out HOK.out).mono ?_
  rintro e w1 ⟨vb, vp, vv, rfl, hvb, hvp, hvv, hb1⟩
  have hz1 := hb1.size
  obtain ⟨fb, fbc, rfl, -, -⟩ := hvb.form
  obtain ⟨fp, fpc, rfl, -, -⟩ := hvp.form
  obtain ⟨fv, fvc, rfl, -, -⟩ := hvv.form
  replace HV := Lib.hid (HV.out.below hb1 (fun _ h => h))
  replace HS := Lib.hid (HS.out.below hb1 (fun _ h => h))
  replace HK := Lib.hid (HK.out.below hb1 (fun _ h => h))
  replace HT := Lib.hid (HT.out.belowS hb1)
  replace HX := Lib.hid (HX.out.belowS hb1)
  replace HB := Lib.hid (HB.out.trans (hb1.mono HB.out.size))
  clear hvb hvp hvv hb1 x0
  have HFC := Lib.hid (show findCode L k = if idxP (isB k) (crtSums L) < 0 then 8 else 0 from rfl)
  generalize findCrt L k = F at *
  go_upto_region 2 with fail
  obtain ⟨w2, hwl⟩ : ∃ w2, w2 = (w1.alloc (.cells #[.int .i64 F.h.a, .int .i64 F.h.r, .slice fb F.h.bs.length fbc, .slice fp F.h.ps.length fpc, .slice fv F.vs.length fvc] 45)) := ⟨_, rfl⟩
  have hBl : Below w1.heap.size w1 w2 := by rw [hwl]; exact ((Below.refl _ _).alloc (by first | exact Nat.le_refl _ | (simp; done) | (simp; omega)) _)
  have hz12 := hBl.size
  rw [← hwl]
  replace HV := Lib.hid (HV.out.below hBl (fun _ h => h))
  replace HS := Lib.hid (HS.out.below hBl (fun _ h => h))
  replace HK := Lib.hid (HK.out.below hBl (fun _ h => h))
  replace HT := Lib.hid (HT.out.belowS hBl)
  replace HX := Lib.hid (HX.out.belowS hBl)
  replace HB := Lib.hid (HB.out.trans (hBl.mono HB.out.size))
  clear hwl hBl
  have hz2 := HB.out.size
  have hz02 : w0.heap.size ≤ w2.heap.size := Nat.le_trans hz1 hz12
  by_cases hneg : idxP (isB k) (crtSums L) < 0
  · have HR := Lib.hid (findCode_no hneg)
    have HNG := Lib.hid hneg
    have HBN := Lib.hid (blk_no (bs := bs) [] (show findCode L k ≠ 0 by rw [HR.out]; decide))
    rw [HR.out]
    clear hneg
    go_wp2
    refine bodyPost_ret (v := .tuple #[.slice none 0 0, .int .i64 8]) (by simp [results, Tryd.results25, go_sem]) rfl ⟨_, [], by rw [HBN.out.1, HR.out], fun h => absurd HNG.out (by omega), by rw [HBN.out.2]; exact RdS.nil _ _ _, HB.out⟩
  have HYS := Lib.hid (findCode_yes (k := k) (L := L) (by omega))
  have HNG := Lib.hid hneg
  rw [HYS.out.1]
  clear hneg
  have hpl := HYS.out.2.1
  go_wp2_with fail
  refine (checkBatches_any _ _ HS.out HT.out).mono ?_
  rintro e w3 ⟨rfl, hb3⟩
  have hz03 : w0.heap.size ≤ w3.heap.size := Nat.le_trans hz02 hb3.size
  replace HV := Lib.hid (HV.out.below hb3 (fun _ h => h))
  replace HS := Lib.hid (HS.out.below hb3 (fun _ h => h))
  replace HK := Lib.hid (HK.out.below hb3 (fun _ h => h))
  replace HT := Lib.hid (HT.out.belowS hb3)
  replace HX := Lib.hid (HX.out.belowS hb3)
  replace HB := Lib.hid (HB.out.trans (hb3.mono HB.out.size))
  clear hb3
  by_cases hbs : bsCode bs = 0
  · have HBS := Lib.hid hbs
    have HBO := Lib.hid (bs_ok hbs)
    have hb8 : bs.length ≤ 800 := by have h1 := bs_ok hbs; unfold bsOk at h1; exact (of_decide_eq_true h1).1
    rw [hbs]
    clear hbs
    have hz3 := HB.out.size
    replace HS := Lib.hid ((HS.out.low (by decide)).mono (G' := fun b => b < w3.heap.size) (fun b hb => hb.2))
    go_wp2_with fail
    go_loopw [45] (fun u wr => ∃ (q : Nat) (D : DataW Value), q ≤ bs.length ∧ u = .int .i64 q ∧ TxMap (fun b => b < w3.heap.size) wr (bs.take q) D ∧ wr.ownsMap Tryd.prog 9 heldElem w3.heap.size q D ∧ Below w3.heap.size w3 wr) (fun u _ => bs.length - (intOf u).toNat)
    case atStart => exact ⟨0, .map [], Nat.zero_le _, rfl, by simpa using TxMap.nil _ _, World.ownsMap_made w3 Tryd.prog 9 heldElem, (Below.refl _ _).alloc (Nat.le_refl _) _⟩
    case round =>
      obtain ⟨q, D, hq, rfl, hTX, hOM, hBr⟩ := hrel
      have HTX := Lib.hid hTX
      have HOM := Lib.hid hOM
      have HBr := Lib.hid hBr
      have hzr := hBr.size
      have hzm := hOM.lt
      clear hTX hOM
      by_cases hlt : q < bs.length
      · obtain ⟨b, o, vt, rfl, -, e0, e1, e2, hr, hls⟩ := (HS.out.below hBr (fun _ h => h)).bat q hlt
        obtain ⟨ad2, cap2, rfl, -, -⟩ := hr.form
        have i0 : (0 : Int) ≤ (q : Int) := by omega
        have i1 : (q : Int) < (bs.length : Int) := by omega
        have wq : IntKind.i64.wrap ((q : Int) + 1) = (q : Int) + 1 := IntWalk.i64_in _ (by omega)
        have HRD := Lib.hid hr
        have HLS := Lib.hid hls
        have HCB := Lib.hid (show batCode bs[q] = 0 by have h1 := HBO.out; unfold bsOk at h1; exact (of_decide_eq_true h1).2.1 _ (List.getElem_mem hlt))
        have HNW := Lib.hid (map_nodup_new HBO.out hlt)
        have HTK := Lib.hid (List.take_succ_eq_append_getElem hlt)
        generalize hlk : bs[q] = x at *
        clear hr hls hBr hlk
        go_upto_region 11 with fail
        obtain ⟨wa, hwl⟩ : ∃ wa, wa = (wr.alloc (.cells #[.int .i64 x.a, .int .i64 x.n, .slice ad2 x.txs.length cap2] 58)) := ⟨_, rfl⟩
        have hBl : Below wr.heap.size wr wa := by rw [hwl]; exact ((Below.refl _ _).alloc (by first | exact Nat.le_refl _ | (simp; done) | (simp; omega)) _)
        have HXX := Lib.hid (show BoxAt wa wr.heap.size [.int .i64 x.a, .int .i64 x.n, .slice ad2 x.txs.length cap2] 58 by rw [hwl]; exact BoxAt.new wr [_, _, _] _)
        replace HTX := Lib.hid (HTX.out.below hBl)
        replace HOM := Lib.hid (ownsMap_belowG HOM.out hBl)
        have hza := hBl.size
        rw [← hwl]
        replace HRD := Lib.hid (HRD.out.below hBl (fun _ h => h))
        replace HBr := Lib.hid (HBr.out.trans (hBl.mono HBr.out.size))
        clear hwl hBl
        have p0 := HXX.out.cell 0 rfl
        have p1 := HXX.out.cell 1 rfl
        have p2 := HXX.out.cell 2 rfl
        clear e0 e1 e2
        go_wp2_with fail
        refine (batchDigest_any x _ wa HRD.out HLS.out (HT.out.belowS HBr.out)).mono ?_
        rintro e wb ⟨v2, rfl, hd, hbb⟩
        have hdd : batD x = batSum x := by unfold batD; rw [if_pos HCB.out]
        rw [hdd] at hd
        rw [HCB.out]
        obtain ⟨add, capd, rfl, -, -⟩ := hd.form
        have HDD := Lib.hid hd
        replace HXX := Lib.hid (HXX.out.belowS hbb)
        replace HRD := Lib.hid (HRD.out.below hbb (fun _ h => h))
        replace HTX := Lib.hid (HTX.out.below hbb)
        replace HOM := Lib.hid (ownsMap_belowG HOM.out hbb)
        replace HBr := Lib.hid (HBr.out.trans (hbb.mono HBr.out.size))
        have hzb := hbb.size
        clear hd hbb p0 p1 p2 hdd
        have h32 := batSum_length x
        have HKEY := Lib.hid (keyStr (batSum x) (by omega))
        clear h32
        have hcv := conv_bytes_str (P := Tryd.prog) Tryd.underlying39 Tryd.underlying5 Tryd.underlying9 HDD.out
        have p2 := HXX.out.cell 2 rfl
        go_wp2_with (at_mapUpdate; refine wpList_mapUpdate_own _ rfl _ _ _ 73 rfl 9 48 lawStr Tryd.underlying73 heldElem w3.heap.size q D rfl HOM.out (by unfold maxLen; omega) _ _ _ rfl rfl HKEY.out _ [] rfl ?_; intro w4 hown4 hgr4)
        have hBg : Below w3.heap.size w3 w4 := HBr.out.grown hgr4 HBr.out.size (fun j hj => by cases hj; exact Nat.le_refl _)
        have HT4 := Lib.hid (show TxMap (fun b => b < w3.heap.size) w4 (bs.take (q + 1)) (D.put (litB (batSum x)) (.held (.slice ad2 x.txs.length cap2))) by
          rw [HTK.out]
          exact (HTX.out.put HOM.out.isMap HNW.out HRD.out).keep (Keep.grown hgr4 (fun k hk h => by cases hk; omega)))
        have HO4 := Lib.hid hown4
        have HB4 := Lib.hid hBg
        clear hown4 hgr4 hBg hcv p2
        go_wp2
        go_roundw
        case rel => exact ⟨q + 1, _, by omega, by go_num, HT4.out, HO4.out, HB4.out⟩
        case measure => simp [intOf]; omega
      · obtain rfl : q = bs.length := by omega
        rw [List.take_length] at HTX
        have t1 : ¬ (bs.length : Int) < (bs.length : Int) := by omega
        replace HV := Lib.hid (HV.out.below HBr.out (fun _ h => h))
        replace HK := Lib.hid (HK.out.below HBr.out (fun _ h => h))
        replace HT := Lib.hid (HT.out.belowS HBr.out)
        replace HX := Lib.hid (HX.out.belowS HBr.out)
        replace HB := Lib.hid (HB.out.trans (HBr.out.mono HB.out.size))
        clear hBr
        go_upto_region 16 with fail
        obtain ⟨w5, hw5⟩ : ∃ w5, w5 = wr.alloc (.map #[] 0) := ⟨_, rfl⟩
        have hb5 : Below wr.heap.size wr w5 := by rw [hw5]; exact (Below.refl _ _).alloc (Nat.le_refl _) _
        have HSM := Lib.hid (show w5.ownsMap Tryd.prog 9 (unitElem (H := Unit)) wr.heap.size 0 (setB []) by rw [hw5]; simpa [setB_nil] using World.ownsMap_made wr Tryd.prog 9 (unitElem (H := Unit)))
        have hz51 : w5.heap.size ≤ wr.heap.size + 1 := by rw [hw5]; simp
        rw [← hw5]
        clear hw5
        replace HV := Lib.hid (HV.out.below hb5 (fun _ h => h))
        replace HK := Lib.hid (HK.out.below hb5 (fun _ h => h))
        replace HT := Lib.hid (HT.out.belowS hb5)
        replace HX := Lib.hid (HX.out.belowS hb5)
        replace HB := Lib.hid (HB.out.trans (hb5.mono HB.out.size))
        replace HTX := Lib.hid (HTX.out.below hb5)
        replace HOM := Lib.hid (ownsMap_belowG HOM.out hb5)
        have hz5 := HSM.out.lt
        clear hb5
        refine wp_region_held_drew (S := fun w' => Below w5.heap.size w5 w') (by kernel_rfl) (by exact (Below.refl _ _).drew) (fun hHeld => ?_)
        obtain ⟨wd, hwd⟩ : ∃ wd, wd = w5.drew := ⟨_, rfl⟩
        rw [← hwd] at hHeld ⊢
        have HBd := Lib.hid (show Below w5.heap.size w5 wd from hHeld)
        have zwd : w5.heap.size ≤ wd.heap.size := by rw [hwd]; exact Nat.le_refl _
        clear hwd
        refine wpAnyH_take (i := 0) (v := .agg #[.slice adv L.length capv]) rfl (by kernel_rfl) (by kernel_rfl) (by kernel_rfl) (fun _ _ _ h => h) (Or.inl ⟨by rfl, fun w hSw => ?_⟩) hHeld ?_
        · have q0 := (HX.out.belowS hSw).cell 0 rfl; clear hSw; go_simp
        try simp only [Act.put, List.getElem_toArray, List.getElem_cons_succ, List.getElem_cons_zero, List.setIfInBounds_toArray, List.set_cons_zero, List.set_cons_succ]
        refine wpAnyH_take (i := 1) (v := .agg #[.slice adv L.length capv]) rfl (by kernel_rfl) (by kernel_rfl) (by kernel_rfl) (fun _ _ _ h => h) (Or.inl ⟨by rfl, fun w hSw => ?_⟩) hHeld ?_
        · have q0 := (HX.out.belowS hSw).cell 0 rfl; clear hSw; go_simp
        try simp only [Act.put, List.getElem_toArray, List.getElem_cons_succ, List.getElem_cons_zero, List.setIfInBounds_toArray, List.set_cons_zero, List.set_cons_succ]
        refine wpAnyH_take (i := 3) (v := .slice adk k.length capk) rfl (by kernel_rfl) (by kernel_rfl) (by kernel_rfl) (fun _ _ _ h => h) (Or.inl ⟨by rfl, fun w hSw => ?_⟩) hHeld ?_
        · clear hSw; go_simp; all_goals (try first | rfl | omega)
        try simp only [Act.put, List.getElem_toArray, List.getElem_cons_succ, List.getElem_cons_zero, List.setIfInBounds_toArray, List.set_cons_zero, List.set_cons_succ]
        refine wpAnyH_take (i := 6) (v := .int .i64 0) rfl (by kernel_rfl) (by kernel_rfl) (by kernel_rfl) (fun _ _ _ h => h) (Or.inl ⟨by rfl, fun w hSw => ?_⟩) hHeld ?_
        · clear hSw; go_simp; all_goals (try first | rfl | omega)
        try simp only [Act.put, List.getElem_toArray, List.getElem_cons_succ, List.getElem_cons_zero, List.setIfInBounds_toArray, List.set_cons_zero, List.set_cons_succ]
        refine wpAnyH_ready (rs := [2]) (by kernel_rfl) (by simp) ?_
        refine AllReadyH.cons rfl (fun K hK => ?_) ?_
        · rw [if_pos (by rfl)]
          go_simp
          go_at_call 39
          refine (oall_ok _ _ (HV.out.below HBd.out (fun _ h => h)) HH.out (by omega) (HT.out.belowS HBd.out)).mono ?_
          rintro e w6 ⟨vds, rfl, hds, hb_w6⟩
          obtain ⟨ads, cds, rfl, -, -⟩ := hds.form
          have HDS := Lib.hid (hds.mono (G' := fun _ => True) (fun _ _ => trivial))
          clear hds
          have HBw6 := Lib.hid (HBd.out.trans (hb_w6.mono (Below.size HBd.out)))
          have zw6 := hb_w6.size
          clear hb_w6
          show K _ _
          refine hK.out _ _ (by exact HBw6.out) (fun hHeld => ?_)
          clear hK K
          try simp only [Act.put, List.getElem_toArray, List.getElem_cons_succ, List.getElem_cons_zero, List.setIfInBounds_toArray, List.set_cons_zero, List.set_cons_succ]
          refine wpAnyH_ready (rs := [4]) (by kernel_rfl) (by simp) ?_
          refine AllReadyH.cons rfl (fun K hK => ?_) ?_
          · rw [if_pos (by rfl)]
            go_simp
            go_at_call 40
            refine (history_any _ _ _ _ (HV.out.below HBw6.out (fun _ h => h)) HDS.out (HK.out.below HBw6.out (fun _ h => h)) HOK.out hpl HYS.out.2.2).mono ?_
            rintro e w7 ⟨vi, M, rfl, hM, hI, hb_w7⟩
            have HM := Lib.hid hM
            obtain ⟨adi, ci, rfl, hci, hmi⟩ := hI.form
            rw [intsOf_len] at hci hI ⊢
            have HI := Lib.hid (hI.mono (G' := fun b => w5.heap.size ≤ b) (fun b hb => by have h0 : w6.heap.size ≤ b := hb; omega))
            clear hM hI
            have HBw7 := Lib.hid (HBw6.out.trans (hb_w7.mono (Below.size HBw6.out)))
            have zw7 := hb_w7.size
            clear hb_w7
            show K _ _
            refine hK.out _ _ (by exact HBw7.out) (fun hHeld => ?_)
            clear hK K
            try simp only [Act.put, List.getElem_toArray, List.getElem_cons_succ, List.getElem_cons_zero, List.setIfInBounds_toArray, List.set_cons_zero, List.set_cons_succ]
            refine wpAnyH_take (i := 5) (v := .int .i64 (M.length : Int)) rfl (by kernel_rfl) (by kernel_rfl) (by kernel_rfl) (fun _ _ _ h => h) (Or.inl ⟨by rfl, fun w hSw => ?_⟩) hHeld ?_
            · clear hSw; go_simp; all_goals (try first | rfl | omega)
            try simp only [Act.put, List.getElem_toArray, List.getElem_cons_succ, List.getElem_cons_zero, List.setIfInBounds_toArray, List.set_cons_zero, List.set_cons_succ]
            refine wpAnyH_done (by kernel_rfl) ?_ _
            obtain ⟨w8, hw8⟩ : ∃ w8, w8 = w7 := ⟨_, rfl⟩
            rw [← hw8] at HI HBw7 ⊢
            replace HV := Lib.hid (HV.out.below HBw7.out (fun _ h => h))
            replace HX := Lib.hid (HX.out.belowS HBw7.out)
            replace HB := Lib.hid (HB.out.trans (HBw7.out.mono HB.out.size))
            replace HTX := Lib.hid (HTX.out.below HBw7.out)
            replace HOM := Lib.hid (ownsMap_belowG HOM.out HBw7.out)
            replace HSM := Lib.hid (ownsMap_belowG HSM.out HBw7.out)
            have hz8 := HSM.out.lt
            have hz8m := HOM.out.lt
            have hzw8 := HB.out.size
            have hml := HM.out.len
            have HHM := Lib.hid (fun j hj => HM.out.lt j hj)
            clear hHeld HBw7 HBd HBw6 HDS zwd zw6 zw7 hw8
            generalize hSB : wr.heap.size = SB at *
            have s1 : w3.heap.size < SB := by omega
            have s2 : SB < w5.heap.size := by omega
            have s3 : w5.heap.size ≤ w8.heap.size := by omega
            have s4 : w.heap.size < SB := by omega
            clear hSB
            replace HI := Lib.hid (HI.out.low (by decide))
            go_wp2_with fail
            go_loopw [16, 67] (fun o u wx => ∃ (i : Nat) (ad : Option Addr) (cap : Nat) (ac : List Bytes), i ≤ M.length ∧ u = .int .i64 i ∧ o = .slice ad ac.length cap ∧ ac = addDs bs [] (blkDs L (M.take i)) ∧ blkHas bs (blkDs L (M.take i)) = true ∧ ac.length ≤ 12 * i ∧ wx.ownsRow w8.heap.size 9 1 (.slice ad ac.length cap) ac.length (ac.map strV) ∧ wx.ownsMap Tryd.prog 9 (unitElem (H := Unit)) SB ac.length (setB ac) ∧ ButB w8.heap.size SB w8 wx) (fun _ u _ => M.length - (intOf u).toNat)
            case atStart => exact ⟨0, none, 0, [], Nat.zero_le _, rfl, rfl, rfl, rfl, Nat.zero_le _, World.ownsRow_nil _ _ _ _, HSM.out, ButB.refl _ _ _⟩
            case round =>
              rename World => wx
              obtain ⟨i, ad, cap, ac, hi, rfl, rfl, hac, hhas, hacl, hOW, hSM, hBx⟩ := hrel
              have HAC := Lib.hid hac
              have HHS := Lib.hid hhas
              have HOW := Lib.hid hOW
              have HSc := Lib.hid hSM
              have HBx := Lib.hid hBx
              have hzx := hBx.size
              have HXx := Lib.hid (hBx.box HX.out (by omega) (by omega))
              have HIx := Lib.hid (HI.out.keep (hBx.keep (fun b hb => by omega)) (fun _ h => h))
              clear hac hhas hOW hSM hBx
              by_cases hlt : i < M.length
              · have i0 : (0 : Int) ≤ (i : Int) := by omega
                have i1 : (i : Int) < (M.length : Int) := by omega
                have wi : IntKind.i64.wrap ((i : Int) + 1) = (i : Int) + 1 := IntWalk.i64_in _ (by omega)
                have hil : i < (intsOf M).length := by rw [intsOf_len]; exact hlt
                obtain ⟨bi, oi, rfl, -, ei⟩ := HIx.out.cell i hil
                have e1 : (intsOf M)[i] = (M[i] : Int) := by simp [intsOf]
                rw [e1] at ei
                have hmj := HHM.out _ (List.getElem_mem hlt)
                have HTK := Lib.hid (blkDs_take (L := L) hlt)
                have HMM := Lib.hid (List.getElem_mem hlt)
                obtain ⟨bc, oc, xb, xp, xv, rfl, hgc, d0, d1, d28, d3, d4, hxb, hxp, hxv⟩ := HV.out.crt M[i] hmj
                have d2 := (HBx.out.keep (G := fun b => b < w0.heap.size) (fun b hb => by omega)) _ _ _ hgc d28
                have HCG := Lib.hid (getD_at hmj)
                have HBL := Lib.hid (show L[M[i]].h.bs.length ≤ 3 from (hdr_partsD (HH.out _ (List.getElem_mem hmj))).2.2.1)
                generalize M[i] = m at *
                have m0 : (0 : Int) ≤ (m : Int) := by omega
                have m1 : (m : Int) < (L.length : Int) := by omega
                generalize L[m] = c at *
                obtain ⟨ub, ubc, rfl, -, -⟩ := hxb.form
                have hb3 := HBL.out
                have HCB := Lib.hid hxb
                have x0 := HXx.out.cell 0 rfl
                clear hxb hxp hxv d0 d1 d28 d3 d4 e1
                go_wp2_with fail
                go_loopw [16, 79] (fun o u wy => ∃ (q : Nat) (ad : Option Addr) (cap : Nat) (ac2 : List Bytes), q ≤ c.h.bs.length ∧ u = .int .i64 q ∧ o = .slice ad ac2.length cap ∧ ac2 = addDs bs ac (c.h.bs.take q) ∧ blkHas bs (c.h.bs.take q) = true ∧ ac2.length ≤ 12 * i + 4 * q ∧ wy.ownsRow w8.heap.size 9 1 (.slice ad ac2.length cap) ac2.length (ac2.map strV) ∧ wy.ownsMap Tryd.prog 9 (unitElem (H := Unit)) SB ac2.length (setB ac2) ∧ ButB w8.heap.size SB w8 wy) (fun _ u _ => c.h.bs.length - (intOf u).toNat)
                case atStart => exact ⟨0, ad, cap, ac, Nat.zero_le _, rfl, rfl, rfl, rfl, by omega, HOW.out, HSc.out, HBx.out⟩
                case round =>
                  rename World => wy
                  obtain ⟨q, ad2, cap2, ac2, hq, rfl, rfl, hac2, hhas2, hacl2, hOW, hSM, hBy⟩ := hrel
                  have HAC2 := Lib.hid hac2
                  have HHS2 := Lib.hid hhas2
                  have HOW2 := Lib.hid hOW
                  have HSy := Lib.hid hSM
                  have HBy := Lib.hid hBy
                  have hzy := hBy.size
                  have HTXy := Lib.hid (HTX.out.keep (hBy.keep (fun b hb => by omega)))
                  have HOy := Lib.hid (hBy.map HOM.out (by omega) (by omega))
                  have HCBy := Lib.hid (HCB.out.keep (hBy.keep (fun b hb => by omega)) (fun _ h => h))
                  clear hac2 hhas2 hOW hSM hBy
                  by_cases hqt : q < c.h.bs.length
                  · have q0 : (0 : Int) ≤ (q : Int) := by omega
                    have q1 : (q : Int) < (c.h.bs.length : Int) := by omega
                    have wq : IntKind.i64.wrap ((q : Int) + 1) = (q : Int) + 1 := IntWalk.i64_in _ (by omega)
                    obtain ⟨bd, od, vd, rfl, -, ed, hd⟩ := HCBy.out.cellS q hqt
                    obtain ⟨add, capd, rfl, -, hdm⟩ := hd.form
                    have HDD := Lib.hid hd
                    have hdl := hd.len
                    unfold maxLen at hdl hdm
                    have HKEY := Lib.hid (keyStr c.h.bs[q] (by omega))
                    have HMD := Lib.hid (List.getElem_mem hqt)
                    have HAT := Lib.hid (addDs_take (bs := bs) (acc := ac) hqt)
                    have HHT := Lib.hid (blkHas_take (bs := bs) hqt)
                    generalize c.h.bs[q] = dg at *
                    have hcv := conv_bytes_str (P := Tryd.prog) Tryd.underlying39 Tryd.underlying5 Tryd.underlying9 HDD.out
                    clear hd hdl hdm
                    by_cases hin : dg ∈ bs.map batSum
                    · have HHD := Lib.hid (show has D (litB dg) = true by rw [HTXy.out.has]; exact decide_eq_true hin)
                      obtain ⟨bt, hbt, hbs2, htx⟩ := txsB_mem hin
                      obtain ⟨v0, hv0, hr0⟩ := HTX.out.at_ bt hbt
                      rw [hbs2] at hv0
                      rw [← htx] at hr0
                      obtain ⟨adt, capt, rfl, -, -⟩ := hr0.form
                      have HV0 := Lib.hid hv0
                      have h4 := bsOk_txs HBO.out hbt
                      rw [← htx] at h4
                      have HSML := Lib.hid (fun (t : Bytes) (ht : t ∈ txsB bs dg) => txsB_small HBO.out ht)
                      have HR0 := Lib.hid (show RdT (fun b => b < w3.heap.size) w8 _ (txsB bs dg) from hr0)
                      have HHT2 := Lib.hid (show blkHas bs (c.h.bs.take (q + 1)) = true by rw [HHT.out, HHS2.out, decide_eq_true hin]; rfl)
                      clear hv0 hr0 htx hbs2 hbt hin HHT
                      generalize hTS : txsB bs dg = ts at *
                      clear hTS
                      go_upto_region 25 with (at_lookup; refine wpList_lookup_own_ok _ rfl _ _ 73 rfl 9 48 lawStr Tryd.underlying73 heldElem (zeroSl _) (.held (.slice none 0 0)) [] rfl w3.heap.size bs.length D rfl HOy.out _ _ rfl HKEY.out ?_; intro vz ps hvz; rw [HHD.out]; obtain rfl := held_eq hvz (HV0.out _))
                      clear hcv ed
                      go_wp2_with fail
                      go_loopw [16, 94] (fun o u wz => ∃ (r : Nat) (ad : Option Addr) (cap : Nat) (ac3 : List Bytes), r ≤ ts.length ∧ u = .int .i64 r ∧ o = .slice ad ac3.length cap ∧ ac3 = addTs ac2 (ts.take r) ∧ ac3.length ≤ 12 * i + 4 * q + r ∧ wz.ownsRow w8.heap.size 9 1 (.slice ad ac3.length cap) ac3.length (ac3.map strV) ∧ wz.ownsMap Tryd.prog 9 (unitElem (H := Unit)) SB ac3.length (setB ac3) ∧ ButB w8.heap.size SB w8 wz) (fun _ u _ => ts.length - (intOf u).toNat)
                      case atStart => exact ⟨0, ad2, cap2, ac2, Nat.zero_le _, rfl, rfl, rfl, by omega, HOW2.out, HSy.out, HBy.out⟩
                      case round =>
                        rename World => wz
                        obtain ⟨r, ad3, cap3, ac3, hr, rfl, rfl, hac3, hacl3, hOW, hSM, hBz⟩ := hrel
                        have HAC3 := Lib.hid hac3
                        have HOW3 := Lib.hid hOW
                        have HSz := Lib.hid hSM
                        have HBz := Lib.hid hBz
                        have hzz := hBz.size
                        have HRz := Lib.hid (HR0.out.keep (hBz.keep (fun b hb => by omega)) (fun _ h => h))
                        clear hac3 hOW hSM hBz
                        by_cases hrt : r < ts.length
                        · have r0 : (0 : Int) ≤ (r : Int) := by omega
                          have r1 : (r : Int) < (ts.length : Int) := by omega
                          have wr1 : IntKind.i64.wrap ((r : Int) + 1) = (r : Int) + 1 := IntWalk.i64_in _ (by omega)
                          obtain ⟨bt2, ot2, rfl, -, et⟩ := HRz.out.cell r hrt
                          have HKT := Lib.hid (keyStr ts[r] (by have := HSML.out _ (List.getElem_mem hrt); omega))
                          have HA3 := Lib.hid (addTs_take (acc := ac2) hrt)
                          generalize ts[r] = tx at *
                          by_cases hmem : tx ∈ ac3
                          · have HH2 := Lib.hid (show has (setB ac3) (litB tx) = true by rw [has_setB]; exact decide_eq_true hmem)
                            have HN3 := Lib.hid (show ac3 = addTs ac2 (ts.take (r + 1)) by rw [HA3.out, ← HAC3.out, addT_yes hmem])
                            clear hmem
                            go_wp2_with (at_lookup; refine wpList_lookup_own_unit _ rfl _ _ 74 rfl 9 76 lawStr Tryd.underlying74 (zeroUnit _) SB ac3.length _ rfl HSz.out _ _ rfl HKT.out ?_; rw [HH2.out])
                            go_roundw
                            case rel => exact ⟨r + 1, ad3, cap3, ac3, by omega, by go_num, rfl, HN3.out, by omega, ownsRow_below HOW3.out ((Below.refl _ _).alloc (Nat.le_refl _) _), ownsMap_belowG HSz.out ((Below.refl _ _).alloc (Nat.le_refl _) _), HBz.out.alloc (by omega) _⟩
                            case measure => simp [intOf]; omega
                          · have HH2 := Lib.hid (show has (setB ac3) (litB tx) = false by rw [has_setB]; exact decide_eq_false hmem)
                            have HN3 := Lib.hid (show ac3 ++ [tx] = addTs ac2 (ts.take (r + 1)) by rw [HA3.out, ← HAC3.out, addT_no hmem])
                            clear hmem
                            go_upto_region 30 with (at_lookup; refine wpList_lookup_own_unit _ rfl _ _ 74 rfl 9 76 lawStr Tryd.underlying74 (zeroUnit _) SB ac3.length _ rfl HSz.out _ _ rfl HKT.out ?_; rw [HH2.out])
                            obtain ⟨wa, hwa⟩ : ∃ wa, wa = wz.alloc (.cells #[] 76) := ⟨_, rfl⟩
                            have hba : Below wz.heap.size wz wa := by rw [hwa]; exact (Below.refl _ _).alloc (Nat.le_refl _) _
                            rw [← hwa]
                            clear hwa
                            have hza := hba.size
                            replace HOW3 := Lib.hid (ownsRow_below HOW3.out hba)
                            replace HSz := Lib.hid (ownsMap_belowG HSz.out hba)
                            replace HBz := Lib.hid (HBz.out.trans (ButB.ofBelow (hba.mono (by omega))))
                            clear hba
                            go_upto_region 31 with (at_mapUpdate; refine wpList_mapUpdate_own _ rfl _ _ _ 74 rfl 9 76 lawStr Tryd.underlying74 (unitElem (H := Unit)) SB ac3.length _ rfl HSz.out (by unfold maxLen; omega) _ _ _ rfl rfl HKT.out _ [] unitElem_mk ?_; intro wu hownu hgru)
                            have hzu := hgru.size
                            have HSu := Lib.hid (show wu.ownsMap Tryd.prog 9 (unitElem (H := Unit)) SB (ac3.length + 1) (setB (ac3 ++ [tx])) by rw [setB_snoc]; exact hownu)
                            have HOu := Lib.hid (show wu.ownsRow w8.heap.size 9 1 (.slice ad3 ac3.length cap3) ac3.length (ac3.map strV) from by
                              obtain ⟨q1, q2⟩ := HOW3.out
                              refine ⟨q1, ?_⟩
                              rcases q2 with q2 | ⟨g', c', cur', hv', hb', hh', r'⟩
                              · exact .inl q2
                              · refine .inr ⟨g', c', cur', hv', hb', ?_, r'⟩
                                rw [hgru.block g' (lt_of_block hh') (by simp; omega)]; exact hh')
                            have HBu := Lib.hid (HBz.out.grown hgru (by omega) (fun k hk => by cases hk; exact .inr rfl))
                            have hovl := HOu.out.lt
                            clear hownu hgru
                            go_wp2_with (at_builtin; refine wpList_append_one rfl _ _ 48 rfl elemST w8.heap.size _ ac3.length (ac3.map strV) rfl (ownsRow_below HOu.out ((Below.refl _ _).alloc (Nat.le_refl _) _)) wu.heap.size 9 [strV tx] rfl (BoxAt.new wu [_] _) rfl (by simp [Value.oneCell']) (by unfold maxLen; omega) (by omega) (by simp; omega) ?_; intro g6 cap6 w6' hown6 hgr6 hat6 hlt6)
                            have HL6 := Lib.hid (show (ac3 ++ [tx]).length = ac3.length + 1 by simp)
                            have HO6 := Lib.hid (show w6'.ownsRow w8.heap.size 9 1 (.slice (some ⟨g6, 0, none⟩) (ac3 ++ [tx]).length cap6) (ac3 ++ [tx]).length ((ac3 ++ [tx]).map strV) by rw [HL6.out, map_strV_snoc]; exact hown6)
                            have HB6 := Lib.hid ((HBu.out.alloc (by omega) (.cells #[strV tx] 9)).grown hgr6 (by simp; omega) (fun k hk => .inl (hovl k hk).1))
                            have HS6 := Lib.hid (show w6'.ownsMap Tryd.prog 9 (unitElem (H := Unit)) SB (ac3 ++ [tx]).length (setB (ac3 ++ [tx])) by
                              rw [HL6.out]
                              exact (ownsMap_belowG HSu.out ((Below.refl _ _).alloc (Nat.le_refl _) _)).kept hgr6 (fun e => by have := (hovl _ e.symm).1; omega))
                            clear hown6 hgr6 hat6
                            go_wp2
                            go_roundw
                            case rel => exact ⟨r + 1, _, cap6, ac3 ++ [tx], by omega, by go_num, by rw [HL6.out], HN3.out, by rw [HL6.out]; omega, HO6.out, HS6.out, HB6.out⟩
                            case measure => simp [intOf]; omega
                        · obtain rfl : r = ts.length := by omega
                          have HN3 := Lib.hid (show ac3 = addDs bs ac (c.h.bs.take (q + 1)) by rw [HAT.out, ← HAC2.out, HAC3.out, List.take_length])
                          have t1 : ¬ (ts.length : Int) < (ts.length : Int) := by omega
                          go_wp2
                          go_roundw
                          case rel => exact ⟨q + 1, ad3, cap3, ac3, by omega, by go_num, rfl, HN3.out, HHT2.out, by omega, HOW3.out, HSz.out, HBz.out⟩
                          case measure => simp [intOf]; omega
                    · have HHD := Lib.hid (show has D (litB dg) = false by rw [HTXy.out.has]; exact decide_eq_false hin)
                      have HBN := Lib.hid (blk_none (k := k) (M := M) HYS.out.1 HBS.out (blkHas_false (mem_blkDs HMM.out (by rw [HCG.out]; exact HMD.out)) hin))
                      have HBE := Lib.hid (HB.out.trans (HBy.out.below (by omega) (by omega)))
                      clear hin HHT
                      go_wp2_with (at_lookup; refine wpList_lookup_own_ok _ rfl _ _ 73 rfl 9 48 lawStr Tryd.underlying73 heldElem (zeroSl _) (.held (.slice none 0 0)) [] rfl w3.heap.size bs.length D rfl HOy.out _ _ rfl HKEY.out ?_; intro vz ps hvz; rw [HHD.out])
                      refine bodyPost_ret (v := .tuple #[.slice none 0 0, .int .i64 8]) (by simp [results, Tryd.results25, go_sem]) rfl ?_
                      exact ⟨_, M, by rw [HBN.out.1], fun _ _ => HM.out, by rw [HBN.out.2]; exact RdS.nil _ _ _, HBE.out⟩
                  · obtain rfl : q = c.h.bs.length := by omega
                    rw [List.take_length] at HAC2 HHS2
                    have HN2 := Lib.hid (show ac2 = addDs bs [] (blkDs L (M.take (i + 1))) by rw [HTK.out, HCG.out, addDs_app, ← HAC.out]; exact HAC2.out)
                    have HHN := Lib.hid (show blkHas bs (blkDs L (M.take (i + 1))) = true by rw [HTK.out, HCG.out, blkHas_app, HHS.out, HHS2.out]; rfl)
                    have t1 : ¬ (c.h.bs.length : Int) < (c.h.bs.length : Int) := by omega
                    go_wp2
                    go_roundw
                    case rel => exact ⟨i + 1, ad2, cap2, ac2, by omega, by go_num, rfl, HN2.out, HHN.out, by omega, HOW2.out, HSy.out, HBy.out⟩
                    case measure => simp [intOf]; omega
              · obtain rfl : i = M.length := by omega
                rw [List.take_length] at HAC HHS
                have HBN := Lib.hid (blk_yes (k := k) (M := M) HYS.out.1 HBS.out HHS.out)
                have HBE := Lib.hid (HB.out.trans (HBx.out.below (by omega) (by omega)))
                have HRR := Lib.hid (show RdT (fun b => w.heap.size ≤ b) wx (.slice ad ac.length cap) ac from RdS.of_owns HOW.out (fun b hb => by omega))
                have t1 : ¬ (M.length : Int) < (M.length : Int) := by omega
                go_wp2
                refine bodyPost_ret (v := .tuple #[.slice ad ac.length cap, .int .i64 0]) (by simp [results, Tryd.results25, go_sem]) rfl ?_
                exact ⟨_, M, by rw [HBN.out.1], fun _ _ => HM.out, by rw [HBN.out.2, ← HAC.out]; exact HRR.out, HBE.out⟩
          exact AllReadyH.nil
        exact AllReadyH.nil
  · have HBN := Lib.hid (blk_bad (k := k) [] HYS.out.1 hbs)
    obtain ⟨bz, hbz⟩ : ∃ bz, bz = bsCode bs := ⟨_, rfl⟩
    have hne : (bz != 0) = true := by rw [hbz]; simpa using hbs
    have HBS := Lib.hid hbs
    rw [← hbz]
    have HZ := Lib.hid hbz
    clear hbs hbz
    go_wp2
    refine bodyPost_ret (v := .tuple #[.slice none 0 0, .int .i64 bz]) (by simp [results, Tryd.results25, go_sem]) rfl ?_
    exact ⟨_, [], by rw [HBN.out.1, ← HZ.out], fun _ h => absurd h HBS.out, by rw [HBN.out.2]; exact RdS.nil _ _ _, HB.out⟩
end Go.Proofs.YtpfmmncnhlfdgaaDoor

/- Blocks of dags of raw numbers: plain laws. -/
set_option linter.unusedVariables false
set_option linter.unusedSimpArgs false
attribute [local go_sem ↓] Go.wp_at_zero Go.wp_at_succ
namespace Go.Proofs.YtpfmmncnhlfdgaaDoor
open Go Go.RowKit

theorem dig_place {L : List Crt} {d : Bytes} (h : 0 ≤ idxP (isB d) (crtSums L)) : digP L (placeP L d) = d := by
  obtain ⟨n, hn, hin, hpn, -⟩ := idxP_at h
  have : placeP L d = n := by unfold placeP; omega
  rw [this]
  have hnl : n < L.length := by rw [crtSums_len] at hn; exact hn
  rw [digP_at hnl]
  have e : (crtSums L)[n] = crtSum L[n] := by simp [crtSums]
  rw [← e]
  unfold isB at hpn
  exact of_decide_eq_true hpn
theorem histD_at {L : List Crt} {M : List Nat} {j : Nat} (h : j < (histD L M).length) : (histD L M)[j] = digP L (M[j]'(by rw [histD_len] at h; exact h)) := by simp [histD]
/-- What Find hands back of a digest of a history. -/
theorem hist_find {L : List Crt} {j : Nat} (hj : j < L.length) : findCode L (digP L j) = 0 ∧ (∃ k : Nat, ∃ h : k < L.length, findCrt L (digP L j) = L[k]) ∧ ((crtSums L).Nodup → findCrt L (digP L j) = L[j]) := by
  have h0 : 0 ≤ idxP (isB (digP L j)) (crtSums L) := idxP_ge.2 ⟨digP L j, by rw [digP_at hj]; exact List.mem_map.2 ⟨_, List.getElem_mem hj, rfl⟩, by unfold isB; exact decide_eq_true rfl⟩
  obtain ⟨k, hk, hik, -, -⟩ := idxP_at h0
  have hkl : k < L.length := by rw [crtSums_len] at hk; exact hk
  have e := find_yes hkl hik
  refine ⟨e.1, ⟨k, hkl, e.2⟩, fun hn => ?_⟩
  rw [digP_at hj]
  exact (find_yes hj (find_clear hn hj)).2
/-- All digests are different: of headers, and of batches. -/
def Clr (l : List Stp) : Prop := (crtSums (grownL l)).Nodup ∧ ((grownBs l).map batSum).Nodup
theorem stpBs_pair (i : Nat) (s : Stp) : ∀ k : Nat, (stpBs i s k).Pairwise (fun x y => x.n < y.n) ∧ ∀ b ∈ stpBs i s k, 1 + 3 * (i : Int) ≤ b.n ∧ b.n < 1 + 3 * (i : Int) + k
  | 0 => by simp [stpBs]
  | k + 1 => by
    obtain ⟨h1, h2⟩ := stpBs_pair i s k
    rw [stpBs_succ]
    refine ⟨List.pairwise_append.2 ⟨h1, by simp, fun a ha b hb => ?_⟩, fun b hb => ?_⟩
    · rw [List.mem_singleton] at hb; subst hb
      have := h2 a ha
      show a.n < 1 + 3 * (i : Int) + (k : Int)
      omega
    · rcases List.mem_append.1 hb with hb | hb
      · have := h2 b hb; omega
      · rw [List.mem_singleton] at hb; subst hb
        show 1 + 3 * (i : Int) ≤ 1 + 3 * (i : Int) + (k : Int) ∧ 1 + 3 * (i : Int) + (k : Int) < _
        omega
theorem batTo_pair (l : List Stp) : ∀ n : Nat, (batTo l n).Pairwise (fun x y => x.n < y.n) ∧ ∀ b ∈ batTo l n, b.n < 1 + 3 * (n : Int)
  | 0 => by simp [batTo]
  | n + 1 => by
    obtain ⟨h1, h2⟩ := batTo_pair l n
    obtain ⟨h3, h4⟩ := stpBs_pair n (l.getD n stpZ) (stpN (l.getD n stpZ))
    have h5 := stpN_le (l.getD n stpZ)
    refine ⟨List.pairwise_append.2 ⟨h1, h3, fun a ha b hb => ?_⟩, fun b hb => ?_⟩
    · have := h2 a ha; have := h4 b hb; omega
    · rcases List.mem_append.1 hb with hb | hb
      · have := h2 b hb; omega
      · have := h4 b hb; omega
theorem grownBs_le (l : List Stp) : (grownBs l).length ≤ 48 := by
  have h1 := batTo_len (stp1 :: l) (stpMany (stp1 :: l))
  unfold grownBs dagBs
  unfold stpMany at *
  omega
theorem grownBs_ok (l : List Stp) : ∀ b ∈ grownBs l, batCode b = 0 := batTo_ok _ _ (by unfold stpMany; omega)
theorem grownBs_bsOk {l : List Stp} (h : ((grownBs l).map batSum).Nodup) : bsOk (grownBs l) = true := by
  unfold bsOk
  exact decide_eq_true ⟨by have := grownBs_le l; omega, grownBs_ok l, h⟩
theorem grownBs_code {l : List Stp} (h : ((grownBs l).map batSum).Nodup) : bsCode (grownBs l) = 0 := by unfold bsCode; rw [grownBs_bsOk h]; rfl
/-- Batches of one sum are one batch, or two unlike ones have one sum. -/
theorem bats_of {l : List Bat} (hok : ∀ b ∈ l, batCode b = 0) (hp : l.Pairwise fun x y => x.n < y.n) {H : List Hdr} {X : List Bat} (h : oneSumL H (l ++ X) = false) : (l.map batSum).Nodup := by
  rw [List.nodup_iff_pairwise_ne, List.pairwise_iff_getElem]
  intro i j hi hj hij he
  have hi' : i < l.length := by simpa using hi
  have hj' : j < l.length := by simpa using hj
  simp only [List.getElem_map] at he
  have hn := (List.pairwise_iff_getElem.1 hp) i j hi' hj' hij
  have g1 : (l ++ X)[j]'(by simp; omega) = l[j] := List.getElem_append_left hj'
  have g2 : (l ++ X)[i]'(by simp; omega) = l[i] := List.getElem_append_left hi'
  have hq : pairBt ((l ++ X)[j]'(by simp; omega)) ((l ++ X)[i]'(by simp; omega)) = true := by
    rw [g1, g2]
    unfold pairBt
    refine decide_eq_true ⟨hok _ (List.getElem_mem hj'), hok _ (List.getElem_mem hi'), he.symm, ?_⟩
    unfold sameBt
    exact decide_eq_false (fun q => by have := q.2.1; omega)
  have ht := anyPair_at (p := pairBt) (l := l ++ X) (by simp; omega) hij hq
  unfold oneSumL at h
  rw [ht] at h
  simp at h
theorem gsum_clr {l : List Stp} (h : gsumB l = false) : Clr l := ⟨clear_of (grown_ok l) h, bats_of (grownBs_ok l) (batTo_pair _ _).1 h⟩
/-- The batches of a dag's headers are there. -/
theorem batTo_has (l : List Stp) : ∀ n : Nat, ∀ c ∈ dagTo l n, ∀ d ∈ c.h.bs, d ∈ (batTo l n).map batSum
  | 0 => by simp [dagTo]
  | n + 1 => by
    intro c hc d hd
    have hc' : c ∈ dagStep (dagTo l n) n (l.getD n stpZ) := hc
    show d ∈ (batTo l n ++ stpBs n (l.getD n stpZ) (stpN (l.getD n stpZ))).map batSum
    rw [List.map_append, List.mem_append]
    unfold dagStep at hc'
    split at hc'
    · rcases List.mem_append.1 hc' with h | h
      · exact .inl (batTo_has l n c h d hd)
      · rw [List.mem_singleton] at h; subst h
        exact .inr hd
    · exact .inl (batTo_has l n c hc' d hd)
theorem grown_has {l : List Stp} {c : Crt} (hc : c ∈ grownL l) {d : Bytes} (hd : d ∈ c.h.bs) : d ∈ (grownBs l).map batSum := batTo_has _ _ c hc d hd
theorem grown_all {l : List Stp} {M : List Nat} (hM : ∀ j ∈ M, j < (grownL l).length) : blkHas (grownBs l) (blkDs (grownL l) M) = true := by
  unfold blkHas
  rw [List.all_eq_true]
  intro d hd
  obtain ⟨j, hj, hd⟩ := List.mem_flatMap.1 hd
  have hl := hM j hj
  rw [getD_at hl] at hd
  exact decide_eq_true (grown_has (List.getElem_mem hl) hd)
/-- What a block has. -/
theorem mem_addT {acc : List Bytes} {t x : Bytes} : x ∈ addT acc t ↔ x ∈ acc ∨ x = t := by
  unfold addT
  split
  · rename_i h
    exact ⟨.inl, fun q => q.elim id (fun e => e ▸ h)⟩
  · simp
theorem mem_addTs {ts acc : List Bytes} {x : Bytes} : x ∈ addTs acc ts ↔ x ∈ acc ∨ x ∈ ts := by
  unfold addTs
  induction ts generalizing acc with
  | nil => simp
  | cons t ts ih => rw [List.foldl_cons, ih, mem_addT, List.mem_cons]; simp only [or_assoc]
theorem mem_addDs {bs : List Bat} {ds acc : List Bytes} {x : Bytes} : x ∈ addDs bs acc ds ↔ x ∈ acc ∨ ∃ d ∈ ds, x ∈ txsB bs d := by
  unfold addDs
  induction ds generalizing acc with
  | nil => simp
  | cons d ds ih =>
    rw [List.foldl_cons, ih, mem_addTs]
    simp only [List.mem_cons, exists_eq_or_imp, or_assoc]
theorem nodup_addT {acc : List Bytes} {t : Bytes} (h : acc.Nodup) : (addT acc t).Nodup := by
  unfold addT
  split
  · exact h
  · rename_i q
    rw [List.nodup_append]
    refine ⟨h, by simp, fun a ha b hb => ?_⟩
    rw [List.mem_singleton] at hb; subst hb
    exact fun e => q (e ▸ ha)
theorem nodup_addTs {ts acc : List Bytes} (h : acc.Nodup) : (addTs acc ts).Nodup := by
  unfold addTs
  induction ts generalizing acc with
  | nil => exact h
  | cons t ts ih => exact ih (nodup_addT h)
theorem nodup_addDs {bs : List Bat} {ds acc : List Bytes} (h : acc.Nodup) : (addDs bs acc ds).Nodup := by
  unfold addDs
  induction ds generalizing acc with
  | nil => exact h
  | cons t ts ih => exact ih (nodup_addTs h)
theorem addT_sub (acc : List Bytes) (t : Bytes) : (addT acc t).length ≤ acc.length + 1 := addT_len acc t
theorem addTs_len (ts : List Bytes) : ∀ acc : List Bytes, (addTs acc ts).length ≤ acc.length + ts.length := by
  unfold addTs
  induction ts with
  | nil => intro acc; simp
  | cons t ts ih => intro acc; have h1 := ih (addT acc t); have h2 := addT_len acc t; simp only [List.foldl_cons, List.length_cons]; omega
theorem addDs_len {bs : List Bat} (h4 : ∀ d, (txsB bs d).length ≤ 4) (ds : List Bytes) : ∀ acc : List Bytes, (addDs bs acc ds).length ≤ acc.length + 4 * ds.length := by
  unfold addDs
  induction ds with
  | nil => intro acc; simp
  | cons t ts ih => intro acc; have h1 := ih (addTs acc (txsB bs t)); have h2 := addTs_len (txsB bs t) acc; have h3 := h4 t; simp only [List.foldl_cons, List.length_cons]; omega
theorem txsB_len {bs : List Bat} (h : ∀ b ∈ bs, b.txs.length ≤ 4) (d : Bytes) : (txsB bs d).length ≤ 4 := by
  unfold txsB
  split
  · rename_i b hb; exact h b (List.mem_of_find?_eq_some hb)
  · simp
theorem grownBs_txs {l : List Stp} {b : Bat} (hb : b ∈ grownBs l) : b.txs.length ≤ 4 := by
  have h1 := grownBs_ok l b hb
  unfold batCode at h1
  split at h1
  · simp at h1
  · split at h1
    · simp at h1
    · omega
theorem blkDs_len {L : List Crt} (h3 : ∀ c ∈ L, c.h.bs.length ≤ 3) {M : List Nat} (hM : ∀ j ∈ M, j < L.length) : (blkDs L M).length ≤ 3 * M.length := by
  unfold blkDs
  induction M with
  | nil => simp
  | cons j M ih =>
    have h1 := ih (fun k hk => hM k (List.mem_cons_of_mem _ hk))
    have h2 := hM j (List.mem_cons_self ..)
    have h4 : (L.getD j crtZ).h.bs.length ≤ 3 := by rw [getD_at h2]; exact h3 _ (List.getElem_mem h2)
    simp only [List.flatMap_cons, List.length_append, List.length_cons]; omega
/-- A block of a dag of raw numbers: there, and short. -/
theorem grown_blk {l : List Stp} {k : Bytes} {M : List Nat} (hf : 0 ≤ idxP (isB k) (crtSums (grownL l))) (hc : ((grownBs l).map batSum).Nodup) (hM : IsHist (grownL l) (placeP (grownL l) k) M) :
    blkCode (grownL l) (grownBs l) k M = 0 ∧ blkOut (grownL l) (grownBs l) k M = addDs (grownBs l) [] (blkDs (grownL l) M) := by
  have e : blkCode (grownL l) (grownBs l) k M = 0 := by
    unfold blkCode
    have h1 : findCode (grownL l) k = 0 := by unfold findCode; rw [if_neg (by omega)]
    rw [if_neg (by simp [h1]), if_neg (by simp [grownBs_code hc]), if_pos (grown_all hM.lt)]
  exact ⟨e, by unfold blkOut; rw [e, if_pos rfl]⟩
theorem blkOut_len {l : List Stp} {k : Bytes} {M : List Nat} (hM : 0 ≤ idxP (isB k) (crtSums (grownL l)) → bsCode (grownBs l) = 0 → IsHist (grownL l) (placeP (grownL l) k) M) : (blkOut (grownL l) (grownBs l) k M).length ≤ 288 := by
  unfold blkOut
  split
  · rename_i h
    unfold blkCode at h
    split at h
    · rename_i h1; exact absurd h h1
    · rename_i h1
      split at h
      · rename_i h2; exact absurd h h2
      · rename_i h2
        have hf : 0 ≤ idxP (isB k) (crtSums (grownL l)) := by
          by_cases q : 0 ≤ idxP (isB k) (crtSums (grownL l))
          · exact q
          · exfalso
            apply h1
            unfold findCode; rw [if_pos (by omega)]; decide
        have hH := hM hf (by simpa using h2)
        have e1 := addDs_len (txsB_len (fun b hb => grownBs_txs (l := l) hb)) (blkDs (grownL l) M) []
        have e2 := blkDs_len (fun c hc => (hdr_partsD (crt_partsP ((dagOk_iff.1 (grown_ok l)).2.1 c hc)).1).2.2.1) hH.lt
        have e3 := hH.len
        have e4 := grown_len l
        simp only [List.length_nil] at e1
        omega
  · simp
/-- What stands in a parent's history stands in the child's. -/
theorem hist_parent {L : List Crt} (hok : dagOk L = true) {i : Nat} {M N : List Nat} (hM : IsHist L i M) (hi : i < L.length) {p : Bytes} (hp : p ∈ L[i].h.ps) (hN : IsHist L (placeP L p) N) : ∀ k ∈ N, k ∈ M :=
  hM.sub ((hM.mem _).2 (.up .here hi hp)) hN
theorem blk_sub {L : List Crt} {bs : List Bat} {M N : List Nat} (h : ∀ k ∈ N, k ∈ M) {x : Bytes} (hx : x ∈ addDs bs [] (blkDs L N)) : x ∈ addDs bs [] (blkDs L M) := by
  rw [mem_addDs] at *
  rcases hx with hx | ⟨d, hd, hx⟩
  · simp at hx
  · obtain ⟨j, hj, hd⟩ := List.mem_flatMap.1 hd
    exact .inr ⟨d, List.mem_flatMap.2 ⟨j, h j hj, hd⟩, hx⟩
end Go.Proofs.YtpfmmncnhlfdgaaDoor

/- historyOne: the walk. -/
set_option linter.unusedVariables false
set_option linter.unusedSimpArgs false
attribute [local go_sem ↓] Go.wp_at_zero Go.wp_at_succ
namespace Go.Proofs.YtpfmmncnhlfdgaaDoor
open Go Go.RowKit

/-- A digest of round 1: where it stands, and that it stands on nothing. -/
theorem one_place {L : List Crt} (hok : dagOk L = true) {i : Nat} (hi : i < (digsL L 1).length) : 0 ≤ idxP (isB (digsL L 1)[i]) (crtSums L) ∧ ((crtSums L).Nodup → ∃ h : placeP L (digsL L 1)[i] < L.length, L[placeP L (digsL L 1)[i]].h.ps = []) := by
  have hS := dagOk_solo hok
  have hi' : i < (ofL L 1).length := by rwa [digsL_len] at hi
  have e : (digsL L 1)[i] = crtSum (ofL L 1)[i] := by simp [digsL]
  have hm := (mem_ofL hS).1 (List.getElem_mem hi')
  obtain ⟨m, hml, hme⟩ := List.getElem_of_mem hm.1
  refine ⟨idxP_ge.2 ⟨crtSum (ofL L 1)[i], List.mem_map.2 ⟨_, hm.1, rfl⟩, by rw [e]; unfold isB; exact decide_eq_true rfl⟩, fun hn => ?_⟩
  have hp : placeP L (digsL L 1)[i] = m := by rw [e, ← hme, ← digP_at hml]; exact placeP_dig hn hml
  rw [hp]
  refine ⟨hml, ?_⟩
  have hr : L[m].h.r = 1 := by rw [hme]; exact hm.2
  have hc := (crt_partsP ((dagOk_iff.1 hok).2.1 _ (List.getElem_mem hml))).1
  by_cases q : L[m].h.ps.length = 0
  · exact List.eq_nil_of_length_eq_zero q
  · exfalso
    unfold hdrCode at hc
    split at hc
    · simp at hc
    · split at hc
      · simp at hc
      · split at hc
        · rename_i h; exact h hc
        · split at hc
          · rename_i h; exact h hc
          · split at hc
            · simp at hc
            · rename_i h; exact h (.inl ⟨hr, by omega⟩)
/-- There is a certificate of round 1. -/
theorem one_some {L : List Crt} (hok : dagOk L = true) (h0 : 0 < L.length) : 0 < (digsL L 1).length := by
  rw [digsL_len]
  have hS := dagOk_solo hok
  have hf := (dagOk_iff.1 hok).2.2 0 h0
  unfold fits at hf
  simp only [List.take_zero, Bool.and_eq_true] at hf
  have hn : noneL (crtSums []) L[0].h.ps = [] := of_decide_eq_true hf.1
  have hps : L[0].h.ps = [] := by
    unfold noneL at hn
    rw [List.filter_eq_nil_iff] at hn
    rcases hq : L[0].h.ps with _ | ⟨p, t⟩
    · rfl
    · exfalso
      have := hn p (by rw [hq]; simp)
      simp [crtSums, idxP] at this
  have hc := (crt_partsP ((dagOk_iff.1 hok).2.1 _ (List.getElem_mem h0))).1
  have hr : L[0].h.r = 1 := by
    have ha := hdr_aur hc
    by_cases q : L[0].h.r = 1
    · exact q
    · exfalso
      unfold hdrCode at hc
      split at hc
      · simp at hc
      · split at hc
        · simp at hc
        · split at hc
          · rename_i h; exact h hc
          · split at hc
            · rename_i h; exact h hc
            · split at hc
              · simp at hc
              · rename_i h; exact h (.inr ⟨by omega, by rw [hps]; simp⟩)
  exact List.length_pos_of_mem ((mem_ofL hS).2 ⟨List.getElem_mem h0, hr⟩)
set_option maxRecDepth 100000 in
set_option maxHeartbeats 8000000 in
theorem historyOne_any (v : Value) (l : List Stp) (w : World) (hv : RdS RStp (fun _ => True) w v l) (hz : l.length * 24 ≤ reachBytes) (ht : Tabs w) :
    Calls Tryd.prog 11 #[v] w fun e w' => ∃ b, e = .returned (.bool b) ∧ (Clr l → b = true) ∧ Below w.heap.size w w' := by
  have HT := Lib.hid ht
  go_enter Tryd.func11, Tryd.ntmps11
  go_wp2_with fail
  refine (grown_any _ _ hv hz ht).mono ?_
  rintro e w1 ⟨vd, vb, rfl, hd, hbb, hb1⟩
  obtain ⟨add, capd, rfl, -, -⟩ := hd.form
  obtain ⟨adb, capb, rfl, -, -⟩ := hbb.form
  have HBT1 := Lib.hid hbb
  clear hbb
  have HD1 := Lib.hid hd
  have HB1 := Lib.hid hb1
  clear hd hb1 ht hv
  go_upto_region 2 with fail
  obtain ⟨w2, hw2⟩ : ∃ w2, w2 = w1.alloc (.cells #[.slice add (grownL l).length capd] 30) := ⟨_, rfl⟩
  have HX := Lib.hid (show BoxAt w2 w1.heap.size [.slice add (grownL l).length capd] 30 by rw [hw2]; exact BoxAt.new w1 [_] _)
  have hB2 : Below w1.heap.size w1 w2 := by rw [hw2]; exact (Below.refl _ _).alloc (Nat.le_refl _) _
  rw [← hw2]
  have HD := Lib.hid ((HD1.out.mono (G' := fun _ => True) (fun _ _ => trivial)).below hB2 (fun _ h => h))
  have HBT := Lib.hid ((HBT1.out.mono (G' := fun _ => True) (fun _ _ => trivial)).below hB2 (fun _ h => h))
  clear HBT1
  have HB := Lib.hid (HB1.out.trans (hB2.mono HB1.out.size))
  have HOK := Lib.hid (grown_ok l)
  have hz2 := HX.out.lt
  have hzw2 := HB.out.size
  clear hw2 hB2 HD1 HB1
  have hg4 := grown_len l
  have hgp := grown_pos l
  obtain ⟨L, hLL⟩ : ∃ L, L = grownL l := ⟨_, rfl⟩
  obtain ⟨BS, hBS⟩ : ∃ BS, BS = grownBs l := ⟨_, rfl⟩
  rw [← hLL] at HX HD HOK hg4 hgp ⊢
  rw [← hBS] at HBT ⊢
  have HLL := Lib.hid hLL
  have HBS := Lib.hid hBS
  have hbl : BS.length ≤ 48 := by rw [hBS]; exact grownBs_le l
  have HLEN := Lib.hid (show ∀ (k : Bytes) (M : List Nat), (0 ≤ idxP (isB k) (crtSums L) → bsCode BS = 0 → IsHist L (placeP L k) M) → (blkOut L BS k M).length ≤ 288 by rw [hLL, hBS]; exact fun k M h => blkOut_len h)
  have HCLR := Lib.hid (show Clr l → (crtSums L).Nodup ∧ bsCode BS = 0 ∧ ∀ (k : Bytes) (M : List Nat), 0 ≤ idxP (isB k) (crtSums L) → IsHist L (placeP L k) M → blkCode L BS k M = 0 ∧ blkOut L BS k M = addDs BS [] (blkDs L M) by rw [hLL, hBS]; exact fun h => ⟨h.1, grownBs_code h.2, fun k M h1 h2 => grown_blk h1 h.2 h2⟩)
  clear hLL hBS
  have HH := Lib.hid (fun c (hc : c ∈ L) => (crt_partsP ((dagOk_iff.1 HOK.out).2.1 c hc)).1)
  replace HD := Lib.hid ((HD.out.low (by decide)).mono (G' := fun b => b < w2.heap.size) (fun b hb => hb.2))
  replace HBT := Lib.hid ((HBT.out.low (by decide)).mono (G' := fun b => b < w2.heap.size) (fun b hb => hb.2))
  have HONE := Lib.hid (fun (i : Nat) (hi : i < (digsL L 1).length) => one_place HOK.out hi)
  have hone := one_some HOK.out hgp
  have hd4 := digsL_le L 1
  have x0 := HX.out.cell 0 rfl
  go_wp2_with fail
  refine (dagDigests_any 1 _ _ HD.out (HT.out.belowS HB.out) HOK.out).mono ?_
  rintro e w3 ⟨vs, rfl, hS, hb3⟩
  obtain ⟨ads, caps, rfl, hcs, hms⟩ := hS.form
  unfold maxLen at hms
  have HS := Lib.hid (hS.mono (G' := fun _ => True) (fun _ _ => trivial))
  replace HX := Lib.hid (HX.out.belowS hb3)
  replace HD := Lib.hid (HD.out.below hb3 (fun _ h => h))
  replace HBT := Lib.hid (HBT.out.below hb3 (fun _ h => h))
  replace HB := Lib.hid (HB.out.trans (hb3.mono HB.out.size))
  clear x0 hS hb3
  generalize hDD : digsL L 1 = DS at *
  have HDD := Lib.hid hDD
  clear hDD
  obtain ⟨bA, oA, rfl⟩ : ∃ bA oA, ads = some ⟨bA, oA, none⟩ := by
    obtain ⟨b, o, -, q, -⟩ := HS.out.cellS 0 hone
    exact ⟨b, o, q⟩
  have q0 : ((DS.length : Int) == 0) = false := by rw [beq_eq_false_iff_ne]; omega
  have hzw3 := HB.out.size
  go_wp2_with fail
  go_loopw [7] (fun u wr => ∃ i : Nat, i ≤ DS.length ∧ u = .int .i64 i ∧ Below w3.heap.size w3 wr) (fun u _ => DS.length - (intOf u).toNat)
  case atStart => exact ⟨0, Nat.zero_le _, rfl, Below.refl _ _⟩
  case round =>
    obtain ⟨i, hi, rfl, hBr⟩ := hrel
    have HBr := Lib.hid hBr
    have HXr := Lib.hid (HX.out.belowS hBr)
    have HDr := Lib.hid (HD.out.below hBr (fun _ h => h))
    have HBTr := Lib.hid (HBT.out.below hBr (fun _ h => h))
    have HSr := Lib.hid (HS.out.below hBr (fun _ h => h))
    have hzr := hBr.size
    clear hBr
    have HBE := Lib.hid (HB.out.trans (HBr.out.mono HB.out.size))
    by_cases hlt : i < DS.length
    · have i0 : (0 : Int) ≤ (i : Int) := by omega
      have i1 : (i : Int) < (DS.length : Int) := by omega
      have wi : IntKind.i64.wrap ((i : Int) + 1) = (i : Int) + 1 := IntWalk.i64_in _ (by omega)
      obtain ⟨b0, o0, v0, r0, -, es, hq⟩ := HSr.out.cellS i hlt
      simp only [Option.some.injEq, Addr.mk.injEq, and_true] at r0
      obtain ⟨eb0, eo0⟩ := r0
      subst eb0 eo0
      obtain ⟨adk, capk, rfl, -, -⟩ := hq.form
      have HDK := Lib.hid hq
      have HES := Lib.hid es
      have hbq : bA < wr.heap.size := World.block_lt_of_cell? wr _ es
      have hzx := HXr.out.lt
      have HP1 := Lib.hid (show 0 ≤ idxP (isB DS[i]) (crtSums L) ∧ ((crtSums L).Nodup → ∃ h : placeP L DS[i] < L.length, L[placeP L DS[i]].h.ps = []) by
        have h := HDD.out
        subst h
        exact HONE.out i hlt)
      clear hq es
      generalize DS[i] = dk at *
      have HFI := Lib.hid HP1.out.1
      have HCY := Lib.hid (findCode_yes HP1.out.1)
      have HDP := Lib.hid (dig_place HP1.out.1)
      go_upto_region 8 with fail
      refine wp_region_held_drew (S := fun w' => Below wr.heap.size wr w') (by kernel_rfl) (by exact (Below.refl _ _).drew) (fun hHeld => ?_)
      obtain ⟨wd, hwd⟩ : ∃ wd, wd = wr.drew := ⟨_, rfl⟩
      rw [← hwd] at hHeld ⊢
      have HBd := Lib.hid (show Below wr.heap.size wr wd from hHeld)
      have zwd : wr.heap.size ≤ wd.heap.size := by rw [hwd]; exact Nat.le_refl _
      clear hwd
      refine wpAnyH_take (i := 0) (v := .agg #[.slice add L.length capd]) rfl (by kernel_rfl) (by kernel_rfl) (by kernel_rfl) (fun _ _ _ h => h) (Or.inl ⟨by rfl, fun w hSw => ?_⟩) hHeld ?_
      · have q0 := (HXr.out.belowS hSw).cell 0 rfl; clear hSw; go_simp
      try simp only [Act.put, List.getElem_toArray, List.getElem_cons_succ, List.getElem_cons_zero, List.setIfInBounds_toArray, List.set_cons_zero, List.set_cons_succ]
      refine wpAnyH_take (i := 1) (v := .slice (some ⟨bA, oA, none⟩) DS.length caps) rfl (by kernel_rfl) (by kernel_rfl) (by kernel_rfl) (fun _ _ _ h => h) (Or.inl ⟨by rfl, fun w hSw => ?_⟩) hHeld ?_
      · clear hSw; go_simp; all_goals (try first | rfl | omega)
      try simp only [Act.put, List.getElem_toArray, List.getElem_cons_succ, List.getElem_cons_zero, List.setIfInBounds_toArray, List.set_cons_zero, List.set_cons_succ]
      refine wpAnyH_take (i := 2) (v := .int .i64 (i : Int)) rfl (by kernel_rfl) (by kernel_rfl) (by kernel_rfl) (fun _ _ _ h => h) (Or.inl ⟨by rfl, fun w hSw => ?_⟩) hHeld ?_
      · clear hSw; go_simp; all_goals (try first | rfl | omega)
      try simp only [Act.put, List.getElem_toArray, List.getElem_cons_succ, List.getElem_cons_zero, List.setIfInBounds_toArray, List.set_cons_zero, List.set_cons_succ]
      refine wpAnyH_take (i := 3) (v := .pointer (some ⟨bA, oA + i, none⟩)) rfl (by kernel_rfl) (by kernel_rfl) (by kernel_rfl) (fun _ _ _ h => h) (Or.inl ⟨by rfl, fun w hSw => ?_⟩) hHeld ?_
      · clear hSw; go_simp; all_goals (try first | rfl | omega)
      try simp only [Act.put, List.getElem_toArray, List.getElem_cons_succ, List.getElem_cons_zero, List.setIfInBounds_toArray, List.set_cons_zero, List.set_cons_succ]
      refine wpAnyH_take (i := 4) (v := .slice adk dk.length capk) rfl (by kernel_rfl) (by kernel_rfl) (by kernel_rfl) (fun _ _ _ h => h) (Or.inl ⟨by rfl, fun w hSw => ?_⟩) hHeld ?_
      · have q3 := (Below.cell hSw (p := ⟨bA, oA + i, none⟩) hbq).trans HES.out; clear hSw; go_simp
      try simp only [Act.put, List.getElem_toArray, List.getElem_cons_succ, List.getElem_cons_zero, List.setIfInBounds_toArray, List.set_cons_zero, List.set_cons_succ]
      refine wpAnyH_ready (rs := [5]) (by kernel_rfl) (by simp) ?_
      refine AllReadyH.cons rfl (fun K hK => ?_) ?_
      · rw [if_pos (by rfl)]
        go_simp
        go_at_call 22
        refine (oHistory_any _ _ _ (HDr.out.below HBd.out (fun _ h => h)) (HDK.out.below HBd.out (fun _ h => h)) (HT.out.belowS (HBE.out.trans (HBd.out.mono (Below.size HBE.out)))) HOK.out).mono ?_
        rintro e wf ⟨vh, M, rfl, hM1, -, hR, hb_wf⟩
        rw [HCY.out.1]
        have HM := Lib.hid (hM1 HFI.out)
        obtain ⟨ah, ch, rfl, hch, hmh⟩ := hR.form
        rw [histD_len] at hch hR ⊢
        have HR := Lib.hid (hR.mono (G' := fun _ => True) (fun _ _ => trivial))
        clear hM1 hR
        have HBwf := Lib.hid (HBd.out.trans (hb_wf.mono (Below.size HBd.out)))
        have zwf := hb_wf.size
        clear hb_wf
        show K _ _
        refine hK.out _ _ (by exact HBwf.out) (fun hHeld => ?_)
        clear hK K
        try simp only [Act.put, List.getElem_toArray, List.getElem_cons_succ, List.getElem_cons_zero, List.setIfInBounds_toArray, List.set_cons_zero, List.set_cons_succ]
        refine wpAnyH_take (i := 6) (v := .tuple #[.slice ah M.length ch, .int .i64 0]) rfl (by kernel_rfl) (by kernel_rfl) (by kernel_rfl) (fun _ _ _ h => h) (Or.inl ⟨by rfl, fun w hSw => ?_⟩) hHeld ?_
        · clear hSw; go_simp; all_goals (try first | rfl | omega)
        try simp only [Act.put, List.getElem_toArray, List.getElem_cons_succ, List.getElem_cons_zero, List.setIfInBounds_toArray, List.set_cons_zero, List.set_cons_succ]
        refine wpAnyH_take (i := 7) (v := .slice ah M.length ch) rfl (by kernel_rfl) (by kernel_rfl) (by kernel_rfl) (fun _ _ _ h => h) (Or.inl ⟨by rfl, fun w hSw => ?_⟩) hHeld ?_
        · clear hSw; go_simp; all_goals (try first | rfl | omega)
        try simp only [Act.put, List.getElem_toArray, List.getElem_cons_succ, List.getElem_cons_zero, List.setIfInBounds_toArray, List.set_cons_zero, List.set_cons_succ]
        refine wpAnyH_take (i := 8) (v := .int .i64 0) rfl (by kernel_rfl) (by kernel_rfl) (by kernel_rfl) (fun _ _ _ h => h) (Or.inl ⟨by rfl, fun w hSw => ?_⟩) hHeld ?_
        · clear hSw; go_simp; all_goals (try first | rfl | omega)
        try simp only [Act.put, List.getElem_toArray, List.getElem_cons_succ, List.getElem_cons_zero, List.setIfInBounds_toArray, List.set_cons_zero, List.set_cons_succ]
        refine wpAnyH_take (i := 9) (v := .slice ah M.length ch) rfl (by kernel_rfl) (by kernel_rfl) (by kernel_rfl) (fun _ _ _ h => h) (Or.inl ⟨by rfl, fun w hSw => ?_⟩) hHeld ?_
        · clear hSw; go_simp; all_goals (try first | rfl | omega)
        try simp only [Act.put, List.getElem_toArray, List.getElem_cons_succ, List.getElem_cons_zero, List.setIfInBounds_toArray, List.set_cons_zero, List.set_cons_succ]
        refine wpAnyH_take (i := 10) (v := .int .i64 0) rfl (by kernel_rfl) (by kernel_rfl) (by kernel_rfl) (fun _ _ _ h => h) (Or.inl ⟨by rfl, fun w hSw => ?_⟩) hHeld ?_
        · clear hSw; go_simp; all_goals (try first | rfl | omega)
        try simp only [Act.put, List.getElem_toArray, List.getElem_cons_succ, List.getElem_cons_zero, List.setIfInBounds_toArray, List.set_cons_zero, List.set_cons_succ]
        refine wpAnyH_done (by kernel_rfl) ?_ _
        obtain ⟨w5, hw5⟩ : ∃ w5, w5 = wf := ⟨_, rfl⟩
        rw [← hw5] at HR HBwf ⊢
        replace HXr := Lib.hid (HXr.out.belowS HBwf.out)
        replace HDr := Lib.hid (HDr.out.below HBwf.out (fun _ h => h))
        replace HBTr := Lib.hid (HBTr.out.below HBwf.out (fun _ h => h))
        replace HSr := Lib.hid (HSr.out.below HBwf.out (fun _ h => h))
        replace HDK := Lib.hid (HDK.out.below HBwf.out (fun _ h => h))
        replace HBr := Lib.hid (HBr.out.trans (HBwf.out.mono HBr.out.size))
        replace HES := Lib.hid ((HBwf.out.cell (p := ⟨bA, oA + i, none⟩) hbq).trans HES.out)
        replace hbq : bA < w5.heap.size := World.block_lt_of_cell? w5 _ HES.out
        replace HBE := Lib.hid (HB.out.trans (HBr.out.mono HB.out.size))
        clear hHeld hw5 HBwf HBd zwd zwf
        have hml := HM.out.len
        have hmp := HM.out.pos
        have HM1 := Lib.hid (show Clr l → M.length = 1 ∧ M = [placeP L dk] from fun h => by
          obtain ⟨hl, h0⟩ := HP1.out.2 (HCLR.out h).1
          have e := HM.out.one hl h0
          exact ⟨by rw [e]; rfl, e⟩)
        have HM0 := Lib.hid (show ∀ h : 0 < (histD L M).length, M.length = 1 → (histD L M)[0] = dk from fun h e => by
          rw [histD_at]
          have hs := HM.out.self
          match M, e, hs, h with
          | [a], _, hs, _ =>
            rw [List.mem_singleton] at hs
            show digP L a = dk
            rw [← hs]; exact HDP.out)
        have hq0 : 0 < (histD L M).length := by rw [histD_len]; exact hmp
        obtain ⟨bh, oh, vh0, rfl, -, eh, hh⟩ := HR.out.cellS 0 hq0
        obtain ⟨adh, caph, rfl, -, -⟩ := hh.form
        have HHD := Lib.hid hh
        have HEH := Lib.hid (show w5.cell? ⟨bh, oh, none⟩ = some (.slice adh ((histD L M)[0]'hq0).length caph) by simpa using eh)
        have hbh : bh < w5.heap.size := World.block_lt_of_cell? w5 _ eh
        have HM2 := Lib.hid (HM0.out hq0)
        clear hh eh HM0
        generalize (histD L M)[0]'hq0 = d0 at *
        have hzx5 := HXr.out.lt
        go_upto_region 9 with fail
        by_cases hm1 : M.length = 1
        · have hi1 : (M.length : Int) = 1 := by omega
          have hd0 : d0 = dk := HM2.out hm1
          subst hd0
          have HML := Lib.hid hm1
          have u1 : (0 : Int) < (M.length : Int) := by omega
          have u2 : ((M.length : Int) != 1) = false := by simp [hi1]
          clear hm1 hi1
          refine wp_region_held_drew (S := fun w' => Below w5.heap.size w5 w') (by kernel_rfl) (by exact (Below.refl _ _).drew) (fun hHeld => ?_)
          obtain ⟨wd, hwd⟩ : ∃ wd, wd = w5.drew := ⟨_, rfl⟩
          rw [← hwd] at hHeld ⊢
          have HBd := Lib.hid (show Below w5.heap.size w5 wd from hHeld)
          have zwd : w5.heap.size ≤ wd.heap.size := by rw [hwd]; exact Nat.le_refl _
          clear hwd
          refine wpAnyH_take (i := 0) (v := .int .i64 0) rfl (by kernel_rfl) (by kernel_rfl) (by kernel_rfl) (fun _ _ _ h => h) (Or.inl ⟨by rfl, fun w hSw => ?_⟩) hHeld ?_
          · clear hSw; go_simp; all_goals (try first | rfl | omega)
          try simp only [Act.put, List.getElem_toArray, List.getElem_cons_succ, List.getElem_cons_zero, List.setIfInBounds_toArray, List.set_cons_zero, List.set_cons_succ]
          refine wpAnyH_take (i := 1) (v := .bool false) rfl (by kernel_rfl) (by kernel_rfl) (by kernel_rfl) (fun _ _ _ h => h) (Or.inl ⟨by rfl, fun w hSw => ?_⟩) hHeld ?_
          · clear hSw; go_simp; all_goals (try first | rfl | omega)
          try simp only [Act.put, List.getElem_toArray, List.getElem_cons_succ, List.getElem_cons_zero, List.setIfInBounds_toArray, List.set_cons_zero, List.set_cons_succ]
          refine wpAnyH_take (i := 2) (v := .bool false) rfl (by kernel_rfl) (by kernel_rfl) (by kernel_rfl) (fun _ _ _ h => h) (Or.inl ⟨by rfl, fun w hSw => ?_⟩) hHeld ?_
          · clear hSw; go_simp; all_goals (try first | rfl | omega)
          try simp only [Act.put, List.getElem_toArray, List.getElem_cons_succ, List.getElem_cons_zero, List.setIfInBounds_toArray, List.set_cons_zero, List.set_cons_succ]
          refine wpAnyH_take (i := 3) (v := .slice (some ⟨bh, oh, none⟩) M.length ch) rfl (by kernel_rfl) (by kernel_rfl) (by kernel_rfl) (fun _ _ _ h => h) (Or.inl ⟨by rfl, fun w hSw => ?_⟩) hHeld ?_
          · clear hSw; go_simp; all_goals (try first | rfl | omega)
          try simp only [Act.put, List.getElem_toArray, List.getElem_cons_succ, List.getElem_cons_zero, List.setIfInBounds_toArray, List.set_cons_zero, List.set_cons_succ]
          refine wpAnyH_take (i := 4) (v := .int .i64 (M.length : Int)) rfl (by kernel_rfl) (by kernel_rfl) (by kernel_rfl) (fun _ _ _ h => h) (Or.inl ⟨by rfl, fun w hSw => ?_⟩) hHeld ?_
          · clear hSw; go_simp; all_goals (try first | rfl | omega)
          try simp only [Act.put, List.getElem_toArray, List.getElem_cons_succ, List.getElem_cons_zero, List.setIfInBounds_toArray, List.set_cons_zero, List.set_cons_succ]
          refine wpAnyH_take (i := 5) (v := .bool false) rfl (by kernel_rfl) (by kernel_rfl) (by kernel_rfl) (fun _ _ _ h => h) (Or.inl ⟨by rfl, fun w hSw => ?_⟩) hHeld ?_
          · clear hSw; go_simp; all_goals (try first | rfl | omega)
          try simp only [Act.put, List.getElem_toArray, List.getElem_cons_succ, List.getElem_cons_zero, List.setIfInBounds_toArray, List.set_cons_zero, List.set_cons_succ]
          refine wpAnyH_take (i := 6) (v := .bool false) rfl (by kernel_rfl) (by kernel_rfl) (by kernel_rfl) (fun _ _ _ h => h) (Or.inl ⟨by rfl, fun w hSw => ?_⟩) hHeld ?_
          · clear hSw; go_simp; all_goals (try first | rfl | omega)
          try simp only [Act.put, List.getElem_toArray, List.getElem_cons_succ, List.getElem_cons_zero, List.setIfInBounds_toArray, List.set_cons_zero, List.set_cons_succ]
          refine wpAnyH_take (i := 7) (v := .bool false) rfl (by kernel_rfl) (by kernel_rfl) (by kernel_rfl) (fun _ _ _ h => h) (Or.inl ⟨by rfl, fun w hSw => ?_⟩) hHeld ?_
          · clear hSw; go_simp; all_goals (try first | rfl | omega)
          try simp only [Act.put, List.getElem_toArray, List.getElem_cons_succ, List.getElem_cons_zero, List.setIfInBounds_toArray, List.set_cons_zero, List.set_cons_succ]
          refine wpAnyH_take (i := 8) (v := .slice (some ⟨bh, oh, none⟩) M.length ch) rfl (by kernel_rfl) (by kernel_rfl) (by kernel_rfl) (fun _ _ _ h => h) (Or.inl ⟨by rfl, fun w hSw => ?_⟩) hHeld ?_
          · clear hSw; go_simp; all_goals (try first | rfl | omega)
          try simp only [Act.put, List.getElem_toArray, List.getElem_cons_succ, List.getElem_cons_zero, List.setIfInBounds_toArray, List.set_cons_zero, List.set_cons_succ]
          refine wpAnyH_take (i := 9) (v := .pointer (some ⟨bh, oh, none⟩)) rfl (by kernel_rfl) (by kernel_rfl) (by kernel_rfl) (fun _ _ _ h => h) (Or.inl ⟨by rfl, fun w hSw => ?_⟩) hHeld ?_
          · clear hSw; go_simp; all_goals (try first | rfl | omega)
          try simp only [Act.put, List.getElem_toArray, List.getElem_cons_succ, List.getElem_cons_zero, List.setIfInBounds_toArray, List.set_cons_zero, List.set_cons_succ]
          refine wpAnyH_take (i := 10) (v := .slice adh d0.length caph) rfl (by kernel_rfl) (by kernel_rfl) (by kernel_rfl) (fun _ _ _ h => h) (Or.inl ⟨by rfl, fun w hSw => ?_⟩) hHeld ?_
          · have q3 := (Below.cell hSw (p := ⟨bh, oh, none⟩) hbh).trans HEH.out; clear hSw; go_simp
          try simp only [Act.put, List.getElem_toArray, List.getElem_cons_succ, List.getElem_cons_zero, List.setIfInBounds_toArray, List.set_cons_zero, List.set_cons_succ]
          refine wpAnyH_take (i := 11) (v := .slice (some ⟨bA, oA, none⟩) DS.length caps) rfl (by kernel_rfl) (by kernel_rfl) (by kernel_rfl) (fun _ _ _ h => h) (Or.inl ⟨by rfl, fun w hSw => ?_⟩) hHeld ?_
          · clear hSw; go_simp; all_goals (try first | rfl | omega)
          try simp only [Act.put, List.getElem_toArray, List.getElem_cons_succ, List.getElem_cons_zero, List.setIfInBounds_toArray, List.set_cons_zero, List.set_cons_succ]
          refine wpAnyH_take (i := 12) (v := .int .i64 (i : Int)) rfl (by kernel_rfl) (by kernel_rfl) (by kernel_rfl) (fun _ _ _ h => h) (Or.inl ⟨by rfl, fun w hSw => ?_⟩) hHeld ?_
          · clear hSw; go_simp; all_goals (try first | rfl | omega)
          try simp only [Act.put, List.getElem_toArray, List.getElem_cons_succ, List.getElem_cons_zero, List.setIfInBounds_toArray, List.set_cons_zero, List.set_cons_succ]
          refine wpAnyH_take (i := 13) (v := .pointer (some ⟨bA, oA + i, none⟩)) rfl (by kernel_rfl) (by kernel_rfl) (by kernel_rfl) (fun _ _ _ h => h) (Or.inl ⟨by rfl, fun w hSw => ?_⟩) hHeld ?_
          · clear hSw; go_simp; all_goals (try first | rfl | omega)
          try simp only [Act.put, List.getElem_toArray, List.getElem_cons_succ, List.getElem_cons_zero, List.setIfInBounds_toArray, List.set_cons_zero, List.set_cons_succ]
          refine wpAnyH_take (i := 14) (v := .slice adk d0.length capk) rfl (by kernel_rfl) (by kernel_rfl) (by kernel_rfl) (fun _ _ _ h => h) (Or.inl ⟨by rfl, fun w hSw => ?_⟩) hHeld ?_
          · have q3 := (Below.cell hSw (p := ⟨bA, oA + i, none⟩) hbq).trans HES.out; clear hSw; go_simp
          try simp only [Act.put, List.getElem_toArray, List.getElem_cons_succ, List.getElem_cons_zero, List.setIfInBounds_toArray, List.set_cons_zero, List.set_cons_succ]
          refine wpAnyH_ready (rs := [15]) (by kernel_rfl) (by simp) ?_
          refine AllReadyH.cons rfl (fun K hK => ?_) ?_
          · rw [if_pos (by rfl)]
            go_simp
            go_at_call 23
            refine (same_any _ _ _ (HHD.out.below HBd.out (fun _ h => h)) (HDK.out.below HBd.out (fun _ h => h))).mono ?_
            rintro e w' ⟨rfl, rfl⟩
            rw [decide_eq_true (rfl : d0 = d0)]
            show K _ _
            refine hK.out _ _ (by exact hHeld) (fun hHeld => ?_)
            clear hK K
            try simp only [Act.put, List.getElem_toArray, List.getElem_cons_succ, List.getElem_cons_zero, List.setIfInBounds_toArray, List.set_cons_zero, List.set_cons_succ]
            refine wpAnyH_take (i := 16) (v := .bool false) rfl (by kernel_rfl) (by kernel_rfl) (by kernel_rfl) (fun _ _ _ h => h) (Or.inl ⟨by rfl, fun w hSw => ?_⟩) hHeld ?_
            · clear hSw; go_simp; all_goals (try first | rfl | omega)
            try simp only [Act.put, List.getElem_toArray, List.getElem_cons_succ, List.getElem_cons_zero, List.setIfInBounds_toArray, List.set_cons_zero, List.set_cons_succ]
            refine wpAnyH_take (i := 17) (v := .bool false) rfl (by kernel_rfl) (by kernel_rfl) (by kernel_rfl) (fun _ _ _ h => h) (Or.inl ⟨by rfl, fun w hSw => ?_⟩) hHeld ?_
            · clear hSw; go_simp; all_goals (try first | rfl | omega)
            try simp only [Act.put, List.getElem_toArray, List.getElem_cons_succ, List.getElem_cons_zero, List.setIfInBounds_toArray, List.set_cons_zero, List.set_cons_succ]
            refine wpAnyH_done (by kernel_rfl) ?_ _
            obtain ⟨w6, hw6⟩ : ∃ w6, w6 = wd := ⟨_, rfl⟩
            rw [← hw6] at HBd ⊢
            replace HXr := Lib.hid (HXr.out.belowS HBd.out)
            replace HDr := Lib.hid (HDr.out.below HBd.out (fun _ h => h))
            replace HBTr := Lib.hid (HBTr.out.below HBd.out (fun _ h => h))
            replace HSr := Lib.hid (HSr.out.below HBd.out (fun _ h => h))
            replace HDK := Lib.hid (HDK.out.below HBd.out (fun _ h => h))
            replace HBr := Lib.hid (HBr.out.trans (HBd.out.mono HBr.out.size))
            replace HES := Lib.hid ((HBd.out.cell (p := ⟨bA, oA + i, none⟩) hbq).trans HES.out)
            replace hbq : bA < w6.heap.size := World.block_lt_of_cell? w6 _ HES.out
            replace HBE := Lib.hid (HB.out.trans (HBr.out.mono HB.out.size))
            have HFi := Lib.hid (show findCode L d0 = 0 ∧ True from ⟨HCY.out.1, trivial⟩)
            have HFC := Lib.hid (show findCrt L d0 = L[placeP L d0]'(HCY.out.2.1) from (find_yes HCY.out.2.1 HCY.out.2.2).2)
            clear hHeld hw6 HBd zwd HHD HEH HR
            generalize hdk : d0 = dk at *
            have HDD2 := Lib.hid hdk
            clear hdk
            go_upto_region 11 with fail
            go_cut [10, 11] (fun p e wx => ∃ (P : Nat) (ab ap av : Option Addr) (cb cp cv : Nat), p = .pointer (some ⟨P, 0, none⟩) ∧ e = .int .i64 0 ∧ BoxAt wx P [.int .i64 (findCrt L dk).h.a, .int .i64 (findCrt L dk).h.r, .slice ab (findCrt L dk).h.bs.length cb, .slice ap (findCrt L dk).h.ps.length cp, .slice av (findCrt L dk).vs.length cv] 45 ∧ w6.heap.size ≤ P ∧ RdBB (fun _ => True) wx (.slice ab (findCrt L dk).h.bs.length cb) (findCrt L dk).h.bs ∧ RdBB (fun _ => True) wx (.slice ap (findCrt L dk).h.ps.length cp) (findCrt L dk).h.ps ∧ RdI (fun _ => True) wx (.slice av (findCrt L dk).vs.length cv) (findCrt L dk).vs ∧ Below w6.heap.size w6 wx)
            case first =>
              refine wp_region_held_drew (S := fun w' => Below w6.heap.size w6 w') (by kernel_rfl) (by exact (Below.refl _ _).drew) (fun hHeld => ?_)
              obtain ⟨wd, hwd⟩ : ∃ wd, wd = w6.drew := ⟨_, rfl⟩
              rw [← hwd] at hHeld ⊢
              have HBd := Lib.hid (show Below w6.heap.size w6 wd from hHeld)
              have zwd : w6.heap.size ≤ wd.heap.size := by rw [hwd]; exact Nat.le_refl _
              clear hwd
              refine wpAnyH_take (i := 0) (v := .agg #[.slice add L.length capd]) rfl (by kernel_rfl) (by kernel_rfl) (by kernel_rfl) (fun _ _ _ h => h) (Or.inl ⟨by rfl, fun w hSw => ?_⟩) hHeld ?_
              · have q0 := (HXr.out.belowS hSw).cell 0 rfl; clear hSw; go_simp
              try simp only [Act.put, List.getElem_toArray, List.getElem_cons_succ, List.getElem_cons_zero, List.setIfInBounds_toArray, List.set_cons_zero, List.set_cons_succ]
              refine wpAnyH_take (i := 1) (v := .slice (some ⟨bA, oA, none⟩) DS.length caps) rfl (by kernel_rfl) (by kernel_rfl) (by kernel_rfl) (fun _ _ _ h => h) (Or.inl ⟨by rfl, fun w hSw => ?_⟩) hHeld ?_
              · clear hSw; go_simp; all_goals (try first | rfl | omega)
              try simp only [Act.put, List.getElem_toArray, List.getElem_cons_succ, List.getElem_cons_zero, List.setIfInBounds_toArray, List.set_cons_zero, List.set_cons_succ]
              refine wpAnyH_take (i := 2) (v := .int .i64 (i : Int)) rfl (by kernel_rfl) (by kernel_rfl) (by kernel_rfl) (fun _ _ _ h => h) (Or.inl ⟨by rfl, fun w hSw => ?_⟩) hHeld ?_
              · clear hSw; go_simp; all_goals (try first | rfl | omega)
              try simp only [Act.put, List.getElem_toArray, List.getElem_cons_succ, List.getElem_cons_zero, List.setIfInBounds_toArray, List.set_cons_zero, List.set_cons_succ]
              refine wpAnyH_take (i := 3) (v := .pointer (some ⟨bA, oA + i, none⟩)) rfl (by kernel_rfl) (by kernel_rfl) (by kernel_rfl) (fun _ _ _ h => h) (Or.inl ⟨by rfl, fun w hSw => ?_⟩) hHeld ?_
              · clear hSw; go_simp; all_goals (try first | rfl | omega)
              try simp only [Act.put, List.getElem_toArray, List.getElem_cons_succ, List.getElem_cons_zero, List.setIfInBounds_toArray, List.set_cons_zero, List.set_cons_succ]
              refine wpAnyH_take (i := 4) (v := .slice adk dk.length capk) rfl (by kernel_rfl) (by kernel_rfl) (by kernel_rfl) (fun _ _ _ h => h) (Or.inl ⟨by rfl, fun w hSw => ?_⟩) hHeld ?_
              · have q3 := (Below.cell hSw (p := ⟨bA, oA + i, none⟩) hbq).trans HES.out; clear hSw; go_simp
              try simp only [Act.put, List.getElem_toArray, List.getElem_cons_succ, List.getElem_cons_zero, List.setIfInBounds_toArray, List.set_cons_zero, List.set_cons_succ]
              refine wpAnyH_ready (rs := [5, 9]) (by kernel_rfl) (by simp) ?_
              refine AllReadyH.cons rfl (fun K hK => ?_) ?_
              · rw [if_pos (by rfl)]
                go_simp
                go_at_call 24
                refine (dagFind_any _ _ _ (HDr.out.below HBd.out (fun _ h => h)) (HDK.out.below HBd.out (fun _ h => h)) (HT.out.belowS (HBE.out.trans (HBd.out.mono (Below.size HBE.out)))) HOK.out).mono ?_
                rintro e wf ⟨vb, vp, vv, rfl, hvb, hvp, hvv, hb_wf⟩
                rw [HFi.out.1]
                obtain ⟨ab, cb, rfl, -, -⟩ := hvb.form
                obtain ⟨ap, cp, rfl, -, -⟩ := hvp.form
                obtain ⟨av, cv, rfl, -, -⟩ := hvv.form
                have HVB := Lib.hid (show RdBB (fun b => w6.heap.size ≤ b ∧ b ≠ wf.heap.size) _ _ (findCrt L dk).h.bs from (hvb.low (by decide)).mono (fun b hb => ⟨by have := hb.1; have := Below.size HBd.out; omega, by have h0 := hb.2; omega⟩))
                have HVP := Lib.hid (show RdBB (fun b => w6.heap.size ≤ b ∧ b ≠ wf.heap.size) _ _ (findCrt L dk).h.ps from (hvp.low (by decide)).mono (fun b hb => ⟨by have := hb.1; have := Below.size HBd.out; omega, by have h0 := hb.2; omega⟩))
                have HVV := Lib.hid (show RdI (fun b => w6.heap.size ≤ b ∧ b ≠ wf.heap.size) _ _ (findCrt L dk).vs from (hvv.low (by decide)).mono (fun b hb => ⟨by have := hb.1; have := Below.size HBd.out; omega, by have h0 := hb.2; omega⟩))
                clear hvb hvp hvv
                have HBwf := Lib.hid (HBd.out.trans (hb_wf.mono (Below.size HBd.out)))
                have zwf := hb_wf.size
                clear hb_wf
                show K _ _
                refine hK.out _ _ (by exact HBwf.out) (fun hHeld => ?_)
                clear hK K
                try simp only [Act.put, List.getElem_toArray, List.getElem_cons_succ, List.getElem_cons_zero, List.setIfInBounds_toArray, List.set_cons_zero, List.set_cons_succ]
                refine wpAnyH_take (i := 6) (v := .tuple #[.agg #[.int .i64 (findCrt L dk).h.a, .int .i64 (findCrt L dk).h.r, .slice ab (findCrt L dk).h.bs.length cb, .slice ap (findCrt L dk).h.ps.length cp, .slice av (findCrt L dk).vs.length cv], .int .i64 0]) rfl (by kernel_rfl) (by kernel_rfl) (by kernel_rfl) (fun _ _ _ h => h) (Or.inl ⟨by rfl, fun w hSw => ?_⟩) hHeld ?_
                · clear hSw; go_simp; all_goals (try first | rfl | omega)
                try simp only [Act.put, List.getElem_toArray, List.getElem_cons_succ, List.getElem_cons_zero, List.setIfInBounds_toArray, List.set_cons_zero, List.set_cons_succ]
                refine wpAnyH_take (i := 7) (v := .agg #[.int .i64 (findCrt L dk).h.a, .int .i64 (findCrt L dk).h.r, .slice ab (findCrt L dk).h.bs.length cb, .slice ap (findCrt L dk).h.ps.length cp, .slice av (findCrt L dk).vs.length cv]) rfl (by kernel_rfl) (by kernel_rfl) (by kernel_rfl) (fun _ _ _ h => h) (Or.inl ⟨by rfl, fun w hSw => ?_⟩) hHeld ?_
                · clear hSw; go_simp; all_goals (try first | rfl | omega)
                try simp only [Act.put, List.getElem_toArray, List.getElem_cons_succ, List.getElem_cons_zero, List.setIfInBounds_toArray, List.set_cons_zero, List.set_cons_succ]
                refine wpAnyH_take (i := 8) (v := .int .i64 0) rfl (by kernel_rfl) (by kernel_rfl) (by kernel_rfl) (fun _ _ _ h => h) (Or.inl ⟨by rfl, fun w hSw => ?_⟩) hHeld ?_
                · clear hSw; go_simp; all_goals (try first | rfl | omega)
                try simp only [Act.put, List.getElem_toArray, List.getElem_cons_succ, List.getElem_cons_zero, List.setIfInBounds_toArray, List.set_cons_zero, List.set_cons_succ]
                refine wpAnyH_ready (rs := [9]) (by kernel_rfl) (by simp) ?_
                refine AllReadyH.cons rfl (fun K hK => ?_) ?_
                · rw [if_pos (by rfl)]
                  go_simp
                  show K _ _
                  refine hK.out _ _ (by exact (HBwf.out.alloc (Below.size HBwf.out) _)) (fun hHeld => ?_)
                  clear hK K
                  try simp only [Act.put, List.getElem_toArray, List.getElem_cons_succ, List.getElem_cons_zero, List.setIfInBounds_toArray, List.set_cons_zero, List.set_cons_succ]
                  obtain ⟨wa1, hwn⟩ : ∃ wa1, wa1 = wf.alloc (.cells #[.int .i64 0, .int .i64 0, .slice none 0 0, .slice none 0 0, .slice none 0 0] 45) := ⟨_, rfl⟩
                  have FA1 := Lib.hid (show BoxAt wa1 (wf.heap.size) [.int .i64 0, .int .i64 0, .slice none 0 0, .slice none 0 0, .slice none 0 0] 45 by rw [hwn]; exact BoxAt.newAt wf [.int .i64 0, .int .i64 0, .slice none 0 0, .slice none 0 0, .slice none 0 0] 45 rfl)
                  have HBwa1 := Lib.hid (show Below w6.heap.size w6 wa1 by rw [hwn]; exact HBwf.out.alloc (Below.size HBwf.out) _)
                  have HKL := Lib.hid (show Keep (fun b => w6.heap.size ≤ b ∧ b ≠ wf.heap.size) wf wa1 by rw [hwn]; exact Keep.alloc _ _ _)
                  rw [← hwn] at hHeld ⊢
                  clear hwn
                  have zwa1 := FA1.out.lt
                  refine wpAnyH_ready (rs := [10]) (by kernel_rfl) (by simp) ?_
                  refine AllReadyH.cons rfl (fun K hK => ?_) ?_
                  · rw [if_pos (by rfl)]
                    have q0 := FA1.out.cell 0 rfl
                    have q1 := FA1.out.cell 1 rfl
                    have q2 := FA1.out.cell 2 rfl
                    have q3 := FA1.out.cell 3 rfl
                    have q4 := FA1.out.cell 4 rfl
                    have qf0 := FA1.out.free 0
                    have qf1 := FA1.out.free 1
                    have qf2 := FA1.out.free 2
                    have qf3 := FA1.out.free 3
                    have qf4 := FA1.out.free 4
                    have qz := FA1.out.lt
                    go_simp
                    show K _ _
                    refine hK.out _ _ (by exact (((((HBwa1.out.setCell (p := ⟨wf.heap.size, 0, none⟩) (by simp; omega) (.int .i64 (findCrt L dk).h.a)).setCell (p := ⟨wf.heap.size, 1, none⟩) (by simp; omega) (.int .i64 (findCrt L dk).h.r)).setCell (p := ⟨wf.heap.size, 2, none⟩) (by simp; omega) (.slice ab (findCrt L dk).h.bs.length cb)).setCell (p := ⟨wf.heap.size, 3, none⟩) (by simp; omega) (.slice ap (findCrt L dk).h.ps.length cp)).setCell (p := ⟨wf.heap.size, 4, none⟩) (by simp; omega) (.slice av (findCrt L dk).vs.length cv))) (fun hHeld => ?_)
                    clear hK K
                    try simp only [Act.put, List.getElem_toArray, List.getElem_cons_succ, List.getElem_cons_zero, List.setIfInBounds_toArray, List.set_cons_zero, List.set_cons_succ]
                    refine wpAnyH_take (i := 11) (v := .int .i64 0) rfl (by kernel_rfl) (by kernel_rfl) (by kernel_rfl) (fun _ _ _ h => h) (Or.inl ⟨by rfl, fun w hSw => ?_⟩) hHeld ?_
                    · clear hSw; go_simp; all_goals (try first | rfl | omega)
                    try simp only [Act.put, List.getElem_toArray, List.getElem_cons_succ, List.getElem_cons_zero, List.setIfInBounds_toArray, List.set_cons_zero, List.set_cons_succ]
                    refine wpAnyH_done (by kernel_rfl) ?_ _
                    obtain ⟨wz, hwz⟩ : ∃ wz, wz = (((((wa1.setCell ⟨wf.heap.size, 0, none⟩ (.int .i64 (findCrt L dk).h.a)).setCell ⟨wf.heap.size, 1, none⟩ (.int .i64 (findCrt L dk).h.r)).setCell ⟨wf.heap.size, 2, none⟩ (.slice ab (findCrt L dk).h.bs.length cb)).setCell ⟨wf.heap.size, 3, none⟩ (.slice ap (findCrt L dk).h.ps.length cp)).setCell ⟨wf.heap.size, 4, none⟩ (.slice av (findCrt L dk).vs.length cv)) := ⟨_, rfl⟩
                    have HKz : Keep (fun b => w6.heap.size ≤ b ∧ b ≠ wf.heap.size) wa1 wz := by rw [hwz]; exact ((((Keep.setCell (by simp) _).trans (Keep.setCell (by simp) _)).trans (Keep.setCell (by simp) _)).trans (Keep.setCell (by simp) _)).trans (Keep.setCell (by simp) _)
                    have HZ := Lib.hid (show BoxAt wz (wf.heap.size) [.int .i64 (findCrt L dk).h.a, .int .i64 (findCrt L dk).h.r, .slice ab (findCrt L dk).h.bs.length cb, .slice ap (findCrt L dk).h.ps.length cp, .slice av (findCrt L dk).vs.length cv] 45 by rw [hwz]; exact (((((FA1.out.set 0 (.int .i64 (findCrt L dk).h.a)).set 1 (.int .i64 (findCrt L dk).h.r)).set 2 (.slice ab (findCrt L dk).h.bs.length cb)).set 3 (.slice ap (findCrt L dk).h.ps.length cp)).set 4 (.slice av (findCrt L dk).vs.length cv)))
                    have HBz := Lib.hid (show Below w6.heap.size w6 wz by rw [hwz]; exact (((((HBwa1.out.setCell (p := ⟨wf.heap.size, 0, none⟩) (by simp; omega) (.int .i64 (findCrt L dk).h.a)).setCell (p := ⟨wf.heap.size, 1, none⟩) (by simp; omega) (.int .i64 (findCrt L dk).h.r)).setCell (p := ⟨wf.heap.size, 2, none⟩) (by simp; omega) (.slice ab (findCrt L dk).h.bs.length cb)).setCell (p := ⟨wf.heap.size, 3, none⟩) (by simp; omega) (.slice ap (findCrt L dk).h.ps.length cp)).setCell (p := ⟨wf.heap.size, 4, none⟩) (by simp; omega) (.slice av (findCrt L dk).vs.length cv)))
                    have hq0 : Keep (fun b => w6.heap.size ≤ b ∧ b ≠ wf.heap.size) wf wa1 := HKL.out
                    have HVBz := Lib.hid ((HVB.out.keep (hq0.trans HKz) (fun _ h => h)).mono (G' := fun _ => True) (fun _ _ => trivial))
                    have HVPz := Lib.hid ((HVP.out.keep (hq0.trans HKz) (fun _ h => h)).mono (G' := fun _ => True) (fun _ _ => trivial))
                    have HVVz := Lib.hid ((HVV.out.keep (hq0.trans HKz) (fun _ h => h)).mono (G' := fun _ => True) (fun _ _ => trivial))
                    go_wp2
                    rw [← hwz]
                    clear hwz HKz
                    go_meet
                    exact ⟨wf.heap.size, ab, ap, av, cb, cp, cv, rfl, rfl, HZ.out, by omega, HVBz.out, HVPz.out, HVVz.out, HBz.out⟩
                  exact AllReadyH.nil
                exact AllReadyH.nil
              refine AllReadyH.cons rfl (fun K hK => ?_) ?_
              · rw [if_pos (by rfl)]
                go_simp
                show K _ _
                refine hK.out _ _ (by exact (HBd.out.alloc (Below.size HBd.out) _)) (fun hHeld => ?_)
                clear hK K
                try simp only [Act.put, List.getElem_toArray, List.getElem_cons_succ, List.getElem_cons_zero, List.setIfInBounds_toArray, List.set_cons_zero, List.set_cons_succ]
                obtain ⟨wa1, hwn⟩ : ∃ wa1, wa1 = wd.alloc (.cells #[.int .i64 0, .int .i64 0, .slice none 0 0, .slice none 0 0, .slice none 0 0] 45) := ⟨_, rfl⟩
                have FA1 := Lib.hid (show BoxAt wa1 (wd.heap.size) [.int .i64 0, .int .i64 0, .slice none 0 0, .slice none 0 0, .slice none 0 0] 45 by rw [hwn]; exact BoxAt.newAt wd [.int .i64 0, .int .i64 0, .slice none 0 0, .slice none 0 0, .slice none 0 0] 45 rfl)
                have HBwa1 := Lib.hid (show Below w6.heap.size w6 wa1 by rw [hwn]; exact HBd.out.alloc (Below.size HBd.out) _)
                rw [← hwn] at hHeld ⊢
                clear hwn
                have zwa1 := FA1.out.lt
                refine wpAnyH_ready (rs := [5]) (by kernel_rfl) (by simp) ?_
                refine AllReadyH.cons rfl (fun K hK => ?_) ?_
                · rw [if_pos (by rfl)]
                  go_simp
                  go_at_call 24
                  refine (dagFind_any _ _ _ (HDr.out.below HBwa1.out (fun _ h => h)) (HDK.out.below HBwa1.out (fun _ h => h)) (HT.out.belowS (HBE.out.trans (HBwa1.out.mono (Below.size HBE.out)))) HOK.out).mono ?_
                  rintro e wf ⟨vb, vp, vv, rfl, hvb, hvp, hvv, hb_wf⟩
                  rw [HFi.out.1]
                  obtain ⟨ab, cb, rfl, -, -⟩ := hvb.form
                  obtain ⟨ap, cp, rfl, -, -⟩ := hvp.form
                  obtain ⟨av, cv, rfl, -, -⟩ := hvv.form
                  have HVB := Lib.hid (show RdBB (fun b => w6.heap.size ≤ b ∧ b ≠ wd.heap.size) _ _ (findCrt L dk).h.bs from (hvb.low (by decide)).mono (fun b hb => ⟨by have := hb.1; have := Below.size HBwa1.out; omega, by have h0 := hb.1; have := FA1.out.lt; omega⟩))
                  have HVP := Lib.hid (show RdBB (fun b => w6.heap.size ≤ b ∧ b ≠ wd.heap.size) _ _ (findCrt L dk).h.ps from (hvp.low (by decide)).mono (fun b hb => ⟨by have := hb.1; have := Below.size HBwa1.out; omega, by have h0 := hb.1; have := FA1.out.lt; omega⟩))
                  have HVV := Lib.hid (show RdI (fun b => w6.heap.size ≤ b ∧ b ≠ wd.heap.size) _ _ (findCrt L dk).vs from (hvv.low (by decide)).mono (fun b hb => ⟨by have := hb.1; have := Below.size HBwa1.out; omega, by have h0 := hb.1; have := FA1.out.lt; omega⟩))
                  clear hvb hvp hvv
                  have HBwf := Lib.hid (HBwa1.out.trans (hb_wf.mono (Below.size HBwa1.out)))
                  replace FA1 := Lib.hid (FA1.out.belowS hb_wf)
                  have zwf := hb_wf.size
                  clear hb_wf
                  show K _ _
                  refine hK.out _ _ (by exact HBwf.out) (fun hHeld => ?_)
                  clear hK K
                  try simp only [Act.put, List.getElem_toArray, List.getElem_cons_succ, List.getElem_cons_zero, List.setIfInBounds_toArray, List.set_cons_zero, List.set_cons_succ]
                  refine wpAnyH_take (i := 6) (v := .tuple #[.agg #[.int .i64 (findCrt L dk).h.a, .int .i64 (findCrt L dk).h.r, .slice ab (findCrt L dk).h.bs.length cb, .slice ap (findCrt L dk).h.ps.length cp, .slice av (findCrt L dk).vs.length cv], .int .i64 0]) rfl (by kernel_rfl) (by kernel_rfl) (by kernel_rfl) (fun _ _ _ h => h) (Or.inl ⟨by rfl, fun w hSw => ?_⟩) hHeld ?_
                  · clear hSw; go_simp; all_goals (try first | rfl | omega)
                  try simp only [Act.put, List.getElem_toArray, List.getElem_cons_succ, List.getElem_cons_zero, List.setIfInBounds_toArray, List.set_cons_zero, List.set_cons_succ]
                  refine wpAnyH_take (i := 7) (v := .agg #[.int .i64 (findCrt L dk).h.a, .int .i64 (findCrt L dk).h.r, .slice ab (findCrt L dk).h.bs.length cb, .slice ap (findCrt L dk).h.ps.length cp, .slice av (findCrt L dk).vs.length cv]) rfl (by kernel_rfl) (by kernel_rfl) (by kernel_rfl) (fun _ _ _ h => h) (Or.inl ⟨by rfl, fun w hSw => ?_⟩) hHeld ?_
                  · clear hSw; go_simp; all_goals (try first | rfl | omega)
                  try simp only [Act.put, List.getElem_toArray, List.getElem_cons_succ, List.getElem_cons_zero, List.setIfInBounds_toArray, List.set_cons_zero, List.set_cons_succ]
                  refine wpAnyH_take (i := 8) (v := .int .i64 0) rfl (by kernel_rfl) (by kernel_rfl) (by kernel_rfl) (fun _ _ _ h => h) (Or.inl ⟨by rfl, fun w hSw => ?_⟩) hHeld ?_
                  · clear hSw; go_simp; all_goals (try first | rfl | omega)
                  try simp only [Act.put, List.getElem_toArray, List.getElem_cons_succ, List.getElem_cons_zero, List.setIfInBounds_toArray, List.set_cons_zero, List.set_cons_succ]
                  refine wpAnyH_ready (rs := [10]) (by kernel_rfl) (by simp) ?_
                  refine AllReadyH.cons rfl (fun K hK => ?_) ?_
                  · rw [if_pos (by rfl)]
                    have q0 := FA1.out.cell 0 rfl
                    have q1 := FA1.out.cell 1 rfl
                    have q2 := FA1.out.cell 2 rfl
                    have q3 := FA1.out.cell 3 rfl
                    have q4 := FA1.out.cell 4 rfl
                    have qf0 := FA1.out.free 0
                    have qf1 := FA1.out.free 1
                    have qf2 := FA1.out.free 2
                    have qf3 := FA1.out.free 3
                    have qf4 := FA1.out.free 4
                    have qz := FA1.out.lt
                    go_simp
                    show K _ _
                    refine hK.out _ _ (by exact (((((HBwf.out.setCell (p := ⟨wd.heap.size, 0, none⟩) (by simp; omega) (.int .i64 (findCrt L dk).h.a)).setCell (p := ⟨wd.heap.size, 1, none⟩) (by simp; omega) (.int .i64 (findCrt L dk).h.r)).setCell (p := ⟨wd.heap.size, 2, none⟩) (by simp; omega) (.slice ab (findCrt L dk).h.bs.length cb)).setCell (p := ⟨wd.heap.size, 3, none⟩) (by simp; omega) (.slice ap (findCrt L dk).h.ps.length cp)).setCell (p := ⟨wd.heap.size, 4, none⟩) (by simp; omega) (.slice av (findCrt L dk).vs.length cv))) (fun hHeld => ?_)
                    clear hK K
                    try simp only [Act.put, List.getElem_toArray, List.getElem_cons_succ, List.getElem_cons_zero, List.setIfInBounds_toArray, List.set_cons_zero, List.set_cons_succ]
                    refine wpAnyH_take (i := 11) (v := .int .i64 0) rfl (by kernel_rfl) (by kernel_rfl) (by kernel_rfl) (fun _ _ _ h => h) (Or.inl ⟨by rfl, fun w hSw => ?_⟩) hHeld ?_
                    · clear hSw; go_simp; all_goals (try first | rfl | omega)
                    try simp only [Act.put, List.getElem_toArray, List.getElem_cons_succ, List.getElem_cons_zero, List.setIfInBounds_toArray, List.set_cons_zero, List.set_cons_succ]
                    refine wpAnyH_done (by kernel_rfl) ?_ _
                    obtain ⟨wz, hwz⟩ : ∃ wz, wz = (((((wf.setCell ⟨wd.heap.size, 0, none⟩ (.int .i64 (findCrt L dk).h.a)).setCell ⟨wd.heap.size, 1, none⟩ (.int .i64 (findCrt L dk).h.r)).setCell ⟨wd.heap.size, 2, none⟩ (.slice ab (findCrt L dk).h.bs.length cb)).setCell ⟨wd.heap.size, 3, none⟩ (.slice ap (findCrt L dk).h.ps.length cp)).setCell ⟨wd.heap.size, 4, none⟩ (.slice av (findCrt L dk).vs.length cv)) := ⟨_, rfl⟩
                    have HKz : Keep (fun b => w6.heap.size ≤ b ∧ b ≠ wd.heap.size) wf wz := by rw [hwz]; exact ((((Keep.setCell (by simp) _).trans (Keep.setCell (by simp) _)).trans (Keep.setCell (by simp) _)).trans (Keep.setCell (by simp) _)).trans (Keep.setCell (by simp) _)
                    have HZ := Lib.hid (show BoxAt wz (wd.heap.size) [.int .i64 (findCrt L dk).h.a, .int .i64 (findCrt L dk).h.r, .slice ab (findCrt L dk).h.bs.length cb, .slice ap (findCrt L dk).h.ps.length cp, .slice av (findCrt L dk).vs.length cv] 45 by rw [hwz]; exact (((((FA1.out.set 0 (.int .i64 (findCrt L dk).h.a)).set 1 (.int .i64 (findCrt L dk).h.r)).set 2 (.slice ab (findCrt L dk).h.bs.length cb)).set 3 (.slice ap (findCrt L dk).h.ps.length cp)).set 4 (.slice av (findCrt L dk).vs.length cv)))
                    have HBz := Lib.hid (show Below w6.heap.size w6 wz by rw [hwz]; exact (((((HBwf.out.setCell (p := ⟨wd.heap.size, 0, none⟩) (by simp; omega) (.int .i64 (findCrt L dk).h.a)).setCell (p := ⟨wd.heap.size, 1, none⟩) (by simp; omega) (.int .i64 (findCrt L dk).h.r)).setCell (p := ⟨wd.heap.size, 2, none⟩) (by simp; omega) (.slice ab (findCrt L dk).h.bs.length cb)).setCell (p := ⟨wd.heap.size, 3, none⟩) (by simp; omega) (.slice ap (findCrt L dk).h.ps.length cp)).setCell (p := ⟨wd.heap.size, 4, none⟩) (by simp; omega) (.slice av (findCrt L dk).vs.length cv)))
                    have HVBz := Lib.hid ((HVB.out.keep HKz (fun _ h => h)).mono (G' := fun _ => True) (fun _ _ => trivial))
                    have HVPz := Lib.hid ((HVP.out.keep HKz (fun _ h => h)).mono (G' := fun _ => True) (fun _ _ => trivial))
                    have HVVz := Lib.hid ((HVV.out.keep HKz (fun _ h => h)).mono (G' := fun _ => True) (fun _ _ => trivial))
                    go_wp2
                    rw [← hwz]
                    clear hwz HKz
                    go_meet
                    exact ⟨wd.heap.size, ab, ap, av, cb, cp, cv, rfl, rfl, HZ.out, by omega, HVBz.out, HVPz.out, HVVz.out, HBz.out⟩
                  exact AllReadyH.nil
                exact AllReadyH.nil
              exact AllReadyH.nil
            case rest =>
            obtain ⟨P, ab, ap, av, cb, cp, cv, rfl, rfl, hBP, hPge, hvb, hvp, hvv, hB5⟩ := hcut
            rename World => w7
            have HP := Lib.hid hBP
            have K1 := Lib.hid hvb
            have K2 := Lib.hid hvp
            have K3 := Lib.hid hvv
            clear hBP hvb hvp hvv
            replace HXr := Lib.hid (HXr.out.belowS hB5)
            replace HDr := Lib.hid (HDr.out.below hB5 (fun _ h => h))
            replace HBTr := Lib.hid (HBTr.out.below hB5 (fun _ h => h))
            replace HSr := Lib.hid (HSr.out.below hB5 (fun _ h => h))
            replace HDK := Lib.hid (HDK.out.below hB5 (fun _ h => h))
            replace HBr := Lib.hid (HBr.out.trans (hB5.mono HBr.out.size))
            replace HES := Lib.hid ((hB5.cell (p := ⟨bA, oA + i, none⟩) hbq).trans HES.out)
            replace hbq : bA < w7.heap.size := World.block_lt_of_cell? w7 _ HES.out
            replace HBE := Lib.hid (HB.out.trans (HBr.out.mono HB.out.size))
            clear hB5 K1 K2 K3
            have hzx7 := HXr.out.lt
            have hzp7 := HP.out.lt
            go_upto_region 12 with fail
            refine wp_region_held_drew (S := fun w' => Below w7.heap.size w7 w') (by kernel_rfl) (by exact (Below.refl _ _).drew) (fun hHeld => ?_)
            obtain ⟨wd, hwd⟩ : ∃ wd, wd = w7.drew := ⟨_, rfl⟩
            rw [← hwd] at hHeld ⊢
            have HBd := Lib.hid (show Below w7.heap.size w7 wd from hHeld)
            have zwd : w7.heap.size ≤ wd.heap.size := by rw [hwd]; exact Nat.le_refl _
            clear hwd
            refine wpAnyH_take (i := 0) (v := .agg #[.slice add L.length capd]) rfl (by kernel_rfl) (by kernel_rfl) (by kernel_rfl) (fun _ _ _ h => h) (Or.inl ⟨by rfl, fun w hSw => ?_⟩) hHeld ?_
            · have q0 := (HXr.out.belowS hSw).cell 0 rfl; clear hSw; go_simp
            try simp only [Act.put, List.getElem_toArray, List.getElem_cons_succ, List.getElem_cons_zero, List.setIfInBounds_toArray, List.set_cons_zero, List.set_cons_succ]
            refine wpAnyH_take (i := 1) (v := .slice adb BS.length capb) rfl (by kernel_rfl) (by kernel_rfl) (by kernel_rfl) (fun _ _ _ h => h) (Or.inl ⟨by rfl, fun w hSw => ?_⟩) hHeld ?_
            · clear hSw; go_simp; all_goals (try first | rfl | omega)
            try simp only [Act.put, List.getElem_toArray, List.getElem_cons_succ, List.getElem_cons_zero, List.setIfInBounds_toArray, List.set_cons_zero, List.set_cons_succ]
            refine wpAnyH_take (i := 2) (v := .slice (some ⟨bA, oA, none⟩) DS.length caps) rfl (by kernel_rfl) (by kernel_rfl) (by kernel_rfl) (fun _ _ _ h => h) (Or.inl ⟨by rfl, fun w hSw => ?_⟩) hHeld ?_
            · clear hSw; go_simp; all_goals (try first | rfl | omega)
            try simp only [Act.put, List.getElem_toArray, List.getElem_cons_succ, List.getElem_cons_zero, List.setIfInBounds_toArray, List.set_cons_zero, List.set_cons_succ]
            refine wpAnyH_take (i := 3) (v := .int .i64 (i : Int)) rfl (by kernel_rfl) (by kernel_rfl) (by kernel_rfl) (fun _ _ _ h => h) (Or.inl ⟨by rfl, fun w hSw => ?_⟩) hHeld ?_
            · clear hSw; go_simp; all_goals (try first | rfl | omega)
            try simp only [Act.put, List.getElem_toArray, List.getElem_cons_succ, List.getElem_cons_zero, List.setIfInBounds_toArray, List.set_cons_zero, List.set_cons_succ]
            refine wpAnyH_take (i := 4) (v := .pointer (some ⟨bA, oA + i, none⟩)) rfl (by kernel_rfl) (by kernel_rfl) (by kernel_rfl) (fun _ _ _ h => h) (Or.inl ⟨by rfl, fun w hSw => ?_⟩) hHeld ?_
            · clear hSw; go_simp; all_goals (try first | rfl | omega)
            try simp only [Act.put, List.getElem_toArray, List.getElem_cons_succ, List.getElem_cons_zero, List.setIfInBounds_toArray, List.set_cons_zero, List.set_cons_succ]
            refine wpAnyH_take (i := 5) (v := .slice adk dk.length capk) rfl (by kernel_rfl) (by kernel_rfl) (by kernel_rfl) (fun _ _ _ h => h) (Or.inl ⟨by rfl, fun w hSw => ?_⟩) hHeld ?_
            · have q3 := (Below.cell hSw (p := ⟨bA, oA + i, none⟩) hbq).trans HES.out; clear hSw; go_simp
            try simp only [Act.put, List.getElem_toArray, List.getElem_cons_succ, List.getElem_cons_zero, List.setIfInBounds_toArray, List.set_cons_zero, List.set_cons_succ]
            refine wpAnyH_ready (rs := [6]) (by kernel_rfl) (by simp) ?_
            refine AllReadyH.cons rfl (fun K hK => ?_) ?_
            · rw [if_pos (by rfl)]
              go_simp
              go_at_call 25
              refine (oBlock_any _ _ _ _ (HDr.out.below HBd.out (fun _ h => h)) (HBTr.out.below HBd.out (fun _ h => h)) (HDK.out.below HBd.out (fun _ h => h)) (HT.out.belowS (HBE.out.trans (HBd.out.mono (Below.size HBE.out)))) HOK.out).mono ?_
              rintro e wf ⟨vb, MB, rfl, hMB, hRB, hb_wf⟩
              obtain ⟨adq, capq, rfl, hcq, hmq⟩ := hRB.form
              have HMB := Lib.hid hMB
              clear hMB hRB
              have HBwf := Lib.hid (HBd.out.trans (hb_wf.mono (Below.size HBd.out)))
              have zwf := hb_wf.size
              clear hb_wf
              show K _ _
              refine hK.out _ _ (by exact HBwf.out) (fun hHeld => ?_)
              clear hK K
              try simp only [Act.put, List.getElem_toArray, List.getElem_cons_succ, List.getElem_cons_zero, List.setIfInBounds_toArray, List.set_cons_zero, List.set_cons_succ]
              refine wpAnyH_take (i := 7) (v := .tuple #[.slice adq (blkOut L BS dk MB).length capq, .int .i64 (blkCode L BS dk MB)]) rfl (by kernel_rfl) (by kernel_rfl) (by kernel_rfl) (fun _ _ _ h => h) (Or.inl ⟨by rfl, fun w hSw => ?_⟩) hHeld ?_
              · clear hSw; go_simp; all_goals (try first | rfl | omega)
              try simp only [Act.put, List.getElem_toArray, List.getElem_cons_succ, List.getElem_cons_zero, List.setIfInBounds_toArray, List.set_cons_zero, List.set_cons_succ]
              refine wpAnyH_take (i := 8) (v := .slice adq (blkOut L BS dk MB).length capq) rfl (by kernel_rfl) (by kernel_rfl) (by kernel_rfl) (fun _ _ _ h => h) (Or.inl ⟨by rfl, fun w hSw => ?_⟩) hHeld ?_
              · clear hSw; go_simp; all_goals (try first | rfl | omega)
              try simp only [Act.put, List.getElem_toArray, List.getElem_cons_succ, List.getElem_cons_zero, List.setIfInBounds_toArray, List.set_cons_zero, List.set_cons_succ]
              refine wpAnyH_take (i := 9) (v := .int .i64 (blkCode L BS dk MB)) rfl (by kernel_rfl) (by kernel_rfl) (by kernel_rfl) (fun _ _ _ h => h) (Or.inl ⟨by rfl, fun w hSw => ?_⟩) hHeld ?_
              · clear hSw; go_simp; all_goals (try first | rfl | omega)
              try simp only [Act.put, List.getElem_toArray, List.getElem_cons_succ, List.getElem_cons_zero, List.setIfInBounds_toArray, List.set_cons_zero, List.set_cons_succ]
              refine wpAnyH_take (i := 10) (v := .slice adq (blkOut L BS dk MB).length capq) rfl (by kernel_rfl) (by kernel_rfl) (by kernel_rfl) (fun _ _ _ h => h) (Or.inl ⟨by rfl, fun w hSw => ?_⟩) hHeld ?_
              · clear hSw; go_simp; all_goals (try first | rfl | omega)
              try simp only [Act.put, List.getElem_toArray, List.getElem_cons_succ, List.getElem_cons_zero, List.setIfInBounds_toArray, List.set_cons_zero, List.set_cons_succ]
              refine wpAnyH_take (i := 11) (v := .int .i64 (blkCode L BS dk MB)) rfl (by kernel_rfl) (by kernel_rfl) (by kernel_rfl) (fun _ _ _ h => h) (Or.inl ⟨by rfl, fun w hSw => ?_⟩) hHeld ?_
              · clear hSw; go_simp; all_goals (try first | rfl | omega)
              try simp only [Act.put, List.getElem_toArray, List.getElem_cons_succ, List.getElem_cons_zero, List.setIfInBounds_toArray, List.set_cons_zero, List.set_cons_succ]
              refine wpAnyH_done (by kernel_rfl) ?_ _
              have HPf := Lib.hid (HP.out.belowS HBwf.out)
              have HBF := Lib.hid (HBr.out.trans (HBwf.out.mono HBr.out.size))
              have HBEf := Lib.hid (HB.out.trans (HBF.out.mono HB.out.size))
              have HCB := Lib.hid (show Clr l → blkCode L BS dk MB = 0 ∧ ((findCrt L dk).h.bs.length = 0 → (blkOut L BS dk MB).length = 0) from fun h => by
                obtain ⟨h1, h2, h3⟩ := HCLR.out h
                have h4 := HMB.out HFI.out h2
                have h5 := h3 _ _ HFI.out h4
                refine ⟨h5.1, fun h6 => ?_⟩
                obtain ⟨hl, h0⟩ := HP1.out.2 h1
                have e := h4.one hl h0
                have h7 : L[placeP L dk].h.bs = [] := by rw [← HFC.out]; exact List.eq_nil_of_length_eq_zero h6
                rw [h5.2, e]
                unfold blkDs
                rw [List.flatMap_cons, getD_at hl, h7]
                rfl)
              clear hHeld HBwf HBd zwd zwf HFC
              generalize blkCode L BS dk MB = cB at *
              generalize (blkOut L BS dk MB).length = nB at *
              generalize findCrt L dk = F at *
              have y2 := HPf.out.cell 2 rfl
              by_cases hz : cB = 0
              · subst hz
                by_cases hb0 : F.h.bs.length = 0
                · have v1 : ((F.h.bs.length : Int) == 0) = true := by rw [beq_iff_eq]; omega
                  by_cases hn0 : 0 < nB
                  · have v2 : (0 : Int) < (nB : Int) := by omega
                    go_wp2
                    go_ret
                    first | exact ⟨false, rfl, fun hn => (by have := (HCB.out hn).2 hb0; omega), HBEf.out⟩ | exact .inl ⟨rfl, fun hn => (by have := (HCB.out hn).2 hb0; omega), HBEf.out⟩
                  · have v2 : ¬ (0 : Int) < (nB : Int) := by omega
                    clear hb0
                    go_wp2
                    go_roundw
                    case rel => exact ⟨i + 1, by omega, by go_num, HBF.out⟩
                    case measure => simp [intOf]; omega
                · have v1 : ((F.h.bs.length : Int) == 0) = false := by rw [beq_eq_false_iff_ne]; omega
                  clear hb0
                  go_wp2
                  go_roundw
                  case rel => exact ⟨i + 1, by omega, by go_num, HBF.out⟩
                  case measure => simp [intOf]; omega
              · have hne : (cB != 0) = true := by simpa using hz
                go_wp2
                go_ret
                first | exact ⟨false, rfl, fun hn => absurd (HCB.out hn).1 hz, HBEf.out⟩ | exact .inl ⟨rfl, fun hn => absurd (HCB.out hn).1 hz, HBEf.out⟩
            exact AllReadyH.nil
          exact AllReadyH.nil
        · have u2 : ((M.length : Int) != 1) = true := by simp; omega
          refine wp_region_held_drew (S := fun w' => Below w5.heap.size w5 w') (by kernel_rfl) (by exact (Below.refl _ _).drew) (fun hHeld => ?_)
          obtain ⟨wd, hwd⟩ : ∃ wd, wd = w5.drew := ⟨_, rfl⟩
          rw [← hwd] at hHeld ⊢
          have HBd := Lib.hid (show Below w5.heap.size w5 wd from hHeld)
          have zwd : w5.heap.size ≤ wd.heap.size := by rw [hwd]; exact Nat.le_refl _
          clear hwd
          refine wpAnyH_take (i := 0) (v := .int .i64 0) rfl (by kernel_rfl) (by kernel_rfl) (by kernel_rfl) (fun _ _ _ h => h) (Or.inl ⟨by rfl, fun w hSw => ?_⟩) hHeld ?_
          · clear hSw; go_simp; all_goals (try first | rfl | omega)
          try simp only [Act.put, List.getElem_toArray, List.getElem_cons_succ, List.getElem_cons_zero, List.setIfInBounds_toArray, List.set_cons_zero, List.set_cons_succ]
          refine wpAnyH_take (i := 1) (v := .bool false) rfl (by kernel_rfl) (by kernel_rfl) (by kernel_rfl) (fun _ _ _ h => h) (Or.inl ⟨by rfl, fun w hSw => ?_⟩) hHeld ?_
          · clear hSw; go_simp; all_goals (try first | rfl | omega)
          try simp only [Act.put, List.getElem_toArray, List.getElem_cons_succ, List.getElem_cons_zero, List.setIfInBounds_toArray, List.set_cons_zero, List.set_cons_succ]
          refine wpAnyH_take (i := 2) (v := .bool false) rfl (by kernel_rfl) (by kernel_rfl) (by kernel_rfl) (fun _ _ _ h => h) (Or.inl ⟨by rfl, fun w hSw => ?_⟩) hHeld ?_
          · clear hSw; go_simp; all_goals (try first | rfl | omega)
          try simp only [Act.put, List.getElem_toArray, List.getElem_cons_succ, List.getElem_cons_zero, List.setIfInBounds_toArray, List.set_cons_zero, List.set_cons_succ]
          refine wpAnyH_take (i := 3) (v := .slice (some ⟨bh, oh, none⟩) M.length ch) rfl (by kernel_rfl) (by kernel_rfl) (by kernel_rfl) (fun _ _ _ h => h) (Or.inl ⟨by rfl, fun w hSw => ?_⟩) hHeld ?_
          · clear hSw; go_simp; all_goals (try first | rfl | omega)
          try simp only [Act.put, List.getElem_toArray, List.getElem_cons_succ, List.getElem_cons_zero, List.setIfInBounds_toArray, List.set_cons_zero, List.set_cons_succ]
          refine wpAnyH_take (i := 4) (v := .int .i64 (M.length : Int)) rfl (by kernel_rfl) (by kernel_rfl) (by kernel_rfl) (fun _ _ _ h => h) (Or.inl ⟨by rfl, fun w hSw => ?_⟩) hHeld ?_
          · clear hSw; go_simp; all_goals (try first | rfl | omega)
          try simp only [Act.put, List.getElem_toArray, List.getElem_cons_succ, List.getElem_cons_zero, List.setIfInBounds_toArray, List.set_cons_zero, List.set_cons_succ]
          refine wpAnyH_take (i := 5) (v := .bool true) rfl (by kernel_rfl) (by kernel_rfl) (by kernel_rfl) (fun _ _ _ h => h) (Or.inl ⟨by rfl, fun w hSw => ?_⟩) hHeld ?_
          · clear hSw; go_simp; all_goals (try first | rfl | omega)
          try simp only [Act.put, List.getElem_toArray, List.getElem_cons_succ, List.getElem_cons_zero, List.setIfInBounds_toArray, List.set_cons_zero, List.set_cons_succ]
          refine wpAnyH_take (i := 6) (v := .bool true) rfl (by kernel_rfl) (by kernel_rfl) (by kernel_rfl) (fun _ _ _ h => h) (Or.inl ⟨by rfl, fun w hSw => ?_⟩) hHeld ?_
          · clear hSw; go_simp; all_goals (try first | rfl | omega)
          try simp only [Act.put, List.getElem_toArray, List.getElem_cons_succ, List.getElem_cons_zero, List.setIfInBounds_toArray, List.set_cons_zero, List.set_cons_succ]
          refine wpAnyH_take (i := 7) (v := .bool true) rfl (by kernel_rfl) (by kernel_rfl) (by kernel_rfl) (fun _ _ _ h => h) (Or.inl ⟨by rfl, fun w hSw => ?_⟩) hHeld ?_
          · clear hSw; go_simp; all_goals (try first | rfl | omega)
          try simp only [Act.put, List.getElem_toArray, List.getElem_cons_succ, List.getElem_cons_zero, List.setIfInBounds_toArray, List.set_cons_zero, List.set_cons_succ]
          refine wpAnyH_take (i := 8) (v := undef) rfl (by kernel_rfl) (by kernel_rfl) (by kernel_rfl) (fun _ _ _ h => h) (Or.inr ⟨by rfl, rfl⟩) hHeld ?_
          try simp only [Act.put, List.getElem_toArray, List.getElem_cons_succ, List.getElem_cons_zero, List.setIfInBounds_toArray, List.set_cons_zero, List.set_cons_succ]
          refine wpAnyH_take (i := 9) (v := undef) rfl (by kernel_rfl) (by kernel_rfl) (by kernel_rfl) (fun _ _ _ h => h) (Or.inr ⟨by rfl, rfl⟩) hHeld ?_
          try simp only [Act.put, List.getElem_toArray, List.getElem_cons_succ, List.getElem_cons_zero, List.setIfInBounds_toArray, List.set_cons_zero, List.set_cons_succ]
          refine wpAnyH_take (i := 10) (v := undef) rfl (by kernel_rfl) (by kernel_rfl) (by kernel_rfl) (fun _ _ _ h => h) (Or.inr ⟨by rfl, rfl⟩) hHeld ?_
          try simp only [Act.put, List.getElem_toArray, List.getElem_cons_succ, List.getElem_cons_zero, List.setIfInBounds_toArray, List.set_cons_zero, List.set_cons_succ]
          refine wpAnyH_take (i := 11) (v := undef) rfl (by kernel_rfl) (by kernel_rfl) (by kernel_rfl) (fun _ _ _ h => h) (Or.inr ⟨by rfl, rfl⟩) hHeld ?_
          try simp only [Act.put, List.getElem_toArray, List.getElem_cons_succ, List.getElem_cons_zero, List.setIfInBounds_toArray, List.set_cons_zero, List.set_cons_succ]
          refine wpAnyH_take (i := 12) (v := undef) rfl (by kernel_rfl) (by kernel_rfl) (by kernel_rfl) (fun _ _ _ h => h) (Or.inr ⟨by rfl, rfl⟩) hHeld ?_
          try simp only [Act.put, List.getElem_toArray, List.getElem_cons_succ, List.getElem_cons_zero, List.setIfInBounds_toArray, List.set_cons_zero, List.set_cons_succ]
          refine wpAnyH_take (i := 13) (v := undef) rfl (by kernel_rfl) (by kernel_rfl) (by kernel_rfl) (fun _ _ _ h => h) (Or.inr ⟨by rfl, rfl⟩) hHeld ?_
          try simp only [Act.put, List.getElem_toArray, List.getElem_cons_succ, List.getElem_cons_zero, List.setIfInBounds_toArray, List.set_cons_zero, List.set_cons_succ]
          refine wpAnyH_take (i := 14) (v := undef) rfl (by kernel_rfl) (by kernel_rfl) (by kernel_rfl) (fun _ _ _ h => h) (Or.inr ⟨by rfl, rfl⟩) hHeld ?_
          try simp only [Act.put, List.getElem_toArray, List.getElem_cons_succ, List.getElem_cons_zero, List.setIfInBounds_toArray, List.set_cons_zero, List.set_cons_succ]
          refine wpAnyH_take (i := 15) (v := undef) rfl (by kernel_rfl) (by kernel_rfl) (by kernel_rfl) (fun _ _ _ h => h) (Or.inr ⟨by rfl, rfl⟩) hHeld ?_
          try simp only [Act.put, List.getElem_toArray, List.getElem_cons_succ, List.getElem_cons_zero, List.setIfInBounds_toArray, List.set_cons_zero, List.set_cons_succ]
          refine wpAnyH_take (i := 16) (v := undef) rfl (by kernel_rfl) (by kernel_rfl) (by kernel_rfl) (fun _ _ _ h => h) (Or.inr ⟨by rfl, rfl⟩) hHeld ?_
          try simp only [Act.put, List.getElem_toArray, List.getElem_cons_succ, List.getElem_cons_zero, List.setIfInBounds_toArray, List.set_cons_zero, List.set_cons_succ]
          refine wpAnyH_take (i := 17) (v := .bool true) rfl (by kernel_rfl) (by kernel_rfl) (by kernel_rfl) (fun _ _ _ h => h) (Or.inl ⟨by rfl, fun w hSw => ?_⟩) hHeld ?_
          · clear hSw; go_simp; all_goals (try first | rfl | omega)
          try simp only [Act.put, List.getElem_toArray, List.getElem_cons_succ, List.getElem_cons_zero, List.setIfInBounds_toArray, List.set_cons_zero, List.set_cons_succ]
          refine wpAnyH_done (by kernel_rfl) ?_ _
          have HBG := Lib.hid (HBE.out.trans (HBd.out.mono HBE.out.size))
          clear hHeld
          go_wp2
          go_ret
          exact ⟨false, rfl, fun hn => absurd (HM1.out hn).1 hm1, HBG.out⟩
      exact AllReadyH.nil
    · obtain rfl : i = DS.length := by omega
      have t1 : ¬ (DS.length : Int) < (DS.length : Int) := by omega
      go_wp2
      go_ret
      exact .inr ⟨rfl, HBE.out⟩
end Go.Proofs.YtpfmmncnhlfdgaaDoor
namespace Go.Proofs.YtpfmmncnhlfdgaaDoor
open Go Go.RowKit
set_option maxRecDepth 100000 in
set_option maxHeartbeats 8000000 in
theorem historyOne_walk (v : Value) (l : List Stp) (w : World) (hv : RdS RStp (fun _ => True) w v l) (hz : l.length * 24 ≤ reachBytes) (ht : Tabs w) :
    Calls Tryd.prog 3 #[v] w fun e w' => e = .returned (.bool true) ∧ Below w.heap.size w w' := by
  go_enter Tryd.func3, Tryd.ntmps3
  go_wp2_with fail
  refine (historyOne_any _ l _ hv hz ht).mono ?_
  rintro e w1 ⟨b, rfl, hn, hb1⟩
  have HN := Lib.hid hn
  clear hn
  cases b with
  | true =>
    go_wp2
    go_ret
    exact ⟨rfl, hb1⟩
  | false =>
    have hg : gsumB l = true := by
      by_cases q : gsumB l = true
      · exact q
      · have := HN.out (gsum_clr (by simpa using q)); cases this
    go_wp2_with fail
    refine (grownSum_any _ _ (hv.below hb1 (fun _ h => h)) hz (ht.belowS hb1)).mono ?_
    rintro e w2 ⟨rfl, hb2⟩
    rw [hg]
    go_wp2
    go_ret
    exact ⟨rfl, hb1.trans (hb2.mono hb1.size)⟩
end Go.Proofs.YtpfmmncnhlfdgaaDoor
