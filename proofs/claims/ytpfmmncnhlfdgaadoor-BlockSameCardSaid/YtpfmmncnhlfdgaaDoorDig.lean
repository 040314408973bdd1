/- blake.sum: what it computes. -/
import Derived.Test.YtpfmmncnhlfdgaaDoorTake
import Derived.Test.YtpfmmncnhlfdgaaDoorSome0
import Derived.Test.YtpfmmncnhlfdgaaDoorBas
set_option linter.unusedVariables false
set_option linter.unusedSimpArgs false
namespace Go.Proofs.YtpfmmncnhlfdgaaDoor
open Go Go.RowKit

/-- What a state has taken in when the bytes are at their end. -/
def absorb (s : List Int) (l : Bytes) (m : Int) : List Int :=
  if h : 64 < l.length then absorb (takeL s (l.take 64) (m + 64) false) (l.drop 64) (m + 64) else takeL s l (m + l.length) true
termination_by l.length
decreasing_by simp; omega
theorem absorb_more {s : List Int} {l : Bytes} {m : Int} (h : 64 < l.length) : absorb s l m = absorb (takeL s (l.take 64) (m + 64) false) (l.drop 64) (m + 64) := by rw [absorb, dif_pos h]
theorem absorb_end {s : List Int} {l : Bytes} {m : Int} (h : ¬ 64 < l.length) : absorb s l m = takeL s l (m + l.length) true := by rw [absorb, dif_neg h]
def startZ : List Int := firstZ.set 0 (bits BinOp.xor IntKind.u32 1779033703 16842784)
def wordB (x : Int) : Bytes := [byteZ x, byteZ (x / 256), byteZ (x / 65536), byteZ (x / 16777216)]
def outTo (s : List Int) : Nat → Bytes
  | 0 => []
  | k + 1 => outTo s k ++ wordB (s.getD k 0)
theorem outTo_length (s : List Int) (k : Nat) : (outTo s k).length = 4 * k := by
  induction k with
  | zero => rfl
  | succ k ih => rw [outTo, List.length_append, ih]; simp [wordB]; omega
/-- The digest of bytes. -/
def sumL (l : Bytes) : Bytes := outTo (absorb startZ l 0) 8
theorem sumL_length (l : Bytes) : (sumL l).length = 32 := outTo_length _ _
theorem RdS.sliceD {α : Type} {R : Rel α} {G : Nat → Prop} {w : World} {l : List α} {ad : Option Addr} {m cap : Nat} (h : RdS R G w (.slice ad m cap) l) (n : Nat) (hn : n ≤ l.length) (hc : ¬ cap = n) :
    RdS R G w (.slice (ad.map (·.add (n * R.size))) (m - n) (cap - n)) (l.drop n) := by
  obtain ⟨h0, h1, h2, hn0⟩ := h.len
  refine ⟨_, _, by rw [List.length_drop, h0], by rw [List.length_drop]; omega, by omega, fun e => ?_, fun j x hx => ?_⟩
  · simp at e; have := hn0 e; omega
  · rw [List.getElem?_drop] at hx
    have hj : n + j < l.length := by
      rcases Nat.lt_or_ge (n + j) l.length with h | h
      · exact h
      · simp [List.getElem?_eq_none h] at hx
    obtain ⟨b, o, cs, rfl, hb, hc, hr⟩ := h.at (n + j) hj
    have hx' : x = l[n + j]'hj := by rw [List.getElem?_eq_getElem hj] at hx; exact (Option.some.inj hx).symm
    subst hx'
    refine ⟨b, o + n * R.size, cs, ?_, hb, fun t c ht => ?_, hr⟩
    · unfold Addr.add
      by_cases h0 : n * R.size = 0
      · simp [h0]
      · simp [h0]
    · have := hc t c ht
      rw [show o + n * R.size + (j * R.size + t) = o + ((n + j) * R.size + t) by rw [Nat.add_mul]; omega]; exact this
theorem list8 {s : List Int} (h : s.length = 8) : ∃ s0 s1 s2 s3 s4 s5 s6 s7, s = [s0, s1, s2, s3, s4, s5, s6, s7] := by
  match s, h with
  | [s0, s1, s2, s3, s4, s5, s6, s7], _ => exact ⟨_, _, _, _, _, _, _, _, rfl⟩
theorem take_list {G : Nat → Prop} (S : Nat) (s : List Int) (h8 : s.length = 8) (TS : TypeId) (ad : Option Addr) (cap : Nat) (l : List UInt8) (n : Nat) (hn : l.length = n) (many : Int) (last : Bool) (w : World) (hS : BoxAt w S (s.map U32) TS) (hl : RdB G w (.slice ad n cap) l) (hlen : n ≤ 64) (ht : Tabs w) :
    Calls Tryd.prog 82 #[.pointer (some ⟨S, 0, none⟩), .slice ad n cap, .int .i64 many, .bool last] w fun e w' => e = .returned (.tuple #[]) ∧ BoxAt w' S ((takeL s l many last).map U32) TS ∧ Below S w w' := by
  subst hn
  obtain ⟨s0, s1, s2, s3, s4, s5, s6, s7, rfl⟩ := list8 h8
  exact take_any S s0 s1 s2 s3 s4 s5 s6 s7 TS ad cap l many last w hS hl hlen ht
/-- An element of an array of numbers that is a value. -/
theorem wpList_index_num {P : Program} {w : World} {ops : Array Oper} {rest : List Oper} {o : Oper} {a : Act} {Q : Exit → Act → World → Prop} (hgd : o.guard = none) (t : TypeId) (x ix : Operand) (ho : o.op = .index t x ix)
    (f : Int → Value) (zs : List Int) (i : Nat) (hx : a.eval x = .agg (zs.map f).toArray) (hix : a.eval ix = .int .i64 (i : Int)) {n : Nat} {e : TypeId} (hu : P.underlying t = some (.array n e)) (hi : i < n) (hz : i < zs.length) {k : IntKind} (he : P.underlying e = some (.int k)) (hs : (P.info? e).map (·.size) = some 1)
    (h : wpList P ops Q rest (a.put o.dst (f (zs.getD i 0))) w) : wpList P ops Q (o :: rest) a w := by
  refine wpList_plain hgd fun K hK => ?_
  have hq : ∃ q, P.info? e = some q ∧ q.size = 1 := by
    cases hq : P.info? e with
    | none => simp [hq] at hs
    | some q => exact ⟨q, rfl, by simpa [hq] using hs⟩
  obtain ⟨q, hq, hq1⟩ := hq
  have hi' : (i : Int) < (n : Int) := by omega
  have hrun : (Instr.index t (.agg (zs.map f).toArray) (.int .i64 (i : Int))).run P w = .ok (f (zs.getD i 0)) w := by
    simp [Instr.index, asIntOf, run_underlying hu, part, isAgg, run_underlying he, sizeOf, typeInfo, hq, hq1, hi, hz]
  unfold Oper.wp execOp
  simp only [ho, hx, hix, Sem.run_bind, hrun, Result.andThen_ok]
  exact hK _ _ h
def lenOf : Value → Nat
  | .slice _ n _ => n
  | _ => 0
set_option maxRecDepth 100000 in
set_option maxHeartbeats 8000000 in
theorem sum_any {G : Nat → Prop} (ad : Option Addr) (cap : Nat) (l : Bytes) (w : World) (hl : RdB G w (.slice ad l.length cap) l) (ht : Tabs w) :
    Calls Tryd.prog 71 #[.slice ad l.length cap] w fun e w' => ∃ v', e = .returned v' ∧ w'.ownsRow w.heap.size 5 1 v' 32 (byteVs (sumL l)) ∧ Below w.heap.size w w' := by
  obtain ⟨TF, hF⟩ := ht.first
  have HF := Lib.hid hF
  have HT := Lib.hid ht
  have zT := ht.size
  have HR := Lib.hid (hl.low (by decide))
  obtain ⟨-, hc1, hc2, hc0⟩ := hl.len
  have HSUM := Lib.hid (show sumL l = outTo (absorb startZ l 0) 8 from rfl)
  have HST := Lib.hid (show startZ = firstZ.set 0 (bits BinOp.xor IntKind.u32 1779033703 16842784) from rfl)
  unfold maxLen at hc2
  clear hF ht hl hc0
  go_enter Tryd.func71, Tryd.ntmps71
  go_upto_region 2 with (first
    | (refine wpList_load_box rfl 116 _ rfl 0 rfl (firstZ.map U32) _ HF.out Tryd.underlying116 rfl (by kernel_rfl) ?_)
    | (refine wpList_store_new rfl 117 _ _ rfl (firstZ.map U32) 117 ([0, 0, 0, 0, 0, 0, 0, 0].map U32) rfl rfl (by kernel_rfl) rfl rfl ?_; intro w1 hb1 hB1 hs1; have HB1 := Lib.hid hB1; have HX1 := Lib.hid hb1; have z1 := hs1; clear hb1 hB1 hs1))
  have c0 : w1.cell? ⟨w.heap.size, 0, none⟩ = some (.int .u32 1779033703) := HX1.out.cell 0 rfl
  have f0 := HX1.out.free 0
  have HX2 := Lib.hid (show BoxAt (w1.setCell ⟨w.heap.size, 0, none⟩ (U32 (bits BinOp.xor IntKind.u32 1779033703 16842784))) w.heap.size (startZ.map U32) 117 by rw [HST.out]; exact HX1.out.ats 0 _)
  have HB2 := Lib.hid (HB1.out.setCell (p := ⟨w.heap.size, 0, none⟩) (Nat.le_refl _) (U32 (bits BinOp.xor IntKind.u32 1779033703 16842784)))
  have HR2 := Lib.hid (HR.out.keep (G' := fun b => b < w.heap.size) (Keep.below HB2.out) (fun _ h => h.2))
  clear HF HX1 HB1 HR
  go_upto_region 3 with fail
  generalize w1.setCell ⟨w.heap.size, 0, none⟩ (.int .u32 (bits BinOp.xor IntKind.u32 1779033703 16842784)) = w2 at *
  clear c0 f0
  go_wp2_with fail
  go_loopw [0, 4] (fun vb vm wr => ∃ (ad' : Option Addr) (cap' : Nat) (l' : Bytes) (s : List Int) (m : Int), vb = .slice ad' l'.length cap' ∧ vm = .int .i64 m ∧ RdB (fun b => b < w.heap.size) wr (.slice ad' l'.length cap') l' ∧ 0 ≤ m ∧ m + (l'.length : Int) = (l.length : Int) ∧ s.length = 8 ∧ BoxAt wr w.heap.size (s.map U32) 117 ∧ Below w.heap.size w wr ∧ absorb s l' m = absorb startZ l 0) (fun vb _ _ => lenOf vb)
  case atStart => exact ⟨ad, cap, l, startZ, 0, rfl, rfl, HR2.out, Int.le_refl _, by omega, rfl, HX2.out, HB2.out, rfl⟩
  case round =>
    clear HX2 HB2 HR2
    obtain ⟨ad', cap', l', s, m, rfl, rfl, hR, hm0, hm1, hs8, hX, hB, hA⟩ := hrel
    have HX := Lib.hid hX
    have HB := Lib.hid hB
    have HRl := Lib.hid hR
    have HA := Lib.hid hA
    obtain ⟨-, hd1, hd2, -⟩ := hR.len
    have zr := hX.lt
    have hT := HT.out.below hB (by omega)
    have HTr := Lib.hid hT
    unfold maxLen at hd2
    by_cases hlt : 64 < l'.length
    · have i1 : (64 : Int) < (l'.length : Int) := by omega
      have i2 : (64 : Int) ≤ (cap' : Int) := by omega
      have i3 : (64 : Int) ≤ (l'.length : Int) := by omega
      have e1 : IntKind.i64.wrap (m + 64) = m + 64 := IntWalk.i64_in _ (by omega)
      have hcap : ¬ cap' = 64 := by omega
      have HTK := Lib.hid (hR.take 64 (by omega))
      have HDR := Lib.hid (hR.sliceD 64 (by omega) hcap)
      have HMO := Lib.hid (absorb_more (s := s) (m := m) hlt)
      clear hX hB hR hA hT
      go_wp2_with fail
      refine (take_list w.heap.size s hs8 _ ad' cap' (l'.take 64) 64 (by simp; omega) (m + 64) false wr HX.out HTK.out (Nat.le_refl _) HTr.out).mono ?_
      rintro e w3 ⟨rfl, hX3, hB3⟩
      have HX3 := Lib.hid hX3
      have HB3 := Lib.hid (HB.out.trans hB3)
      have HD3 := Lib.hid (HDR.out.keep (G' := fun b => b < w.heap.size) (Keep.belowB hB3 (fun _ h => h)) (fun _ h => h))
      clear hX3 hB3 HX HB HTK HDR
      go_wp2_with fail
      go_roundw
      case rel =>
        have hl : (l'.drop 64).length = l'.length - 64 := by simp
        exact ⟨_, _, l'.drop 64, takeL s (l'.take 64) (m + 64) false, m + 64, by rw [hl], rfl, by rw [hl]; exact HD3.out, by omega, by rw [hl]; omega, by rw [takeL_length, hs8], HX3.out, HB3.out, by rw [← HMO.out]; exact HA.out⟩
      case measure => simp [lenOf]; omega
    · have i1 : ¬ (64 : Int) < (l'.length : Int) := by omega
      have e1 : IntKind.i64.wrap (m + (l'.length : Int)) = m + (l'.length : Int) := IntWalk.i64_in _ (by omega)
      have HMO := Lib.hid (show absorb s l' m = takeL s l' (l.length : Int) true by rw [← hm1]; exact absorb_end hlt)
      clear hX hB hA hT
      go_wp2_with fail
      refine (take_list w.heap.size s hs8 _ ad' cap' l' l'.length rfl (l.length : Int) true wr HX.out HRl.out (by omega) HTr.out).mono ?_
      rintro e w3 ⟨rfl, hX3, hB3⟩
      have HX3 := Lib.hid hX3
      have HB3 := Lib.hid (HB.out.trans hB3)
      have HZ := Lib.hid (show sumL l = outTo (takeL s l' (l.length : Int) true) 8 by rw [HSUM.out, ← HA.out, HMO.out])
      have hz8 : (takeL s l' (l.length : Int) true).length = 8 := by rw [takeL_length, hs8]
      generalize takeL s l' (l.length : Int) true = z at *
      clear hX3 hB3 HX HB hR HRl
      go_wp2_with (refine wpList_load_box rfl 117 _ rfl w.heap.size rfl (z.map U32) 117 HX3.out Tryd.underlying117 rfl (by rw [show (z.map U32).toArray.size = 8 by simp [hz8]]; kernel_rfl) ?_)
      go_loopw [5, 31] (fun v i wq => ∃ k : Nat, k ≤ 8 ∧ i = .int .i64 k ∧ wq.ownsRow w.heap.size 5 1 v (4 * k) (byteVs (outTo z k)) ∧ Below w.heap.size w wq) (fun _ i _ => 8 - (intOf i).toNat)
      case atStart => exact ⟨0, Nat.zero_le _, rfl, World.ownsRow_nil _ _ _ _, HB3.out⟩
      case round =>
        clear HX3 HB3
        obtain ⟨k, hk, rfl, hown, hB⟩ := hrel
        have HO := Lib.hid hown
        clear hown
        have hz := hB.size
        by_cases hlt : k < 8
        · have j1 : (k : Int) < 8 := by omega
          have HN := Lib.hid (show outTo z (k + 1) = outTo z k ++ wordB (z.getD k 0) from rfl)
          generalize hx : z.getD k 0 = x at *
          have HXk := Lib.hid hx
          clear hx
          go_upto_region 13 with (refine wpList_index_num rfl 117 _ _ rfl (Value.int .u32) z k rfl rfl Tryd.underlying117 hlt (by omega) Tryd.underlying115 (by kernel_rfl) ?_; rw [HXk.out])
          go_wp2_with (at_builtin; refine wpList_append_sl rfl _ _ 39 rfl elemB w.heap.size _ rfl (4 * k) (byteVs (outTo z k)) (HO.out.alloc _) _ rfl 4 [.int .u8 (x % 256), .int .u8 (x / 256 % 256), .int .u8 (x / 65536 % 256), .int .u8 (x / 16777216 % 256)] (by exact (BoxAt.new wr [_, _, _, _] _).slCellsN rfl) (by simp [Value.oneCell']) (by unfold maxLen; omega) (by omega) (by simp; omega) ?_; intro v' w' hown' hgr)
          have hB' : Below w.heap.size w w' := (hB.alloc hz _).grown hgr (by simp; omega) (ownBlock_ge HO.out)
          go_roundw
          case rel => exact ⟨k + 1, by omega, by go_num, by rw [HN.out]; simpa [byteVs, wordB, byteZ_toNat, Nat.mul_add] using hown', hB'⟩
          case measure => simp [intOf]; omega
        · obtain rfl : k = 8 := by omega
          go_wp2
          go_ret
          exact ⟨_, rfl, by rw [HZ.out]; exact HO.out, hB⟩
end Go.Proofs.YtpfmmncnhlfdgaaDoor
