/- (*state).take: what it computes. -/
import Derived.Test.YtpfmmncnhlfdgaaDoorBlk
import Derived.Test.YtpfmmncnhlfdgaaDoorBas
import Derived.Deep.CutBlock
import Derived.Deep.RegionLaw
set_option linter.unusedVariables false
set_option linter.unusedSimpArgs false
namespace Go.Proofs.YtpfmmncnhlfdgaaDoor
open Go Go.RowKit

def zero16 : List Int := [0, 0, 0, 0, 0, 0, 0, 0, 0, 0, 0, 0, 0, 0, 0, 0]
def orByte (x : Int) (c : UInt8) (k : Nat) : Int := bits BinOp.or IntKind.u32 x ((c.toNat : Int) % 4294967296 * 2 ^ (k % 4 * 8) % 4294967296)
def wordsTo (l : List UInt8) : Nat → List Int
  | 0 => zero16
  | k + 1 => (wordsTo l k).set (k / 4) (orByte ((wordsTo l k).getD (k / 4) 0) (l.getD k 0) k)
theorem wordsTo_length (l : List UInt8) (k : Nat) : (wordsTo l k).length = 16 := by
  induction k with
  | zero => rfl
  | succ k ih => simp [wordsTo, ih]

def rotZ' := rotZ
def rowOf (r : Nat) : List Int := (orderZ.drop (r * 16)).take 16
def laneOf (i : Nat) : List Int := (lanesZ.drop (i * 4)).take 4
theorem rowOf_length (r : Nat) (h : r < 10) : (rowOf r).length = 16 := by unfold rowOf; rw [List.length_take, List.length_drop, orderZ_length]; omega
theorem laneOf_length (r : Nat) (h : r < 8) : (laneOf r).length = 4 := by unfold laneOf; rw [List.length_take, List.length_drop, lanesZ_length]; omega
set_option maxRecDepth 100000 in
theorem row_at (r j : Nat) (hr : r < 10) (hj : j < 16) : ∃ x : Nat, (rowOf r).getD j 0 = (x : Int) ∧ x < 16 := by
  have h : ∀ r, r < 10 → ∀ j, j < 16 → 0 ≤ (rowOf r).getD j 0 ∧ (rowOf r).getD j 0 < 16 := by decide
  obtain ⟨h1, h2⟩ := h r hr j hj
  exact ⟨((rowOf r).getD j 0).toNat, by omega, by omega⟩
set_option maxRecDepth 100000 in
theorem lane_at (q : Nat) (hq : q < 8) : (∃ x : Nat, (laneOf q).getD 0 0 = (x : Int) ∧ x < 16) ∧ (∃ x : Nat, (laneOf q).getD 1 0 = (x : Int) ∧ x < 16) ∧ (∃ x : Nat, (laneOf q).getD 2 0 = (x : Int) ∧ x < 16) ∧ (∃ x : Nat, (laneOf q).getD 3 0 = (x : Int) ∧ x < 16) := by
  have h : ∀ r, r < 8 → ∀ j, j < 4 → 0 ≤ (laneOf r).getD j 0 ∧ (laneOf r).getD j 0 < 16 := by decide
  have g : ∀ j, j < 4 → ∃ x : Nat, (laneOf q).getD j 0 = (x : Int) ∧ x < 16 := fun j hj => by
    obtain ⟨h1, h2⟩ := h q hq j hj
    exact ⟨((laneOf q).getD j 0).toNat, by omega, by omega⟩
  exact ⟨g 0 (by omega), g 1 (by omega), g 2 (by omega), g 3 (by omega)⟩
def addA (p q r : Int) : Int := (p + (q + r)) % 4294967296
def addC (p q : Int) : Int := (p + q) % 4294967296
/-- The mixing of four words of a state. -/
def stA (m : List Int) (a b x : Nat) (vs : List Int) : List Int := vs.set a (addA (vs.getD a 0) (vs.getD b 0) (m.getD x 0))
def stR (k : Int) (d a : Nat) (vs : List Int) : List Int := vs.set d (rotZ k (xorZ (vs.getD d 0) (vs.getD a 0)))
def stC (c d : Nat) (vs : List Int) : List Int := vs.set c (addC (vs.getD c 0) (vs.getD d 0))
def gstep (m vs : List Int) (a b c d x y : Nat) : List Int :=
  stR 25 b c (stC c d (stR 24 d a (stA m a b y (stR 20 b c (stC c d (stR 16 d a (stA m a b x vs)))))))
theorem stA_len (m : List Int) (a b x : Nat) (vs : List Int) : (stA m a b x vs).length = vs.length := by simp [stA]
theorem stR_len (k : Int) (d a : Nat) (vs : List Int) : (stR k d a vs).length = vs.length := by simp [stR]
theorem stC_len (c d : Nat) (vs : List Int) : (stC c d vs).length = vs.length := by simp [stC]
theorem gstep_length (m vs : List Int) (a b c d x y : Nat) : (gstep m vs a b c d x y).length = vs.length := by unfold gstep; rw [stR_len, stC_len, stR_len, stA_len, stR_len, stC_len, stR_len, stA_len]
def mixAt (m vs : List Int) (r i : Nat) : List Int :=
  gstep m vs ((laneOf i).getD 0 0).toNat ((laneOf i).getD 1 0).toNat ((laneOf i).getD 2 0).toNat ((laneOf i).getD 3 0).toNat ((rowOf r).getD (2 * i) 0).toNat ((rowOf r).getD (2 * i + 1) 0).toNat
def lanesTo (m : List Int) (r : Nat) (vs : List Int) : Nat → List Int
  | 0 => vs
  | i + 1 => mixAt m (lanesTo m r vs i) r i
theorem lanesTo_length (m : List Int) (r : Nat) (vs : List Int) (i : Nat) : (lanesTo m r vs i).length = vs.length := by
  induction i with
  | zero => rfl
  | succ i ih => rw [lanesTo, mixAt, gstep_length, ih]
def roundsTo (m : List Int) : Nat → List Int → List Int
  | 0, vs => vs
  | r + 1, vs => lanesTo m r (roundsTo m r vs) 8
theorem roundsTo_length (m : List Int) (r : Nat) (vs : List Int) : (roundsTo m r vs).length = vs.length := by
  induction r with
  | zero => rfl
  | succ r ih => rw [roundsTo, lanesTo_length, ih]
def initV (s : List Int) (many : Int) (last : Bool) : List Int :=
  s ++ [1779033703, 3144134277, 1013904242, 2773480762, bits BinOp.xor IntKind.u32 1359893119 (many % 4294967296), 2600822924, if last then bits BinOp.xor IntKind.u32 IntKind.u32.max 528734635 else 528734635, 1541459225]
def finTo (s v : List Int) : Nat → List Int
  | 0 => s
  | k + 1 => (finTo s v k).set k (xorZ ((finTo s v k).getD k 0) (xorZ (v.getD k 0) (v.getD (k + 8) 0)))
theorem finTo_succ (s v : List Int) (k : Nat) : finTo s v (k + 1) = (finTo s v k).set k (xorZ ((finTo s v k).getD k 0) (xorZ (v.getD k 0) (v.getD (k + 8) 0))) := rfl
theorem finTo_length (s v : List Int) (k : Nat) : (finTo s v k).length = s.length := by
  induction k with
  | zero => rfl
  | succ k ih => simp [finTo, ih]
/-- A state behind a block. -/
def takeL (s : List Int) (l : List UInt8) (many : Int) (last : Bool) : List Int := finTo s (roundsTo (wordsTo l l.length) 10 (initV s many last)) 8
theorem takeL_length (s : List Int) (l : List UInt8) (many : Int) (last : Bool) : (takeL s l many last).length = s.length := finTo_length _ _ _
set_option maxRecDepth 100000 in
set_option maxHeartbeats 16000000 in
theorem take_any {G : Nat → Prop} (S : Nat) (s0 s1 s2 s3 s4 s5 s6 s7 : Int) (TS : TypeId) (ad : Option Addr) (cap : Nat) (l : List UInt8) (many : Int) (last : Bool) (w : World) (hS : BoxAt w S ([s0, s1, s2, s3, s4, s5, s6, s7].map U32) TS) (hl : RdB G w (.slice ad l.length cap) l) (hlen : l.length ≤ 64) (ht : Tabs w) :
    Calls Tryd.prog 82 #[.pointer (some ⟨S, 0, none⟩), .slice ad l.length cap, .int .i64 many, .bool last] w fun e w' => e = .returned (.tuple #[]) ∧ BoxAt w' S ((takeL [s0, s1, s2, s3, s4, s5, s6, s7] l many last).map U32) TS ∧ Below S w w' := by
  have HR := Lib.hid hl
  have HS := Lib.hid hS
  have HT := Lib.hid ht
  have zS := hS.lt
  have zT := ht.size
  clear hS ht
  go_enter Tryd.func82, Tryd.ntmps82
  go_wp2
  go_loopw [9, 10, 23] (fun vi vc i wr => ∃ k : Nat, k ≤ l.length ∧ i = .int .i64 k ∧ BoxAt wr w.heap.size ((wordsTo l k).map U32) 137 ∧ Below w.heap.size w wr ∧ wr.heap.size = w.heap.size + 1) (fun _ _ i _ => l.length - (intOf i).toNat)
  case atStart => exact ⟨0, Nat.zero_le _, rfl, BoxAt.new w _ _, ((Below.refl _ _).alloc (Nat.le_refl _) _), by simp⟩
  case round =>
    obtain ⟨k, hk, rfl, hM, hB, hz⟩ := hrel
    have HM := Lib.hid hM
    have HB := Lib.hid hB
    by_cases hlt : k < l.length
    · have hc := (hl.below hB (fun _ h => h)).cell k hlt
      obtain ⟨b, o, rfl, hc⟩ := hc
      have j0 : (0 : Int) ≤ (k : Int) := by omega
      have j1 : (k : Int) < (l.length : Int) := by omega
      have e1 := hM.at (k / 4) (by rw [wordsTo_length]; omega)
      have e2 := hM.free (k / 4)
      have q0 : (0 : Int) ≤ (k : Int) / 4 := by omega
      have q1 : (k : Int) / 4 < 16 := by omega
      have q2 : ((k : Int) / 4).toNat = k / 4 := by omega
      have q3 : (0 : Int) ≤ (k : Int) % 4 * 8 := by omega
      have q4 : (k : Int) % 4 * 8 ≤ 64 := by omega
      have hw : wordsTo l (k + 1) = (wordsTo l k).set (k / 4) (orByte ((wordsTo l k).getD (k / 4) 0) l[k] k) := by rw [wordsTo]; simp [hlt]
      have HW := Lib.hid hw
      generalize hx : (wordsTo l k).getD (k / 4) 0 = x at *
      have HX := Lib.hid hx
      clear hM hB hw hx
      go_wp2
      go_region
      go_wp2
      go_roundw
      case rel => exact ⟨k + 1, by omega, by go_num, by rw [HW.out]; exact (HM.out.ats (k / 4) _).drew, (HB.out.setCell (p := ⟨w.heap.size, k / 4, none⟩) (Nat.le_refl _) _).drew, by simp; omega⟩
      case measure => simp [intOf]; omega
    · obtain rfl : k = l.length := by omega
      clear hM hB
      generalize hm : wordsTo l l.length = m at *
      have HLM := Lib.hid (show m.length = 16 by rw [← hm]; exact wordsTo_length _ _)
      have HMM := Lib.hid hm
      clear hm hlt
      obtain ⟨w1, hw1⟩ : ∃ w1, w1 = wr.alloc (.cells #[.int .u32 0, .int .u32 0, .int .u32 0, .int .u32 0, .int .u32 0, .int .u32 0, .int .u32 0, .int .u32 0, .int .u32 0, .int .u32 0, .int .u32 0, .int .u32 0, .int .u32 0, .int .u32 0, .int .u32 0, .int .u32 0] 137) := ⟨_, rfl⟩
      have hs1 : w1.heap.size = w.heap.size + 2 := by rw [hw1]; simp; omega
      have HB1 := Lib.hid (show Below w.heap.size w w1 by rw [hw1]; exact HB.out.alloc (by omega) _)
      have HM1 := Lib.hid (show BoxAt w1.drew w.heap.size (m.map U32) 137 by rw [hw1]; exact HM.out.alloc _)
      have HV1 := Lib.hid (show BoxAt w1.drew (w.heap.size + 1) (zero16.map U32) 137 by rw [hw1]; exact (BoxAt.newAt wr _ _ hz.symm))
      have HS1 := Lib.hid ((HS.out.belowS HB1.out).drew)
      go_upto_region 7 with fail
      rw [← hw1]
      clear hw1 HM HB
      go_region_law (refine wp_copy_box _ _ 138 138 rfl Tryd.underlying138 (by kernel_rfl) (w.heap.size + 1) 0 8 16 S 0 8 8 rfl rfl ([s0, s1, s2, s3, s4, s5, s6, s7].map U32) (zero16.map U32) ([s0, s1, s2, s3, s4, s5, s6, s7].map U32) _ _ HV1.out HS1.out rfl (fun j v h => by simpa using h) (by simp [zero16]) rfl ?_; intro w2 hb2 hB2 hs2)
      have hz2 : w2.heap.size = w.heap.size + 2 := by rw [hs2]; exact hs1
      have HV2 := Lib.hid (show BoxAt w2.drew (w.heap.size + 1) ([s0, s1, s2, s3, s4, s5, s6, s7, 0, 0, 0, 0, 0, 0, 0, 0].map U32) 137 from hb2.drew)
      have HM2 := Lib.hid ((HM1.out.below hB2 (by omega)).drew)
      have HS2 := Lib.hid ((HS1.out.below hB2 (by omega)).drew)
      have HB2 := Lib.hid ((HB1.out.drew.trans (hB2.mono (by omega))).drew)
      have hT2 := HT.out.belowS HB2.out
      obtain ⟨TF, hF2⟩ := hT2.first
      have HF2 := Lib.hid hF2
      clear hb2 hB2 hs2 hT2 hF2 HM1 HV1 HS1 HB1 hs1
      go_wp2
      go_region_law (refine wp_copy_box _ _ 138 138 rfl Tryd.underlying138 (by kernel_rfl) (w.heap.size + 1) 8 8 8 0 0 8 8 rfl rfl (firstZ.map U32) ([s0, s1, s2, s3, s4, s5, s6, s7, 0, 0, 0, 0, 0, 0, 0, 0].map U32) (firstZ.map U32) _ _ HV2.out HF2.out rfl (fun j v h => by simpa using h) (by simp [firstZ]) rfl ?_; intro w3 hb3 hB3 hs3)
      have hz3 : w3.heap.size = w.heap.size + 2 := by rw [hs3]; exact hz2
      have HV3 := Lib.hid (show BoxAt w3 (w.heap.size + 1) ([s0, s1, s2, s3, s4, s5, s6, s7, 1779033703, 3144134277, 1013904242, 2773480762, 1359893119, 2600822924, 528734635, 1541459225].map U32) 137 from hb3)
      have HM3 := Lib.hid (HM2.out.below hB3 (by omega))
      have HS3 := Lib.hid (HS2.out.below hB3 (by omega))
      have HB3 := Lib.hid (HB2.out.trans (hB3.mono (by omega)))
      clear hb3 hB3 hs3 HM2 HV2 HS2 HB2 HF2
      have c12 := HV3.out.cell 12 rfl
      have c14 := HV3.out.cell 14 rfl
      have g12 := HV3.out.free 12
      have g14 := HV3.out.free 14
      go_upto_if 55 with fail
      go_cut [] from 56 (fun wx => BoxAt wx (w.heap.size + 1) ((initV [s0, s1, s2, s3, s4, s5, s6, s7] many last).map U32) 137 ∧ Below (w.heap.size + 1) w3 wx ∧ wx.heap.size = w.heap.size + 2)
      case first =>
        have HV4 := Lib.hid (HV3.out.set 12 (U32 (bits BinOp.xor IntKind.u32 1359893119 (many % 4294967296))))
        have HB4 := Lib.hid ((Below.refl (w.heap.size + 1) w3).setCell (p := ⟨w.heap.size + 1, 12, none⟩) (by simp) (.int .u32 (bits BinOp.xor IntKind.u32 1359893119 (many % 4294967296))))
        cases last
        · go_wp2_with fail
          go_meet
          exact ⟨HV4.out, HB4.out, by simp; omega⟩
        · go_wp2_with fail
          go_meet
          have HV5 := Lib.hid (HV4.out.set 14 (U32 (bits BinOp.xor IntKind.u32 IntKind.u32.max 528734635)))
          have HB5 := Lib.hid (HB4.out.setCell (p := ⟨w.heap.size + 1, 14, none⟩) (by simp) (.int .u32 (bits BinOp.xor IntKind.u32 IntKind.u32.max 528734635)))
          exact ⟨HV5.out, HB5.out, by simp; omega⟩
      case rest =>
        obtain ⟨hV, hB, hz4⟩ := hcut
        generalize hvs : initV [s0, s1, s2, s3, s4, s5, s6, s7] many last = vs at *
        have HLV := Lib.hid (show vs.length = 16 by rw [← hvs]; rfl)
        have HVS := Lib.hid hvs
        have HV4 := Lib.hid hV
        have HM4 := Lib.hid (HM3.out.below hB (by omega))
        have HB4 := Lib.hid (HB3.out.trans (hB.mono (by omega)))
        have hT4 := HT.out.belowS HB4.out
        obtain ⟨TO, hO4⟩ := hT4.order
        have HO4 := Lib.hid hO4
        clear hvs hV hB hT4 hO4 HV3 HM3 HB3 HS3 c12 c14 g12 g14
        go_wp2_with (refine wpList_load_box rfl 140 _ rfl 1 rfl (orderZ.map I64) _ HO4.out Tryd.underlying140 rfl (by kernel_rfl) ?_)
        go_loopw [61] (fun i wr => ∃ r : Nat, r ≤ 10 ∧ i = .int .i64 r ∧ BoxAt wr (w.heap.size + 1) ((roundsTo m r vs).map U32) 137 ∧ BoxAt wr w.heap.size (m.map U32) 137 ∧ Below w.heap.size w wr) (fun i _ => 10 - (intOf i).toNat)
        case atStart => exact ⟨0, Nat.zero_le _, rfl, HV4.out, HM4.out, HB4.out⟩
        case round =>
          clear HV4 HM4 HB4 HO4
          obtain ⟨r, hr, rfl, hV, hM, hB⟩ := hrel
          generalize wr = wo at *
          have HV := Lib.hid hV
          have HM := Lib.hid hM
          have HB := Lib.hid hB
          have hT := HT.out.belowS hB
          have hzV := hV.lt
          obtain ⟨TL, hL⟩ := hT.lanes
          generalize hvr : roundsTo m r vs = vr at *
          have HVR := Lib.hid hvr
          clear hV hM hT hvr
          by_cases hlt : r < 10
          · have j0 : (0 : Int) ≤ (r : Int) := by omega
            have j1 : (r : Int) < 10 := by omega
            have HL := Lib.hid hL
            clear hL hB
            go_wp2_with (first
              | (refine wpList_index_row rfl 140 _ _ rfl I64 orderZ r rfl rfl Tryd.underlying140 hlt Tryd.underlying139 (size := 16) (by kernel_rfl) (rowOf r) rfl ?_)
              | (refine wpList_store_new rfl 139 _ _ rfl ((rowOf r).map I64) 139 (zero16.map I64) rfl rfl (by rw [show ((rowOf r).map I64).toArray.size = 16 by simp [rowOf_length r hlt]]; kernel_rfl) (by simp [rowOf_length r hlt, zero16]) (oneI _) ?_; intro w5 hb5 hB5 hs5; have HO5 := Lib.hid hb5; have HB5 := Lib.hid hB5; have hz5 := hs5; clear hb5 hB5 hs5)
              | (refine wpList_load_box rfl 142 _ rfl 2 rfl (lanesZ.map I64) _ (HL.out.belowS HB5.out) Tryd.underlying142 rfl (by kernel_rfl) ?_))
            have zO := hz5
            go_loopw [65] (fun i wx => ∃ q : Nat, q ≤ 8 ∧ i = .int .i64 q ∧ BoxAt wx (w.heap.size + 1) ((lanesTo m r vr q).map U32) 137 ∧ BoxAt wx w.heap.size (m.map U32) 137 ∧ BoxAt wx wo.heap.size ((rowOf r).map I64) 139 ∧ Below w.heap.size w wx) (fun i _ => 8 - (intOf i).toNat)
            case atStart => exact ⟨0, Nat.zero_le _, rfl, HV.out.belowS HB5.out, HM.out.belowS HB5.out, HO5.out, HB.out.trans (HB5.out.mono (by omega))⟩
            case round =>
              clear HV HM HB HO5 HB5 HL
              obtain ⟨q, hq, rfl, hV, hM, hO, hB⟩ := hrel
              generalize wr = wi at *
              have hzO := hO.lt
              generalize hv0 : lanesTo m r vr q = v0 at *
              have HV0 := Lib.hid hv0
              have HV := Lib.hid hV
              have HM := Lib.hid hM
              have HO := Lib.hid hO
              have HB := Lib.hid hB
              clear hV hM hO hB hv0
              by_cases hlq : q < 8
              · have i0 : (0 : Int) ≤ (q : Int) := by omega
                have i1 : (q : Int) < 8 := by omega
                obtain ⟨⟨a, ha, a16⟩, ⟨b, hb, b16⟩, ⟨c, hc, c16⟩, ⟨d, hd, d16⟩⟩ := lane_at q hlq
                obtain ⟨x, hx, x16⟩ := row_at r (2 * q) hlt (by omega)
                obtain ⟨y, hy, y16⟩ := row_at r (2 * q + 1) hlt (by omega)
                have HA := Lib.hid ha
                have HBb := Lib.hid hb
                have HC := Lib.hid hc
                have HD := Lib.hid hd
                have HX := Lib.hid hx
                have HY := Lib.hid hy
                clear ha hb hc hd hx hy
                go_upto_region 18 with (first
                  | (refine wpList_index_row rfl 142 _ _ rfl I64 lanesZ q rfl rfl Tryd.underlying142 hlq Tryd.underlying141 (size := 4) (by kernel_rfl) (laneOf q) rfl ?_)
                  | (refine wpList_store_new rfl 141 _ _ rfl ((laneOf q).map I64) 141 ([0, 0, 0, 0].map I64) rfl rfl (by rw [show ((laneOf q).map I64).toArray.size = 4 by simp [laneOf_length q hlq]]; kernel_rfl) (by simp [laneOf_length q hlq]) (oneI _) ?_; intro w6 hb6 hB6 hs6; have HL6 := Lib.hid hb6; have HB6 := Lib.hid hB6; have hz6 := hs6; clear hb6 hB6 hs6))
                have k0 := HL6.out.ati 0 (by rw [laneOf_length q hlq]; omega)
                have k1 := HL6.out.ati 1 (by rw [laneOf_length q hlq]; omega)
                have k2 := HL6.out.ati 2 (by rw [laneOf_length q hlq]; omega)
                have k3 := HL6.out.ati 3 (by rw [laneOf_length q hlq]; omega)
                rw [HA.out] at k0
                rw [HBb.out] at k1
                rw [HC.out] at k2
                rw [HD.out] at k3
                go_quiet (fail)
                go_upto_region 19 with fail
                obtain ⟨w7, hw7⟩ : ∃ w7, w7 = w6.drewN nq := ⟨_, rfl⟩
                have hB67 : Below wi.heap.size wi w7 := by rw [hw7]; exact below_drewN HB6.out _
                have HV7 := Lib.hid (show BoxAt w7 (w.heap.size + 1) (v0.map U32) 137 from HV.out.belowS hB67)
                have HM7 := Lib.hid (show BoxAt w7 w.heap.size (m.map U32) 137 from HM.out.belowS hB67)
                have HO7 := Lib.hid (show BoxAt w7 wo.heap.size ((rowOf r).map I64) 139 from HO.out.belowS hB67)
                have HB7 := Lib.hid (show Below w.heap.size w w7 from HB.out.trans (hB67.mono (by omega)))
                have lv0 : v0.length = 16 := by rw [← HV0.out, lanesTo_length, ← HVR.out, roundsTo_length, HLV.out]
                rw [← hw7]
                clear HV HM HO HB k0 k1 k2 k3 HL6 HB6 hw7
                have a0 : (0 : Int) ≤ (a : Int) := by omega
                have a1 : (a : Int) < 16 := by omega
                have b0 : (0 : Int) ≤ (b : Int) := by omega
                have b1 : (b : Int) < 16 := by omega
                have c0 : (0 : Int) ≤ (c : Int) := by omega
                have c1 : (c : Int) < 16 := by omega
                have d0 : (0 : Int) ≤ (d : Int) := by omega
                have d1 : (d : Int) < 16 := by omega
                have x0 : (0 : Int) ≤ (x : Int) := by omega
                have x1 : (x : Int) < 16 := by omega
                have y0 : (0 : Int) ≤ (y : Int) := by omega
                have y1 : (y : Int) < 16 := by omega
                have t0 : (0 : Int) ≤ 2 * (q : Int) := by omega
                have t1 : 2 * (q : Int) < 16 := by omega
                have t2 : (2 * (q : Int)).toNat = 2 * q := by omega
                have t3 : (0 : Int) ≤ 2 * (q : Int) + 1 := by omega
                have t4 : 2 * (q : Int) + 1 < 16 := by omega
                have t5 : (2 * (q : Int) + 1).toNat = 2 * q + 1 := by omega
                go_upto_region 19 with fail
                have e1 := HV7.out.at a (by rw [lv0]; exact a16)
                have e2 := HV7.out.at b (by rw [lv0]; exact b16)
                have e5 := HV7.out.free a
                generalize hp1 : v0.getD a 0 = p1 at e1
                generalize hp2 : v0.getD b 0 = p2 at e2
                have e3 := HO7.out.ati (2 * q) (by rw [rowOf_length r hlt]; omega)
                rw [HX.out] at e3
                have e4 := HM7.out.at x (by rw [HLM.out]; exact x16)
                generalize hp3 : m.getD x 0 = p3 at e4
                go_cut [] from 186 (fun wx => wx = (w7.setCell ⟨w.heap.size + 1, a, none⟩ (.int .u32 ((p1 + (p2 + p3)) % 4294967296))).drew)
                case first =>
                  go_region
                  all_goals (go_wp2_with fail; go_meet; exact rfl)
                generalize wc = w8 at *
                have hw8 := hcut
                clear hcut
                have HV8 := Lib.hid (show BoxAt w8 (w.heap.size + 1) ((v0.set a (addA p1 p2 p3)).map U32) 137 by rw [hw8]; exact (HV7.out.ats a (addA p1 p2 p3)).drew)
                have HM8 := Lib.hid (show BoxAt w8 w.heap.size (m.map U32) 137 by rw [hw8]; exact (HM7.out.setOther (p := ⟨w.heap.size + 1, a, none⟩) (by simp) _).drew)
                have HO8 := Lib.hid (show BoxAt w8 wo.heap.size ((rowOf r).map I64) 139 by rw [hw8]; exact (HO7.out.setOther (p := ⟨w.heap.size + 1, a, none⟩) (by simp; omega) _).drew)
                have HB8 := Lib.hid (show Below w.heap.size w w8 by rw [hw8]; exact (HB7.out.setCell (p := ⟨w.heap.size + 1, a, none⟩) (by simp) _).drew)
                have HN1 := Lib.hid (show v0.set a (addA p1 p2 p3) = stA m a b x v0 by unfold stA; rw [hp1, hp2, hp3])
                generalize hv1 : v0.set a (addA p1 p2 p3) = v1 at *
                have lv1 : v1.length = 16 := by rw [← hv1]; simp [lv0]
                clear e1 e2 e3 e4 e5 hp1 hp2 hp3 hw8 hv1 HV7 HM7 HO7 HB7 lv0
                go_upto_region 20 with fail
                have e1 := HV8.out.at d (by rw [lv1]; exact d16)
                have e2 := HV8.out.at a (by rw [lv1]; exact a16)
                have e5 := HV8.out.free d
                generalize hp1 : v1.getD d 0 = p1 at e1
                generalize hp2 : v1.getD a 0 = p2 at e2
                go_cut [] from 186 (fun wx => wx = (w8.setCell ⟨w.heap.size + 1, d, none⟩ (.int .u32 (rotZ 16 (bits BinOp.xor IntKind.u32 p1 p2)))).drew)
                case first =>
                  go_region_with (go_at_call 102; refine (rot16 _ _).mono ?_; rintro e w' ⟨rfl, rfl⟩)
                  all_goals (go_wp2_with fail; go_meet; exact rfl)
                generalize wc = w9 at *
                have hw9 := hcut
                clear hcut
                have HV9 := Lib.hid (show BoxAt w9 (w.heap.size + 1) ((v1.set d (rotZ 16 (xorZ p1 p2))).map U32) 137 by rw [hw9]; exact (HV8.out.ats d (rotZ 16 (xorZ p1 p2))).drew)
                have HM9 := Lib.hid (show BoxAt w9 w.heap.size (m.map U32) 137 by rw [hw9]; exact (HM8.out.setOther (p := ⟨w.heap.size + 1, d, none⟩) (by simp) _).drew)
                have HO9 := Lib.hid (show BoxAt w9 wo.heap.size ((rowOf r).map I64) 139 by rw [hw9]; exact (HO8.out.setOther (p := ⟨w.heap.size + 1, d, none⟩) (by simp; omega) _).drew)
                have HB9 := Lib.hid (show Below w.heap.size w w9 by rw [hw9]; exact (HB8.out.setCell (p := ⟨w.heap.size + 1, d, none⟩) (by simp) _).drew)
                have HN2 := Lib.hid (show v1.set d (rotZ 16 (xorZ p1 p2)) = stR 16 d a v1 by unfold stR; rw [hp1, hp2])
                generalize hv2 : v1.set d (rotZ 16 (xorZ p1 p2)) = v2 at *
                have lv2 : v2.length = 16 := by rw [← hv2]; simp [lv1]
                clear e1 e2 e5 hp1 hp2 hw9 hv2 HV8 HM8 HO8 HB8 lv1
                go_upto_region 21 with fail
                have e1 := HV9.out.at c (by rw [lv2]; exact c16)
                have e2 := HV9.out.at d (by rw [lv2]; exact d16)
                have e5 := HV9.out.free c
                generalize hp1 : v2.getD c 0 = p1 at e1
                generalize hp2 : v2.getD d 0 = p2 at e2
                go_cut [] from 186 (fun wx => wx = (w9.setCell ⟨w.heap.size + 1, c, none⟩ (.int .u32 ((p1 + p2) % 4294967296))).drew)
                case first =>
                  go_region
                  all_goals (go_wp2_with fail; go_meet; exact rfl)
                generalize wc = w10 at *
                have hw10 := hcut
                clear hcut
                have HV10 := Lib.hid (show BoxAt w10 (w.heap.size + 1) ((v2.set c (addC p1 p2)).map U32) 137 by rw [hw10]; exact (HV9.out.ats c (addC p1 p2)).drew)
                have HM10 := Lib.hid (show BoxAt w10 w.heap.size (m.map U32) 137 by rw [hw10]; exact (HM9.out.setOther (p := ⟨w.heap.size + 1, c, none⟩) (by simp) _).drew)
                have HO10 := Lib.hid (show BoxAt w10 wo.heap.size ((rowOf r).map I64) 139 by rw [hw10]; exact (HO9.out.setOther (p := ⟨w.heap.size + 1, c, none⟩) (by simp; omega) _).drew)
                have HB10 := Lib.hid (show Below w.heap.size w w10 by rw [hw10]; exact (HB9.out.setCell (p := ⟨w.heap.size + 1, c, none⟩) (by simp) _).drew)
                have HN3 := Lib.hid (show v2.set c (addC p1 p2) = stC c d v2 by unfold stC; rw [hp1, hp2])
                generalize hv3 : v2.set c (addC p1 p2) = v3 at *
                have lv3 : v3.length = 16 := by rw [← hv3]; simp [lv2]
                clear e1 e2 e5 hp1 hp2 hw10 hv3 HV9 HM9 HO9 HB9 lv2
                go_upto_region 22 with fail
                have e1 := HV10.out.at b (by rw [lv3]; exact b16)
                have e2 := HV10.out.at c (by rw [lv3]; exact c16)
                have e5 := HV10.out.free b
                generalize hp1 : v3.getD b 0 = p1 at e1
                generalize hp2 : v3.getD c 0 = p2 at e2
                go_cut [] from 186 (fun wx => wx = (w10.setCell ⟨w.heap.size + 1, b, none⟩ (.int .u32 (rotZ 20 (bits BinOp.xor IntKind.u32 p1 p2)))).drew)
                case first =>
                  go_region_with (go_at_call 102; refine (rot12 _ _).mono ?_; rintro e w' ⟨rfl, rfl⟩)
                  all_goals (go_wp2_with fail; go_meet; exact rfl)
                generalize wc = w11 at *
                have hw11 := hcut
                clear hcut
                have HV11 := Lib.hid (show BoxAt w11 (w.heap.size + 1) ((v3.set b (rotZ 20 (xorZ p1 p2))).map U32) 137 by rw [hw11]; exact (HV10.out.ats b (rotZ 20 (xorZ p1 p2))).drew)
                have HM11 := Lib.hid (show BoxAt w11 w.heap.size (m.map U32) 137 by rw [hw11]; exact (HM10.out.setOther (p := ⟨w.heap.size + 1, b, none⟩) (by simp) _).drew)
                have HO11 := Lib.hid (show BoxAt w11 wo.heap.size ((rowOf r).map I64) 139 by rw [hw11]; exact (HO10.out.setOther (p := ⟨w.heap.size + 1, b, none⟩) (by simp; omega) _).drew)
                have HB11 := Lib.hid (show Below w.heap.size w w11 by rw [hw11]; exact (HB10.out.setCell (p := ⟨w.heap.size + 1, b, none⟩) (by simp) _).drew)
                have HN4 := Lib.hid (show v3.set b (rotZ 20 (xorZ p1 p2)) = stR 20 b c v3 by unfold stR; rw [hp1, hp2])
                generalize hv4 : v3.set b (rotZ 20 (xorZ p1 p2)) = v4 at *
                have lv4 : v4.length = 16 := by rw [← hv4]; simp [lv3]
                clear e1 e2 e5 hp1 hp2 hw11 hv4 HV10 HM10 HO10 HB10 lv3
                go_upto_region 23 with fail
                have e1 := HV11.out.at a (by rw [lv4]; exact a16)
                have e2 := HV11.out.at b (by rw [lv4]; exact b16)
                have e5 := HV11.out.free a
                generalize hp1 : v4.getD a 0 = p1 at e1
                generalize hp2 : v4.getD b 0 = p2 at e2
                have e3 := HO11.out.ati (2 * q + 1) (by rw [rowOf_length r hlt]; omega)
                rw [HY.out] at e3
                have e4 := HM11.out.at y (by rw [HLM.out]; exact y16)
                generalize hp3 : m.getD y 0 = p3 at e4
                go_cut [] from 186 (fun wx => wx = (w11.setCell ⟨w.heap.size + 1, a, none⟩ (.int .u32 ((p1 + (p2 + p3)) % 4294967296))).drew)
                case first =>
                  go_region
                  all_goals (go_wp2_with fail; go_meet; exact rfl)
                generalize wc = w12 at *
                have hw12 := hcut
                clear hcut
                have HV12 := Lib.hid (show BoxAt w12 (w.heap.size + 1) ((v4.set a (addA p1 p2 p3)).map U32) 137 by rw [hw12]; exact (HV11.out.ats a (addA p1 p2 p3)).drew)
                have HM12 := Lib.hid (show BoxAt w12 w.heap.size (m.map U32) 137 by rw [hw12]; exact (HM11.out.setOther (p := ⟨w.heap.size + 1, a, none⟩) (by simp) _).drew)
                have HO12 := Lib.hid (show BoxAt w12 wo.heap.size ((rowOf r).map I64) 139 by rw [hw12]; exact (HO11.out.setOther (p := ⟨w.heap.size + 1, a, none⟩) (by simp; omega) _).drew)
                have HB12 := Lib.hid (show Below w.heap.size w w12 by rw [hw12]; exact (HB11.out.setCell (p := ⟨w.heap.size + 1, a, none⟩) (by simp) _).drew)
                have HN5 := Lib.hid (show v4.set a (addA p1 p2 p3) = stA m a b y v4 by unfold stA; rw [hp1, hp2, hp3])
                generalize hv5 : v4.set a (addA p1 p2 p3) = v5 at *
                have lv5 : v5.length = 16 := by rw [← hv5]; simp [lv4]
                clear e1 e2 e3 e4 e5 hp1 hp2 hp3 hw12 hv5 HV11 HM11 HO11 HB11 lv4
                go_upto_region 24 with fail
                have e1 := HV12.out.at d (by rw [lv5]; exact d16)
                have e2 := HV12.out.at a (by rw [lv5]; exact a16)
                have e5 := HV12.out.free d
                generalize hp1 : v5.getD d 0 = p1 at e1
                generalize hp2 : v5.getD a 0 = p2 at e2
                go_cut [] from 186 (fun wx => wx = (w12.setCell ⟨w.heap.size + 1, d, none⟩ (.int .u32 (rotZ 24 (bits BinOp.xor IntKind.u32 p1 p2)))).drew)
                case first =>
                  go_region_with (go_at_call 102; refine (rot8 _ _).mono ?_; rintro e w' ⟨rfl, rfl⟩)
                  all_goals (go_wp2_with fail; go_meet; exact rfl)
                generalize wc = w13 at *
                have hw13 := hcut
                clear hcut
                have HV13 := Lib.hid (show BoxAt w13 (w.heap.size + 1) ((v5.set d (rotZ 24 (xorZ p1 p2))).map U32) 137 by rw [hw13]; exact (HV12.out.ats d (rotZ 24 (xorZ p1 p2))).drew)
                have HM13 := Lib.hid (show BoxAt w13 w.heap.size (m.map U32) 137 by rw [hw13]; exact (HM12.out.setOther (p := ⟨w.heap.size + 1, d, none⟩) (by simp) _).drew)
                have HO13 := Lib.hid (show BoxAt w13 wo.heap.size ((rowOf r).map I64) 139 by rw [hw13]; exact (HO12.out.setOther (p := ⟨w.heap.size + 1, d, none⟩) (by simp; omega) _).drew)
                have HB13 := Lib.hid (show Below w.heap.size w w13 by rw [hw13]; exact (HB12.out.setCell (p := ⟨w.heap.size + 1, d, none⟩) (by simp) _).drew)
                have HN6 := Lib.hid (show v5.set d (rotZ 24 (xorZ p1 p2)) = stR 24 d a v5 by unfold stR; rw [hp1, hp2])
                generalize hv6 : v5.set d (rotZ 24 (xorZ p1 p2)) = v6 at *
                have lv6 : v6.length = 16 := by rw [← hv6]; simp [lv5]
                clear e1 e2 e5 hp1 hp2 hw13 hv6 HV12 HM12 HO12 HB12 lv5
                go_upto_region 25 with fail
                have e1 := HV13.out.at c (by rw [lv6]; exact c16)
                have e2 := HV13.out.at d (by rw [lv6]; exact d16)
                have e5 := HV13.out.free c
                generalize hp1 : v6.getD c 0 = p1 at e1
                generalize hp2 : v6.getD d 0 = p2 at e2
                go_cut [] from 186 (fun wx => wx = (w13.setCell ⟨w.heap.size + 1, c, none⟩ (.int .u32 ((p1 + p2) % 4294967296))).drew)
                case first =>
                  go_region
                  all_goals (go_wp2_with fail; go_meet; exact rfl)
                generalize wc = w14 at *
                have hw14 := hcut
                clear hcut
                have HV14 := Lib.hid (show BoxAt w14 (w.heap.size + 1) ((v6.set c (addC p1 p2)).map U32) 137 by rw [hw14]; exact (HV13.out.ats c (addC p1 p2)).drew)
                have HM14 := Lib.hid (show BoxAt w14 w.heap.size (m.map U32) 137 by rw [hw14]; exact (HM13.out.setOther (p := ⟨w.heap.size + 1, c, none⟩) (by simp) _).drew)
                have HO14 := Lib.hid (show BoxAt w14 wo.heap.size ((rowOf r).map I64) 139 by rw [hw14]; exact (HO13.out.setOther (p := ⟨w.heap.size + 1, c, none⟩) (by simp; omega) _).drew)
                have HB14 := Lib.hid (show Below w.heap.size w w14 by rw [hw14]; exact (HB13.out.setCell (p := ⟨w.heap.size + 1, c, none⟩) (by simp) _).drew)
                have HN7 := Lib.hid (show v6.set c (addC p1 p2) = stC c d v6 by unfold stC; rw [hp1, hp2])
                generalize hv7 : v6.set c (addC p1 p2) = v7 at *
                have lv7 : v7.length = 16 := by rw [← hv7]; simp [lv6]
                clear e1 e2 e5 hp1 hp2 hw14 hv7 HV13 HM13 HO13 HB13 lv6
                go_upto_region 26 with fail
                have e1 := HV14.out.at b (by rw [lv7]; exact b16)
                have e2 := HV14.out.at c (by rw [lv7]; exact c16)
                have e5 := HV14.out.free b
                generalize hp1 : v7.getD b 0 = p1 at e1
                generalize hp2 : v7.getD c 0 = p2 at e2
                have hend : lanesTo m r vr (q + 1) = stR 25 b c v7 := by
                  rw [lanesTo, HV0.out, mixAt, HA.out, HBb.out, HC.out, HD.out, HX.out, HY.out]
                  simp only [Int.toNat_natCast]
                  rw [HN7.out, HN6.out, HN5.out, HN4.out, HN3.out, HN2.out, HN1.out]
                  unfold gstep
                  rfl
                have hset : v7.set b (rotZ 25 (xorZ p1 p2)) = stR 25 b c v7 := by unfold stR; rw [hp1, hp2]
                obtain ⟨v8, hv8⟩ : ∃ v8, v8 = stR 25 b c v7 := ⟨_, rfl⟩
                rw [← hv8] at hend hset
                have HEND := Lib.hid hend
                have HSET := Lib.hid hset
                clear hend hset hv8 HN1 HN2 HN3 HN4 HN5 HN6 HN7 hp1 hp2
                as_aux_lemma =>
                  go_region_with (go_at_call 102; refine (rot7 _ _).mono ?_; rintro e w' ⟨rfl, rfl⟩)
                  all_goals
                    obtain ⟨w15, hw15⟩ : ∃ w15, w15 = (w14.setCell ⟨w.heap.size + 1, b, none⟩ (.int .u32 (rotZ 25 (bits BinOp.xor IntKind.u32 p1 p2)))).drew := ⟨_, rfl⟩
                    rw [← hw15]
                    have HV15 := Lib.hid (show BoxAt w15 (w.heap.size + 1) (v8.map U32) 137 by rw [← HSET.out, hw15]; exact (HV14.out.ats b (rotZ 25 (xorZ p1 p2))).drew)
                    have HM15 := Lib.hid (show BoxAt w15 w.heap.size (m.map U32) 137 by rw [hw15]; exact (HM14.out.setOther (p := ⟨w.heap.size + 1, b, none⟩) (by simp) _).drew)
                    have HO15 := Lib.hid (show BoxAt w15 wo.heap.size ((rowOf r).map I64) 139 by rw [hw15]; exact (HO14.out.setOther (p := ⟨w.heap.size + 1, b, none⟩) (by simp; omega) _).drew)
                    have HB15 := Lib.hid (show Below w.heap.size w w15 by rw [hw15]; exact (HB14.out.setCell (p := ⟨w.heap.size + 1, b, none⟩) (by simp) _).drew)
                    clear e1 e2 e5 hw15 HV14 HM14 HO14 HB14 lv7
                    go_wp2
                    go_roundw
                    case rel => exact ⟨q + 1, by omega, by go_num, by rw [HEND.out]; exact HV15.out, HM15.out, HO15.out, HB15.out⟩
                    case measure => simp [intOf]; omega
              · obtain rfl : q = 8 := by omega
                go_wp2
                go_roundw
                case rel => exact ⟨r + 1, by omega, by go_num, by rw [roundsTo, HVR.out, HV0.out]; exact HV.out, HM.out, HB.out⟩
                case measure => simp [intOf]; omega
          · obtain rfl : r = 10 := by omega
            have HSo := Lib.hid (HS.out.belowS hB)
            have HBo := Lib.hid (hB.mono (Nat.le_of_lt zS))
            have lvr : vr.length = 16 := by rw [← HVR.out, roundsTo_length, HLV.out]
            clear HM HB hL hB
            go_wp2
            go_loopw [166] (fun i wx => ∃ k : Nat, k ≤ 8 ∧ i = .int .i64 k ∧ BoxAt wx S ((finTo [s0, s1, s2, s3, s4, s5, s6, s7] vr k).map U32) TS ∧ BoxAt wx (w.heap.size + 1) (vr.map U32) 137 ∧ Below S w wx) (fun i _ => 8 - (intOf i).toNat)
            case atStart => exact ⟨0, Nat.zero_le _, rfl, HSo.out, HV.out, HBo.out⟩
            case round =>
              as_aux_lemma =>
                clear HSo HV HBo
                obtain ⟨k, hk, rfl, hS, hV, hB⟩ := hrel
                have ls := finTo_length [s0, s1, s2, s3, s4, s5, s6, s7] vr k
                have HFK := Lib.hid (show finTo [s0, s1, s2, s3, s4, s5, s6, s7] vr (k + 1) = _ from finTo_succ _ _ _)
                generalize hft : finTo [s0, s1, s2, s3, s4, s5, s6, s7] vr k = ft at *
                have HFT := Lib.hid hft
                have ls' : ft.length = 8 := ls
                have HS := Lib.hid hS
                have HV := Lib.hid hV
                have HB := Lib.hid hB
                have e1 : k < 8 → wr.cell? ⟨S, k, none⟩ = some (U32 (ft.getD k 0)) := fun h => hS.at k (by rw [ls']; exact h)
                have e5 := hS.free k
                clear hS hV hB hft ls
                by_cases hlk : k < 8
                · have i0 : (0 : Int) ≤ (k : Int) := by omega
                  have i1 : (k : Int) < 8 := by omega
                  have i2 : (0 : Int) ≤ (k : Int) + 8 := by omega
                  have i3 : (k : Int) + 8 < 16 := by omega
                  have i4 : ((k : Int) + 8).toNat = k + 8 := by omega
                  have i5 : (k : Int) < 16 := by omega
                  have e1 := e1 hlk
                  have e2 := HV.out.at k (by rw [lvr]; omega)
                  have e3 := HV.out.at (k + 8) (by rw [lvr]; omega)
                  generalize hp1 : ft.getD k 0 = p1 at *
                  generalize hp2 : vr.getD k 0 = p2 at *
                  generalize hp3 : vr.getD (k + 8) 0 = p3 at *
                  have nSV : S ≠ w.heap.size + 1 := by omega
                  go_wp2
                  go_region
                  go_wp2
                  go_roundw
                  case rel => exact ⟨k + 1, by omega, by go_num, by rw [HFK.out]; exact (HS.out.ats k (xorZ p1 (xorZ p2 p3))).drew, (HV.out.setOther (p := ⟨S, k, none⟩) (by simp; omega) _).drew, (HB.out.setCell (p := ⟨S, k, none⟩) (Nat.le_refl _) _).drew⟩
                  case measure => simp [intOf]; omega
                · obtain rfl : k = 8 := by omega
                  go_wp2
                  (try simp only [Exit.inBlock, Exit.then])
                  first | refine bodyPost_ret (results_none rfl _ _ _) rfl ?_ | refine bodyPost_end (results_none rfl _ _ _) rfl ?_
                  exact ⟨rfl, by rw [takeL, HMM.out, HVS.out, HVR.out, HFT.out]; exact HS.out, HB.out⟩
end Go.Proofs.YtpfmmncnhlfdgaaDoor
