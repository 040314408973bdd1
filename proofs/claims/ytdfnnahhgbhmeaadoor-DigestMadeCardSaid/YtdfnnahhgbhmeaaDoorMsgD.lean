/- Messages as data, and what is said of them. No program is named. -/
import Derived.Test.YtdfnnahhgbhmeaaDoorLib2
import Derived.Test.YtdfnnahhgbhmeaaDoorCodes
set_option linter.unusedVariables false
set_option linter.unusedSimpArgs false
namespace Go.Proofs.YtdfnnahhgbhmeaaDoor
open Go Go.RowKit

structure Msg where
  f : Int
  t : Int
  k : Int
  b : Bat
  h : Hdr
  s : Slt
  c : Crt
  r : Int
def bat0 : Bat := ⟨0, 0, []⟩
def hdr0 : Hdr := ⟨0, 0, [], []⟩
def slt0 : Slt := ⟨0, 0, []⟩
def crt0 : Crt := ⟨hdr0, []⟩
def nhB (a r : Int) (n1 n2 : Nat) : Bool := a == 0 && (r == 0 && (n1 + n2 == 0))
def noHdr (h : Hdr) : Bool := nhB h.a h.r h.bs.length h.ps.length
/-- It carries nothing. -/
def noneM (m : Msg) : Bool :=
  m.b.a == 0 && (m.b.n == 0 && (m.b.txs.length == 0 && (noHdr m.h && (m.s.a == 0 && (m.s.r == 0 && (m.s.d.length == 0 && (noHdr m.c.h && (m.c.vs.length == 0 && m.r == 0))))))))
/-- Without what its kind carries. -/
def Msg.less (m : Msg) : Msg :=
  if m.k = 1 then { m with b := bat0 } else if m.k = 2 then { m with h := hdr0 } else if m.k = 3 then { m with s := slt0 } else if m.k = 4 then { m with c := crt0 } else { m with r := 0 }
def msgPart (m : Msg) : Int :=
  if m.k = 1 then batCode m.b else if m.k = 2 then hdrCode m.h else if m.k = 3 then sltCode m.s.a m.s.r m.s.d.length else if m.k = 4 then crtCode m.c else if countOk m.r = true then 0 else 2
def msgCode (m : Msg) : Int :=
  if nodeOk m.f = false ∨ nodeOk m.t = false then 2 else if m.k < 1 ∨ 5 < m.k then 3 else if msgPart m ≠ 0 then msgPart m else if noneM m.less = true then 0 else 4

/-- The slices of a message. -/
structure MV where
  tx : Value
  bs : Value
  ps : Value
  d : Value
  cbs : Value
  cps : Value
  vs : Value
def msgCells (m : Msg) (v : MV) : List Value :=
  [.int .i64 m.f, .int .i64 m.t, .int .i64 m.k, .int .i64 m.b.a, .int .i64 m.b.n, v.tx, .int .i64 m.h.a, .int .i64 m.h.r, v.bs, v.ps, .int .i64 m.s.a, .int .i64 m.s.r, v.d, .int .i64 m.c.h.a, .int .i64 m.c.h.r, v.cbs, v.cps, v.vs, .int .i64 m.r]
structure RdM (G : Nat → Prop) (w : World) (v : MV) (m : Msg) : Prop where
  tx : RdT G w v.tx m.b.txs
  bs : RdBB G w v.bs m.h.bs
  ps : RdBB G w v.ps m.h.ps
  d : RdB G w v.d m.s.d
  cbs : RdBB G w v.cbs m.c.h.bs
  cps : RdBB G w v.cps m.c.h.ps
  vs : RdI G w v.vs m.c.vs
theorem RdM.keep {G G' : Nat → Prop} {w w' : World} {v : MV} {m : Msg} (h : RdM G w v m) (hk : Keep G w w') (hg : ∀ b, G b → G' b) : RdM G' w' v m :=
  ⟨h.tx.keep hk hg, h.bs.keep hk hg, h.ps.keep hk hg, h.d.keep hk hg, h.cbs.keep hk hg, h.cps.keep hk hg, h.vs.keep hk hg⟩
theorem RdM.below {G G' : Nat → Prop} {w w' : World} {v : MV} {m : Msg} (h : RdM G w v m) (hb : Below w.heap.size w w') (hg : ∀ b, G b → G' b) : RdM G' w' v m := h.keep (Keep.below hb) hg
theorem RdM.mono {G G' : Nat → Prop} {w : World} {v : MV} {m : Msg} (h : RdM G w v m) (hg : ∀ b, G b → G' b) : RdM G' w v m := h.keep (Keep.refl _ _) hg
theorem RdM.low {G : Nat → Prop} {w : World} {v : MV} {m : Msg} (h : RdM G w v m) : RdM (fun b => G b ∧ b < w.heap.size) w v m :=
  ⟨h.tx.low (by decide), h.bs.low (by decide), h.ps.low (by decide), h.d.low (by decide), h.cbs.low (by decide), h.cps.low (by decide), h.vs.low (by decide)⟩
/-- Its numbers and lists are of a size that may be. -/
structure MsgOk (m : Msg) : Prop where
  tx : ∀ t ∈ m.b.txs, t.length ≤ 9223372036854775807
  h : m.h.bs.length + m.h.ps.length ≤ 9223372036854775807
  c : m.c.h.bs.length + m.c.h.ps.length ≤ 9223372036854775807
end Go.Proofs.YtdfnnahhgbhmeaaDoor
