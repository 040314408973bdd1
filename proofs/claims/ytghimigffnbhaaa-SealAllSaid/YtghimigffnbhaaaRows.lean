/-
  No cell of these rows narrows 'for every input' (looked for: loops, veiled, ifaces, maps, wideKeys, modest, calm, conditions, laid).
  DERIVED. THE GIVEN ROWS OF THIS SEAT. 13 by the template 'for every input the law returns true; each argument reads behind the call as it read before'; 0 by the template 'total and deterministic' (their statements: YtghimigffnbhaaaTotals.lean).
  GIVEN WITH THE SEED: the statements are not yours to turn. If you find one false, say at which input.
  Laid BY PROGRAM, IN A SANDBOX (cutbox-rows.mjs): the forced cells as the released guide's own fill.sh prints them over the translation ee897e51fcc37174… (all of the seat's roots in one cut). By AI agents, Wed Nov 11 2026. No macro, syntax, notation, axiom, sorry.
-/
import Derived.Test.YtghimigffnbhaaaChecked
import GoSem.Claim
import GoSem.ClaimJoined
import GoSem.ClaimMapViews
import Derived.JoinedTies
import Derived.KernelRfl
namespace Go.Proofs.Ytghimigffnbhaaa
/- THE CELL 'sum', in the pinned program and in every row, IS THE sha256 OF THE DUMP (.gsa) THAT YtghimigffnbhaaaProg.lean LOADS. Nothing in Lean hashes anything: it is a label: what it is worth is what the hold of that sum in a sandbox is worth. -/
noncomputable def Try.pinned : Pinned := { name := "ytghimigffnbhaaa", sum := "ee897e51fcc37174ce0b099748b5f52562ca114c27d951612a58e80c721e3e24", checked := Try.checked }
namespace Rows
def none {H : Type} : Left H := { results := [], args := [] }

/-- 'sheaveskeep.LinesRange': WHATEVER THE INPUT: true; the input reads as it did. -/
def linesRangeSpec : ChangeSpec := { name := "linesRange", fn := fun _ => fun
  | [d1, d2] => { results := [.lit (.bool true)], args := [d1, d2] }
  | _ => none }
def linesRangeRow : OpenClaim := { program := "ytghimigffnbhaaa", sum := "ee897e51fcc37174ce0b099748b5f52562ca114c27d951612a58e80c721e3e24", func := "sheaves/sheaveskeep.LinesRange", spec := "linesRange", apart := false }
def LinesRangeSaid : Prop := linesRangeRow.holds Try.pinned (OpenSpec.ofChange linesRangeSpec)

/-- ITS FALSE NEIGHBOUR: 'it returns false'. Refute it at one input. -/
def linesRangeWrong : ChangeSpec := { name := "linesRange", fn := fun _ => fun
  | [d1, d2] => { results := [.lit (.bool false)], args := [d1, d2] }
  | _ => none }
def LinesRangeWrongFalsely : Prop := linesRangeRow.holds Try.pinned (OpenSpec.ofChange linesRangeWrong)

/-- 'sheaveskeep.AddLast': WHATEVER THE INPUT: true; the input reads as it did. -/
def addLastSpec : ChangeSpec := { name := "addLast", fn := fun _ => fun
  | [d1, d2] => { results := [.lit (.bool true)], args := [d1, d2] }
  | _ => none }
def addLastRow : OpenClaim := { program := "ytghimigffnbhaaa", sum := "ee897e51fcc37174ce0b099748b5f52562ca114c27d951612a58e80c721e3e24", func := "sheaves/sheaveskeep.AddLast", spec := "addLast", apart := false }
def AddLastSaid : Prop := addLastRow.holds Try.pinned (OpenSpec.ofChange addLastSpec)

/-- ITS FALSE NEIGHBOUR: 'it returns false'. Refute it at one input. -/
def addLastWrong : ChangeSpec := { name := "addLast", fn := fun _ => fun
  | [d1, d2] => { results := [.lit (.bool false)], args := [d1, d2] }
  | _ => none }
def AddLastWrongFalsely : Prop := addLastRow.holds Try.pinned (OpenSpec.ofChange addLastWrong)

/-- 'sheaveskeep.PoolFull': WHATEVER THE INPUT: true; the input reads as it did. -/
def poolFullSpec : ChangeSpec := { name := "poolFull", fn := fun _ => fun
  | [d] => { results := [.lit (.bool true)], args := [d] }
  | _ => none }
def poolFullRow : OpenClaim := { program := "ytghimigffnbhaaa", sum := "ee897e51fcc37174ce0b099748b5f52562ca114c27d951612a58e80c721e3e24", func := "sheaves/sheaveskeep.PoolFull", spec := "poolFull", apart := false }
def PoolFullSaid : Prop := poolFullRow.holds Try.pinned (OpenSpec.ofChange poolFullSpec)

/-- ITS FALSE NEIGHBOUR: 'it returns false'. Refute it at one input. -/
def poolFullWrong : ChangeSpec := { name := "poolFull", fn := fun _ => fun
  | [d] => { results := [.lit (.bool false)], args := [d] }
  | _ => none }
def PoolFullWrongFalsely : Prop := poolFullRow.holds Try.pinned (OpenSpec.ofChange poolFullWrong)

/-- 'sheaveskeep.AddOrder': WHATEVER THE INPUT: true; the input reads as it did. -/
def addOrderSpec : ChangeSpec := { name := "addOrder", fn := fun _ => fun
  | [d] => { results := [.lit (.bool true)], args := [d] }
  | _ => none }
def addOrderRow : OpenClaim := { program := "ytghimigffnbhaaa", sum := "ee897e51fcc37174ce0b099748b5f52562ca114c27d951612a58e80c721e3e24", func := "sheaves/sheaveskeep.AddOrder", spec := "addOrder", apart := false }
def AddOrderSaid : Prop := addOrderRow.holds Try.pinned (OpenSpec.ofChange addOrderSpec)

/-- ITS FALSE NEIGHBOUR: 'it returns false'. Refute it at one input. -/
def addOrderWrong : ChangeSpec := { name := "addOrder", fn := fun _ => fun
  | [d] => { results := [.lit (.bool false)], args := [d] }
  | _ => none }
def AddOrderWrongFalsely : Prop := addOrderRow.holds Try.pinned (OpenSpec.ofChange addOrderWrong)

/-- 'sheaveskeep.SealAll': WHATEVER THE INPUT: true; the input reads as it did. -/
def sealAllSpec : ChangeSpec := { name := "sealAll", fn := fun _ => fun
  | [d] => { results := [.lit (.bool true)], args := [d] }
  | _ => none }
def sealAllRow : OpenClaim := { program := "ytghimigffnbhaaa", sum := "ee897e51fcc37174ce0b099748b5f52562ca114c27d951612a58e80c721e3e24", func := "sheaves/sheaveskeep.SealAll", spec := "sealAll", apart := false }
def SealAllSaid : Prop := sealAllRow.holds Try.pinned (OpenSpec.ofChange sealAllSpec)

/-- ITS FALSE NEIGHBOUR: 'it returns false'. Refute it at one input. -/
def sealAllWrong : ChangeSpec := { name := "sealAll", fn := fun _ => fun
  | [d] => { results := [.lit (.bool false)], args := [d] }
  | _ => none }
def SealAllWrongFalsely : Prop := sealAllRow.holds Try.pinned (OpenSpec.ofChange sealAllWrong)

/-- 'sheaveskeep.PoolBad': WHATEVER THE INPUT: true; the input reads as it did. -/
def poolBadSpec : ChangeSpec := { name := "poolBad", fn := fun _ => fun
  | [d1, d2] => { results := [.lit (.bool true)], args := [d1, d2] }
  | _ => none }
def poolBadRow : OpenClaim := { program := "ytghimigffnbhaaa", sum := "ee897e51fcc37174ce0b099748b5f52562ca114c27d951612a58e80c721e3e24", func := "sheaves/sheaveskeep.PoolBad", spec := "poolBad", apart := false }
def PoolBadSaid : Prop := poolBadRow.holds Try.pinned (OpenSpec.ofChange poolBadSpec)

/-- ITS FALSE NEIGHBOUR: 'it returns false'. Refute it at one input. -/
def poolBadWrong : ChangeSpec := { name := "poolBad", fn := fun _ => fun
  | [d1, d2] => { results := [.lit (.bool false)], args := [d1, d2] }
  | _ => none }
def PoolBadWrongFalsely : Prop := poolBadRow.holds Try.pinned (OpenSpec.ofChange poolBadWrong)

/-- 'sheaveskeep.SealLast': WHATEVER THE INPUT: true; the input reads as it did. -/
def sealLastSpec : ChangeSpec := { name := "sealLast", fn := fun _ => fun
  | [d] => { results := [.lit (.bool true)], args := [d] }
  | _ => none }
def sealLastRow : OpenClaim := { program := "ytghimigffnbhaaa", sum := "ee897e51fcc37174ce0b099748b5f52562ca114c27d951612a58e80c721e3e24", func := "sheaves/sheaveskeep.SealLast", spec := "sealLast", apart := false }
def SealLastSaid : Prop := sealLastRow.holds Try.pinned (OpenSpec.ofChange sealLastSpec)

/-- ITS FALSE NEIGHBOUR: 'it returns false'. Refute it at one input. -/
def sealLastWrong : ChangeSpec := { name := "sealLast", fn := fun _ => fun
  | [d] => { results := [.lit (.bool false)], args := [d] }
  | _ => none }
def SealLastWrongFalsely : Prop := sealLastRow.holds Try.pinned (OpenSpec.ofChange sealLastWrong)

/-- 'sheaveskeep.SealFirst': WHATEVER THE INPUT: true; the input reads as it did. -/
def sealFirstSpec : ChangeSpec := { name := "sealFirst", fn := fun _ => fun
  | [d1, d2, d3] => { results := [.lit (.bool true)], args := [d1, d2, d3] }
  | _ => none }
def sealFirstRow : OpenClaim := { program := "ytghimigffnbhaaa", sum := "ee897e51fcc37174ce0b099748b5f52562ca114c27d951612a58e80c721e3e24", func := "sheaves/sheaveskeep.SealFirst", spec := "sealFirst", apart := false }
def SealFirstSaid : Prop := sealFirstRow.holds Try.pinned (OpenSpec.ofChange sealFirstSpec)

/-- ITS FALSE NEIGHBOUR: 'it returns false'. Refute it at one input. -/
def sealFirstWrong : ChangeSpec := { name := "sealFirst", fn := fun _ => fun
  | [d1, d2, d3] => { results := [.lit (.bool false)], args := [d1, d2, d3] }
  | _ => none }
def SealFirstWrongFalsely : Prop := sealFirstRow.holds Try.pinned (OpenSpec.ofChange sealFirstWrong)

/-- 'sheaveskeep.SignLast': WHATEVER THE INPUT: true; the input reads as it did. -/
def signLastSpec : ChangeSpec := { name := "signLast", fn := fun _ => fun
  | [d1, d2] => { results := [.lit (.bool true)], args := [d1, d2] }
  | _ => none }
def signLastRow : OpenClaim := { program := "ytghimigffnbhaaa", sum := "ee897e51fcc37174ce0b099748b5f52562ca114c27d951612a58e80c721e3e24", func := "sheaves/sheaveskeep.SignLast", spec := "signLast", unfollowed := true, recurses := true, apart := false }
def SignLastSaid : Prop := signLastRow.holds Try.pinned (OpenSpec.ofChange signLastSpec)

/-- ITS FALSE NEIGHBOUR: 'it returns false'. Refute it at one input. -/
def signLastWrong : ChangeSpec := { name := "signLast", fn := fun _ => fun
  | [d1, d2] => { results := [.lit (.bool false)], args := [d1, d2] }
  | _ => none }
def SignLastWrongFalsely : Prop := signLastRow.holds Try.pinned (OpenSpec.ofChange signLastWrong)

/-- 'sheaveskeep.SignOnce': WHATEVER THE INPUT: true; the input reads as it did. -/
def signOnceSpec : ChangeSpec := { name := "signOnce", fn := fun _ => fun
  | [d1, d2] => { results := [.lit (.bool true)], args := [d1, d2] }
  | _ => none }
def signOnceRow : OpenClaim := { program := "ytghimigffnbhaaa", sum := "ee897e51fcc37174ce0b099748b5f52562ca114c27d951612a58e80c721e3e24", func := "sheaves/sheaveskeep.SignOnce", spec := "signOnce", unfollowed := true, recurses := true, apart := false }
def SignOnceSaid : Prop := signOnceRow.holds Try.pinned (OpenSpec.ofChange signOnceSpec)

/-- ITS FALSE NEIGHBOUR: 'it returns false'. Refute it at one input. -/
def signOnceWrong : ChangeSpec := { name := "signOnce", fn := fun _ => fun
  | [d1, d2] => { results := [.lit (.bool false)], args := [d1, d2] }
  | _ => none }
def SignOnceWrongFalsely : Prop := signOnceRow.holds Try.pinned (OpenSpec.ofChange signOnceWrong)

/-- 'sheaveskeep.SignOthers': WHATEVER THE INPUT: true; the input reads as it did. -/
def signOthersSpec : ChangeSpec := { name := "signOthers", fn := fun _ => fun
  | [d1, d2, d3] => { results := [.lit (.bool true)], args := [d1, d2, d3] }
  | _ => none }
def signOthersRow : OpenClaim := { program := "ytghimigffnbhaaa", sum := "ee897e51fcc37174ce0b099748b5f52562ca114c27d951612a58e80c721e3e24", func := "sheaves/sheaveskeep.SignOthers", spec := "signOthers", unfollowed := true, recurses := true, apart := false }
def SignOthersSaid : Prop := signOthersRow.holds Try.pinned (OpenSpec.ofChange signOthersSpec)

/-- ITS FALSE NEIGHBOUR: 'it returns false'. Refute it at one input. -/
def signOthersWrong : ChangeSpec := { name := "signOthers", fn := fun _ => fun
  | [d1, d2, d3] => { results := [.lit (.bool false)], args := [d1, d2, d3] }
  | _ => none }
def SignOthersWrongFalsely : Prop := signOthersRow.holds Try.pinned (OpenSpec.ofChange signOthersWrong)

/-- 'sheaveskeep.SignsKeep': WHATEVER THE INPUT: true; the input reads as it did. -/
def signsKeepSpec : ChangeSpec := { name := "signsKeep", fn := fun _ => fun
  | [d1, d2, d3] => { results := [.lit (.bool true)], args := [d1, d2, d3] }
  | _ => none }
def signsKeepRow : OpenClaim := { program := "ytghimigffnbhaaa", sum := "ee897e51fcc37174ce0b099748b5f52562ca114c27d951612a58e80c721e3e24", func := "sheaves/sheaveskeep.SignsKeep", spec := "signsKeep", unfollowed := true, recurses := true, apart := false }
def SignsKeepSaid : Prop := signsKeepRow.holds Try.pinned (OpenSpec.ofChange signsKeepSpec)

/-- ITS FALSE NEIGHBOUR: 'it returns false'. Refute it at one input. -/
def signsKeepWrong : ChangeSpec := { name := "signsKeep", fn := fun _ => fun
  | [d1, d2, d3] => { results := [.lit (.bool false)], args := [d1, d2, d3] }
  | _ => none }
def SignsKeepWrongFalsely : Prop := signsKeepRow.holds Try.pinned (OpenSpec.ofChange signsKeepWrong)

/-- 'sheaveskeep.CertBad': WHATEVER THE INPUT: true; the input reads as it did. -/
def certBadSpec : ChangeSpec := { name := "certBad", fn := fun _ => fun
  | [d1, d2] => { results := [.lit (.bool true)], args := [d1, d2] }
  | _ => none }
def certBadRow : OpenClaim := { program := "ytghimigffnbhaaa", sum := "ee897e51fcc37174ce0b099748b5f52562ca114c27d951612a58e80c721e3e24", func := "sheaves/sheaveskeep.CertBad", spec := "certBad", unfollowed := true, recurses := true, apart := false }
def CertBadSaid : Prop := certBadRow.holds Try.pinned (OpenSpec.ofChange certBadSpec)

/-- ITS FALSE NEIGHBOUR: 'it returns false'. Refute it at one input. -/
def certBadWrong : ChangeSpec := { name := "certBad", fn := fun _ => fun
  | [d1, d2] => { results := [.lit (.bool false)], args := [d1, d2] }
  | _ => none }
def CertBadWrongFalsely : Prop := certBadRow.holds Try.pinned (OpenSpec.ofChange certBadWrong)

/- THE SECOND FORM. 'bulk': how many values and letters a reading holds, each counted each time it is reached (what is shared counts as often as it is met; a slice's spare places count too). A statement '..UptoSaid' is the law's where the arguments, and the package variables that the reading takes, are together of bulk at most 1048576: NARROWER than '..Said'. Prove '..Said' where nothing that the law and all that it calls make is longer than what came in: it says more and counts as full. Else prove '..UptoSaid'. A law counts once. -/
mutual
def uptoBulk {H : Type} : DataW H → Nat
  | .lit (.string bytes) => bytes.length + 1
  | .lit _ => 1
  | .nil => 1
  | .ptr d => uptoBulk d + 1
  | .slice elems spare => uptoBulkAll elems + uptoBulkAll spare + 1
  | .agg parts => uptoBulkAll parts + 1
  | .iface _ d => uptoBulk d + 1
  | .map entries => uptoBulkEntries entries + 1
  | .held _ => 1
def uptoBulkAll {H : Type} : List (DataW H) → Nat
  | [] => 0
  | d :: r => uptoBulk d + uptoBulkAll r
def uptoBulkEntries {H : Type} : List (Lit × DataW H) → Nat
  | [] => 0
  | x :: r => uptoBulkEntry x + uptoBulkEntries r
def uptoBulkEntry {H : Type} : Lit × DataW H → Nat
  | (.string bytes, d) => bytes.length + uptoBulk d + 1
  | (_, d) => uptoBulk d + 1
 end
def uptoSmall : (H : Type) → List (DataW H) → Bool := fun _ ds => decide (uptoBulkAll ds ≤ 1048576)
def OpenSpec.upto (s : _root_.Go.ChangeSpec) : _root_.Go.OpenSpec := { _root_.Go.OpenSpec.ofChange s with cond := some uptoSmall }

/-- 'sheaveskeep.LinesRange', WHERE WHAT IT READS IS OF BULK AT MOST 1048576: true; the input reads as it did. -/
def linesRangeUptoRow : OpenClaim := { program := "ytghimigffnbhaaa", sum := "ee897e51fcc37174ce0b099748b5f52562ca114c27d951612a58e80c721e3e24", func := "sheaves/sheaveskeep.LinesRange", spec := "linesRange", apart := false, narrowed := true }
def LinesRangeUptoSaid : Prop := linesRangeUptoRow.holds Try.pinned (OpenSpec.upto linesRangeSpec)

/-- 'sheaveskeep.AddLast', WHERE WHAT IT READS IS OF BULK AT MOST 1048576: true; the input reads as it did. -/
def addLastUptoRow : OpenClaim := { program := "ytghimigffnbhaaa", sum := "ee897e51fcc37174ce0b099748b5f52562ca114c27d951612a58e80c721e3e24", func := "sheaves/sheaveskeep.AddLast", spec := "addLast", apart := false, narrowed := true }
def AddLastUptoSaid : Prop := addLastUptoRow.holds Try.pinned (OpenSpec.upto addLastSpec)

/-- 'sheaveskeep.PoolFull', WHERE WHAT IT READS IS OF BULK AT MOST 1048576: true; the input reads as it did. -/
def poolFullUptoRow : OpenClaim := { program := "ytghimigffnbhaaa", sum := "ee897e51fcc37174ce0b099748b5f52562ca114c27d951612a58e80c721e3e24", func := "sheaves/sheaveskeep.PoolFull", spec := "poolFull", apart := false, narrowed := true }
def PoolFullUptoSaid : Prop := poolFullUptoRow.holds Try.pinned (OpenSpec.upto poolFullSpec)

/-- 'sheaveskeep.AddOrder', WHERE WHAT IT READS IS OF BULK AT MOST 1048576: true; the input reads as it did. -/
def addOrderUptoRow : OpenClaim := { program := "ytghimigffnbhaaa", sum := "ee897e51fcc37174ce0b099748b5f52562ca114c27d951612a58e80c721e3e24", func := "sheaves/sheaveskeep.AddOrder", spec := "addOrder", apart := false, narrowed := true }
def AddOrderUptoSaid : Prop := addOrderUptoRow.holds Try.pinned (OpenSpec.upto addOrderSpec)

/-- 'sheaveskeep.SealAll', WHERE WHAT IT READS IS OF BULK AT MOST 1048576: true; the input reads as it did. -/
def sealAllUptoRow : OpenClaim := { program := "ytghimigffnbhaaa", sum := "ee897e51fcc37174ce0b099748b5f52562ca114c27d951612a58e80c721e3e24", func := "sheaves/sheaveskeep.SealAll", spec := "sealAll", apart := false, narrowed := true }
def SealAllUptoSaid : Prop := sealAllUptoRow.holds Try.pinned (OpenSpec.upto sealAllSpec)

/-- 'sheaveskeep.PoolBad', WHERE WHAT IT READS IS OF BULK AT MOST 1048576: true; the input reads as it did. -/
def poolBadUptoRow : OpenClaim := { program := "ytghimigffnbhaaa", sum := "ee897e51fcc37174ce0b099748b5f52562ca114c27d951612a58e80c721e3e24", func := "sheaves/sheaveskeep.PoolBad", spec := "poolBad", apart := false, narrowed := true }
def PoolBadUptoSaid : Prop := poolBadUptoRow.holds Try.pinned (OpenSpec.upto poolBadSpec)

/-- 'sheaveskeep.SealLast', WHERE WHAT IT READS IS OF BULK AT MOST 1048576: true; the input reads as it did. -/
def sealLastUptoRow : OpenClaim := { program := "ytghimigffnbhaaa", sum := "ee897e51fcc37174ce0b099748b5f52562ca114c27d951612a58e80c721e3e24", func := "sheaves/sheaveskeep.SealLast", spec := "sealLast", apart := false, narrowed := true }
def SealLastUptoSaid : Prop := sealLastUptoRow.holds Try.pinned (OpenSpec.upto sealLastSpec)

/-- 'sheaveskeep.SealFirst', WHERE WHAT IT READS IS OF BULK AT MOST 1048576: true; the input reads as it did. -/
def sealFirstUptoRow : OpenClaim := { program := "ytghimigffnbhaaa", sum := "ee897e51fcc37174ce0b099748b5f52562ca114c27d951612a58e80c721e3e24", func := "sheaves/sheaveskeep.SealFirst", spec := "sealFirst", apart := false, narrowed := true }
def SealFirstUptoSaid : Prop := sealFirstUptoRow.holds Try.pinned (OpenSpec.upto sealFirstSpec)

/-- 'sheaveskeep.SignLast', WHERE WHAT IT READS IS OF BULK AT MOST 1048576: true; the input reads as it did. -/
def signLastUptoRow : OpenClaim := { program := "ytghimigffnbhaaa", sum := "ee897e51fcc37174ce0b099748b5f52562ca114c27d951612a58e80c721e3e24", func := "sheaves/sheaveskeep.SignLast", spec := "signLast", unfollowed := true, recurses := true, apart := false, narrowed := true }
def SignLastUptoSaid : Prop := signLastUptoRow.holds Try.pinned (OpenSpec.upto signLastSpec)

/-- 'sheaveskeep.SignOnce', WHERE WHAT IT READS IS OF BULK AT MOST 1048576: true; the input reads as it did. -/
def signOnceUptoRow : OpenClaim := { program := "ytghimigffnbhaaa", sum := "ee897e51fcc37174ce0b099748b5f52562ca114c27d951612a58e80c721e3e24", func := "sheaves/sheaveskeep.SignOnce", spec := "signOnce", unfollowed := true, recurses := true, apart := false, narrowed := true }
def SignOnceUptoSaid : Prop := signOnceUptoRow.holds Try.pinned (OpenSpec.upto signOnceSpec)

/-- 'sheaveskeep.SignOthers', WHERE WHAT IT READS IS OF BULK AT MOST 1048576: true; the input reads as it did. -/
def signOthersUptoRow : OpenClaim := { program := "ytghimigffnbhaaa", sum := "ee897e51fcc37174ce0b099748b5f52562ca114c27d951612a58e80c721e3e24", func := "sheaves/sheaveskeep.SignOthers", spec := "signOthers", unfollowed := true, recurses := true, apart := false, narrowed := true }
def SignOthersUptoSaid : Prop := signOthersUptoRow.holds Try.pinned (OpenSpec.upto signOthersSpec)

/-- 'sheaveskeep.SignsKeep', WHERE WHAT IT READS IS OF BULK AT MOST 1048576: true; the input reads as it did. -/
def signsKeepUptoRow : OpenClaim := { program := "ytghimigffnbhaaa", sum := "ee897e51fcc37174ce0b099748b5f52562ca114c27d951612a58e80c721e3e24", func := "sheaves/sheaveskeep.SignsKeep", spec := "signsKeep", unfollowed := true, recurses := true, apart := false, narrowed := true }
def SignsKeepUptoSaid : Prop := signsKeepUptoRow.holds Try.pinned (OpenSpec.upto signsKeepSpec)

/-- 'sheaveskeep.CertBad', WHERE WHAT IT READS IS OF BULK AT MOST 1048576: true; the input reads as it did. -/
def certBadUptoRow : OpenClaim := { program := "ytghimigffnbhaaa", sum := "ee897e51fcc37174ce0b099748b5f52562ca114c27d951612a58e80c721e3e24", func := "sheaves/sheaveskeep.CertBad", spec := "certBad", unfollowed := true, recurses := true, apart := false, narrowed := true }
def CertBadUptoSaid : Prop := certBadUptoRow.holds Try.pinned (OpenSpec.upto certBadSpec)

end Rows
end Go.Proofs.Ytghimigffnbhaaa
