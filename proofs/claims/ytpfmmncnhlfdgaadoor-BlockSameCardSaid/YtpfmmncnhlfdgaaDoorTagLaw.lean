/- What the tagged digest's bytes are. -/
import Derived.Test.YtpfmmncnhlfdgaaDoorTag
import Derived.Test.YtpfmmncnhlfdgaaDoorBas
set_option linter.unusedVariables false
set_option linter.unusedSimpArgs false
namespace Go.Proofs.YtpfmmncnhlfdgaaDoor
open Go Go.RowKit

def partL (d : Bytes) : Bytes := byteZ (d.length / 256 : Nat) :: byteZ d.length :: d
theorem partL_length (d : Bytes) : (partL d).length = 2 + d.length := by simp [partL]; omega
theorem tagGo_part {b : Bytes} {p : Bytes} {t : List Bytes} (h : b.length + 2 + p.length ≤ 4000) : tagGo b (p :: t) = tagGo (b ++ partL p) t := by
  rw [tagGo, if_neg (by omega)]; rfl
theorem tagGo_nil (b : Bytes) : tagGo b [] = some b := rfl
theorem tagGo_one {tag : UInt8} {d : Bytes} (h : d.length ≤ 3900) : tagGo [tag] [d] = some (tag :: partL d) := by
  rw [tagGo_part (by simp; omega), tagGo_nil]; rfl
theorem tagGo_two {tag : UInt8} {d e : Bytes} (h : d.length + e.length ≤ 3900) : tagGo [tag] [d, e] = some (tag :: (partL d ++ partL e)) := by
  rw [tagGo_part (by simp; omega), tagGo_part (by rw [List.length_append, partL_length]; simp; omega), tagGo_nil]; simp
theorem byteVs_part (d : Bytes) (h : d.length ≤ 60000) : byteVs (partL d) = [.int .u8 ((d.length : Int) / 256), .int .u8 ((d.length : Int) % 256)] ++ byteVs d := by
  have : (((byteZ (d.length / 256 : Nat)).toNat : Nat) : Int) = (d.length : Int) / 256 := by rw [byteZ_toNat]; omega
  simp [byteVs, partL, byteZ_toNat]; omega
theorem byteVs_app (a b : Bytes) : byteVs (a ++ b) = byteVs a ++ byteVs b := by simp [byteVs]
theorem byteVs_cons (c : UInt8) (b : Bytes) : byteVs (c :: b) = Value.int .u8 (c.toNat : Int) :: byteVs b := rfl
end Go.Proofs.YtpfmmncnhlfdgaaDoor
