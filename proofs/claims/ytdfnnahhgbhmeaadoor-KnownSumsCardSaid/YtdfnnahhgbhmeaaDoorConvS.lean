/- Bytes as a text. No program is named. -/
import Derived.Test.YtdfnnahhgbhmeaaDoorLib3
import Derived.Test.YtdfnnahhgbhmeaaDoorCodes
set_option linter.unusedVariables false
set_option linter.unusedSimpArgs false
namespace Go.Proofs.YtdfnnahhgbhmeaaDoor
open Go Go.RowKit
theorem conv_bytes_str {P : Program} {src dst e : TypeId} (hs : P.underlying src = some (.slice e)) (he : P.underlying e = some (.int .u8)) (hd : P.underlying dst = some .string) {G : Nat → Prop} {w : World} {v : Value} {l : Bytes} (hr : RdB G w v l) :
    (convert src dst v).run P w = .ok (strV l) w := by
  obtain ⟨ad, cap, hf, _⟩ := hr.form
  have h2 := run_bytesToString_rd (P := P) hr
  rw [hf] at h2 ⊢
  rw [run_convert_bytes_string (P := P) w src dst e ad _ cap hs he hd]
  exact h2
end Go.Proofs.YtdfnnahhgbhmeaaDoor
