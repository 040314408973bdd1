/- lines.unhex, number: what they compute. -/
import Derived.Test.YtodcebhfkmlmgaaDoorFeat
import Derived.Deep.RegionHeld3
import Derived.Deep.QuietTactic
import Derived.BigQuiet
set_option linter.unusedVariables false
set_option linter.unusedSimpArgs false
namespace Go.Proofs.YtodcebhfkmlmgaaDoor
open Go Go.RowKit

theorem indexByte_q (c : UInt8) (w : World) :
    Calls Tryd.prog 36 #[.string ⟨#[48, 49, 50, 51, 52, 53, 54, 55, 56, 57, 97, 98, 99, 100, 101, 102]⟩, .int .u8 c.toNat] w fun e w' => e = .returned (.int .i64 (digV c)) ∧ w' = w :=
  (indexByte_any c w).mono fun _ _ h => ⟨h.1, h.2.symm⟩
theorem elemBt : ElemOk Tryd.prog 36 5 1 1 := elemOk_of (z := .int .u8 0) (by kernel_rfl) (by kernel_rfl) rfl (by decide)
theorem orBits16 : ∀ x y : Fin 16, bits BinOp.or .i64 ((x.val : Int) * 16) (y.val : Int) % 256 = ((UInt8.ofNat (x.val * 16 + y.val)).toNat : Int) := by decide +kernel
theorem orBits {x y : Nat} (hx : x < 16) (hy : y < 16) : bits BinOp.or .i64 ((x : Int) * 16) (y : Int) % 256 = ((UInt8.ofNat (x * 16 + y)).toNat : Int) := orBits16 ⟨x, hx⟩ ⟨y, hy⟩
set_option maxHeartbeats 8000000 in
set_option maxRecDepth 100000 in
theorem lunhex_any (s : ByteArray) (w : World) (hs : s.size ≤ 4294967296) :
    Calls Tryd.prog 30 #[.string s] w fun e w' => e = .returned (.tuple #[strV (unhexL s.data.toList).1, .bool (unhexL s.data.toList).2]) ∧ Below w.heap.size w w' := by
  have hsl : s.data.toList.length = s.size := by simp
  have HSL := Lib.hid hsl
  go_enter Tryd.func30, Tryd.ntmps30
  by_cases hev : s.size % 2 = 0
  · have HU := Lib.hid (show unhexL s.data.toList = unh [] s.data.toList by unfold unhexL; rw [hsl, if_neg (by omega)])
    have hev' : (s.size : Int) % 2 = 0 := by omega
    have HEV := Lib.hid hev
    clear hsl hev
    go_wp2_with fail
    go_loopw [4, 5] (fun b i wr => ∃ (m : Nat) (acc : List UInt8) (ad : Option Addr) (cap : Nat), m ≤ s.size ∧ Hid (m % 2 = 0) ∧ i = .int .i64 (m : Int) ∧ b = .slice ad acc.length cap ∧ acc.length ≤ m ∧ Hid (unh acc (s.data.toList.drop m) = unh [] s.data.toList) ∧ wr.ownsRow w.heap.size 5 1 (.slice ad acc.length cap) acc.length (acc.map fun c => .int .u8 c.toNat) ∧ Below w.heap.size w wr) (fun _ i _ => s.size - (intOf i).toNat)
    case atStart => exact ⟨0, [], none, 0, by omega, Lib.hid rfl, rfl, rfl, by simp, Lib.hid (by simp), World.ownsRow_nil _ _ _ _, Below.refl _ _⟩
    case round =>
      obtain ⟨m, acc, ad, cap, hm, HM, rfl, rfl, hacc, HQ, hO, hB⟩ := hrel
      have HOw := Lib.hid hO
      have HBe := Lib.hid hB
      have hz := hB.size
      clear hO hB
      by_cases hlt : m < s.size
      · have hlt1 : m + 1 < s.size := by have := HEV.out; have := HM.out; omega
        have m0 : (0 : Int) ≤ (m : Int) := by omega
        have m1 : (m : Int) < (s.size : Int) := by omega
        have m2 : (0 : Int) ≤ (m : Int) + 1 := by omega
        have m3 : (m : Int) + 1 < (s.size : Int) := by omega
        have m4 : ((m : Int) + 1).toNat = m + 1 := by omega
        have wm : IntKind.i64.wrap ((m : Int) + 1) = (m : Int) + 1 := IntWalk.i64_in _ (by omega)
        go_upto_region 7 with fail
        go_quiet ((go_at_call 36; exact Calls.quiet_of_same (indexByte_q _ _)))
        obtain ⟨w1, hw1⟩ : ∃ w1, w1 = wr.drewN nq := ⟨_, rfl⟩
        have hbd : Below wr.heap.size wr w1 := by rw [hw1]; exact below_drewN (Below.refl _ _) nq
        rw [← hw1]
        clear hw1
        replace HOw := Lib.hid (ownsRow_below HOw.out hbd)
        replace HBe := Lib.hid (HBe.out.trans (hbd.mono hz))
        have hz1 := HBe.out.size
        clear hbd
        have HSd := Lib.hid (show s.data.toList.drop m = s[m] :: s[m + 1] :: s.data.toList.drop (m + 2) by
          rw [List.drop_eq_getElem_cons (by rw [HSL.out]; exact hlt), List.drop_eq_getElem_cons (by rw [HSL.out]; exact hlt1)]; rfl)
        rw [HSd.out] at HQ
        have r1 := digV_range s[m]
        have r2 := digV_range s[m + 1]
        generalize hcc : s[m] = c at *
        generalize hdd : s[m + 1] = d at *
        clear hcc hdd HSd
        generalize hh : digV c = h at *
        generalize hk : digV d = k at *
        have HH := Lib.hid hh
        have HK := Lib.hid hk
        clear hh hk
        by_cases g1 : h < 0
        · have HR := Lib.hid (show unhexL s.data.toList = ([], false) by rw [HU.out, ← HQ.out, unh, if_pos (.inl (by rw [HH.out]; exact g1))])
          go_wp2
          go_ret2
          exact ⟨by rw [HR.out]; rfl, HBe.out⟩
        · by_cases g2 : k < 0
          · have HR := Lib.hid (show unhexL s.data.toList = ([], false) by rw [HU.out, ← HQ.out, unh, if_pos (.inr (by rw [HK.out]; exact g2))])
            go_wp2
            go_ret2
            exact ⟨by rw [HR.out]; rfl, HBe.out⟩
          · have HN := Lib.hid (show unh (acc ++ [UInt8.ofNat (h.toNat * 16 + k.toNat)]) (s.data.toList.drop (m + 2)) = unh [] s.data.toList by rw [← HQ.out, unh, if_neg (by rw [HH.out, HK.out]; omega), HH.out, HK.out])
            obtain ⟨x, rfl⟩ : ∃ x : Nat, h = x := ⟨h.toNat, by omega⟩
            obtain ⟨y, rfl⟩ : ∃ y : Nat, k = y := ⟨k.toNat, by omega⟩
            have hor := orBits (x := x) (y := y) (by omega) (by omega)
            rw [show (x : Int).toNat * 16 + (y : Int).toNat = x * 16 + y by simp] at HN
            generalize UInt8.ofNat (x * 16 + y) = z at *
            go_wp2_with (at_builtin; refine wpList_append_sl rfl _ _ 36 rfl elemBt w.heap.size (.slice ad acc.length cap) rfl acc.length (acc.map fun c => .int .u8 c.toNat) (ownsRow_below HOw.out ((Below.refl _ _).alloc (Nat.le_refl _) _)) (.slice (some ⟨w1.heap.size, 0, none⟩) 1 1) rfl 1 [.int .u8 z.toNat] (BoxAt.slCells (BoxAt.new w1 [.int .u8 z.toNat] 5) rfl) (by simp [Value.oneCell']) (by unfold maxLen; omega) (by omega) (by simp; omega) ?_; intro v5 w5 hown5 hgr5)
            obtain ⟨ad5, cap5, rfl⟩ := ownsRow_form hown5
            have HO5 := Lib.hid (show w5.ownsRow w.heap.size 5 1 (.slice ad5 (acc ++ [z]).length cap5) (acc ++ [z]).length ((acc ++ [z]).map fun c => .int .u8 c.toNat) by simpa using hown5)
            have HB5 := Lib.hid ((HBe.out.alloc hz1 (.cells #[.int .u8 z.toNat] 5)).grown hgr5 (by simp; omega) (fun k hk => (HOw.out.lt k hk).1))
            have hal : (acc ++ [z]).length = acc.length + 1 := by simp
            clear hown5 hgr5 hor
            go_wp2
            go_roundw
            case rel => exact ⟨_, _, _, _, ⟨m + 2, by omega, Lib.hid (by have := HM.out; omega), by go_num, acc ++ [z], ad5, cap5, by rw [hal], by omega, HN, HO5.out, HB5.out⟩, rfl, rfl, rfl, rfl⟩
            case measure => simp [intOf]; omega
      · obtain rfl : m = s.size := by omega
        have HR := Lib.hid (show unhexL s.data.toList = (acc, true) by rw [HU.out, ← HQ.out, List.drop_of_length_le (by rw [HSL.out]; exact Nat.le_refl _)]; rfl)
        have HRd := Lib.hid (show RdB (fun _ => True) wr (.slice ad acc.length cap) acc from RdS.of_owns HOw.out (fun _ _ => trivial))
        go_wp2_with (refine wpList_bytes_str rfl 36 9 _ rfl Tryd.underlying36 Tryd.underlying5 Tryd.underlying9 _ rfl acc HRd.out ?_)
        go_ret2
        exact ⟨by rw [HR.out]; rfl, HBe.out⟩
  · have HU := Lib.hid (show unhexL s.data.toList = ([], false) by unfold unhexL; rw [hsl, if_pos (by omega)])
    have hev' : ¬ (s.size : Int) % 2 = 0 := by omega
    clear hsl hev
    go_wp2
    go_ret2
    exact ⟨by rw [HU.out]; rfl, Below.refl _ _⟩
end Go.Proofs.YtodcebhfkmlmgaaDoor
