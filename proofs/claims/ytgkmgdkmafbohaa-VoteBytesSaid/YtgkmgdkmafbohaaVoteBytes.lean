/- VoteBytes: the walk. -/
import Derived.Test.YtgkmgdkmafbohaaEncC
import Derived.Test.YtgkmgdkmafbohaaGrd
import Derived.Test.YtgkmgdkmafbohaaSameB
import Derived.Test.YtgkmgdkmafbohaaOpenS
set_option linter.unusedVariables false
set_option linter.unusedSimpArgs false
namespace Go.Proofs.Ytgkmgdkmafbohaa
open Go Go.RowKit

theorem vote_cells (a b : Int) (d : Bytes) (a0 : 0 ≤ a) (a1 : a < 4) (b0 : 0 ≤ b) (b1 : b < 200) :
    [Value.int .u8 3, .int .u8 1, .int .u8 2, .int .u8 a, .int .u8 0, .int .u8 0, .int .u8 (1 + b)] ++ byteVs d = byteVs (encL ⟨1, 2, 3, bat0, hdr0, ⟨a, 1 + b, d⟩, crt0, 0⟩) := by
  show _ = byteVs ([byteZ 3, byteZ 1, byteZ 2, byteZ a, byteZ ((1 + b) / 65536), byteZ ((1 + b) / 256), byteZ (1 + b)] ++ d)
  rw [byteVs, byteVs, List.map_append]
  congr 1
  simp only [List.map_cons, List.map_nil, byteZ_toNat, show a % 256 = a by omega, show (1 + b) / 65536 % 256 = 0 by omega, show (1 + b) / 256 % 256 = 0 by omega, show (1 + b) % 256 = 1 + b by omega, show (3 : Int) % 256 = 3 by decide, show (1 : Int) % 256 = 1 by decide, show (2 : Int) % 256 = 2 by decide]
set_option maxRecDepth 100000 in
set_option maxHeartbeats 8000000 in
theorem voteBytes_case (K A B C : Int) (vt : Value) (w : World) (hvt : vt.oneCell' = true) (a1 : -9223372036854775808 ≤ A) (a2 : A ≤ 9223372036854775807) (b1 : -9223372036854775808 ≤ B) (b2 : B ≤ 9223372036854775807) (c1 : -9223372036854775808 ≤ C) (c2 : C ≤ 9223372036854775807) :
    Calls Try.prog 10 #[.agg #[.int .i64 K, .int .i64 A, .int .i64 B, .int .i64 C, vt]] w fun e w' => e = .returned (.bool true) ∧ Below w.heap.size w w' := by
  obtain ⟨pa0, pa1⟩ := pickedZ_range A 4 (by omega)
  obtain ⟨pb0, pb1⟩ := pickedZ_range B 200 (by omega)
  generalize hA : pickedZ A 4 = a at *
  generalize hB : pickedZ B 200 = b at *
  have HA := Lib.hid hA
  have HB := Lib.hid hB
  have l1 : IntKind.i64.wrap (1 + b) = 1 + b := IntWalk.i64_in _ (by omega)
  clear hA hB
  obtain ⟨w1, hw1⟩ : ∃ w1, w1 = w.alloc (.cells #[.int .i64 K, .int .i64 A, .int .i64 B, .int .i64 C, vt] 24) := ⟨_, rfl⟩
  have hb1 : Below w.heap.size w w1 := by rw [hw1]; exact (Below.refl _ _).alloc (Nat.le_refl _) _
  have bx : BoxAt w1 w.heap.size [.int .i64 K, .int .i64 A, .int .i64 B, .int .i64 C, vt] 24 := by rw [hw1]; exact BoxAt.new w [_, _, _, _, _] _
  have x1 := bx.cell 1 rfl
  have x2 := bx.cell 2 rfl
  have x3 := bx.cell 3 rfl
  have hx := bx.lt
  have hn1 : w1.heap.size ≠ w.heap.size := by omega
  have HB1 := Lib.hid hb1
  have HBX := Lib.hid bx
  go_enter Try.func10, Try.ntmps10
  go_upto_region 1 with fail
  rw [← hw1]
  clear hw1 hb1 bx
  go_cut [3] (fun s wx => ∃ X g : Nat, s = .pointer (some ⟨X, 0, none⟩) ∧ w.heap.size ≤ X ∧ X ≠ g ∧ BoxAt wx X [.int .i64 a, .int .i64 (1 + b), .slice (some ⟨g, 0, none⟩) 32 32] 29 ∧ RdB (fun b => b = g) wx (.slice (some ⟨g, 0, none⟩) 32 32) (someL C A) ∧ Below w.heap.size w wx)
  case first =>
    go_region_held3 (fun w' => w'.cell? ⟨w.heap.size, 1, none⟩ = some (.int .i64 A) ∧ w'.cell? ⟨w.heap.size, 2, none⟩ = some (.int .i64 B) ∧ w'.cell? ⟨w.heap.size, 3, none⟩ = some (.int .i64 C)) (go_keep)
      (first
        | (go_at_call 15; refine (picked_any _ _ _ (by omega) (by omega) (by omega) (by omega)).mono ?_; rintro e w' ⟨rfl, rfl⟩; (first | rw [HA.out] | rw [HB.out]))
        | (go_at_call 16; refine (some_any _ _ _ c1 c2).mono ?_; rintro e w2 ⟨rfl, hbox, hb2⟩; (try (have bz := (BoxAt.new w1 [.int .i64 0, .int .i64 0, .slice none 0 0] 29).drew.belowS hb2; have z0 := bz.cell 0 rfl; have z1 := bz.cell 1 rfl; have z2 := bz.cell 2 rfl; have f0 := bz.free 0; have f1 := bz.free 1; have f2 := bz.free 2)); have hb2' : Below w1.heap.size w1 w2 := (Below.trans (by repeat (first | with_reducible exact Below.refl _ _ | with_reducible refine Below.drew ?_ | with_reducible refine Below.alloc ?_ (by first | omega | (simp <;> omega)) _)) (hb2.mono (by first | omega | (simp <;> omega)))); have y1 := ((bcellAt hb2' _ hx).1 1).trans x1; have y2 := ((bcellAt hb2' _ hx).1 2).trans x2; have y3 := ((bcellAt hb2' _ hx).1 3).trans x3; have s2 := hb2'.size; have hn2 : w2.heap.size ≠ w.heap.size := (by omega); have hl2 : w1.heap.size < w2.heap.size := (by have := hbox.lt; first | omega | (simp at this; omega)); have HB2 := Lib.hid (HB1.out.trans (hb2'.mono (Nat.le_of_lt hx))); (try simp at hbox); have HBO := Lib.hid hbox; clear hbox hb2 hb2'))
    all_goals
      go_wp2_with fail
      go_meet
      first
        | exact ⟨w2.heap.size, w1.heap.size, rfl, by omega, by omega, BoxAt.new w2 [_, _, _] _, RdS.of_box (f := fun c : UInt8 => Value.int .u8 c.toNat) (G := fun b => b = w1.heap.size) (l := someL C A) (cap := 32) (BoxAt.alloc (show BoxAt w2 w1.heap.size _ _ from HBO.out) _) rfl (Nat.le_of_eq (someL_length _ _)) (by unfold maxLen; omega), HB2.out.alloc (by omega) _⟩
        | exact ⟨w1.heap.size, w1.heap.size + 1, rfl, by omega, by omega, bz.set3 _ _ _, RdS.of_box (f := fun c : UInt8 => Value.int .u8 c.toNat) (G := fun b => b = w1.heap.size + 1) (l := someL C A) (cap := 32) ((((show BoxAt w2 (w1.heap.size + 1) _ _ from HBO.out).setOther (by simp) _).setOther (by simp) _).setOther (by simp) _) rfl (Nat.le_of_eq (someL_length _ _)) (by unfold maxLen; omega), ((HB2.out.setCell (by simp; omega) _).setCell (by simp; omega) _).setCell (by simp; omega) _⟩
  case rest =>
    obtain ⟨X, g, rfl, hX, hXg, bX, hd, hB⟩ := hcut
    have hcode : msgCode ⟨1, 2, 3, bat0, hdr0, ⟨a, 1 + b, someL C A⟩, crt0, 0⟩ = 0 := by
      rw [msgCode_vote rfl rfl]
      show sltCode a (1 + b) 32 = 0
      unfold sltCode
      rw [if_neg, if_neg (by simp)]
      have e1 : nodeOk a = true := by unfold nodeOk; simp; omega
      have e2 : countOk (1 + b) = true := by unfold countOk; simp; omega
      simp [e1, e2]
    have HC := Lib.hid hcode
    have HBX := Lib.hid bX
    have HBW := Lib.hid hB
    have HD := Lib.hid hd
    have p0 := bX.cell 0 rfl
    have p1 := bX.cell 1 rfl
    have p2 := bX.cell 2 rfl
    have zX := bX.lt
    have zB := hB.size
    clear bX hB hcode hd x1 x2 x3
    go_wp2_with fail
    refine (wencode_ok (G := fun _ => True) ⟨1, 2, 3, bat0, hdr0, ⟨a, 1 + b, someL C A⟩, crt0, 0⟩ { mv0 with d := .slice (some ⟨g, 0, none⟩) 32 32 } _ (rdM_vote _ _ _ (HD.out.mono (fun _ _ => trivial))) msgOk_vote HC.out).mono ?_
    rintro e w3 ⟨v3, rfl, hown, hb3⟩
    obtain ⟨ad3, cap3, rfl⟩ := ownsRow_form hown
    have HR := Lib.hid ((show RdB (fun b => wc.heap.size ≤ b) w3 _ (encL ⟨1, 2, 3, bat0, hdr0, ⟨a, 1 + b, someL C A⟩, crt0, 0⟩) from RdS.of_owns hown (fun _ h => h)).low (by decide))
    have bX3 := HBX.out.belowS hb3
    have HSL := Lib.hid (show SlCells w3 (.slice (some ⟨g, 0, none⟩) 32 32) 32 1 (byteVs (someL C A)) from RdS.slCells (HD.out.below hb3 (fun _ h => h)))
    have HB3 := Lib.hid (HBW.out.trans (hb3.mono zB))
    have q0 := bX3.cell 0 rfl
    have q1 := bX3.cell 1 rfl
    have q2 := bX3.cell 2 rfl
    have q3 := bX3.lt
    clear bX3 hown hb3 p0 p1 p2
    go_wp2_with (at_builtin; refine wpList_append_at1G (by rfl) _ _ 26 (by rfl) elemB w3.heap.size (.slice (some ⟨w3.heap.size, 0, none⟩) 7 7) rfl 7 [.int .u8 3, .int .u8 1, .int .u8 2, .int .u8 a, .int .u8 0, .int .u8 0, .int .u8 (1 + b)] (by exact lit_ownsN w3 [_, _, _, _, _, _, _] _) _ rfl 32 (byteVs (someL C A)) (by exact HSL.out.below ((Below.refl _ _).alloc (Nat.le_refl _) _)) (oneCell_map _ _ (fun _ => rfl)) (by decide) (by unfold maxLen; omega) (by omega) (by simp) _ rfl ?_; intro g5 cap5 w5 hown5 hgr5 hat5 hlt5)
    have hr5 := HR.out.keep (G' := fun _ => True) ((Keep.alloc _ _ _).trans (Keep.grown hgr5 (fun k hk hb => by simp [Value.ownBlock] at hk; have := hb.2; omega))) (fun _ _ => trivial)
    rw [vote_cells a b _ pa0 pa1 pb0 pb1] at hown5
    have hm5 : RdB (fun _ => True) w5 _ (encL ⟨1, 2, 3, bat0, hdr0, ⟨a, 1 + b, someL C A⟩, crt0, 0⟩) := RdS.of_owns hown5 (fun _ _ => trivial)
    refine (same_any _ _ _ hr5 hm5).mono ?_
    rintro e w6 ⟨rfl, rfl⟩
    rw [decide_eq_true rfl]
    have hB5 := (HB3.out.alloc HB3.out.size _).grown hgr5 (by have := HB3.out.size; simp; omega) (fun k hk => by simp [Value.ownBlock] at hk; have := HB3.out.size; omega)
    go_wp2
    go_ret
    exact ⟨rfl, hB5⟩
theorem voteBytes_walk (vt : Value) (r : RawD) (w : World) (hr : RawOk (fun _ => True) w vt r) :
    Calls Try.prog 10 #[.agg #[.int .i64 r.k, .int .i64 r.a, .int .i64 r.b, .int .i64 r.c, vt]] w fun e w' => e = .returned (.bool true) ∧ Below w.heap.size w w' :=
  voteBytes_case r.k r.a r.b r.c vt w hr.one hr.2.1.1 hr.2.1.2 hr.2.2.1.1 hr.2.2.1.2 hr.2.2.2.1.1 hr.2.2.2.1.2
end Go.Proofs.Ytgkmgdkmafbohaa
