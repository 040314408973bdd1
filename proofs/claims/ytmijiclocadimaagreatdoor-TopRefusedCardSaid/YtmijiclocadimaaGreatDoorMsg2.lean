/- wire.Check: what it computes. -/
import Derived.Test.YtmijiclocadimaaGreatDoorMsg
import Derived.Test.YtmijiclocadimaaGreatDoorBas
set_option linter.unusedVariables false
set_option linter.unusedSimpArgs false
namespace Go.Proofs.YtmijiclocadimaaGreatDoor
open Go Go.RowKit

abbrev zeroMsg : List Value := [.int .i64 0, .int .i64 0, .int .i64 0, .int .i64 0, .int .i64 0, .slice none 0 0, .int .i64 0, .int .i64 0, .slice none 0 0, .slice none 0 0, .int .i64 0, .int .i64 0, .slice none 0 0, .int .i64 0, .int .i64 0, .slice none 0 0, .slice none 0 0, .slice none 0 0, .int .i64 0]
set_option maxRecDepth 100000 in
set_option maxHeartbeats 4000000 in
theorem wcheck_bad (f t k ba bn : Int) (a1 : Option Addr) (ntx c1 : Nat) (ha hr : Int) (a2 : Option Addr) (nbs c2 : Nat) (a3 : Option Addr) (nps c3 : Nat) (sa sr : Int) (a4 : Option Addr) (nd c4 : Nat) (ca cr : Int) (a5 : Option Addr) (ncb c5 : Nat) (a6 : Option Addr) (ncp c6 : Nat) (a7 : Option Addr) (nvs c7 : Nat) (r : Int) (w : World) (c : Int)
    (h : ((nodeOk f = false ∨ nodeOk t = false) ∧ c = 2) ∨ (nodeOk f = true ∧ nodeOk t = true ∧ (k < 1 ∨ 5 < k) ∧ c = 3)) :
    Calls Tryz.prog 73 #[msgAgg f t k ba bn (.slice a1 ntx c1) ha hr (.slice a2 nbs c2) (.slice a3 nps c3) sa sr (.slice a4 nd c4) ca cr (.slice a5 ncb c5) (.slice a6 ncp c6) (.slice a7 nvs c7) r] w fun e w' => e = .returned (.int .i64 c) ∧ Below w.heap.size w w' := by
  go_enter Tryz.func73, Tryz.ntmps73
  unfold msgAgg
  go_upto_region 1 with fail
  obtain ⟨w1, hw1⟩ : ∃ w1, w1 = w.alloc (.cells #[.int .i64 f, .int .i64 t, .int .i64 k, .int .i64 ba, .int .i64 bn, .slice a1 ntx c1, .int .i64 ha, .int .i64 hr, .slice a2 nbs c2, .slice a3 nps c3, .int .i64 sa, .int .i64 sr, .slice a4 nd c4, .int .i64 ca, .int .i64 cr, .slice a5 ncb c5, .slice a6 ncp c6, .slice a7 nvs c7, .int .i64 r] 106) := ⟨_, rfl⟩
  have bx : BoxAt w1 w.heap.size [.int .i64 f, .int .i64 t, .int .i64 k, .int .i64 ba, .int .i64 bn, .slice a1 ntx c1, .int .i64 ha, .int .i64 hr, .slice a2 nbs c2, .slice a3 nps c3, .int .i64 sa, .int .i64 sr, .slice a4 nd c4, .int .i64 ca, .int .i64 cr, .slice a5 ncb c5, .slice a6 ncp c6, .slice a7 nvs c7, .int .i64 r] 106 := by rw [hw1]; exact BoxAt.new w [.int .i64 f, .int .i64 t, .int .i64 k, .int .i64 ba, .int .i64 bn, .slice a1 ntx c1, .int .i64 ha, .int .i64 hr, .slice a2 nbs c2, .slice a3 nps c3, .int .i64 sa, .int .i64 sr, .slice a4 nd c4, .int .i64 ca, .int .i64 cr, .slice a5 ncb c5, .slice a6 ncp c6, .slice a7 nvs c7, .int .i64 r] _
  have hb1 : Below w.heap.size w w1 := by rw [hw1]; exact (Below.refl _ _).alloc (Nat.le_refl _) _
  have z1 : w1.heap.size = w.heap.size + 1 := by rw [hw1]; simp
  rw [← hw1]
  have HBX := Lib.hid bx
  have HB1 := Lib.hid hb1
  have HZ1 := Lib.hid z1
  have p0 := bx.cell 0 rfl
  have p1 := bx.cell 1 rfl
  have p2 := bx.cell 2 rfl
  clear hw1 bx hb1 z1
  cases e1 : nodeOk f
  · obtain rfl : c = 2 := by rcases h with h | h; exact h.2; simp [e1] at h
    clear h
    go_wp2_with (go_at_call 98; refine (node_any _ _).mono ?_; rintro e w' ⟨rfl, rfl⟩)
    go_ret
    exact ⟨rfl, HB1.out⟩
  cases e2 : nodeOk t
  · obtain rfl : c = 2 := by rcases h with h | h; exact h.2; simp [e2] at h
    clear h
    go_wp2_with (go_at_call 98; refine (node_any _ _).mono ?_; rintro e w' ⟨rfl, rfl⟩)
    go_ret
    exact ⟨rfl, HB1.out⟩
  obtain ⟨hk, rfl⟩ : (k < 1 ∨ 5 < k) ∧ c = 3 := by rcases h with h | h; simp [e1, e2] at h; exact h.2.2
  have k1 : (k == 1) = false := by rw [beq_eq_false_iff_ne]; omega
  have k2 : (k == 2) = false := by rw [beq_eq_false_iff_ne]; omega
  have k3 : (k == 3) = false := by rw [beq_eq_false_iff_ne]; omega
  have k4 : (k == 4) = false := by rw [beq_eq_false_iff_ne]; omega
  have k5 : (k == 5) = false := by rw [beq_eq_false_iff_ne]; omega
  clear h hk
  go_upto_region 3 with (go_at_call 98; refine (node_any _ _).mono ?_; rintro e w' ⟨rfl, rfl⟩)
  go_wp2_with (first
    | (refine wpList_load_box rfl 106 _ rfl w.heap.size rfl [.int .i64 f, .int .i64 t, .int .i64 k, .int .i64 ba, .int .i64 bn, .slice a1 ntx c1, .int .i64 ha, .int .i64 hr, .slice a2 nbs c2, .slice a3 nps c3, .int .i64 sa, .int .i64 sr, .slice a4 nd c4, .int .i64 ca, .int .i64 cr, .slice a5 ncb c5, .slice a6 ncp c6, .slice a7 nvs c7, .int .i64 r] 106 HBX.out Tryz.underlying106 rfl (by kernel_rfl) ?_)
    | (refine wpList_store_new rfl 106 _ _ rfl [.int .i64 f, .int .i64 t, .int .i64 k, .int .i64 ba, .int .i64 bn, .slice a1 ntx c1, .int .i64 ha, .int .i64 hr, .slice a2 nbs c2, .slice a3 nps c3, .int .i64 sa, .int .i64 sr, .slice a4 nd c4, .int .i64 ca, .int .i64 cr, .slice a5 ncb c5, .slice a6 ncp c6, .slice a7 nvs c7, .int .i64 r] 106 zeroMsg rfl rfl (by kernel_rfl) rfl rfl ?_; intro w2 hb2 hB2 hs2; have q0 := ((bcellAt hB2 _ HBX.out.lt).1 2).trans p2; have HB2 := Lib.hid hB2; clear hb2 hB2 hs2))
  go_ret
  exact ⟨rfl, HB1.out.trans (HB2.out.mono HB1.out.size)⟩
end Go.Proofs.YtmijiclocadimaaGreatDoor
