/- SealLast: the walk. -/
import Derived.Test.YtghimigffnbhaaaPoolMore
import Derived.Test.YtghimigffnbhaaaSealP
import Derived.Test.YtghimigffnbhaaaLib4
set_option linter.unusedVariables false
set_option linter.unusedSimpArgs false
namespace Go.Proofs.Ytghimigffnbhaaa
open Go Go.RowKit

theorem picked_3_99 : pickedZ 3 99 = 3 := by decide
theorem lit_owns (w : World) (v : Value) (e : TypeId) : (w.alloc (.cells #[v] e)).ownsRow w.heap.size e 1 (.slice (some ⟨w.heap.size, 0, none⟩) 1 1) 1 [v] :=
  ⟨rfl, .inr ⟨w.heap.size, 1, #[v], rfl, Nat.le_refl _, heap_alloc_new w _, Nat.le_refl _, by decide, by simp, by simp⟩⟩
/-- The pool of 'a' and a list: it begins with 'a'. -/
theorem fold_keeps (n : Int) (x : List UInt8) : ∀ (ts acc : List (List UInt8)), x ∈ acc → x ∈ ts.foldl (addAll n) acc
  | [], _, h => h
  | t :: ts, acc, h => fold_keeps n x ts _ (by unfold addAll; split <;> simp [h])
theorem poolFold_a {n : Int} (h1 : 1 ≤ n) (h2 : n ≤ 1048577) (l : List (List UInt8)) : [97] ∈ poolFold n (([97] :: l).take 30) := by
  have e : ([97] :: l).take 30 = [97] :: l.take 29 := rfl
  rw [e]
  unfold poolFold
  rw [List.map_cons, List.foldl_cons]
  apply fold_keeps
  have ok : poolOk n [] = true := by unfold poolOk; simp [h1, h2]
  have t1 : txOf [97] = [97] := by decide
  have hc : addCode n [] [97] = 0 := addCode_ok ok (by decide) (by simp) (by simp)
  rw [t1]
  unfold addAll
  rw [if_pos hc]
  simp
theorem poolOk_n {n m : Int} {l : List (List UInt8)} (h : poolOk n l = true) (h1 : 1 ≤ m) (h2 : m ≤ 1048577) : poolOk m l = true := by
  unfold poolOk at h ⊢
  simp only [decide_eq_true_eq] at h ⊢
  exact ⟨h1, h2, h.2.2⟩
theorem poolOk_drop {n : Int} {l : List (List UInt8)} (h : poolOk n l = true) (k : Nat) : poolOk n (l.drop k) = true := by
  unfold poolOk at h ⊢
  simp only [decide_eq_true_eq] at h ⊢
  exact ⟨h.1, h.2.1, by have := h.2.2.1; simp; omega, fun t ht => h.2.2.2.1 t (List.mem_of_mem_drop ht), h.2.2.2.2.sublist (List.drop_sublist _ _)⟩
theorem poolOk_take {n : Int} {l : List (List UInt8)} (h : poolOk n l = true) (k : Nat) : poolOk n (l.take k) = true := by
  unfold poolOk at h ⊢
  simp only [decide_eq_true_eq] at h ⊢
  exact ⟨h.1, h.2.1, by have := h.2.2.1; simp; omega, fun t ht => h.2.2.2.1 t (List.mem_of_mem_take ht), h.2.2.2.2.sublist (List.take_sublist _ _)⟩
theorem sealCode_ok {n a : Int} {l : List (List UInt8)} (h : poolOk n l = true) (h1 : 0 ≤ a) (h2 : a < 4) (h3 : l.length ≠ 0) (h4 : n ≤ 1048576) : sealCode n l a = 0 := by
  unfold sealCode; simp [h, h3]; omega
theorem sealCode_full {n a : Int} {l : List (List UInt8)} (h : poolOk n l = true) (h1 : 0 ≤ a) (h2 : a < 4) (h3 : l.length ≠ 0) (h4 : 1048576 < n) : sealCode n l a = 6 := by
  unfold sealCode; simp [h, h3]; omega

set_option maxRecDepth 100000 in
set_option maxHeartbeats 4000000 in
theorem sealLast_walk (v : Value) (l : List (List UInt8)) (w : World) (h : RdT (fun _ => True) w v l) (hl : ∀ t ∈ l, t.length ≤ 9223372036854775807) (hz : l.length * 16 ≤ reachBytes) :
    Calls Try.prog 9 #[v] w fun e w' => e = .returned (.bool true) ∧ Below w.heap.size w w' := by
  have hz' : l.length * 16 ≤ 140737488351232 := hz
  go_enter Try.func9, Try.ntmps9
  go_wp2_with (at_builtin; refine wpList_append_sl rfl _ _ 29 rfl elemT w.heap.size _ rfl 1 [strV [97]] (by exact lit_owns _ _ _) _ rfl l.length (l.map (fun s => strV s)) (by exact RdS.slCells (h.keep (Keep.alloc _ _ _) (fun _ h => h))) (oneCell_map _ _ (fun _ => rfl)) (by unfold maxLen; omega) (by omega) (by simp) ?_; intro v3 w3 hown3 hgr3)
  have hB3 : Below w.heap.size w w3 := ((Below.refl _ w).alloc (Nat.le_refl _) _).grown hgr3 (by simp) (fun k hk => ownBlock_ge (lit_owns w (strV [97]) 9) k hk)
  have hV : RdT (fun b => w.heap.size ≤ b) w3 v3 ([97] :: l) := RdS.of_owns (n := 1 + l.length) (by simpa using hown3) (fun _ h => h)
  clear hown3 hgr3
  have hs3 : ∀ t ∈ ([97] :: l), t.length ≤ 9223372036854775807 := fun t ht => by
    rcases List.mem_cons.1 ht with rfl | ht
    · decide
    · exact hl t ht
  have K := kpool_any v3 3 w3 hV hs3 (by decide) (by decide)
  rw [show (1 : Int) + pickedZ 3 99 = 4 by rw [picked_3_99]; rfl] at K
  have hm := poolFold_a (n := 4) (by decide) (by decide) l
  have hok := poolFold_ok (n := 4) (([97] :: l).take 30) (by decide) (by decide)
  generalize poolFold 4 (([97] :: l).take 30) = P at *
  have hlen : P.length ≠ 0 := fun e => by rw [List.eq_nil_of_length_eq_zero e] at hm; simp at hm
  have hl40 : P.length ≤ 40 := by unfold poolOk at hok; simp only [decide_eq_true_eq] at hok; exact hok.2.2.1
  have HS1 := Lib.hid (sealCode_ok (a := 1) (poolOk_n hok (m := 1048576) (by decide) (by decide)) (by decide) (by decide) hlen (by decide))
  obtain ⟨kk, hkk⟩ : ∃ kk, kk = min P.length 4 := ⟨_, rfl⟩
  have hck : poolCode 1048577 (P.drop kk) = 0 := by unfold poolCode; rw [poolOk_drop (poolOk_n hok (by decide) (by decide)) kk]; rfl
  have HCK := Lib.hid hck
  have HS2 := Lib.hid (show sealCode 1048577 [[97]] 1 = 6 by decide)
  have HK := Lib.hid K
  have HKK := Lib.hid hkk
  clear K hm hok hck hV hs3 hkk
  refine HK.out.mono ?_
  rintro e w4 ⟨v4, rfl, hP, hb4⟩
  obtain ⟨ad4, cap4, rfl, -, -⟩ := hP.form
  have HP := Lib.hid hP
  have hB4 := hB3.trans (hb4.mono hB3.size)
  have z4 := hB4.size
  clear hP hb4
  go_wp2_with fail
  refine (pseal_ok (HP.out.keep (Keep.alloc _ _ _) (fun _ h => h)) HS1.out HKK.out).mono ?_
  rintro e w5 ⟨a1, c1, a2, c2, rfl, hd, ht, hb5⟩
  have hB5 := (hB4.alloc z4 _).trans (hb5.mono (by simp; omega))
  have z5 := hB5.size
  have z45 : w4.heap.size < w5.heap.size := by have := hb5.size; simp at this; omega
  clear hb5 ht
  have HD := Lib.hid hd
  clear hd
  have lD : (P.drop kk).length = P.length - kk := by simp
  go_wp2_with fail
  refine (pcheck_any _ _ _ (HD.out.keep ?_ (fun _ h => h))).mono ?_
  · repeat (first | with_reducible exact Keep.refl _ _ | with_reducible refine Keep.alloc' ?_ _)
  rintro e w6 ⟨rfl, hb6⟩
  rw [HCK.out]
  have bx : BoxAt w6 w5.heap.size [.int .i64 1048577, .slice a1 (P.length - kk) c1] 31 := ((BoxAt.new w5 [_, _] _).alloc _).below hb6 (by simp; omega)
  have hB6 := ((hB5.alloc z5 _).alloc (by simp; omega) _).trans (hb6.mono (by simp; omega))
  have z6 := hB6.size
  have z56 : w5.heap.size < w6.heap.size := bx.lt
  have x0 := bx.cell 0 rfl
  have x1 := bx.cell 1 rfl
  have xf0 := bx.free 0
  have xf1 := bx.free 1
  have n6 : w6.heap.size ≠ w5.heap.size := by omega
  clear hb6
  go_wp2_with fail
  refine (pseal_no (G := fun _ => True) (l := [[97]]) ?_ HS2.out (by decide)).mono ?_
  rotate_left
  rintro e w7 ⟨rfl, hb7⟩
  have hB7 : Below w.heap.size w w7 := by
    refine Below.trans ?_ (hb7.mono (by simp; omega))
    repeat (first | with_reducible exact hB6 | with_reducible refine Below.setCell ?_ (by first | omega | (simp <;> omega)) _ | with_reducible refine Below.alloc ?_ (by first | omega | (simp <;> omega)) _)
  have z7 := hB7.size
  go_wp2
  go_ret
  · refine ⟨rfl, ?_⟩
    repeat (first | with_reducible exact hB7 | with_reducible refine Below.setCell ?_ (by first | omega | (simp <;> omega)) _ | with_reducible refine Below.alloc ?_ (by first | omega | (simp <;> omega)) _)
  · have := lit_owns (w6.setCell ⟨w5.heap.size, 1, none⟩ (.slice (some ⟨w6.heap.size, 0, none⟩) 1 1)) (strV [97]) 9
    exact RdS.of_owns (l := [[97]]) (by simpa using this) (fun _ _ => trivial)
end Go.Proofs.Ytghimigffnbhaaa
