/- sheaveskeep: Pool. -/
import Derived.Test.YtghimigffnbhaaaPool
import Derived.Test.YtghimigffnbhaaaKeepTx
import Derived.Test.YtghimigffnbhaaaBase
import Derived.Test.YtghimigffnbhaaaLib2
set_option linter.unusedVariables false
set_option linter.unusedSimpArgs false
namespace Go.Proofs.Ytghimigffnbhaaa
open Go Go.RowKit

/-- One text more in a pool. -/
def addAll (n : Int) (acc : List (List UInt8)) (t : List UInt8) : List (List UInt8) := if addCode n acc t = 0 then acc ++ [t] else acc
/-- A pool of raw texts. -/
def poolFold (n : Int) (l : List (List UInt8)) : List (List UInt8) := (l.map txOf).foldl (addAll n) []
theorem poolFold_succ (n : Int) (l : List (List UInt8)) (k : Nat) (h : k < l.length) : poolFold n (l.take (k + 1)) = addAll n (poolFold n (l.take k)) (txOf l[k]) := by
  unfold poolFold; rw [take_snoc' l k h, List.map_append, List.foldl_append]; rfl

set_option maxHeartbeats 400000 in
theorem kpool_any {G : Nat → Prop} {l : List (List UInt8)} (v : Value) (next : Int) (w : World) (h : RdT G w v l) (hs : ∀ t ∈ l, t.length ≤ 9223372036854775807) (h1 : -9223372036854775808 ≤ next) (h2 : next ≤ 9223372036854775807) :
    Calls Try.prog 18 #[v, .int .i64 next] w fun e w' => ∃ v', e = .returned (.agg #[.int .i64 (1 + pickedZ next 99), v']) ∧ RdT (fun b => w.heap.size ≤ b) w' v' (poolFold (1 + pickedZ next 99) (l.take 30)) ∧ Below w.heap.size w w' := by
  obtain ⟨ad, cap, rfl, hlc, hcap⟩ := h.form
  unfold maxLen at hcap
  obtain ⟨r1, r2⟩ := pickedZ_range next 99 (by omega)
  generalize hp : pickedZ next 99 = p at *
  have Hp := Lib.hid hp
  clear hp
  go_enter Try.func18, Try.ntmps18
  go_wp2_with (go_at_call 16; refine (picked_any _ _ _ (by omega) (by omega) (by omega) (by omega)).mono ?_; rintro e w' ⟨rfl, rfl⟩; rw [Hp.out])
  go_loopw [6] (fun i wr => ∃ (k : Nat) (v' c0 c1 : Value), k ≤ l.length ∧ k ≤ 30 ∧ i = .int .i64 k ∧ BoxAt wr (w.heap.size + 1) [.int .i64 (1 + p), v'] 31 ∧
      RdT (fun b => w.heap.size + 2 ≤ b) wr v' (poolFold (1 + p) (l.take k)) ∧ BoxAt wr w.heap.size [c0, c1] 31 ∧ Below w.heap.size w wr)
    (fun i _ => l.length - (intOf i).toNat)
  case atStart =>
    exact ⟨0, .slice none 0 0, _, _, by omega, by omega, rfl, BoxAt.newAt (w.alloc _) [_, _] _ (by simp), RdS.nil _ _ _, (BoxAt.new w [_, _] _).alloc _, ((Below.refl _ _).alloc (Nat.le_refl _) _).alloc (by simp) _⟩
  case round =>
    obtain ⟨k, v', c0, c1, hk, hk30, rfl, hbox, hrd, hres, hB⟩ := hrel
    have z1 := hbox.lt
    have z0 : w.heap.size < wr.heap.size := by omega
    have p0 := hbox.cell 0 rfl
    have p1 := hbox.cell 1 rfl
    have pf0 := hbox.free 0
    have pf1 := hbox.free 1
    have q0 := hres.cell 0 rfl
    have q1 := hres.cell 1 rfl
    have qf0 := hres.free 0
    have qf1 := hres.free 1
    have HRD := Lib.hid hrd
    clear hrd
    by_cases hlt : k < l.length ∧ k < 30
    · obtain ⟨hlt, hlt30⟩ := hlt
      obtain ⟨b, o, rfl, hG, hcl⟩ := h.cell k hlt
      have hcl' : wr.cell? ⟨b, o + k, none⟩ = some (strV l[k]) := by
        rw [hB.cell (p := ⟨b, o + k, none⟩) (World.block_lt_of_cell? w _ hcl)]; exact hcl
      have zb : b < wr.heap.size := World.block_lt_of_cell? wr _ hcl'
      have m1 : wr.heap.size ≠ w.heap.size + 1 := by omega
      have m0 : wr.heap.size ≠ w.heap.size := by omega
      have mb : wr.heap.size ≠ b := by omega
      have hsk := hs l[k] (List.getElem_mem hlt)
      obtain ⟨ad1, cap1, rfl, -, -⟩ := HRD.out.form
      have HF := Lib.hid (poolFold_succ (1 + p) l k hlt)
      have HK := Lib.hid (⟨hk, hk30⟩ : k ≤ l.length ∧ k ≤ 30)
      generalize hacc : poolFold (1 + p) (l.take k) = acc at *
      clear hacc
      have HF' := Lib.hid (show addCode (1 + p) acc (txOf l[k]) = 0 → poolFold (1 + p) (l.take (k + 1)) = addTxs (1 + p) acc (txOf l[k]) from fun e => by rw [HF.out]; unfold addAll addTxs; rw [if_pos e, if_pos e])
      have HF'' := Lib.hid (show addCode (1 + p) acc (txOf l[k]) ≠ 0 → poolFold (1 + p) (l.take (k + 1)) = acc from fun e => by rw [HF.out]; unfold addAll; rw [if_neg e])
      go_wp2_with fail
      go_region_held3 (fun w' => w'.cell? ⟨w.heap.size + 1, 0, none⟩ = some (.int .i64 (1 + p)) ∧ w'.cell? ⟨w.heap.size + 1, 1, none⟩ = some (.slice ad1 acc.length cap1) ∧ w'.cell? ⟨b, o + k, none⟩ = some (strV l[k])) (go_keep)
        (first
          | (go_at_call 19; refine (ktx_any _ _ hsk).mono ?_; rintro e w2 ⟨rfl, rfl⟩)
          | (go_at_call 20; refine (padd_any _ _ _ _ (HRD.out.below (by first | exact (Below.refl _ _).drew | exact (Below.refl _ _).drew.alloc (by simp) _) (fun _ h => h))).mono ?_; rintro e w2 ⟨v2, rfl, hrd2, hb2⟩; have HR2 := Lib.hid (hrd2.low (by decide)); obtain ⟨ad2, cap2, rfl, -, -⟩ := hrd2.form; have hb3 : Below wr.heap.size wr w2 := (by first | exact (Below.refl _ _).drew.trans hb2 | exact ((Below.refl _ _).drew.alloc (by simp) _).trans (hb2.mono (by simp))); obtain ⟨hc2, hf2⟩ := bcell hb3; obtain ⟨hd2, hg2⟩ := bcell hb2; have s2 := hb3.size; have n1 : w2.heap.size ≠ w.heap.size + 1 := (by omega); have n0 : w2.heap.size ≠ w.heap.size := (by omega); have nb : w2.heap.size ≠ b := (by omega); have z2 : w.heap.size + 1 < w2.heap.size := (by omega); have z3 : w.heap.size < w2.heap.size := (by omega)))
      all_goals
        clear hrd2
        by_cases hcode : addCode (1 + p) acc (txOf l[k]) = 0
        · have hnx : addNext (1 + p) acc (txOf l[k]) = 1 + p := by unfold addNext; rw [if_pos hcode]
          have HP := Lib.hid (HF'.out hcode)
          go_wp2
          go_roundw
          case rel =>
            refine ⟨k + 1, .slice ad2 (addTxs (1 + p) acc (txOf l[k])).length cap2, c0, c1, by omega, by omega, by go_num, ?_, ?_, ?_, ?_⟩
            · repeat (first | with_reducible exact hbox.belowS hb3 | with_reducible apply BoxAt.alloc | with_reducible apply BoxAt.set2 | with_reducible refine BoxAt.setOther ?_ (by first | omega | (simp <;> omega)) _)
            · rw [HP.out]
              refine RdS.keep HR2.out ?_ (fun b hb => by simp at hb; omega)
              repeat (first | with_reducible exact Keep.refl _ _ | with_reducible refine Keep.setCell' ?_ (by first | omega | (simp <;> omega)) _ | with_reducible refine Keep.alloc' ?_ _)
            · repeat (first | with_reducible exact hres.belowS hb3 | with_reducible apply BoxAt.alloc | with_reducible refine BoxAt.setOther ?_ (by first | omega | (simp <;> omega)) _)
            · repeat (first | with_reducible exact hB.trans (hb3.mono (Nat.le_of_lt z0)) | with_reducible refine Below.setCell ?_ (by first | omega | (simp <;> omega)) _ | with_reducible refine Below.alloc ?_ (by first | omega | (simp <;> omega)) _)
          case measure => simp [intOf]; omega
        · have HP := Lib.hid (HF''.out hcode)
          have hcb : (addCode (1 + p) acc (txOf l[k]) == 0) = false := by simpa using hcode
          go_wp2
          go_roundw
          case rel =>
            refine ⟨k + 1, .slice ad1 acc.length cap1, c0, c1, by omega, by omega, by go_num, ?_, ?_, ?_, ?_⟩
            · repeat (first | with_reducible exact hbox.belowS hb3 | with_reducible apply BoxAt.alloc | with_reducible refine BoxAt.setOther ?_ (by first | omega | (simp <;> omega)) _)
            · rw [HP.out]
              refine RdS.keep (HRD.out.low (by decide)) ?_ (fun b hb => hb.1)
              repeat (first | with_reducible exact Keep.below hb3 | with_reducible refine Keep.setCell' ?_ (by first | omega | (simp <;> omega)) _ | with_reducible refine Keep.alloc' ?_ _)
            · repeat (first | with_reducible exact hres.belowS hb3 | with_reducible apply BoxAt.alloc | with_reducible refine BoxAt.setOther ?_ (by first | omega | (simp <;> omega)) _)
            · repeat (first | with_reducible exact hB.trans (hb3.mono (Nat.le_of_lt z0)) | with_reducible refine Below.setCell ?_ (by first | omega | (simp <;> omega)) _ | with_reducible refine Below.alloc ?_ (by first | omega | (simp <;> omega)) _)
          case measure => simp [intOf]; omega
    · have HT := Lib.hid (show l.take k = l.take 30 by
        rcases Nat.lt_or_ge k l.length with h' | h'
        · rw [show k = 30 by omega]
        · rw [List.take_of_length_le (by omega), List.take_of_length_le (by omega)])
      obtain ⟨ad1, cap1, rfl, -, -⟩ := HRD.out.form
      by_cases hlt' : k < l.length
      all_goals
        go_wp2
        refine bodyPost_ret (v := .agg #[.int .i64 (1 + p), .slice ad1 (poolFold (1 + p) (l.take k)).length cap1]) (by simp [results, Try.results18, go_sem, p0, p1, q0, q1, z0, z1]) rfl ⟨_, rfl, ?_, ?_⟩
        · rw [← HT.out]
          refine RdS.keep (HRD.out.low (by decide)) ?_ (fun b hb => Nat.le_trans (by omega) hb.1)
          repeat (first | with_reducible exact Keep.refl _ _ | with_reducible refine Keep.setCell' ?_ (by first | omega | (simp <;> omega)) _)
        · repeat (first | with_reducible exact hB | with_reducible refine Below.setCell ?_ (by first | omega | (simp <;> omega)) _)
end Go.Proofs.Ytghimigffnbhaaa
