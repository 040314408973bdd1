/- wire's reader: digests, batch: what they compute. -/
import Derived.Test.YtegdpjoncjmdeaaDecN
import Derived.Test.YtegdpjoncjmdeaaBas
import Derived.Test.YtegdpjoncjmdeaaChk
import Derived.Deep.RegionHeld3
set_option linter.unusedVariables false
set_option linter.unusedSimpArgs false
namespace Go.Proofs.Ytegdpjoncjmdeaa
open Go Go.RowKit

theorem ownsRow_grown {w w' : World} {base e size n : Nat} {v : Value} {xs : List Value} {row : Option Nat} (h : w.ownsRow base e size v n xs) (hg : w.grownBy w' row) (hr : ∀ k, row = some k → k < base) : w'.ownsRow base e size v n xs := by
  obtain ⟨h1, h2⟩ := h
  refine ⟨h1, ?_⟩
  rcases h2 with h2 | ⟨g, cap, cur, hv, hb, hh, r⟩
  · exact Or.inl h2
  · refine Or.inr ⟨g, cap, cur, hv, hb, ?_, r⟩
    rw [hg.block g (lt_of_block hh) (fun e => by have := hr g e.symm; omega)]; exact hh
theorem LstO.grown {α : Type} {R : Rel α} {G : Nat → Prop} {base e : Nat} {w w' : World} {v : Value} {l : List α} {row : Option Nat} (h : LstO R G base e w v l) (hg : w.grownBy w' row) (hr : ∀ k, row = some k → k < base ∧ ¬ G k) : LstO R G base e w' v l := by
  obtain ⟨vals, h1, h2⟩ := h
  exact ⟨vals, ownsRow_grown h1 hg (fun k hk => (hr k hk).1), fun j x hx => R.keep (h2 j x hx) (Keep.grown hg (fun k hk hh => (hr k hk).2 hh.1)) (fun b hb' => ⟨hb'.1, Nat.lt_of_lt_of_le hb'.2.1 hg.size, hb'.2.2⟩)⟩
theorem elemBBr : ElemOk Try.prog 26 22 1 24 := elemOk_of (z := .slice none 0 0) (by kernel_rfl) (by kernel_rfl) rfl (by decide)

set_option maxRecDepth 100000 in
set_option maxHeartbeats 2000000 in
theorem rdigests_any (R : Nat) (r : Rdr) (w : World) (h : RdrAt R w r) :
    Calls Try.prog 47 #[.pointer (some ⟨R, 0, none⟩)] w fun e w' => ∃ v, e = .returned v ∧ LstO RBytes (fun b => w.heap.size ≤ b) w.heap.size 22 w' v r.digests.1 ∧ RdrAt R w' r.digests.2 ∧ w.grownBy w' (some R) := by
  have zR := h.lt
  have hb := r.num_bound 1
  have HE := Lib.hid (show r.digests = Rdr.many (fun r => r.take 32) (r.num 1).1.toNat (r.num 1).2 from rfl)
  go_enter Try.func47, Try.ntmps47
  go_wp2_with fail
  refine (rnum_any R r 1 _ h (by omega)).mono ?_
  rintro e w2 ⟨rfl, hr, hg⟩
  generalize hN : (r.num 1).1 = n at *
  generalize hR2 : (r.num 1).2 = r2 at *
  obtain ⟨m, rfl⟩ := Int.eq_ofNat_of_zero_le hb.1
  have hm : m < 256 := by have := hb.2; simp at this; omega
  rw [Int.toNat_natCast] at HE
  have HN := Lib.hid hN
  have HR2 := Lib.hid hR2
  have Hr := Lib.hid hr
  have Hg := Lib.hid hg
  clear hN hR2 hr hg h hb
  go_wp2_with fail
  go_loopw [3, 4] (fun v i wx => ∃ (k : Nat) (l : List Bytes) (rk : Rdr), k ≤ m ∧ i = .int .i64 k ∧ LstO RBytes (fun b => w.heap.size ≤ b) w.heap.size 22 wx v l ∧ l.length + k ≤ m ∧ RdrAt R wx rk ∧ w.grownBy wx (some R) ∧ Hid (r.digests = (l ++ (Rdr.many (fun r => r.take 32) k rk).1, (Rdr.many (fun r => r.take 32) k rk).2))) (fun _ i _ => (intOf i).toNat)
  case atStart => exact ⟨m, [], r2, Nat.le_refl _, rfl, LstO.nil _ _ _ _ _, by simp, Hr.out, Hg.out, Lib.hid (by rw [HE.out]; rfl)⟩
  case round =>
    obtain ⟨k, l, rk, hk, rfl, hL, hlk, hr, hg, HEQ⟩ := hrel
    have HL := Lib.hid hL
    have Hr' := Lib.hid hr
    have Hg' := Lib.hid hg
    have c1 : wr.cell? ⟨R, 1, none⟩ = some (.bool rk.short) := by obtain ⟨v, hb, -⟩ := hr; exact hb.cell 1 rfl
    have zr := hr.lt
    have zg := hg.size
    clear hL hr hg
    by_cases hk0 : k = 0
    · subst hk0
      have HF := Lib.hid (show r.digests = (l, rk) by rw [HEQ.out, Rdr.many_zero]; simp)
      go_wp2
      go_ret
      exact ⟨_, rfl, by rw [HF.out]; exact HL.out, by rw [HF.out]; exact Hr'.out, Hg'.out⟩
    obtain ⟨j, rfl⟩ : ∃ j, k = j + 1 := ⟨k - 1, by omega⟩
    have k1 : (0 : Int) < ((j + 1 : Nat) : Int) := by omega
    cases hsh : rk.short
    · have HF := Lib.hid (show r.digests = ((l ++ [(rk.take 32).1]) ++ (Rdr.many (fun r => r.take 32) j (rk.take 32).2).1, (Rdr.many (fun r => r.take 32) j (rk.take 32).2).2) by rw [HEQ.out, Rdr.many_next _ _ _ hsh]; simp)
      rw [hsh] at c1
      clear hsh
      have HN := Lib.hid (Lib.hid hlk)
      have lk : l.length ≤ 256 := by omega
      go_wp2_with fail
      refine (rtake_any R rk 32 _ Hr'.out (by omega)).mono ?_
      rintro e w2 ⟨v2, rfl, hv2, hr2, hg2⟩
      obtain ⟨ad2, cap2, rfl, -, -⟩ := hv2.form
      have z2 := hg2.size
      obtain ⟨vals, hLV⟩ := (HL.out.grown hg2 (fun k e => by simp only [Option.some.injEq] at e; subst e; exact ⟨zR, by omega⟩)).valsOf
      have hlt := hLV.lt
      have HLV := Lib.hid hLV
      obtain ⟨vals0, hO0⟩ := HL.out.own
      have HLV2 := Lib.hid (fun b (e : u3.ownBlock = some b) => (hO0.lt b e).2)
      clear hO0
      have HV2 := Lib.hid hv2
      have Hr2 := Lib.hid hr2
      have Hg2 := Lib.hid (grownBy_trans Hg'.out hg2 (.inl rfl))
      clear hLV hv2 hr2 hg2
      go_wp2_with (at_builtin; refine wpList_append_one rfl _ _ 26 rfl elemBBr w.heap.size _ l.length vals rfl (by exact (HLV.out.own).alloc _) w2.heap.size 22 [.slice ad2 (rk.take 32).1.length cap2] rfl (BoxAt.new w2 [_] _) rfl (by simp [Value.oneCell']) (by unfold maxLen; omega) (by omega) (by simp; omega) ?_; intro g cap w3 hown hgr hat hlt3)
      have hx : RBytes.rd (fun b => w.heap.size ≤ b ∧ b < (w2.alloc (.cells #[.slice ad2 (rk.take 32).1.length cap2] 22)).heap.size ∧ u3.ownBlock ≠ some b) (w2.alloc (.cells #[.slice ad2 (rk.take 32).1.length cap2] 22)) [.slice ad2 (rk.take 32).1.length cap2] (rk.take 32).1 :=
        ⟨_, rfl, (HV2.out.low (by decide)).keep (Keep.alloc _ _ _) (fun b hb => ⟨by omega, by simp; omega, fun e => by have := HLV2.out b e; omega⟩)⟩
      have hP := (HLV.out.alloc (.cells #[.slice ad2 (rk.take 32).1.length cap2] 22)).push (x := (rk.take 32).1) (cs := [.slice ad2 (rk.take 32).1.length cap2]) hx hown hgr hat
      have hrow : ∀ k, u3.ownBlock = some k → w.heap.size ≤ k := fun k e => (hlt k e).1
      have HP := Lib.hid hP
      have HR3 := Lib.hid ((Hr2.out.below ((Below.refl _ _).alloc (Nat.le_refl _) (.cells #[.slice ad2 (rk.take 32).1.length cap2] 22))).grown hgr (fun k e => by have := hrow k e; omega))
      have HG3 := Lib.hid (grownBy_trans (grownBy_trans Hg2.out (World.grownBy_alloc w2 (.cells #[.slice ad2 (rk.take 32).1.length cap2] 22) (some R)) (.inl rfl)) hgr (.inr hrow))
      clear hx hP hown hgr hat hlt hrow
      go_wp2_with fail
      go_roundw
      case rel => exact ⟨j, l ++ [(rk.take 32).1], (rk.take 32).2, by omega, by go_num, HP.out, by simp; omega, HR3.out, HG3.out, HF⟩
      case measure => simp [intOf]
    · have HF := Lib.hid (show r.digests = (l, rk) by rw [HEQ.out, Rdr.many_short _ _ _ hsh]; simp)
      rw [hsh] at c1
      clear hsh
      go_wp2
      go_ret
      exact ⟨_, rfl, by rw [HF.out]; exact HL.out, by rw [HF.out]; exact Hr'.out, Hg'.out⟩
end Go.Proofs.Ytegdpjoncjmdeaa
