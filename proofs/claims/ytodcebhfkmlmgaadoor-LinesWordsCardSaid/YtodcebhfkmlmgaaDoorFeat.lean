/- sheaveskeep.Act: an act of raw numbers; how such come in. -/
import Derived.Test.YtodcebhfkmlmgaaDoorShowL
import Derived.Test.YtodcebhfkmlmgaaDoorKeepTx
import Derived.Test.YtodcebhfkmlmgaaDoorOpenS
set_option linter.unusedVariables false
set_option linter.unusedSimpArgs false
namespace Go.Proofs.YtodcebhfkmlmgaaDoor
open Go Go.RowKit Go.ChangeShapes Go.WideShapes Go.Deep

structure FeatD where
  k : Int
  a : Int
  b : Int
  t : List UInt8
def FeatOk (x : FeatD) : Prop := i64In x.k ∧ i64In x.a ∧ i64In x.b ∧ x.t.length ≤ 9223372036854775807
def RFeat : Rel FeatD where
  size := 4
  rd := fun G w cs x => cs = [.int .i64 x.k, .int .i64 x.a, .int .i64 x.b, strV x.t] ∧ FeatOk x
  len := fun ⟨h, _⟩ => by simp [h]
  keep := fun h _ _ => h
  low := fun h => h
theorem RFeat_one {G : Nat → Prop} {w : World} {cs : List Value} {x : FeatD} (h : RFeat.rd G w cs x) : ∀ u ∈ cs, u.oneCell' = true := by
  obtain ⟨rfl, -⟩ := h
  simp [Value.oneCell']
theorem RdS.feat {G : Nat → Prop} {w : World} {l : List FeatD} {ad : Option Addr} {n cap : Nat} (h : RdS RFeat G w (.slice ad n cap) l) (j : Nat) (hj : j < l.length) :
    ∃ b o, ad = some ⟨b, o, none⟩ ∧ w.cell? ⟨b, o + j * 4, none⟩ = some (.int .i64 l[j].k) ∧ w.cell? ⟨b, o + j * 4 + 1, none⟩ = some (.int .i64 l[j].a) ∧ w.cell? ⟨b, o + j * 4 + 2, none⟩ = some (.int .i64 l[j].b) ∧ w.cell? ⟨b, o + j * 4 + 3, none⟩ = some (strV l[j].t) ∧ FeatOk l[j] := by
  obtain ⟨b, o, cs, ha, hb, hc, rfl, h1⟩ := h.at j hj
  exact ⟨b, o, ha, hc 0 _ rfl, hc 1 _ rfl, hc 2 _ rfl, hc 3 _ rfl, h1⟩
/-- The act of a feat. -/
def actOf (k : Int) (f : FeatD) : LAct := ⟨k, if actN k = true then pickedZ f.a 4 else 0, if actP k = true then (if k = 7 then pickedZ f.b 400001 else pickedZ f.a 400001) else 0, if actT k = true then f.t.take 200 else []⟩
def featA (f : FeatD) : LAct := actOf (1 + pickedZ f.k 10) f
theorem actOf_ok {k : Int} (h1 : 1 ≤ k) (h2 : k ≤ 10) (f : FeatD) : lineCode (actOf k f) = 0 := by
  have p1 := pickedZ_range f.a 4 (by omega)
  have p2 := pickedZ_range f.b 400001 (by omega)
  have p3 := pickedZ_range f.a 400001 (by omega)
  unfold lineCode actOf
  simp only
  rw [if_neg (by omega), if_neg, if_neg, if_neg]
  · rcases Bool.eq_false_or_eq_true (actN k) with q1 | q1 <;> rcases Bool.eq_false_or_eq_true (actP k) with q2 | q2 <;> rcases Bool.eq_false_or_eq_true (actT k) with q3 | q3 <;> simp [q1, q2, q3]
  · rcases Bool.eq_false_or_eq_true (actT k) with q3 | q3 <;> simp [q3]; omega
  · rcases Bool.eq_false_or_eq_true (actN k) with q1 | q1 <;> rcases Bool.eq_false_or_eq_true (actP k) with q2 | q2 <;> simp [q1, q2] <;> (try split) <;> omega
theorem featA_ok (f : FeatD) : lineCode (featA f) = 0 := by
  have p := pickedZ_range f.k 10 (by omega)
  exact actOf_ok (by omega) (by omega) f
/-- The cells of an act. -/
abbrev actV (a : LAct) : Value := .agg #[.int .i64 a.k, .int .i64 a.n, .int .i64 a.p, strV a.t]
theorem actOf_V (k : Int) (f : FeatD) : actV (actOf k f) = .agg #[.int .i64 k, .int .i64 (if actN k = true then pickedZ f.a 4 else 0), .int .i64 (if actP k = true then (if k = 7 then pickedZ f.b 400001 else pickedZ f.a 400001) else 0), strV (if actT k = true then f.t.take 200 else [])] := rfl
set_option maxHeartbeats 8000000 in
set_option maxRecDepth 100000 in
theorem act_any (f : FeatD) (w : World) (hf : FeatOk f) :
    Calls Tryd.prog 11 #[.agg #[.int .i64 f.k, .int .i64 f.a, .int .i64 f.b, strV f.t]] w fun e w' => e = .returned (actV (featA f)) ∧ Below w.heap.size w w' := by
  obtain ⟨⟨k1, k2⟩, ⟨a1, a2⟩, ⟨b1, b2⟩, ht⟩ := hf
  have pr := pickedZ_range f.k 10 (by omega)
  have hA : featA f = actOf (1 + pickedZ f.k 10) f := rfl
  obtain ⟨p, hp⟩ : ∃ p, p = pickedZ f.k 10 := ⟨_, rfl⟩
  rw [← hp] at hA pr
  have HP := Lib.hid hp.symm
  have HA := Lib.hid hA
  clear hp hA
  have hc : p = 0 ∨ p = 1 ∨ p = 2 ∨ p = 3 ∨ p = 4 ∨ p = 5 ∨ p = 6 ∨ p = 7 ∨ p = 8 ∨ p = 9 := by omega
  rcases hc with rfl | rfl | rfl | rfl | rfl | rfl | rfl | rfl | rfl | rfl
  all_goals
    go_enter Tryd.func11, Tryd.ntmps11
    go_wp2_with (first
      | (go_at_call 13; refine (picked_any _ _ _ (by omega) (by omega) (by omega) (by omega)).mono ?_; rintro e w' ⟨rfl, rfl⟩; (try rw [HP.out]))
      | (go_at_call 16; refine (cut_any _ 200 _ (by omega) (by omega) (by omega)).mono ?_; rintro e w' ⟨rfl, rfl⟩))
    refine bodyPost_ret (v := _) (by simp [results, Tryd.results11, go_sem]; rfl) rfl ⟨?_, ?_⟩
    · rw [HA.out, actOf_V]; rfl
    · repeat (first | with_reducible exact Below.refl _ _ | with_reducible refine Below.setCell ?_ (by first | omega | (simp; done) | (simp; omega)) _ | with_reducible refine Below.alloc ?_ (by first | exact Nat.le_refl _ | (simp; done) | (simp; omega)) _)
end Go.Proofs.YtodcebhfkmlmgaaDoor
