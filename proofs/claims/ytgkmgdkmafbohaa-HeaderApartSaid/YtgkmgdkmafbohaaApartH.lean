/- Headers that differ have other bytes: the plain law. No program is named. -/
import Derived.Test.YtgkmgdkmafbohaaApart
import Derived.Test.YtgkmgdkmafbohaaHdrLaw
set_option linter.unusedVariables false
set_option linter.unusedSimpArgs false
namespace Go.Proofs.Ytgkmgdkmafbohaa
open Go Go.RowKit

theorem flatten_inj32 : ∀ {l m : List Bytes}, (∀ d ∈ l, d.length = 32) → (∀ d ∈ m, d.length = 32) → l.length = m.length → l.flatten = m.flatten → l = m
  | [], [], _, _, _, _ => rfl
  | [], _ :: _, _, _, h, _ => by simp at h
  | _ :: _, [], _, _, h, _ => by simp at h
  | d :: l, e :: m, h1, h2, h, hf => by
    simp only [List.flatten_cons] at hf
    obtain ⟨e1, e2⟩ := List.append_inj hf (by rw [h1 d (by simp), h2 e (by simp)])
    rw [e1, flatten_inj32 (fun x hx => h1 x (by simp [hx])) (fun x hx => h2 x (by simp [hx])) (by simpa using h) e2]
theorem offer_inj {h g : Hdr} (hk : hdrCode h = 0) (gk : hdrCode g = 0) (h9 : h.r ≤ 9) (g9 : g.r ≤ 9) :
    (encL ⟨0, 0, 2, bat0, h, slt0, crt0, 0⟩ = encL ⟨0, 0, 2, bat0, g, slt0, crt0, 0⟩) ↔ (h.a = g.a ∧ h.r = g.r ∧ h.bs = g.bs ∧ h.ps = g.ps) := by
  obtain ⟨n1, n2, n3, n4, n5, n6⟩ := hdrCode_iff hk
  obtain ⟨m1, m2, m3, m4, m5, m6⟩ := hdrCode_iff gk
  obtain ⟨a0, a1⟩ := nodeOk_iff n1
  obtain ⟨b0, b1⟩ := nodeOk_iff m1
  obtain ⟨r0, r1⟩ := countOk_iff n2
  obtain ⟨s0, s1⟩ := countOk_iff m2
  obtain ⟨ha, hr, hbs, hps⟩ := h
  obtain ⟨ga, gr, gbs, gps⟩ := g
  simp only at *
  constructor
  · intro e
    have e' : byteZ 2 :: byteZ 0 :: byteZ 0 :: byteZ ha :: byteZ (hr / 65536) :: byteZ (hr / 256) :: byteZ hr :: byteZ hbs.length :: (hbs.flatten ++ (byteZ hps.length :: hps.flatten)) = byteZ 2 :: byteZ 0 :: byteZ 0 :: byteZ ga :: byteZ (gr / 65536) :: byteZ (gr / 256) :: byteZ gr :: byteZ gbs.length :: (gbs.flatten ++ (byteZ gps.length :: gps.flatten)) := e
    simp only [List.cons.injEq, true_and] at e'
    obtain ⟨e1, -, -, e2, e3, e4⟩ := e'
    have l1 : hbs.length = gbs.length := by have := byteZ_inj (by omega) (by omega) (by omega) (by omega) e3; omega
    have hb := (digCode_zero _).1 n5
    have gb := (digCode_zero _).1 m5
    have hp := (digCode_zero _).1 n6
    have gp := (digCode_zero _).1 m6
    obtain ⟨f1, f2⟩ := List.append_inj e4 (by rw [flatten_len hb.1, flatten_len gb.1, l1])
    simp only [List.cons.injEq] at f2
    have l2 : hps.length = gps.length := by have := byteZ_inj (by omega) (by omega) (by omega) (by omega) f2.1; omega
    exact ⟨byteZ_inj (by omega) (by omega) (by omega) (by omega) e1, byteZ_inj (by omega) (by omega) (by omega) (by omega) e2, flatten_inj32 hb.1 gb.1 l1 f1, flatten_inj32 hp.1 gp.1 l2 f2.2⟩
  · rintro ⟨rfl, rfl, rfl, rfl⟩; rfl
end Go.Proofs.Ytgkmgdkmafbohaa
