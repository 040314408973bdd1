/- tape.Recover: what it computes. -/
import Derived.Test.YtegdpjoncjmdeaaTaped
import Derived.Test.YtegdpjoncjmdeaaDecodeA
import Derived.Test.YtegdpjoncjmdeaaDecN
import Derived.Test.YtegdpjoncjmdeaaBas
set_option linter.unusedVariables false
set_option linter.unusedSimpArgs false
attribute [local go_sem ↓] Go.wp_at_zero Go.wp_at_succ
namespace Go.Proofs.Ytegdpjoncjmdeaa
open Go Go.RowKit

set_option maxRecDepth 100000 in
set_option maxHeartbeats 4000000 in
theorem trecover_no (ad : Option Addr) (n cap : Nat) (s : Int) (w : World) (h : tapeOk n s = false) :
    Calls Try.prog 27 #[.agg #[.slice ad n cap, .int .i64 s]] w fun e w' => e = .returned (.tuple #[.slice none 0 0, .agg #[.slice none 0 0, .int .i64 0], .int .i64 12]) ∧ Below w.heap.size w w' := by
  have H := Lib.hid h
  clear h
  go_enter Try.func27, Try.ntmps27
  go_wp2_with fail
  refine (topen_no _ _ _ _ _ H.out).mono ?_
  rintro e w2 ⟨rfl, hb2⟩
  have bY := (BoxAt.newAt (n := w.heap.size + 1) (w.alloc (.cells #[.slice ad n cap, .int .i64 s] 50)) [.slice none 0 0, .int .i64 0] 50 (by simp)).belowS hb2
  have HB2 := Lib.hid ((((Below.refl w.heap.size w).alloc (Nat.le_refl _) _).alloc (by simp) _).trans (hb2.mono (by simp; omega)))
  have y0 := bY.cell 0 rfl
  have y1 := bY.cell 1 rfl
  have f0 := bY.free 0
  have f1 := bY.free 1
  have zy := bY.lt
  have HY := Lib.hid ((((bY.set 0 (.slice none 0 0)).set 1 (.int .i64 0))).alloc (.cells #[.slice none 0 0, .int .i64 0] 50))
  clear hb2 bY
  go_wp2
  have g0 := HY.out.cell 0 rfl
  have g1 := HY.out.cell 1 rfl
  refine bodyPost_ret (v := .tuple #[.slice none 0 0, .agg #[.slice none 0 0, .int .i64 0], .int .i64 12]) (by simp [results, Try.results27, go_sem, g0, g1]) rfl ⟨rfl, ?_⟩
  exact (by repeat (first | with_reducible exact HB2.out | with_reducible exact Below.refl _ _ | with_reducible refine Below.drew ?_ | with_reducible refine Below.setCell ?_ (by first | omega | (simp <;> omega)) _ | with_reducible refine Below.alloc ?_ (by first | omega | (simp <;> omega)) _))
theorem RdS.empty {α : Type} {R : Rel α} {G : Nat → Prop} {w : World} {ad : Option Addr} {n cap cap' : Nat} {l : List α} (h : RdS R G w (.slice ad n cap) l) (hc : cap' ≤ cap) : RdS R G w (.slice ad 0 cap') [] := by
  obtain ⟨h0, h1, h2, hn0⟩ := h.len
  exact ⟨ad, cap', rfl, Nat.zero_le _, by omega, fun e => by have := hn0 e; omega, fun j x hx => by simp at hx⟩
theorem wpList_load_boxH {P : Program} {w : World} {ops : Array Oper} {rest : List Oper} {o : Oper} {a : Act} {Q : Exit → Act → World → Prop} (hw : Region.wanted o (yielded ops a.tmps) = true) (ty : TypeId) (x : Operand) (ho : o.op = .load ty x)
    (b : Nat) (hx : a.eval x = .pointer (some ⟨b, 0, none⟩)) (cs : List Value) (T : TypeId) (hb : BoxAt w b cs T) {d : TypeDesc}
    (hu : P.underlying ty = some d) (hd : (match d with | .struct _ | .array _ _ => true | _ => false) = true) (hi : (P.info? ty).map (·.size) = some cs.toArray.size)
    (h : wpList P ops Q rest (a.put o.dst (.agg cs.toArray)) w) : wpList P ops Q (o :: rest) a w :=
  wpList_wanted hw fun K hK => wp_load_row ty x ho b hx T cs.toArray (0, 0) d hb hu hd hi (hK _ _ h)
theorem recN_le (l : Bytes) (p : Nat) (h : p + 2 ≤ l.length) : recN l p h ≤ 65535 := by
  unfold recN
  have h1 := l[p].toNat_lt
  have h2 := l[p + 1].toNat_lt
  omega
set_option maxRecDepth 100000 in
set_option maxHeartbeats 16000000 in
theorem trecover_ok {G : Nat → Prop} (v : Value) (l : Bytes) (s : Int) (w : World) (hv : RdB G w v l) (h : tapeOk l.length s = true) :
    Calls Try.prog 27 #[.agg #[v, .int .i64 s]] w fun e w' => ∃ v' vD, e = .returned (.tuple #[v', .agg #[vD, .int .i64 (min s ((recL l).2 : Int))], .int .i64 0]) ∧ RdS RMsg (fun b => w.heap.size ≤ b) w' v' (recL l).1 ∧ RdB (fun b => w.heap.size ≤ b) w' vD (l.take (recL l).2) ∧ Below w.heap.size w w' := by
  obtain ⟨ad, cap, rfl, -, -⟩ := hv.form
  obtain ⟨h1, h2, h3⟩ : 0 ≤ s ∧ s ≤ (l.length : Int) ∧ l.length ≤ 400000 := by unfold tapeOk at h; simpa using h
  have H := Lib.hid h
  have HV := Lib.hid hv
  clear h hv
  go_enter Try.func27, Try.ntmps27
  go_wp2_with fail
  refine (topen_ok _ l s _ (HV.out.below (by repeat (first | with_reducible exact Below.refl _ _ | with_reducible refine Below.drew ?_ | with_reducible refine Below.setCell ?_ (by first | omega | (simp <;> omega)) _ | with_reducible refine Below.alloc ?_ (by first | omega | (simp <;> omega)) _)) (fun _ h => h)) H.out).mono ?_
  rintro e w2 ⟨v2, rfl, hown, hb2⟩
  obtain ⟨adD, capD, rfl⟩ := ownsRow_form hown
  have hR := (BoxAt.newAt (n := w.heap.size + 1) (w.alloc (.cells #[.slice ad l.length cap, .int .i64 s] 50)) [.slice none 0 0, .int .i64 0] 50 (by simp)).belowS hb2
  have hB2 : Below w.heap.size w w2 := Below.trans (by repeat (first | with_reducible exact Below.refl _ _ | with_reducible refine Below.drew ?_ | with_reducible refine Below.setCell ?_ (by first | omega | (simp <;> omega)) _ | with_reducible refine Below.alloc ?_ (by first | omega | (simp <;> omega)) _)) (hb2.mono (by simp; omega))
  have HRB := Lib.hid hR
  have HB2 := Lib.hid hB2
  have hD := (RdS.of_owns (f := fun c : UInt8 => Value.int .u8 c.toNat) (G := fun b => w.heap.size + 2 ≤ b) hown (fun b hb => by simpa using hb))
  have HD := Lib.hid (hD.low (by decide))
  have hlc := hD.len.2.1
  have zw2 := hB2.size
  have zR := hR.lt
  clear hown hb2 hR hB2 hD
  go_upto_region 4 with fail
  obtain ⟨w3, hw3⟩ : ∃ w3, w3 = w2.alloc (.cells #[.slice adD l.length capD, .int .i64 s] 50) := ⟨_, rfl⟩
  rw [← hw3]
  have hX : BoxAt w3 w2.heap.size [.slice adD l.length capD, .int .i64 s] 50 := by rw [hw3]; exact BoxAt.new w2 [_, _] _
  have hb3 : Below w2.heap.size w2 w3 := by rw [hw3]; exact (Below.refl _ _).alloc (Nat.le_refl _) _
  have hz3 : w3.heap.size = w2.heap.size + 1 := by rw [hw3]; simp
  have HX := Lib.hid hX
  replace HRB := Lib.hid (HRB.out.belowS hb3)
  replace HD := Lib.hid (HD.out.keep (G' := fun b => w.heap.size + 2 ≤ b ∧ b < w2.heap.size) (Keep.below hb3) (fun _ h => h))
  replace HB2 := Lib.hid (HB2.out.trans (hb3.mono zw2))
  clear hw3 hX hb3
  go_wp2_with fail
  go_loopw [7, 8] (fun o i wr => ∃ (p : Nat) (out : List Msg) (ad : Option Addr) (cap : Nat), i = .int .i64 p ∧ o = .slice ad out.length cap ∧ RecAt l p out ∧ LstO RMsg (fun b => w3.heap.size ≤ b) w3.heap.size 35 wr (.slice ad out.length cap) out ∧ Below w3.heap.size w3 wr) (fun _ i _ => l.length + 2 - (intOf i).toNat)
  case atStart => exact ⟨0, [], none, 0, rfl, rfl, RecAt.zero l, LstO.nil _ _ _ _ _, Below.refl _ _⟩
  case round =>
    obtain ⟨p, out, ado, capo, rfl, rfl, hrec, hL, hB⟩ := hrel
    have hpl := hrec.le
    have hol := hrec.len
    have hz := hB.size
    have HREC := Lib.hid hrec
    have HL := Lib.hid hL
    have HBr := Lib.hid hB
    have hXr := HX.out.belowS hB
    have x0 := hXr.cell 0 rfl
    have x1 := hXr.cell 1 rfl
    have zX := hXr.lt
    have p0 : (0 : Int) ≤ (p : Int) := by omega
    clear hrec hL hB hXr
    by_cases hlen : p + 2 ≤ l.length
    · obtain ⟨b, oo, hab, -, c0⟩ := (HD.out.below HBr.out (fun _ h => h)).cell p (by omega)
      subst hab
      have c1 := (HD.out.below HBr.out (fun _ h => h)).cells (p + 1) (by omega)
      have hNle := recN_le l p hlen
      have hNd : recN l p hlen = l[p].toNat * 256 + l[p + 1].toNat := rfl
      have HSL := Lib.hid (fun h2 => step_long hlen h2)
      have HSB := Lib.hid (fun h2 => step_bad hlen h2)
      have HSG := Lib.hid (fun h1 h2 h3 => step_good hlen h1 h2 h3)
      have ha := l[p].toNat_lt
      have hb := l[p + 1].toNat_lt
      generalize recN l p hlen = N at *
      generalize l[p] = ya at *
      generalize l[p + 1] = yb at *
      have hor := i64_or_byte (ya.toNat : Int) (yb.toNat : Int) (by omega) (by omega) (by omega) (by omega)
      have hN2 : (ya.toNat : Int) * 256 + (yb.toNat : Int) = (N : Int) := by omega
      rw [hN2] at hor
      have l1 : (p : Int) + 2 ≤ (l.length : Int) := by omega
      have i0 : (p : Int) < (l.length : Int) := by omega
      have i1 : (p : Int) + 1 < (l.length : Int) := by omega
      have w1 : IntKind.i64.wrap ((p : Int) + 1) = (p : Int) + 1 := IntWalk.i64_in _ (by omega)
      have n1 : ((p : Int) + 1).toNat = p + 1 := by omega
      have wa : IntKind.i64.wrap (ya.toNat : Int) = (ya.toNat : Int) := IntWalk.i64_in _ (by omega)
      have wb : IntKind.i64.wrap (yb.toNat : Int) = (yb.toNat : Int) := IntWalk.i64_in _ (by omega)
      have wab : IntKind.i64.wrap ((ya.toNat : Int) * 256) = (ya.toNat : Int) * 256 := IntWalk.i64_in _ (by omega)
      have HOR := Lib.hid hor
      have HN2 := Lib.hid hN2
      clear hor hN2 hNd
      have zbk : b < wr.heap.size := World.block_lt_of_cell? wr _ c0
      go_upto_region 7 with fail
      refine wp_region_held_drew (S := fun w' => Below wr.heap.size wr w') (by kernel_rfl) (by exact (Below.refl _ _).drew) (fun hHeld => ?_)
      refine wpAnyH_take (i := 0) (v := .pointer (some ⟨w2.heap.size, 0, none⟩)) rfl (by kernel_rfl) (by kernel_rfl) (by kernel_rfl) (fun _ _ _ h => h) (Or.inl ⟨by rfl, fun w hSw => ?_⟩) hHeld ?_
      · (try dsimp only at hSw); go_split_ands; go_simp; all_goals (try first | rfl | omega)
      try simp only [Act.put, List.getElem_toArray, List.getElem_cons_succ, List.getElem_cons_zero, List.setIfInBounds_toArray, List.set_cons_zero, List.set_cons_succ]
      refine wpAnyH_take (i := 1) (v := .slice (some ⟨b, oo, none⟩) l.length capD) rfl (by kernel_rfl) (by kernel_rfl) (by kernel_rfl) (fun _ _ _ h => h) (Or.inl ⟨by rfl, fun w hSw => ?_⟩) hHeld ?_
      · have q := ((bcellAt hSw _ zX).1 0).trans x0; clear hSw; go_simp
      try simp only [Act.put, List.getElem_toArray, List.getElem_cons_succ, List.getElem_cons_zero, List.setIfInBounds_toArray, List.set_cons_zero, List.set_cons_succ]
      refine wpAnyH_take (i := 2) (v := .int .i64 (p : Int)) rfl (by kernel_rfl) (by kernel_rfl) (by kernel_rfl) (fun _ _ _ h => h) (Or.inl ⟨by rfl, fun w hSw => ?_⟩) hHeld ?_
      · (try dsimp only at hSw); go_split_ands; go_simp; all_goals (try first | rfl | omega)
      try simp only [Act.put, List.getElem_toArray, List.getElem_cons_succ, List.getElem_cons_zero, List.setIfInBounds_toArray, List.set_cons_zero, List.set_cons_succ]
      refine wpAnyH_take (i := 3) (v := .pointer (some ⟨b, oo + p, none⟩)) rfl (by kernel_rfl) (by kernel_rfl) (by kernel_rfl) (fun _ _ _ h => h) (Or.inl ⟨by rfl, fun w hSw => ?_⟩) hHeld ?_
      · (try dsimp only at hSw); go_split_ands; go_simp; all_goals (try first | rfl | omega)
      try simp only [Act.put, List.getElem_toArray, List.getElem_cons_succ, List.getElem_cons_zero, List.setIfInBounds_toArray, List.set_cons_zero, List.set_cons_succ]
      refine wpAnyH_take (i := 4) (v := .int .u8 (ya.toNat : Int)) rfl (by kernel_rfl) (by kernel_rfl) (by kernel_rfl) (fun _ _ _ h => h) (Or.inl ⟨by rfl, fun w hSw => ?_⟩) hHeld ?_
      · have q := ((bcellAt hSw _ zbk).1 _).trans c0; clear hSw; go_simp
      try simp only [Act.put, List.getElem_toArray, List.getElem_cons_succ, List.getElem_cons_zero, List.setIfInBounds_toArray, List.set_cons_zero, List.set_cons_succ]
      refine wpAnyH_take (i := 5) (v := .int .i64 (ya.toNat : Int)) rfl (by kernel_rfl) (by kernel_rfl) (by kernel_rfl) (fun _ _ _ h => h) (Or.inl ⟨by rfl, fun w hSw => ?_⟩) hHeld ?_
      · (try dsimp only at hSw); go_split_ands; go_simp; all_goals (try first | rfl | omega)
      try simp only [Act.put, List.getElem_toArray, List.getElem_cons_succ, List.getElem_cons_zero, List.setIfInBounds_toArray, List.set_cons_zero, List.set_cons_succ]
      refine wpAnyH_take (i := 6) (v := .int .i64 ((ya.toNat : Int) * 256)) rfl (by kernel_rfl) (by kernel_rfl) (by kernel_rfl) (fun _ _ _ h => h) (Or.inl ⟨by rfl, fun w hSw => ?_⟩) hHeld ?_
      · (try dsimp only at hSw); go_split_ands; go_simp; all_goals (try first | rfl | omega)
      try simp only [Act.put, List.getElem_toArray, List.getElem_cons_succ, List.getElem_cons_zero, List.setIfInBounds_toArray, List.set_cons_zero, List.set_cons_succ]
      refine wpAnyH_take (i := 7) (v := .pointer (some ⟨w2.heap.size, 0, none⟩)) rfl (by kernel_rfl) (by kernel_rfl) (by kernel_rfl) (fun _ _ _ h => h) (Or.inl ⟨by rfl, fun w hSw => ?_⟩) hHeld ?_
      · (try dsimp only at hSw); go_split_ands; go_simp; all_goals (try first | rfl | omega)
      try simp only [Act.put, List.getElem_toArray, List.getElem_cons_succ, List.getElem_cons_zero, List.setIfInBounds_toArray, List.set_cons_zero, List.set_cons_succ]
      refine wpAnyH_take (i := 8) (v := .slice (some ⟨b, oo, none⟩) l.length capD) rfl (by kernel_rfl) (by kernel_rfl) (by kernel_rfl) (fun _ _ _ h => h) (Or.inl ⟨by rfl, fun w hSw => ?_⟩) hHeld ?_
      · have q := ((bcellAt hSw _ zX).1 0).trans x0; clear hSw; go_simp
      try simp only [Act.put, List.getElem_toArray, List.getElem_cons_succ, List.getElem_cons_zero, List.setIfInBounds_toArray, List.set_cons_zero, List.set_cons_succ]
      refine wpAnyH_take (i := 9) (v := .int .i64 (p : Int)) rfl (by kernel_rfl) (by kernel_rfl) (by kernel_rfl) (fun _ _ _ h => h) (Or.inl ⟨by rfl, fun w hSw => ?_⟩) hHeld ?_
      · (try dsimp only at hSw); go_split_ands; go_simp; all_goals (try first | rfl | omega)
      try simp only [Act.put, List.getElem_toArray, List.getElem_cons_succ, List.getElem_cons_zero, List.setIfInBounds_toArray, List.set_cons_zero, List.set_cons_succ]
      refine wpAnyH_take (i := 10) (v := .int .i64 ((p : Int) + 1)) rfl (by kernel_rfl) (by kernel_rfl) (by kernel_rfl) (fun _ _ _ h => h) (Or.inl ⟨by rfl, fun w hSw => ?_⟩) hHeld ?_
      · (try dsimp only at hSw); go_split_ands; go_simp; all_goals (try first | rfl | omega)
      try simp only [Act.put, List.getElem_toArray, List.getElem_cons_succ, List.getElem_cons_zero, List.setIfInBounds_toArray, List.set_cons_zero, List.set_cons_succ]
      refine wpAnyH_take (i := 11) (v := .pointer (some ⟨b, oo + (p + 1), none⟩)) rfl (by kernel_rfl) (by kernel_rfl) (by kernel_rfl) (fun _ _ _ h => h) (Or.inl ⟨by rfl, fun w hSw => ?_⟩) hHeld ?_
      · (try dsimp only at hSw); go_split_ands; go_simp; all_goals (try first | rfl | omega)
      try simp only [Act.put, List.getElem_toArray, List.getElem_cons_succ, List.getElem_cons_zero, List.setIfInBounds_toArray, List.set_cons_zero, List.set_cons_succ]
      refine wpAnyH_take (i := 12) (v := .int .u8 (yb.toNat : Int)) rfl (by kernel_rfl) (by kernel_rfl) (by kernel_rfl) (fun _ _ _ h => h) (Or.inl ⟨by rfl, fun w hSw => ?_⟩) hHeld ?_
      · have q := ((bcellAt hSw _ zbk).1 _).trans c1; clear hSw; go_simp
      try simp only [Act.put, List.getElem_toArray, List.getElem_cons_succ, List.getElem_cons_zero, List.setIfInBounds_toArray, List.set_cons_zero, List.set_cons_succ]
      refine wpAnyH_take (i := 13) (v := .int .i64 (yb.toNat : Int)) rfl (by kernel_rfl) (by kernel_rfl) (by kernel_rfl) (fun _ _ _ h => h) (Or.inl ⟨by rfl, fun w hSw => ?_⟩) hHeld ?_
      · (try dsimp only at hSw); go_split_ands; go_simp; all_goals (try first | rfl | omega)
      try simp only [Act.put, List.getElem_toArray, List.getElem_cons_succ, List.getElem_cons_zero, List.setIfInBounds_toArray, List.set_cons_zero, List.set_cons_succ]
      refine wpAnyH_take (i := 14) (v := .int .i64 (N : Int)) rfl (by kernel_rfl) (by kernel_rfl) (by kernel_rfl) (fun _ _ _ h => h) (Or.inl ⟨by rfl, fun w hSw => ?_⟩) hHeld ?_
      · clear hSw; have q := HOR.out; go_simp
      try simp only [Act.put, List.getElem_toArray, List.getElem_cons_succ, List.getElem_cons_zero, List.setIfInBounds_toArray, List.set_cons_zero, List.set_cons_succ]
      refine wpAnyH_take (i := 15) (v := .int .i64 (N : Int)) rfl (by kernel_rfl) (by kernel_rfl) (by kernel_rfl) (fun _ _ _ h => h) (Or.inl ⟨by rfl, fun w hSw => ?_⟩) hHeld ?_
      · (try dsimp only at hSw); go_split_ands; go_simp; all_goals (try first | rfl | omega)
      try simp only [Act.put, List.getElem_toArray, List.getElem_cons_succ, List.getElem_cons_zero, List.setIfInBounds_toArray, List.set_cons_zero, List.set_cons_succ]
      refine wpAnyH_done (by kernel_rfl) ?_ _
      clear w1 n1 wa wb wab
      have hBd : Below wr.heap.size wr wr.drew := (Below.refl _ _).drew
      obtain ⟨wd, hwd⟩ : ∃ wd, wd = wr.drew := ⟨_, rfl⟩
      rw [← hwd] at hBd ⊢
      have hzd : wd.heap.size = wr.heap.size := by rw [hwd]; rfl
      have HLd := Lib.hid (HL.out.below hBd)
      obtain ⟨valsd, hvd⟩ := HLd.out.valsOf
      have hvdlt := hvd.lt
      clear hvd
      have HBd := Lib.hid (HBr.out.trans (hBd.mono hz))
      have X0 := ((bcellAt hBd _ zX).1 0).trans x0
      have X1 := ((bcellAt hBd _ zX).1 1).trans x1
      clear hwd hBd x0 x1 c0 c1 hHeld
      by_cases hln : l.length < p + 2 + N
      · have l2 : (l.length : Int) < (p : Int) + 2 + (N : Int) := by omega
        go_upto_region 13 with fail
        clear X0 X1
        have hfin := HREC.out.done (HSL.out hln)
        have HF1 := Lib.hid (show (recL l).1 = out by rw [hfin])
        have HF2 := Lib.hid (show (recL l).2 = p by rw [hfin])
        have hRr := HRB.out.belowS HBd.out
        have f0 := hRr.free 0
        have f1 := hRr.free 1
        have q0 := hRr.cell 0 rfl
        have q1 := hRr.cell 1 rfl
        have HRr := Lib.hid hRr
        have hXw := HX.out.belowS HBd.out
        have X0 := hXw.cell 0 rfl
        have X1 := hXw.cell 1 rfl
        have zXw := hXw.lt
        have pc : (p : Int) ≤ (capD : Int) := by omega
        have nXR : w2.heap.size ≠ w.heap.size + 1 := by omega
        have hwz := HBd.out.size
        clear hfin hRr hXw
        obtain ⟨mn, hmn⟩ : ∃ mn : Int, mn = min s (p : Int) := ⟨_, rfl⟩
        have HMN := Lib.hid hmn
        clear hmn
        refine wp_region_held_drew (S := fun w' => Keep (fun bb => bb ≠ w.heap.size + 1) wd w') (by kernel_rfl) (by exact Keep.drew _ _) (fun hHeld => ?_)
        refine wpAnyH_take (i := 0) (v := .slice ado out.length capo) rfl (by kernel_rfl) (by kernel_rfl) (by kernel_rfl) (fun _ _ _ h => h) (Or.inl ⟨by rfl, fun w hSw => ?_⟩) hHeld ?_
        · (try dsimp only at hSw); go_split_ands; go_simp; all_goals (try first | rfl | omega)
        try simp only [Act.put, List.getElem_toArray, List.getElem_cons_succ, List.getElem_cons_zero, List.setIfInBounds_toArray, List.set_cons_zero, List.set_cons_succ]
        refine wpAnyH_take (i := 1) (v := .pointer (some ⟨w2.heap.size, 0, none⟩)) rfl (by kernel_rfl) (by kernel_rfl) (by kernel_rfl) (fun _ _ _ h => h) (Or.inl ⟨by rfl, fun w hSw => ?_⟩) hHeld ?_
        · (try dsimp only at hSw); go_split_ands; go_simp; all_goals (try first | rfl | omega)
        try simp only [Act.put, List.getElem_toArray, List.getElem_cons_succ, List.getElem_cons_zero, List.setIfInBounds_toArray, List.set_cons_zero, List.set_cons_succ]
        refine wpAnyH_take (i := 2) (v := .slice (some ⟨b, oo, none⟩) l.length capD) rfl (by kernel_rfl) (by kernel_rfl) (by kernel_rfl) (fun _ _ _ h => h) (Or.inl ⟨by rfl, fun w hSw => ?_⟩) hHeld ?_
        · have q := hSw _ _ _ nXR X0; clear hSw; go_simp
        try simp only [Act.put, List.getElem_toArray, List.getElem_cons_succ, List.getElem_cons_zero, List.setIfInBounds_toArray, List.set_cons_zero, List.set_cons_succ]
        refine wpAnyH_take (i := 3) (v := .int .i64 (p : Int)) rfl (by kernel_rfl) (by kernel_rfl) (by kernel_rfl) (fun _ _ _ h => h) (Or.inl ⟨by rfl, fun w hSw => ?_⟩) hHeld ?_
        · (try dsimp only at hSw); go_split_ands; go_simp; all_goals (try first | rfl | omega)
        try simp only [Act.put, List.getElem_toArray, List.getElem_cons_succ, List.getElem_cons_zero, List.setIfInBounds_toArray, List.set_cons_zero, List.set_cons_succ]
        refine wpAnyH_take (i := 4) (v := .int .i64 (p : Int)) rfl (by kernel_rfl) (by kernel_rfl) (by kernel_rfl) (fun _ _ _ h => h) (Or.inl ⟨by rfl, fun w hSw => ?_⟩) hHeld ?_
        · (try dsimp only at hSw); go_split_ands; go_simp; all_goals (try first | rfl | omega)
        try simp only [Act.put, List.getElem_toArray, List.getElem_cons_succ, List.getElem_cons_zero, List.setIfInBounds_toArray, List.set_cons_zero, List.set_cons_succ]
        refine wpAnyH_take (i := 5) (v := .slice (some ⟨b, oo, none⟩) p p) rfl (by kernel_rfl) (by kernel_rfl) (by kernel_rfl) (fun _ _ _ h => h) (Or.inl ⟨by rfl, fun w hSw => ?_⟩) hHeld ?_
        · (try dsimp only at hSw); go_split_ands; go_simp; all_goals (try first | rfl | omega)
        try simp only [Act.put, List.getElem_toArray, List.getElem_cons_succ, List.getElem_cons_zero, List.setIfInBounds_toArray, List.set_cons_zero, List.set_cons_succ]
        refine wpAnyH_take (i := 6) (v := .pointer (some ⟨w2.heap.size, 1, none⟩)) rfl (by kernel_rfl) (by kernel_rfl) (by kernel_rfl) (fun _ _ _ h => h) (Or.inl ⟨by rfl, fun w hSw => ?_⟩) hHeld ?_
        · (try dsimp only at hSw); go_split_ands; go_simp; all_goals (try first | rfl | omega)
        try simp only [Act.put, List.getElem_toArray, List.getElem_cons_succ, List.getElem_cons_zero, List.setIfInBounds_toArray, List.set_cons_zero, List.set_cons_succ]
        refine wpAnyH_take (i := 7) (v := .int .i64 s) rfl (by kernel_rfl) (by kernel_rfl) (by kernel_rfl) (fun _ _ _ h => h) (Or.inl ⟨by rfl, fun w hSw => ?_⟩) hHeld ?_
        · have q := hSw _ _ _ nXR X1; clear hSw; go_simp
        try simp only [Act.put, List.getElem_toArray, List.getElem_cons_succ, List.getElem_cons_zero, List.setIfInBounds_toArray, List.set_cons_zero, List.set_cons_succ]
        refine wpAnyH_take (i := 8) (v := .int .i64 (p : Int)) rfl (by kernel_rfl) (by kernel_rfl) (by kernel_rfl) (fun _ _ _ h => h) (Or.inl ⟨by rfl, fun w hSw => ?_⟩) hHeld ?_
        · (try dsimp only at hSw); go_split_ands; go_simp; all_goals (try first | rfl | omega)
        try simp only [Act.put, List.getElem_toArray, List.getElem_cons_succ, List.getElem_cons_zero, List.setIfInBounds_toArray, List.set_cons_zero, List.set_cons_succ]
        refine wpAnyH_take (i := 9) (v := .int .i64 mn) rfl (by kernel_rfl) (by kernel_rfl) (by kernel_rfl) (fun _ _ _ h => h) (Or.inl ⟨by rfl, fun w hSw => ?_⟩) hHeld ?_
        · clear hSw; have hm := HMN.out; go_simp; all_goals (try (split <;> omega))
        try simp only [Act.put, List.getElem_toArray, List.getElem_cons_succ, List.getElem_cons_zero, List.setIfInBounds_toArray, List.set_cons_zero, List.set_cons_succ]
        refine wpAnyH_take (i := 10) (v := .agg #[.slice (some ⟨b, oo, none⟩) p p, .int .i64 mn]) rfl (by kernel_rfl) (by kernel_rfl) (by kernel_rfl) (fun _ _ _ h => h) (Or.inl ⟨by rfl, fun w hSw => ?_⟩) hHeld ?_
        · (try dsimp only at hSw); go_split_ands; go_simp; all_goals (try first | rfl | omega)
        try simp only [Act.put, List.getElem_toArray, List.getElem_cons_succ, List.getElem_cons_zero, List.setIfInBounds_toArray, List.set_cons_zero, List.set_cons_succ]
        refine wpAnyH_take (i := 11) (v := .slice ado out.length capo) rfl (by kernel_rfl) (by kernel_rfl) (by kernel_rfl) (fun _ _ _ h => h) (Or.inl ⟨by rfl, fun w hSw => ?_⟩) hHeld ?_
        · (try dsimp only at hSw); go_split_ands; go_simp; all_goals (try first | rfl | omega)
        try simp only [Act.put, List.getElem_toArray, List.getElem_cons_succ, List.getElem_cons_zero, List.setIfInBounds_toArray, List.set_cons_zero, List.set_cons_succ]
        refine wpAnyH_ready (rs := [12]) (by kernel_rfl) (by simp) ?_
        refine AllReadyH.cons rfl (fun K hK => ?_) ?_
        · rw [if_pos (by rfl)]
          go_simp
          show K _ _
          refine hK.out _ _ (by exact (by repeat (first | with_reducible exact Keep.refl _ _ | with_reducible refine Keep.drew' ?_ | with_reducible refine Keep.alloc' ?_ _ | with_reducible refine Keep.setCell' ?_ (by first | (simp; done) | (simp <;> omega) | omega) _))) (fun hHeld => ?_)
          clear hK K
          try simp only [Act.put, List.getElem_toArray, List.getElem_cons_succ, List.getElem_cons_zero, List.setIfInBounds_toArray, List.set_cons_zero, List.set_cons_succ]
          refine wpAnyH_take (i := 13) (v := .int .i64 0) rfl (by kernel_rfl) (by kernel_rfl) (by kernel_rfl) (fun _ _ _ h => h) (Or.inl ⟨by rfl, fun w hSw => ?_⟩) hHeld ?_
          · (try dsimp only at hSw); go_split_ands; go_simp; all_goals (try first | rfl | omega)
          try simp only [Act.put, List.getElem_toArray, List.getElem_cons_succ, List.getElem_cons_zero, List.setIfInBounds_toArray, List.set_cons_zero, List.set_cons_succ]
          refine wpAnyH_done (by kernel_rfl) ?_ _
          go_wp2
          have HY := Lib.hid (HRr.out.set2 (.slice (some ⟨b, oo, none⟩) p p) (.int .i64 mn))
          have g0 := HY.out.cell 0 rfl
          have g1 := HY.out.cell 1 rfl
          refine bodyPost_ret (v := .tuple #[.slice ado out.length capo, .agg #[.slice (some ⟨b, oo, none⟩) p p, .int .i64 mn], .int .i64 0]) (by simp [results, Try.results27, go_sem, g0, g1]) rfl ⟨_, _, by rw [HF2.out, HMN.out], ?_, ?_, ?_⟩
          · rw [HF1.out]; exact (HLd.out.rd (G' := fun b => w3.heap.size ≤ b) (by decide) (fun b h1 h2 => h1) (fun b h1 h2 => h1)).keep (by repeat (first | with_reducible exact Keep.refl _ _ | with_reducible refine Keep.drew' ?_ | with_reducible refine Keep.alloc' ?_ _ | with_reducible refine Keep.setCell' ?_ (by first | (simp; done) | (simp <;> omega) | omega) _)) (fun b hb => by omega)
          · rw [HF2.out]; exact ((HD.out.below HBd.out (fun _ h => h)).take3 p (by omega)).keep (by repeat (first | with_reducible exact Keep.refl _ _ | with_reducible refine Keep.drew' ?_ | with_reducible refine Keep.alloc' ?_ _ | with_reducible refine Keep.setCell' ?_ (by first | (simp; done) | (simp <;> omega) | omega) _)) (fun b hb => by omega)
          · exact (by repeat (first | with_reducible exact (HB2.out.trans (HBd.out.mono HB2.out.size)) | with_reducible exact Below.refl _ _ | with_reducible refine Below.drew ?_ | with_reducible refine Below.setCell ?_ (by first | omega | (simp <;> omega)) _ | with_reducible refine Below.alloc ?_ (by first | omega | (simp <;> omega)) _))
        exact AllReadyH.nil
      · have l2 : ¬ (l.length : Int) < (p : Int) + 2 + (N : Int) := by omega
        have l3 : (p : Int) + 2 + (N : Int) ≤ (capD : Int) := by omega
        have l4 : (0 : Int) ≤ (p : Int) + 2 := by omega
        have l5 : (p : Int) + 2 ≤ (p : Int) + 2 + (N : Int) := by omega
        have n2 : ((p : Int) + 2).toNat = p + 2 := by omega
        have n3 : ((p : Int) + 2 + (N : Int)).toNat = p + 2 + N := by omega
        by_cases hcap : capD = p + 2
        · obtain rfl : N = 0 := by omega
          subst hcap
          have HSB2 := Lib.hid (HSB.out (.inl (by rw [List.take_zero]; decide)))
          have HE := Lib.hid ((HD.out.below HBd.out (fun _ h => h)).empty (cap' := 0) (Nat.zero_le _))
          go_wp2_with fail
          refine (wdecode_any [] _ wd HE.out).mono ?_
          rw [show decode [] = (msg0, 5) from rfl]
          rintro e w4 ⟨mv, rfl, hM, hb4⟩
          have HM4 := Lib.hid (hM.low)
          have HB4 := Lib.hid (HBd.out.trans (hb4.mono (by omega)))
          have HL4 := Lib.hid (HLd.out.below hb4)
          clear hM hb4 X0 X1
          go_upto_region 13 with (refine wpList_store_new rfl 35 _ _ rfl (msgCells msg0 mv) 35 zeroMsg rfl rfl (by kernel_rfl) rfl (msgCells_one HM4.out) ?_; intro w5 hb5 hB5 hs5; have HB5 := Lib.hid (HB4.out.trans (hB5.mono HB4.out.size)); have HL5 := Lib.hid (HL4.out.below hB5); clear hb5 hB5)
          have hfin := HREC.out.done (HSB2.out)
          have HF1 := Lib.hid (show (recL l).1 = out by rw [hfin])
          have HF2 := Lib.hid (show (recL l).2 = p by rw [hfin])
          have hRr := HRB.out.belowS HB5.out
          have f0 := hRr.free 0
          have f1 := hRr.free 1
          have q0 := hRr.cell 0 rfl
          have q1 := hRr.cell 1 rfl
          have HRr := Lib.hid hRr
          have hXw := HX.out.belowS HB5.out
          have X0 := hXw.cell 0 rfl
          have X1 := hXw.cell 1 rfl
          have zXw := hXw.lt
          have pc : (p : Int) ≤ ((p + 2) : Int) := by omega
          have nXR : w2.heap.size ≠ w.heap.size + 1 := by omega
          have hwz := HB5.out.size
          clear hfin hRr hXw
          obtain ⟨mn, hmn⟩ : ∃ mn : Int, mn = min s (p : Int) := ⟨_, rfl⟩
          have HMN := Lib.hid hmn
          clear hmn
          refine wp_region_held_drew (S := fun w' => Keep (fun bb => bb ≠ w.heap.size + 1) w5 w') (by kernel_rfl) (by exact Keep.drew _ _) (fun hHeld => ?_)
          refine wpAnyH_take (i := 0) (v := .slice ado out.length capo) rfl (by kernel_rfl) (by kernel_rfl) (by kernel_rfl) (fun _ _ _ h => h) (Or.inl ⟨by rfl, fun w hSw => ?_⟩) hHeld ?_
          · (try dsimp only at hSw); go_split_ands; go_simp; all_goals (try first | rfl | omega)
          try simp only [Act.put, List.getElem_toArray, List.getElem_cons_succ, List.getElem_cons_zero, List.setIfInBounds_toArray, List.set_cons_zero, List.set_cons_succ]
          refine wpAnyH_take (i := 1) (v := .pointer (some ⟨w2.heap.size, 0, none⟩)) rfl (by kernel_rfl) (by kernel_rfl) (by kernel_rfl) (fun _ _ _ h => h) (Or.inl ⟨by rfl, fun w hSw => ?_⟩) hHeld ?_
          · (try dsimp only at hSw); go_split_ands; go_simp; all_goals (try first | rfl | omega)
          try simp only [Act.put, List.getElem_toArray, List.getElem_cons_succ, List.getElem_cons_zero, List.setIfInBounds_toArray, List.set_cons_zero, List.set_cons_succ]
          refine wpAnyH_take (i := 2) (v := .slice (some ⟨b, oo, none⟩) l.length (p + 2)) rfl (by kernel_rfl) (by kernel_rfl) (by kernel_rfl) (fun _ _ _ h => h) (Or.inl ⟨by rfl, fun w hSw => ?_⟩) hHeld ?_
          · have q := hSw _ _ _ nXR X0; clear hSw; go_simp
          try simp only [Act.put, List.getElem_toArray, List.getElem_cons_succ, List.getElem_cons_zero, List.setIfInBounds_toArray, List.set_cons_zero, List.set_cons_succ]
          refine wpAnyH_take (i := 3) (v := .int .i64 (p : Int)) rfl (by kernel_rfl) (by kernel_rfl) (by kernel_rfl) (fun _ _ _ h => h) (Or.inl ⟨by rfl, fun w hSw => ?_⟩) hHeld ?_
          · (try dsimp only at hSw); go_split_ands; go_simp; all_goals (try first | rfl | omega)
          try simp only [Act.put, List.getElem_toArray, List.getElem_cons_succ, List.getElem_cons_zero, List.setIfInBounds_toArray, List.set_cons_zero, List.set_cons_succ]
          refine wpAnyH_take (i := 4) (v := .int .i64 (p : Int)) rfl (by kernel_rfl) (by kernel_rfl) (by kernel_rfl) (fun _ _ _ h => h) (Or.inl ⟨by rfl, fun w hSw => ?_⟩) hHeld ?_
          · (try dsimp only at hSw); go_split_ands; go_simp; all_goals (try first | rfl | omega)
          try simp only [Act.put, List.getElem_toArray, List.getElem_cons_succ, List.getElem_cons_zero, List.setIfInBounds_toArray, List.set_cons_zero, List.set_cons_succ]
          refine wpAnyH_take (i := 5) (v := .slice (some ⟨b, oo, none⟩) p p) rfl (by kernel_rfl) (by kernel_rfl) (by kernel_rfl) (fun _ _ _ h => h) (Or.inl ⟨by rfl, fun w hSw => ?_⟩) hHeld ?_
          · (try dsimp only at hSw); go_split_ands; go_simp; all_goals (try first | rfl | omega)
          try simp only [Act.put, List.getElem_toArray, List.getElem_cons_succ, List.getElem_cons_zero, List.setIfInBounds_toArray, List.set_cons_zero, List.set_cons_succ]
          refine wpAnyH_take (i := 6) (v := .pointer (some ⟨w2.heap.size, 1, none⟩)) rfl (by kernel_rfl) (by kernel_rfl) (by kernel_rfl) (fun _ _ _ h => h) (Or.inl ⟨by rfl, fun w hSw => ?_⟩) hHeld ?_
          · (try dsimp only at hSw); go_split_ands; go_simp; all_goals (try first | rfl | omega)
          try simp only [Act.put, List.getElem_toArray, List.getElem_cons_succ, List.getElem_cons_zero, List.setIfInBounds_toArray, List.set_cons_zero, List.set_cons_succ]
          refine wpAnyH_take (i := 7) (v := .int .i64 s) rfl (by kernel_rfl) (by kernel_rfl) (by kernel_rfl) (fun _ _ _ h => h) (Or.inl ⟨by rfl, fun w hSw => ?_⟩) hHeld ?_
          · have q := hSw _ _ _ nXR X1; clear hSw; go_simp
          try simp only [Act.put, List.getElem_toArray, List.getElem_cons_succ, List.getElem_cons_zero, List.setIfInBounds_toArray, List.set_cons_zero, List.set_cons_succ]
          refine wpAnyH_take (i := 8) (v := .int .i64 (p : Int)) rfl (by kernel_rfl) (by kernel_rfl) (by kernel_rfl) (fun _ _ _ h => h) (Or.inl ⟨by rfl, fun w hSw => ?_⟩) hHeld ?_
          · (try dsimp only at hSw); go_split_ands; go_simp; all_goals (try first | rfl | omega)
          try simp only [Act.put, List.getElem_toArray, List.getElem_cons_succ, List.getElem_cons_zero, List.setIfInBounds_toArray, List.set_cons_zero, List.set_cons_succ]
          refine wpAnyH_take (i := 9) (v := .int .i64 mn) rfl (by kernel_rfl) (by kernel_rfl) (by kernel_rfl) (fun _ _ _ h => h) (Or.inl ⟨by rfl, fun w hSw => ?_⟩) hHeld ?_
          · clear hSw; have hm := HMN.out; go_simp; all_goals (try (split <;> omega))
          try simp only [Act.put, List.getElem_toArray, List.getElem_cons_succ, List.getElem_cons_zero, List.setIfInBounds_toArray, List.set_cons_zero, List.set_cons_succ]
          refine wpAnyH_take (i := 10) (v := .agg #[.slice (some ⟨b, oo, none⟩) p p, .int .i64 mn]) rfl (by kernel_rfl) (by kernel_rfl) (by kernel_rfl) (fun _ _ _ h => h) (Or.inl ⟨by rfl, fun w hSw => ?_⟩) hHeld ?_
          · (try dsimp only at hSw); go_split_ands; go_simp; all_goals (try first | rfl | omega)
          try simp only [Act.put, List.getElem_toArray, List.getElem_cons_succ, List.getElem_cons_zero, List.setIfInBounds_toArray, List.set_cons_zero, List.set_cons_succ]
          refine wpAnyH_take (i := 11) (v := .slice ado out.length capo) rfl (by kernel_rfl) (by kernel_rfl) (by kernel_rfl) (fun _ _ _ h => h) (Or.inl ⟨by rfl, fun w hSw => ?_⟩) hHeld ?_
          · (try dsimp only at hSw); go_split_ands; go_simp; all_goals (try first | rfl | omega)
          try simp only [Act.put, List.getElem_toArray, List.getElem_cons_succ, List.getElem_cons_zero, List.setIfInBounds_toArray, List.set_cons_zero, List.set_cons_succ]
          refine wpAnyH_ready (rs := [12]) (by kernel_rfl) (by simp) ?_
          refine AllReadyH.cons rfl (fun K hK => ?_) ?_
          · rw [if_pos (by rfl)]
            go_simp
            show K _ _
            refine hK.out _ _ (by exact (by repeat (first | with_reducible exact Keep.refl _ _ | with_reducible refine Keep.drew' ?_ | with_reducible refine Keep.alloc' ?_ _ | with_reducible refine Keep.setCell' ?_ (by first | (simp; done) | (simp <;> omega) | omega) _))) (fun hHeld => ?_)
            clear hK K
            try simp only [Act.put, List.getElem_toArray, List.getElem_cons_succ, List.getElem_cons_zero, List.setIfInBounds_toArray, List.set_cons_zero, List.set_cons_succ]
            refine wpAnyH_take (i := 13) (v := .int .i64 0) rfl (by kernel_rfl) (by kernel_rfl) (by kernel_rfl) (fun _ _ _ h => h) (Or.inl ⟨by rfl, fun w hSw => ?_⟩) hHeld ?_
            · (try dsimp only at hSw); go_split_ands; go_simp; all_goals (try first | rfl | omega)
            try simp only [Act.put, List.getElem_toArray, List.getElem_cons_succ, List.getElem_cons_zero, List.setIfInBounds_toArray, List.set_cons_zero, List.set_cons_succ]
            refine wpAnyH_done (by kernel_rfl) ?_ _
            go_wp2
            have HY := Lib.hid (HRr.out.set2 (.slice (some ⟨b, oo, none⟩) p p) (.int .i64 mn))
            have g0 := HY.out.cell 0 rfl
            have g1 := HY.out.cell 1 rfl
            refine bodyPost_ret (v := .tuple #[.slice ado out.length capo, .agg #[.slice (some ⟨b, oo, none⟩) p p, .int .i64 mn], .int .i64 0]) (by simp [results, Try.results27, go_sem, g0, g1]) rfl ⟨_, _, by rw [HF2.out, HMN.out], ?_, ?_, ?_⟩
            · rw [HF1.out]; exact (HL5.out.rd (G' := fun b => w3.heap.size ≤ b) (by decide) (fun b h1 h2 => h1) (fun b h1 h2 => h1)).keep (by repeat (first | with_reducible exact Keep.refl _ _ | with_reducible refine Keep.drew' ?_ | with_reducible refine Keep.alloc' ?_ _ | with_reducible refine Keep.setCell' ?_ (by first | (simp; done) | (simp <;> omega) | omega) _)) (fun b hb => by omega)
            · rw [HF2.out]; exact ((HD.out.below HB5.out (fun _ h => h)).take3 p (by omega)).keep (by repeat (first | with_reducible exact Keep.refl _ _ | with_reducible refine Keep.drew' ?_ | with_reducible refine Keep.alloc' ?_ _ | with_reducible refine Keep.setCell' ?_ (by first | (simp; done) | (simp <;> omega) | omega) _)) (fun b hb => by omega)
            · exact (by repeat (first | with_reducible exact (HB2.out.trans (HB5.out.mono HB2.out.size)) | with_reducible exact Below.refl _ _ | with_reducible refine Below.drew ?_ | with_reducible refine Below.setCell ?_ (by first | omega | (simp <;> omega)) _ | with_reducible refine Below.alloc ?_ (by first | omega | (simp <;> omega)) _))
          exact AllReadyH.nil
        · have hc3 : ¬ capD = p + 2 := hcap
          have HE := Lib.hid (show RdB (fun b => w.heap.size + 2 ≤ b ∧ b < w2.heap.size) wd (.slice (some ⟨b, oo + (p + 2), none⟩) N (capD - (p + 2))) ((l.drop (p + 2)).take N) from by
            have h1 := ((HD.out.below HBd.out (fun _ h => h)).drop (p + 2) (by omega)).take N (by rw [List.length_drop]; omega)
            rw [show (p + 2) * RByte.size = p + 2 from Nat.mul_one _] at h1; exact h1)
          obtain ⟨Q, hQ⟩ : ∃ Q, Q = (l.drop (p + 2)).take N := ⟨_, rfl⟩
          rw [← hQ] at HSB HSG HE
          have HSG2 := Lib.hid (HSG.out (by omega))
          have HSBN := Lib.hid HSB.out
          clear hQ HSB HSG
          have hdk := fun h => (decode_ok (l := Q) h).1
          go_wp2_with fail
          refine (wdecode_any Q _ wd HE.out).mono ?_
          rintro e w4 ⟨mv, rfl, hM, hb4⟩
          generalize decode Q = DD at *
          obtain ⟨M, c⟩ := DD
          simp only at hM hdk HSG2 HSBN ⊢
          have HDK := Lib.hid hdk
          have HM4 := Lib.hid (hM.low)
          have HB4 := Lib.hid (HBd.out.trans (hb4.mono (by omega)))
          have HL4 := Lib.hid (HLd.out.below hb4)
          have z4 := hb4.size
          clear hM hb4 hdk X0 X1
          go_upto_region 10 with (refine wpList_store_new rfl 35 _ _ rfl (msgCells M mv) 35 zeroMsg rfl rfl (by kernel_rfl) rfl (msgCells_one HM4.out) ?_; intro w5 hb5 hB5 hs5; have HM5 := Lib.hid (HM4.out.keep (G' := fun b => wd.heap.size ≤ b ∧ b < w4.heap.size) (Keep.below hB5) (fun _ h => h)); have HMX5 := Lib.hid hb5; have HB5 := Lib.hid (HB4.out.trans (hB5.mono HB4.out.size)); have HL5 := Lib.hid (HL4.out.below hB5); clear hb5 hB5)
          have z5 : w5.heap.size = w4.heap.size + 1 := hs5
          by_cases hc : c = 0
          · subst hc
            have h0 := HDK.out rfl
            have HOKM := Lib.hid (msgOk_code h0)
            clear h0
            go_wp2_with (refine wpList_load_boxH (by rfl) 35 _ rfl w4.heap.size rfl (msgCells M mv) 35 HMX5.out Try.underlying35 rfl (by kernel_rfl) ?_)
            refine (tcheck_any M mv w5 HM5.out HOKM.out).mono ?_
            rintro e w6 ⟨rfl, hb6⟩
            have HM6 := Lib.hid (HM5.out.below hb6 (fun _ h => h))
            have HMX6 := Lib.hid (HMX5.out.belowS hb6)
            have HB6 := Lib.hid (HB5.out.trans (hb6.mono HB5.out.size))
            have HL6 := Lib.hid (HL5.out.below hb6)
            have z6 := hb6.size
            clear hb6
            by_cases hr : recCode M = 0
            · have HNX := Lib.hid (HREC.out.next (HSG2.out (by first | rfl | trivial) hr))
              have hone2 := msgCells_one HM6.out
              obtain ⟨vals, hv⟩ := HL6.out.valsOf
              have hvlt := hv.lt
              have HV6 := Lib.hid hv
              rw [hr]
              clear hv hr
              go_wp2_with (first
                | (refine wpList_load_box rfl 35 _ rfl w4.heap.size rfl (msgCells M mv) 35 HMX6.out Try.underlying35 rfl (by kernel_rfl) ?_)
                | (refine wpList_build1 rfl 57 _ rfl Try.underlying57 (z := .agg zeroMsg.toArray) (n := 19) (by kernel_rfl) rfl (by decide) (by decide) (msgCells M mv) rfl rfl ?_)
                | (at_builtin; refine wpList_append_one rfl _ _ 57 rfl elemMsg w3.heap.size _ out.length vals rfl (by exact (HV6.out.alloc (.cells (msgCells M mv).toArray 35)).own) w6.heap.size 35 (msgCells M mv) rfl (BoxAt.new w6 (msgCells M mv) _) rfl (fun u hu => List.all_eq_true.1 hone2 u hu) (by unfold maxLen; omega) (by omega) (by have := HB6.out.size; simp; omega) ?_; intro g cap7 w7 hown7 hgr7 hat7 hlt7))
              have hx : RMsg.rd (fun b => w3.heap.size ≤ b ∧ b < (w6.alloc (.cells (msgCells M mv).toArray 35)).heap.size ∧ (Value.slice ado out.length capo).ownBlock ≠ some b) (w6.alloc (.cells (msgCells M mv).toArray 35)) (msgCells M mv) M :=
                ⟨mv, rfl, HM6.out.keep (Keep.alloc _ _ _) (fun b hb => ⟨by have := hb.1; omega, by have := hb.2; simp; omega, fun e => by have h1 := hb.1; have := (hvdlt _ e).2; omega⟩)⟩
              have hP := (HV6.out.alloc (.cells (msgCells M mv).toArray 35)).push hx hown7 hgr7 hat7
              have HP := Lib.hid hP
              have HB7 := Lib.hid ((HB6.out.alloc HB6.out.size (.cells (msgCells M mv).toArray 35)).grown hgr7 (by have := HB6.out.size; simp; omega) (fun k hk => (hvlt _ hk).1))
              clear hP hx hown7
              have e1 : (out ++ [M]).length = out.length + 1 := by simp
              go_wp2
              go_roundw
              case rel => exact ⟨p + (N + 2), out ++ [M], some ⟨g, 0, none⟩, cap7, by go_num, by rw [e1], HNX.out, by rw [e1]; exact HP.out, HB7.out⟩
              case measure => simp [intOf]; omega
            · have HSN := Lib.hid (HSBN.out (.inr hr))
              have hrb : (recCode M != 0) = true := by simpa using hr
              clear hr
              go_upto_region 13 with fail
              have hfin := HREC.out.done (HSN.out)
              have HF1 := Lib.hid (show (recL l).1 = out by rw [hfin])
              have HF2 := Lib.hid (show (recL l).2 = p by rw [hfin])
              have hRr := HRB.out.belowS HB6.out
              have f0 := hRr.free 0
              have f1 := hRr.free 1
              have q0 := hRr.cell 0 rfl
              have q1 := hRr.cell 1 rfl
              have HRr := Lib.hid hRr
              have hXw := HX.out.belowS HB6.out
              have X0 := hXw.cell 0 rfl
              have X1 := hXw.cell 1 rfl
              have zXw := hXw.lt
              have pc : (p : Int) ≤ (capD : Int) := by omega
              have nXR : w2.heap.size ≠ w.heap.size + 1 := by omega
              have hwz := HB6.out.size
              clear hfin hRr hXw
              obtain ⟨mn, hmn⟩ : ∃ mn : Int, mn = min s (p : Int) := ⟨_, rfl⟩
              have HMN := Lib.hid hmn
              clear hmn
              refine wp_region_held_drew (S := fun w' => Keep (fun bb => bb ≠ w.heap.size + 1) w6 w') (by kernel_rfl) (by exact Keep.drew _ _) (fun hHeld => ?_)
              refine wpAnyH_take (i := 0) (v := .slice ado out.length capo) rfl (by kernel_rfl) (by kernel_rfl) (by kernel_rfl) (fun _ _ _ h => h) (Or.inl ⟨by rfl, fun w hSw => ?_⟩) hHeld ?_
              · (try dsimp only at hSw); go_split_ands; go_simp; all_goals (try first | rfl | omega)
              try simp only [Act.put, List.getElem_toArray, List.getElem_cons_succ, List.getElem_cons_zero, List.setIfInBounds_toArray, List.set_cons_zero, List.set_cons_succ]
              refine wpAnyH_take (i := 1) (v := .pointer (some ⟨w2.heap.size, 0, none⟩)) rfl (by kernel_rfl) (by kernel_rfl) (by kernel_rfl) (fun _ _ _ h => h) (Or.inl ⟨by rfl, fun w hSw => ?_⟩) hHeld ?_
              · (try dsimp only at hSw); go_split_ands; go_simp; all_goals (try first | rfl | omega)
              try simp only [Act.put, List.getElem_toArray, List.getElem_cons_succ, List.getElem_cons_zero, List.setIfInBounds_toArray, List.set_cons_zero, List.set_cons_succ]
              refine wpAnyH_take (i := 2) (v := .slice (some ⟨b, oo, none⟩) l.length capD) rfl (by kernel_rfl) (by kernel_rfl) (by kernel_rfl) (fun _ _ _ h => h) (Or.inl ⟨by rfl, fun w hSw => ?_⟩) hHeld ?_
              · have q := hSw _ _ _ nXR X0; clear hSw; go_simp
              try simp only [Act.put, List.getElem_toArray, List.getElem_cons_succ, List.getElem_cons_zero, List.setIfInBounds_toArray, List.set_cons_zero, List.set_cons_succ]
              refine wpAnyH_take (i := 3) (v := .int .i64 (p : Int)) rfl (by kernel_rfl) (by kernel_rfl) (by kernel_rfl) (fun _ _ _ h => h) (Or.inl ⟨by rfl, fun w hSw => ?_⟩) hHeld ?_
              · (try dsimp only at hSw); go_split_ands; go_simp; all_goals (try first | rfl | omega)
              try simp only [Act.put, List.getElem_toArray, List.getElem_cons_succ, List.getElem_cons_zero, List.setIfInBounds_toArray, List.set_cons_zero, List.set_cons_succ]
              refine wpAnyH_take (i := 4) (v := .int .i64 (p : Int)) rfl (by kernel_rfl) (by kernel_rfl) (by kernel_rfl) (fun _ _ _ h => h) (Or.inl ⟨by rfl, fun w hSw => ?_⟩) hHeld ?_
              · (try dsimp only at hSw); go_split_ands; go_simp; all_goals (try first | rfl | omega)
              try simp only [Act.put, List.getElem_toArray, List.getElem_cons_succ, List.getElem_cons_zero, List.setIfInBounds_toArray, List.set_cons_zero, List.set_cons_succ]
              refine wpAnyH_take (i := 5) (v := .slice (some ⟨b, oo, none⟩) p p) rfl (by kernel_rfl) (by kernel_rfl) (by kernel_rfl) (fun _ _ _ h => h) (Or.inl ⟨by rfl, fun w hSw => ?_⟩) hHeld ?_
              · (try dsimp only at hSw); go_split_ands; go_simp; all_goals (try first | rfl | omega)
              try simp only [Act.put, List.getElem_toArray, List.getElem_cons_succ, List.getElem_cons_zero, List.setIfInBounds_toArray, List.set_cons_zero, List.set_cons_succ]
              refine wpAnyH_take (i := 6) (v := .pointer (some ⟨w2.heap.size, 1, none⟩)) rfl (by kernel_rfl) (by kernel_rfl) (by kernel_rfl) (fun _ _ _ h => h) (Or.inl ⟨by rfl, fun w hSw => ?_⟩) hHeld ?_
              · (try dsimp only at hSw); go_split_ands; go_simp; all_goals (try first | rfl | omega)
              try simp only [Act.put, List.getElem_toArray, List.getElem_cons_succ, List.getElem_cons_zero, List.setIfInBounds_toArray, List.set_cons_zero, List.set_cons_succ]
              refine wpAnyH_take (i := 7) (v := .int .i64 s) rfl (by kernel_rfl) (by kernel_rfl) (by kernel_rfl) (fun _ _ _ h => h) (Or.inl ⟨by rfl, fun w hSw => ?_⟩) hHeld ?_
              · have q := hSw _ _ _ nXR X1; clear hSw; go_simp
              try simp only [Act.put, List.getElem_toArray, List.getElem_cons_succ, List.getElem_cons_zero, List.setIfInBounds_toArray, List.set_cons_zero, List.set_cons_succ]
              refine wpAnyH_take (i := 8) (v := .int .i64 (p : Int)) rfl (by kernel_rfl) (by kernel_rfl) (by kernel_rfl) (fun _ _ _ h => h) (Or.inl ⟨by rfl, fun w hSw => ?_⟩) hHeld ?_
              · (try dsimp only at hSw); go_split_ands; go_simp; all_goals (try first | rfl | omega)
              try simp only [Act.put, List.getElem_toArray, List.getElem_cons_succ, List.getElem_cons_zero, List.setIfInBounds_toArray, List.set_cons_zero, List.set_cons_succ]
              refine wpAnyH_take (i := 9) (v := .int .i64 mn) rfl (by kernel_rfl) (by kernel_rfl) (by kernel_rfl) (fun _ _ _ h => h) (Or.inl ⟨by rfl, fun w hSw => ?_⟩) hHeld ?_
              · clear hSw; have hm := HMN.out; go_simp; all_goals (try (split <;> omega))
              try simp only [Act.put, List.getElem_toArray, List.getElem_cons_succ, List.getElem_cons_zero, List.setIfInBounds_toArray, List.set_cons_zero, List.set_cons_succ]
              refine wpAnyH_take (i := 10) (v := .agg #[.slice (some ⟨b, oo, none⟩) p p, .int .i64 mn]) rfl (by kernel_rfl) (by kernel_rfl) (by kernel_rfl) (fun _ _ _ h => h) (Or.inl ⟨by rfl, fun w hSw => ?_⟩) hHeld ?_
              · (try dsimp only at hSw); go_split_ands; go_simp; all_goals (try first | rfl | omega)
              try simp only [Act.put, List.getElem_toArray, List.getElem_cons_succ, List.getElem_cons_zero, List.setIfInBounds_toArray, List.set_cons_zero, List.set_cons_succ]
              refine wpAnyH_take (i := 11) (v := .slice ado out.length capo) rfl (by kernel_rfl) (by kernel_rfl) (by kernel_rfl) (fun _ _ _ h => h) (Or.inl ⟨by rfl, fun w hSw => ?_⟩) hHeld ?_
              · (try dsimp only at hSw); go_split_ands; go_simp; all_goals (try first | rfl | omega)
              try simp only [Act.put, List.getElem_toArray, List.getElem_cons_succ, List.getElem_cons_zero, List.setIfInBounds_toArray, List.set_cons_zero, List.set_cons_succ]
              refine wpAnyH_ready (rs := [12]) (by kernel_rfl) (by simp) ?_
              refine AllReadyH.cons rfl (fun K hK => ?_) ?_
              · rw [if_pos (by rfl)]
                go_simp
                show K _ _
                refine hK.out _ _ (by exact (by repeat (first | with_reducible exact Keep.refl _ _ | with_reducible refine Keep.drew' ?_ | with_reducible refine Keep.alloc' ?_ _ | with_reducible refine Keep.setCell' ?_ (by first | (simp; done) | (simp <;> omega) | omega) _))) (fun hHeld => ?_)
                clear hK K
                try simp only [Act.put, List.getElem_toArray, List.getElem_cons_succ, List.getElem_cons_zero, List.setIfInBounds_toArray, List.set_cons_zero, List.set_cons_succ]
                refine wpAnyH_take (i := 13) (v := .int .i64 0) rfl (by kernel_rfl) (by kernel_rfl) (by kernel_rfl) (fun _ _ _ h => h) (Or.inl ⟨by rfl, fun w hSw => ?_⟩) hHeld ?_
                · (try dsimp only at hSw); go_split_ands; go_simp; all_goals (try first | rfl | omega)
                try simp only [Act.put, List.getElem_toArray, List.getElem_cons_succ, List.getElem_cons_zero, List.setIfInBounds_toArray, List.set_cons_zero, List.set_cons_succ]
                refine wpAnyH_done (by kernel_rfl) ?_ _
                go_wp2
                have HY := Lib.hid (HRr.out.set2 (.slice (some ⟨b, oo, none⟩) p p) (.int .i64 mn))
                have g0 := HY.out.cell 0 rfl
                have g1 := HY.out.cell 1 rfl
                refine bodyPost_ret (v := .tuple #[.slice ado out.length capo, .agg #[.slice (some ⟨b, oo, none⟩) p p, .int .i64 mn], .int .i64 0]) (by simp [results, Try.results27, go_sem, g0, g1]) rfl ⟨_, _, by rw [HF2.out, HMN.out], ?_, ?_, ?_⟩
                · rw [HF1.out]; exact (HL6.out.rd (G' := fun b => w3.heap.size ≤ b) (by decide) (fun b h1 h2 => h1) (fun b h1 h2 => h1)).keep (by repeat (first | with_reducible exact Keep.refl _ _ | with_reducible refine Keep.drew' ?_ | with_reducible refine Keep.alloc' ?_ _ | with_reducible refine Keep.setCell' ?_ (by first | (simp; done) | (simp <;> omega) | omega) _)) (fun b hb => by omega)
                · rw [HF2.out]; exact ((HD.out.below HB6.out (fun _ h => h)).take3 p (by omega)).keep (by repeat (first | with_reducible exact Keep.refl _ _ | with_reducible refine Keep.drew' ?_ | with_reducible refine Keep.alloc' ?_ _ | with_reducible refine Keep.setCell' ?_ (by first | (simp; done) | (simp <;> omega) | omega) _)) (fun b hb => by omega)
                · exact (by repeat (first | with_reducible exact (HB2.out.trans (HB6.out.mono HB2.out.size)) | with_reducible exact Below.refl _ _ | with_reducible refine Below.drew ?_ | with_reducible refine Below.setCell ?_ (by first | omega | (simp <;> omega)) _ | with_reducible refine Below.alloc ?_ (by first | omega | (simp <;> omega)) _))
              exact AllReadyH.nil
          · have HSN := Lib.hid (HSBN.out (.inl hc))
            have hcb : (c != 0) = true := by simpa using hc
            clear hc
            go_upto_region 13 with fail
            have hfin := HREC.out.done (HSN.out)
            have HF1 := Lib.hid (show (recL l).1 = out by rw [hfin])
            have HF2 := Lib.hid (show (recL l).2 = p by rw [hfin])
            have hRr := HRB.out.belowS HB5.out
            have f0 := hRr.free 0
            have f1 := hRr.free 1
            have q0 := hRr.cell 0 rfl
            have q1 := hRr.cell 1 rfl
            have HRr := Lib.hid hRr
            have hXw := HX.out.belowS HB5.out
            have X0 := hXw.cell 0 rfl
            have X1 := hXw.cell 1 rfl
            have zXw := hXw.lt
            have pc : (p : Int) ≤ (capD : Int) := by omega
            have nXR : w2.heap.size ≠ w.heap.size + 1 := by omega
            have hwz := HB5.out.size
            clear hfin hRr hXw
            obtain ⟨mn, hmn⟩ : ∃ mn : Int, mn = min s (p : Int) := ⟨_, rfl⟩
            have HMN := Lib.hid hmn
            clear hmn
            refine wp_region_held_drew (S := fun w' => Keep (fun bb => bb ≠ w.heap.size + 1) w5 w') (by kernel_rfl) (by exact Keep.drew _ _) (fun hHeld => ?_)
            refine wpAnyH_take (i := 0) (v := .slice ado out.length capo) rfl (by kernel_rfl) (by kernel_rfl) (by kernel_rfl) (fun _ _ _ h => h) (Or.inl ⟨by rfl, fun w hSw => ?_⟩) hHeld ?_
            · (try dsimp only at hSw); go_split_ands; go_simp; all_goals (try first | rfl | omega)
            try simp only [Act.put, List.getElem_toArray, List.getElem_cons_succ, List.getElem_cons_zero, List.setIfInBounds_toArray, List.set_cons_zero, List.set_cons_succ]
            refine wpAnyH_take (i := 1) (v := .pointer (some ⟨w2.heap.size, 0, none⟩)) rfl (by kernel_rfl) (by kernel_rfl) (by kernel_rfl) (fun _ _ _ h => h) (Or.inl ⟨by rfl, fun w hSw => ?_⟩) hHeld ?_
            · (try dsimp only at hSw); go_split_ands; go_simp; all_goals (try first | rfl | omega)
            try simp only [Act.put, List.getElem_toArray, List.getElem_cons_succ, List.getElem_cons_zero, List.setIfInBounds_toArray, List.set_cons_zero, List.set_cons_succ]
            refine wpAnyH_take (i := 2) (v := .slice (some ⟨b, oo, none⟩) l.length capD) rfl (by kernel_rfl) (by kernel_rfl) (by kernel_rfl) (fun _ _ _ h => h) (Or.inl ⟨by rfl, fun w hSw => ?_⟩) hHeld ?_
            · have q := hSw _ _ _ nXR X0; clear hSw; go_simp
            try simp only [Act.put, List.getElem_toArray, List.getElem_cons_succ, List.getElem_cons_zero, List.setIfInBounds_toArray, List.set_cons_zero, List.set_cons_succ]
            refine wpAnyH_take (i := 3) (v := .int .i64 (p : Int)) rfl (by kernel_rfl) (by kernel_rfl) (by kernel_rfl) (fun _ _ _ h => h) (Or.inl ⟨by rfl, fun w hSw => ?_⟩) hHeld ?_
            · (try dsimp only at hSw); go_split_ands; go_simp; all_goals (try first | rfl | omega)
            try simp only [Act.put, List.getElem_toArray, List.getElem_cons_succ, List.getElem_cons_zero, List.setIfInBounds_toArray, List.set_cons_zero, List.set_cons_succ]
            refine wpAnyH_take (i := 4) (v := .int .i64 (p : Int)) rfl (by kernel_rfl) (by kernel_rfl) (by kernel_rfl) (fun _ _ _ h => h) (Or.inl ⟨by rfl, fun w hSw => ?_⟩) hHeld ?_
            · (try dsimp only at hSw); go_split_ands; go_simp; all_goals (try first | rfl | omega)
            try simp only [Act.put, List.getElem_toArray, List.getElem_cons_succ, List.getElem_cons_zero, List.setIfInBounds_toArray, List.set_cons_zero, List.set_cons_succ]
            refine wpAnyH_take (i := 5) (v := .slice (some ⟨b, oo, none⟩) p p) rfl (by kernel_rfl) (by kernel_rfl) (by kernel_rfl) (fun _ _ _ h => h) (Or.inl ⟨by rfl, fun w hSw => ?_⟩) hHeld ?_
            · (try dsimp only at hSw); go_split_ands; go_simp; all_goals (try first | rfl | omega)
            try simp only [Act.put, List.getElem_toArray, List.getElem_cons_succ, List.getElem_cons_zero, List.setIfInBounds_toArray, List.set_cons_zero, List.set_cons_succ]
            refine wpAnyH_take (i := 6) (v := .pointer (some ⟨w2.heap.size, 1, none⟩)) rfl (by kernel_rfl) (by kernel_rfl) (by kernel_rfl) (fun _ _ _ h => h) (Or.inl ⟨by rfl, fun w hSw => ?_⟩) hHeld ?_
            · (try dsimp only at hSw); go_split_ands; go_simp; all_goals (try first | rfl | omega)
            try simp only [Act.put, List.getElem_toArray, List.getElem_cons_succ, List.getElem_cons_zero, List.setIfInBounds_toArray, List.set_cons_zero, List.set_cons_succ]
            refine wpAnyH_take (i := 7) (v := .int .i64 s) rfl (by kernel_rfl) (by kernel_rfl) (by kernel_rfl) (fun _ _ _ h => h) (Or.inl ⟨by rfl, fun w hSw => ?_⟩) hHeld ?_
            · have q := hSw _ _ _ nXR X1; clear hSw; go_simp
            try simp only [Act.put, List.getElem_toArray, List.getElem_cons_succ, List.getElem_cons_zero, List.setIfInBounds_toArray, List.set_cons_zero, List.set_cons_succ]
            refine wpAnyH_take (i := 8) (v := .int .i64 (p : Int)) rfl (by kernel_rfl) (by kernel_rfl) (by kernel_rfl) (fun _ _ _ h => h) (Or.inl ⟨by rfl, fun w hSw => ?_⟩) hHeld ?_
            · (try dsimp only at hSw); go_split_ands; go_simp; all_goals (try first | rfl | omega)
            try simp only [Act.put, List.getElem_toArray, List.getElem_cons_succ, List.getElem_cons_zero, List.setIfInBounds_toArray, List.set_cons_zero, List.set_cons_succ]
            refine wpAnyH_take (i := 9) (v := .int .i64 mn) rfl (by kernel_rfl) (by kernel_rfl) (by kernel_rfl) (fun _ _ _ h => h) (Or.inl ⟨by rfl, fun w hSw => ?_⟩) hHeld ?_
            · clear hSw; have hm := HMN.out; go_simp; all_goals (try (split <;> omega))
            try simp only [Act.put, List.getElem_toArray, List.getElem_cons_succ, List.getElem_cons_zero, List.setIfInBounds_toArray, List.set_cons_zero, List.set_cons_succ]
            refine wpAnyH_take (i := 10) (v := .agg #[.slice (some ⟨b, oo, none⟩) p p, .int .i64 mn]) rfl (by kernel_rfl) (by kernel_rfl) (by kernel_rfl) (fun _ _ _ h => h) (Or.inl ⟨by rfl, fun w hSw => ?_⟩) hHeld ?_
            · (try dsimp only at hSw); go_split_ands; go_simp; all_goals (try first | rfl | omega)
            try simp only [Act.put, List.getElem_toArray, List.getElem_cons_succ, List.getElem_cons_zero, List.setIfInBounds_toArray, List.set_cons_zero, List.set_cons_succ]
            refine wpAnyH_take (i := 11) (v := .slice ado out.length capo) rfl (by kernel_rfl) (by kernel_rfl) (by kernel_rfl) (fun _ _ _ h => h) (Or.inl ⟨by rfl, fun w hSw => ?_⟩) hHeld ?_
            · (try dsimp only at hSw); go_split_ands; go_simp; all_goals (try first | rfl | omega)
            try simp only [Act.put, List.getElem_toArray, List.getElem_cons_succ, List.getElem_cons_zero, List.setIfInBounds_toArray, List.set_cons_zero, List.set_cons_succ]
            refine wpAnyH_ready (rs := [12]) (by kernel_rfl) (by simp) ?_
            refine AllReadyH.cons rfl (fun K hK => ?_) ?_
            · rw [if_pos (by rfl)]
              go_simp
              show K _ _
              refine hK.out _ _ (by exact (by repeat (first | with_reducible exact Keep.refl _ _ | with_reducible refine Keep.drew' ?_ | with_reducible refine Keep.alloc' ?_ _ | with_reducible refine Keep.setCell' ?_ (by first | (simp; done) | (simp <;> omega) | omega) _))) (fun hHeld => ?_)
              clear hK K
              try simp only [Act.put, List.getElem_toArray, List.getElem_cons_succ, List.getElem_cons_zero, List.setIfInBounds_toArray, List.set_cons_zero, List.set_cons_succ]
              refine wpAnyH_take (i := 13) (v := .int .i64 0) rfl (by kernel_rfl) (by kernel_rfl) (by kernel_rfl) (fun _ _ _ h => h) (Or.inl ⟨by rfl, fun w hSw => ?_⟩) hHeld ?_
              · (try dsimp only at hSw); go_split_ands; go_simp; all_goals (try first | rfl | omega)
              try simp only [Act.put, List.getElem_toArray, List.getElem_cons_succ, List.getElem_cons_zero, List.setIfInBounds_toArray, List.set_cons_zero, List.set_cons_succ]
              refine wpAnyH_done (by kernel_rfl) ?_ _
              go_wp2
              have HY := Lib.hid (HRr.out.set2 (.slice (some ⟨b, oo, none⟩) p p) (.int .i64 mn))
              have g0 := HY.out.cell 0 rfl
              have g1 := HY.out.cell 1 rfl
              refine bodyPost_ret (v := .tuple #[.slice ado out.length capo, .agg #[.slice (some ⟨b, oo, none⟩) p p, .int .i64 mn], .int .i64 0]) (by simp [results, Try.results27, go_sem, g0, g1]) rfl ⟨_, _, by rw [HF2.out, HMN.out], ?_, ?_, ?_⟩
              · rw [HF1.out]; exact (HL5.out.rd (G' := fun b => w3.heap.size ≤ b) (by decide) (fun b h1 h2 => h1) (fun b h1 h2 => h1)).keep (by repeat (first | with_reducible exact Keep.refl _ _ | with_reducible refine Keep.drew' ?_ | with_reducible refine Keep.alloc' ?_ _ | with_reducible refine Keep.setCell' ?_ (by first | (simp; done) | (simp <;> omega) | omega) _)) (fun b hb => by omega)
              · rw [HF2.out]; exact ((HD.out.below HB5.out (fun _ h => h)).take3 p (by omega)).keep (by repeat (first | with_reducible exact Keep.refl _ _ | with_reducible refine Keep.drew' ?_ | with_reducible refine Keep.alloc' ?_ _ | with_reducible refine Keep.setCell' ?_ (by first | (simp; done) | (simp <;> omega) | omega) _)) (fun b hb => by omega)
              · exact (by repeat (first | with_reducible exact (HB2.out.trans (HB5.out.mono HB2.out.size)) | with_reducible exact Below.refl _ _ | with_reducible refine Below.drew ?_ | with_reducible refine Below.setCell ?_ (by first | omega | (simp <;> omega)) _ | with_reducible refine Below.alloc ?_ (by first | omega | (simp <;> omega)) _))
            exact AllReadyH.nil
    · have l1 : ¬ (p : Int) + 2 ≤ (l.length : Int) := by omega
      go_upto_region 13 with fail
      clear x0 x1
      have hfin := HREC.out.done (step_short (by omega))
      have HF1 := Lib.hid (show (recL l).1 = out by rw [hfin])
      have HF2 := Lib.hid (show (recL l).2 = p by rw [hfin])
      have hRr := HRB.out.belowS HBr.out
      have f0 := hRr.free 0
      have f1 := hRr.free 1
      have q0 := hRr.cell 0 rfl
      have q1 := hRr.cell 1 rfl
      have HRr := Lib.hid hRr
      have hXw := HX.out.belowS HBr.out
      have X0 := hXw.cell 0 rfl
      have X1 := hXw.cell 1 rfl
      have zXw := hXw.lt
      have pc : (p : Int) ≤ (capD : Int) := by omega
      have nXR : w2.heap.size ≠ w.heap.size + 1 := by omega
      have hwz := HBr.out.size
      clear hfin hRr hXw
      obtain ⟨mn, hmn⟩ : ∃ mn : Int, mn = min s (p : Int) := ⟨_, rfl⟩
      have HMN := Lib.hid hmn
      clear hmn
      refine wp_region_held_drew (S := fun w' => Keep (fun bb => bb ≠ w.heap.size + 1) wr w') (by kernel_rfl) (by exact Keep.drew _ _) (fun hHeld => ?_)
      refine wpAnyH_take (i := 0) (v := .slice ado out.length capo) rfl (by kernel_rfl) (by kernel_rfl) (by kernel_rfl) (fun _ _ _ h => h) (Or.inl ⟨by rfl, fun w hSw => ?_⟩) hHeld ?_
      · (try dsimp only at hSw); go_split_ands; go_simp; all_goals (try first | rfl | omega)
      try simp only [Act.put, List.getElem_toArray, List.getElem_cons_succ, List.getElem_cons_zero, List.setIfInBounds_toArray, List.set_cons_zero, List.set_cons_succ]
      refine wpAnyH_take (i := 1) (v := .pointer (some ⟨w2.heap.size, 0, none⟩)) rfl (by kernel_rfl) (by kernel_rfl) (by kernel_rfl) (fun _ _ _ h => h) (Or.inl ⟨by rfl, fun w hSw => ?_⟩) hHeld ?_
      · (try dsimp only at hSw); go_split_ands; go_simp; all_goals (try first | rfl | omega)
      try simp only [Act.put, List.getElem_toArray, List.getElem_cons_succ, List.getElem_cons_zero, List.setIfInBounds_toArray, List.set_cons_zero, List.set_cons_succ]
      refine wpAnyH_take (i := 2) (v := .slice adD l.length capD) rfl (by kernel_rfl) (by kernel_rfl) (by kernel_rfl) (fun _ _ _ h => h) (Or.inl ⟨by rfl, fun w hSw => ?_⟩) hHeld ?_
      · have q := hSw _ _ _ nXR X0; clear hSw; go_simp
      try simp only [Act.put, List.getElem_toArray, List.getElem_cons_succ, List.getElem_cons_zero, List.setIfInBounds_toArray, List.set_cons_zero, List.set_cons_succ]
      refine wpAnyH_take (i := 3) (v := .int .i64 (p : Int)) rfl (by kernel_rfl) (by kernel_rfl) (by kernel_rfl) (fun _ _ _ h => h) (Or.inl ⟨by rfl, fun w hSw => ?_⟩) hHeld ?_
      · (try dsimp only at hSw); go_split_ands; go_simp; all_goals (try first | rfl | omega)
      try simp only [Act.put, List.getElem_toArray, List.getElem_cons_succ, List.getElem_cons_zero, List.setIfInBounds_toArray, List.set_cons_zero, List.set_cons_succ]
      refine wpAnyH_take (i := 4) (v := .int .i64 (p : Int)) rfl (by kernel_rfl) (by kernel_rfl) (by kernel_rfl) (fun _ _ _ h => h) (Or.inl ⟨by rfl, fun w hSw => ?_⟩) hHeld ?_
      · (try dsimp only at hSw); go_split_ands; go_simp; all_goals (try first | rfl | omega)
      try simp only [Act.put, List.getElem_toArray, List.getElem_cons_succ, List.getElem_cons_zero, List.setIfInBounds_toArray, List.set_cons_zero, List.set_cons_succ]
      refine wpAnyH_take (i := 5) (v := .slice adD p p) rfl (by kernel_rfl) (by kernel_rfl) (by kernel_rfl) (fun _ _ _ h => h) (Or.inl ⟨by rfl, fun w hSw => ?_⟩) hHeld ?_
      · (try dsimp only at hSw); go_split_ands; go_simp; all_goals (try first | rfl | omega)
      try simp only [Act.put, List.getElem_toArray, List.getElem_cons_succ, List.getElem_cons_zero, List.setIfInBounds_toArray, List.set_cons_zero, List.set_cons_succ]
      refine wpAnyH_take (i := 6) (v := .pointer (some ⟨w2.heap.size, 1, none⟩)) rfl (by kernel_rfl) (by kernel_rfl) (by kernel_rfl) (fun _ _ _ h => h) (Or.inl ⟨by rfl, fun w hSw => ?_⟩) hHeld ?_
      · (try dsimp only at hSw); go_split_ands; go_simp; all_goals (try first | rfl | omega)
      try simp only [Act.put, List.getElem_toArray, List.getElem_cons_succ, List.getElem_cons_zero, List.setIfInBounds_toArray, List.set_cons_zero, List.set_cons_succ]
      refine wpAnyH_take (i := 7) (v := .int .i64 s) rfl (by kernel_rfl) (by kernel_rfl) (by kernel_rfl) (fun _ _ _ h => h) (Or.inl ⟨by rfl, fun w hSw => ?_⟩) hHeld ?_
      · have q := hSw _ _ _ nXR X1; clear hSw; go_simp
      try simp only [Act.put, List.getElem_toArray, List.getElem_cons_succ, List.getElem_cons_zero, List.setIfInBounds_toArray, List.set_cons_zero, List.set_cons_succ]
      refine wpAnyH_take (i := 8) (v := .int .i64 (p : Int)) rfl (by kernel_rfl) (by kernel_rfl) (by kernel_rfl) (fun _ _ _ h => h) (Or.inl ⟨by rfl, fun w hSw => ?_⟩) hHeld ?_
      · (try dsimp only at hSw); go_split_ands; go_simp; all_goals (try first | rfl | omega)
      try simp only [Act.put, List.getElem_toArray, List.getElem_cons_succ, List.getElem_cons_zero, List.setIfInBounds_toArray, List.set_cons_zero, List.set_cons_succ]
      refine wpAnyH_take (i := 9) (v := .int .i64 mn) rfl (by kernel_rfl) (by kernel_rfl) (by kernel_rfl) (fun _ _ _ h => h) (Or.inl ⟨by rfl, fun w hSw => ?_⟩) hHeld ?_
      · clear hSw; have hm := HMN.out; go_simp; all_goals (try (split <;> omega))
      try simp only [Act.put, List.getElem_toArray, List.getElem_cons_succ, List.getElem_cons_zero, List.setIfInBounds_toArray, List.set_cons_zero, List.set_cons_succ]
      refine wpAnyH_take (i := 10) (v := .agg #[.slice adD p p, .int .i64 mn]) rfl (by kernel_rfl) (by kernel_rfl) (by kernel_rfl) (fun _ _ _ h => h) (Or.inl ⟨by rfl, fun w hSw => ?_⟩) hHeld ?_
      · (try dsimp only at hSw); go_split_ands; go_simp; all_goals (try first | rfl | omega)
      try simp only [Act.put, List.getElem_toArray, List.getElem_cons_succ, List.getElem_cons_zero, List.setIfInBounds_toArray, List.set_cons_zero, List.set_cons_succ]
      refine wpAnyH_take (i := 11) (v := .slice ado out.length capo) rfl (by kernel_rfl) (by kernel_rfl) (by kernel_rfl) (fun _ _ _ h => h) (Or.inl ⟨by rfl, fun w hSw => ?_⟩) hHeld ?_
      · (try dsimp only at hSw); go_split_ands; go_simp; all_goals (try first | rfl | omega)
      try simp only [Act.put, List.getElem_toArray, List.getElem_cons_succ, List.getElem_cons_zero, List.setIfInBounds_toArray, List.set_cons_zero, List.set_cons_succ]
      refine wpAnyH_ready (rs := [12]) (by kernel_rfl) (by simp) ?_
      refine AllReadyH.cons rfl (fun K hK => ?_) ?_
      · rw [if_pos (by rfl)]
        go_simp
        show K _ _
        refine hK.out _ _ (by exact (by repeat (first | with_reducible exact Keep.refl _ _ | with_reducible refine Keep.drew' ?_ | with_reducible refine Keep.alloc' ?_ _ | with_reducible refine Keep.setCell' ?_ (by first | (simp; done) | (simp <;> omega) | omega) _))) (fun hHeld => ?_)
        clear hK K
        try simp only [Act.put, List.getElem_toArray, List.getElem_cons_succ, List.getElem_cons_zero, List.setIfInBounds_toArray, List.set_cons_zero, List.set_cons_succ]
        refine wpAnyH_take (i := 13) (v := .int .i64 0) rfl (by kernel_rfl) (by kernel_rfl) (by kernel_rfl) (fun _ _ _ h => h) (Or.inl ⟨by rfl, fun w hSw => ?_⟩) hHeld ?_
        · (try dsimp only at hSw); go_split_ands; go_simp; all_goals (try first | rfl | omega)
        try simp only [Act.put, List.getElem_toArray, List.getElem_cons_succ, List.getElem_cons_zero, List.setIfInBounds_toArray, List.set_cons_zero, List.set_cons_succ]
        refine wpAnyH_done (by kernel_rfl) ?_ _
        go_wp2
        have HY := Lib.hid (HRr.out.set2 (.slice adD p p) (.int .i64 mn))
        have g0 := HY.out.cell 0 rfl
        have g1 := HY.out.cell 1 rfl
        refine bodyPost_ret (v := .tuple #[.slice ado out.length capo, .agg #[.slice adD p p, .int .i64 mn], .int .i64 0]) (by simp [results, Try.results27, go_sem, g0, g1]) rfl ⟨_, _, by rw [HF2.out, HMN.out], ?_, ?_, ?_⟩
        · rw [HF1.out]; exact (HL.out.rd (G' := fun b => w3.heap.size ≤ b) (by decide) (fun b h1 h2 => h1) (fun b h1 h2 => h1)).keep (by repeat (first | with_reducible exact Keep.refl _ _ | with_reducible refine Keep.drew' ?_ | with_reducible refine Keep.alloc' ?_ _ | with_reducible refine Keep.setCell' ?_ (by first | (simp; done) | (simp <;> omega) | omega) _)) (fun b hb => by omega)
        · rw [HF2.out]; exact ((HD.out.below HBr.out (fun _ h => h)).take3 p (by omega)).keep (by repeat (first | with_reducible exact Keep.refl _ _ | with_reducible refine Keep.drew' ?_ | with_reducible refine Keep.alloc' ?_ _ | with_reducible refine Keep.setCell' ?_ (by first | (simp; done) | (simp <;> omega) | omega) _)) (fun b hb => by omega)
        · exact (by repeat (first | with_reducible exact (HB2.out.trans (HBr.out.mono HB2.out.size)) | with_reducible exact Below.refl _ _ | with_reducible refine Below.drew ?_ | with_reducible refine Below.setCell ?_ (by first | omega | (simp <;> omega)) _ | with_reducible refine Below.alloc ?_ (by first | omega | (simp <;> omega)) _))
      exact AllReadyH.nil
end Go.Proofs.Ytegdpjoncjmdeaa
