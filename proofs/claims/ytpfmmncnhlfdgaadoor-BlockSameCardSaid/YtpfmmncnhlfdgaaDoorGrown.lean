/- sheaveskeep.grown: what it makes. -/
import Derived.Test.YtpfmmncnhlfdgaaDoorDagS
set_option linter.unusedVariables false
set_option linter.unusedSimpArgs false
attribute [local go_sem ↓] Go.wp_at_zero Go.wp_at_succ
namespace Go.Proofs.YtpfmmncnhlfdgaaDoor
open Go Go.RowKit

theorem elemStp : ElemOk Tryd.prog 22 66 3 24 := elemOk_of (z := .agg #[.int .i64 0, .int .i64 0, .int .i64 0]) (by kernel_rfl) (by kernel_rfl) rfl (by decide)
theorem ownsRow_of_box {w : World} {b base size n : Nat} {cs : List Value} {T : TypeId} (h : BoxAt w b cs T) (hb : base ≤ b) (hl : cs.length = n * size) (hm : n ≤ maxLen) : w.ownsRow base T size (.slice (some ⟨b, 0, none⟩) n n) n cs :=
  ⟨hl, .inr ⟨b, n, cs.toArray, rfl, hb, h, Nat.le_refl _, hm, by simp [hl], by simp [← hl]⟩⟩
def stp1 : Stp := ⟨0, 0, 1⟩
def grownL (l : List Stp) : List Crt := dagL (stp1 :: l)
def grownBs (l : List Stp) : List Bat := dagBs (stp1 :: l)
theorem grown_ok (l : List Stp) : dagOk (grownL l) = true := dagL_ok _
/-- The cells of steps, as a list that the call owns. -/
theorem stps_of {w w' : World} {base e : Nat} {v : Value} {l : List Stp} {news : List Value} (hown : w.ownsRow base e 3 v (1 + l.length) ([.int .i64 0, .int .i64 0, .int .i64 1] ++ news)) (hn : news.length = l.length * 3) (h : ∀ j x, l[j]? = some x → RStp.rd (fun _ => True) w' ((news.drop (j * 3)).take 3) x) :
    LstO RStp (fun _ => True) base e w v (stp1 :: l) := by
  refine ⟨[.int .i64 0, .int .i64 0, .int .i64 1] ++ news, by rw [List.length_cons, Nat.add_comm]; exact hown, fun j x hx => ?_⟩
  match j, hx with
  | 0, hx =>
    simp only [List.getElem?_cons_zero, Option.some.injEq] at hx
    subst hx
    exact ⟨rfl, ⟨by decide, by decide⟩, ⟨by decide, by decide⟩, ⟨by decide, by decide⟩⟩
  | j + 1, hx =>
    simp only [List.getElem?_cons_succ] at hx
    have h1 := h j x hx
    show RStp.rd (fun _ => True) w' (((([.int .i64 0, .int .i64 0, .int .i64 1] : List Value) ++ news).drop ((j + 1) * 3)).take 3) x
    rw [show (j + 1) * 3 = 3 + j * 3 by omega, ← List.drop_drop]
    exact h1
set_option maxRecDepth 100000 in
set_option maxHeartbeats 8000000 in
theorem grown_any {G : Nat → Prop} {l : List Stp} (v : Value) (w : World) (h : RdS RStp G w v l) (hz : l.length * 24 ≤ reachBytes) (ht : Tabs w) :
    Calls Tryd.prog 20 #[v] w fun e w' => ∃ vd vb, e = .returned (.tuple #[.agg #[vd], vb]) ∧ RdS RCert (fun b => w.heap.size ≤ b) w' vd (grownL l) ∧ RdS RBat (fun b => w.heap.size ≤ b) w' vb (grownBs l) ∧ Below w.heap.size w w' := by
  have hlz : l.length * 24 ≤ 140737488351232 := hz
  obtain ⟨news, hsl, hrd, hone⟩ := RdS.flatOf h (by decide) (fun h => RStp_one h)
  obtain ⟨adl, capl, rfl, hcl, hml⟩ := h.form
  have hB0 : Below w.heap.size w ((w.alloc (.cells #[.slice none 0 0] 30)).alloc (.cells #[.int .i64 0, .int .i64 0, .int .i64 1] 66)) := ((Below.refl _ _).alloc (Nat.le_refl _) _).alloc (by simp) _
  have HSL := Lib.hid (hsl.below hB0)
  have HT := Lib.hid ht
  have HRD := Lib.hid hrd
  have HONE := Lib.hid hone
  have HNL := Lib.hid (show news.length = l.length * 3 by obtain ⟨_, _, _, _, q, _⟩ := hsl; exact q)
  have B2 := Lib.hid ((BoxAt.new w [.slice none 0 0] 30).alloc (.cells #[.int .i64 0, .int .i64 0, .int .i64 1] 66))
  clear h hsl ht hrd hone hB0 hz
  go_enter Tryd.func20, Tryd.ntmps20
  go_wp2_with (at_builtin; refine wpList_append_sl rfl _ _ 22 rfl elemStp (w.heap.size + 1) (.slice (some ⟨w.heap.size + 1, 0, none⟩) 1 1) rfl 1 [.int .i64 0, .int .i64 0, .int .i64 1] (by exact ownsRow_of_box (BoxAt.newAt (w.alloc (.cells #[.slice none 0 0] 30)) [.int .i64 0, .int .i64 0, .int .i64 1] 66 (n := w.heap.size + 1) (by simp)) (by simp) (by simp) (by unfold maxLen; simp)) _ rfl l.length news HSL.out HONE.out (by unfold maxLen; omega) (by omega) (by simp) ?_; intro v5 w5 hown5 hgr5)
  have HL5 := Lib.hid (stps_of (w' := w) hown5 HNL.out HRD.out)
  have hlt5 := HL5.out.lt
  have HB5 := Lib.hid (show Below w.heap.size w w5 from (((Below.refl _ _).alloc (Nat.le_refl _) _).alloc (by simp) _).grown hgr5 (by simp; omega) (fun k hk => by simp [Value.ownBlock] at hk; omega))
  have B25 := Lib.hid (B2.out.grown hgr5 (by simp [Value.ownBlock]))
  clear hown5 hgr5 B2
  go_wp2_with fail
  refine (sdag_any _ _ (HL5.out.rd (G' := fun _ => True) (by decide) (fun _ _ _ => trivial) (fun _ _ _ => trivial)) (HT.out.belowS HB5.out)).mono ?_
  rintro e w6 ⟨vd, vb, rfl, hd, hb, hb6⟩
  have B26 := Lib.hid (B25.out.belowS hb6)
  have zw5 := HB5.out.size
  have HD6 := Lib.hid (hd.mono (G' := fun b => w.heap.size < b) (fun b hb => by have := B25.out.lt; omega))
  have HBB6 := Lib.hid (hb.mono (G' := fun b => w.heap.size < b) (fun b hb => by have := B25.out.lt; omega))
  have HB6 := Lib.hid (HB5.out.trans (hb6.mono zw5))
  clear hd hb hb6
  have y0 := B26.out.cell 0 rfl
  have yf := B26.out.free 0
  have yz := B26.out.lt
  have HZ := Lib.hid (B26.out.set 0 vd)
  have g0 := HZ.out.cell 0 rfl
  have HDF := Lib.hid ((HD6.out.keep (G' := fun b => w.heap.size ≤ b) (Keep.setCell (p := ⟨w.heap.size, 0, none⟩) (by simp) vd) (fun b hb => Nat.le_of_lt hb)))
  have HBF := Lib.hid ((HBB6.out.keep (G' := fun b => w.heap.size ≤ b) (Keep.setCell (p := ⟨w.heap.size, 0, none⟩) (by simp) vd) (fun b hb => Nat.le_of_lt hb)))
  have HBE := Lib.hid (HB6.out.setCell (p := ⟨w.heap.size, 0, none⟩) (by simp) vd)
  obtain ⟨fd, fc, rfl, -, -⟩ := HD6.out.form
  go_wp2
  refine bodyPost_ret (v := .tuple #[.agg #[.slice fd (grownL l).length fc], vb]) (by simp [results, Tryd.results20, go_sem, g0, grownL]) rfl ⟨_, _, rfl, HDF.out, HBF.out, HBE.out⟩
end Go.Proofs.YtpfmmncnhlfdgaaDoor
