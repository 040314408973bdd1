/- Conversions between texts and bytes; make. No program is named. -/
import Derived.Test.YtodcebhfkmlmgaaDoorLib2
import Derived.Laws.BytesString
set_option linter.unusedVariables false
set_option linter.unusedSimpArgs false
namespace Go.Proofs.YtodcebhfkmlmgaaDoor
open Go Go.RowKit

theorem foldl_push (l : List UInt8) : ∀ s : ByteArray, (l.map (fun c => ((c.toNat : Nat) : Int))).foldl (fun r n => r.push (UInt8.ofNat n.toNat)) s = ⟨(s.data.toList ++ l).toArray⟩ := by
  induction l with
  | nil => intro s; simp
  | cons c l ih =>
    intro s
    simp only [List.map_cons, List.foldl_cons, ih]
    congr 2
    show (s.data.push (UInt8.ofNat (c.toNat : Int).toNat)).toList ++ l = _
    simp

theorem run_bytesToString_rd {P : Program} {G : Nat → Prop} {w : World} {v : Value} {l : List UInt8} (h : RdB G w v l) : (Conv.bytesToString v).run P w = .ok (strV l) w := by
  obtain ⟨ad, cap, rfl, h1, h2, h0⟩ := h.form0
  rcases ad with _ | a
  · have : l = [] := List.eq_nil_of_length_eq_zero (by have := h0 rfl; omega)
    subst this
    rfl
  · have hc : ∀ j v, (l.map (fun c => Value.int .u8 c.toNat))[j]? = some v → w.cell? (a.add j) = some v := fun j u hj => by
      simp only [List.getElem?_map, Option.map_eq_some_iff] at hj
      obtain ⟨x, hx, rfl⟩ := hj
      have hjl : j < l.length := by
        rcases Nat.lt_or_ge j l.length with h | h
        · exact h
        · simp [List.getElem?_eq_none h] at hx
      obtain ⟨b, o, ha, _, hcell⟩ := h.cell j hjl
      simp only [Option.some.injEq] at ha
      subst ha
      rw [List.getElem?_eq_getElem hjl] at hx
      obtain rfl := Option.some.inj hx
      unfold Addr.add
      split
      · rename_i h; subst h; simpa using hcell
      · exact hcell
    have hl := run_loadCells_list (P := P) (w := w) a _ hc
    have hm : l.map (fun c => Value.int .u8 c.toNat) = (l.map (fun c => ((c.toNat : Nat) : Int))).map (Value.int .u8) := by simp
    rw [hm] at hl
    have := run_bytesToString (P := P) w a l.length cap (l.map (fun c => ((c.toNat : Nat) : Int))) (by simpa using hl)
    rw [this, foldl_push]
    rfl

/-- 'string(b)'. -/
theorem wpList_bytes_str {P : Program} {w : World} {ops : Array Oper} {rest : List Oper} {o : Oper} {a : Act} {Q : Exit → Act → World → Prop} (hgd : o.guard = none) (src dst : TypeId) (x : Operand)
    (ho : o.op = .convert src dst x) {e : TypeId} (hs : P.underlying src = some (.slice e)) (he : P.underlying e = some (.int .u8)) (hd : P.underlying dst = some .string)
    (v : Value) (hv : a.eval x = v) {G : Nat → Prop} (l : List UInt8) (hr : RdB G w v l)
    (h : wpList P ops Q rest (a.put o.dst (strV l)) w) : wpList P ops Q (o :: rest) a w := by
  subst hv
  refine wpList_plain hgd fun K hK => ?_
  have hrun : (convert src dst (a.eval x)).run P w = .ok (strV l) w := by
    obtain ⟨ad, cap, hf, _⟩ := hr.form
    have h2 := run_bytesToString_rd (P := P) hr
    rw [hf] at h2 ⊢
    rw [run_convert_bytes_string (P := P) w src dst e ad _ cap hs he hd]
    exact h2
  unfold Oper.wp execOp
  simp only [ho, Sem.run_bind, Sem.run_pure, Result.andThen_ok, hrun]
  exact hK _ _ h

/-- n times a value. -/
def vzeros (n : Nat) (z : Value) : List Value := List.replicate n z
/-- 'make([]T, n)', elements of one cell. -/
theorem wpList_make_z {P : Program} {w : World} {ops : Array Oper} {rest : List Oper} {o : Oper} {a : Act} {Q : Exit → Act → World → Prop} (hgd : o.guard = none) (l c : Operand) (t : TypeId)
    (ho : o.op = .makeSlice t l c) {e : TypeId} {bytes : Nat} {z : Value} (ht : P.underlying t = some (.slice e)) (hinfo : (P.info? e).map (fun i => (i.zero, i.size, i.bytes)) = some (some z, 1, bytes)) (hzc : z.cells = #[z])
    (n : Nat) (L C : Int) (hl : a.eval l = .int .i64 L) (hc : a.eval c = .int .i64 C) (hL : L = (n : Int)) (hC : C = (n : Int)) (hb : bytes * n ≤ 281474976710656) (hm : n ≤ maxLen)
    (h : ∀ w', w'.ownsRow w.heap.size e 1 (.slice (some ⟨w.heap.size, 0, none⟩) n n) n (vzeros n z) → Below w.heap.size w w' → w'.heap.size = w.heap.size + 1 → wpList P ops Q rest (a.put o.dst (.slice (some ⟨w.heap.size, 0, none⟩) n n)) w') :
    wpList P ops Q (o :: rest) a w := by
  subst hL hC
  obtain ⟨i, hi, hz0, hz1, hz2⟩ := info_parts hinfo
  refine wpList_plain hgd fun K hK => ?_
  have hm' : n ≤ 9223372036854775807 := by unfold maxLen at hm; omega
  have hr := run_make (P := P) w t e i z ht hi hz0 .i64 .i64 n n (by omega) (by omega) (by rw [hz2, ← Int.natCast_mul]; omega) (by omega)
  unfold Oper.wp execOp
  simp only [ho, hl, hc, Sem.run_bind, Sem.run_pure, Result.andThen_ok, hr, Int.toNat_natCast]
  refine hK _ _ (h _ ?_ ((Below.refl _ _).alloc (Nat.le_refl _) _) (by simp))
  unfold vzeros
  refine ⟨by simp, Or.inr ⟨w.heap.size, n, _, rfl, Nat.le_refl _, heap_alloc_new w _, Nat.le_refl _, hm, by rw [size_madeCells, hz1], ?_⟩⟩
  rw [hz1, Nat.mul_one, hzc]
  apply List.ext_getElem
  · simp [madeCells]
  · intro j h1 h2
    simp [madeCells]
    rw [Nat.mod_one]; rfl
/-- n noughts. -/
def zeros (n : Nat) : List UInt8 := List.replicate n 0
theorem length_zeros (n : Nat) : (zeros n).length = n := by simp [zeros]
theorem rdB_zeros {G : Nat → Prop} {w : World} {base e n : Nat} {v : Value} (h : w.ownsRow base e 1 v n (vzeros n (.int .u8 0))) (hG : ∀ b, base ≤ b → G b) : RdB G w v (zeros n) :=
  RdS.of_owns (by unfold zeros; rw [List.map_replicate]; exact h) hG

/-- The cells of n noughts. -/
def zcells (n : Nat) : Array Value := (vzeros n (.int .u8 0)).toArray
theorem hmake_rule {P : Program} {t e : TypeId} (ht : P.underlying t = some (.slice e)) (hinfo : (P.info? e).map (fun i => (i.zero, i.size, i.bytes)) = some (some (.int .u8 0), 1, 1)) (n : Nat) (L : Int) (hL : L = (n : Int)) (hn : n ≤ 281474976710656) (w : World) :
    (Instr.makeSlice t (.int .i64 L) (.int .i64 L)).run P w = .ok (.slice (some ⟨w.heap.size, 0, none⟩) n n) (w.alloc (.cells (zcells n) e)) := by
  subst hL
  obtain ⟨i, hi, hz0, hz1, hz2⟩ := info_parts hinfo
  have hr := run_make (P := P) w t e i (.int .u8 0) ht hi hz0 .i64 .i64 n n (by omega) (by omega) (by rw [hz2]; omega) (by omega)
  rw [hr, hz1]
  simp only [Int.toNat_natCast, Nat.mul_one]
  have hm : madeCells (Value.int IntKind.u8 0).cells n = zcells n := by
    apply Array.ext'
    simp only [zcells, vzeros, madeCells]
    apply List.ext_getElem
    · simp
    · intro j h1 h2
      simp [Value.cells]
      rw [Nat.mod_one]; rfl
  rw [hm]
/-- A block of n noughts. -/
def ZBlock (w : World) (b n : Nat) (e : TypeId) : Prop := w.heap[b]? = some (.cells (zcells n) e (0, 0))
theorem ZBlock.new {w : World} {b n : Nat} {e : TypeId} (hb : b = w.heap.size) : ZBlock (w.alloc (.cells (zcells n) e)) b n e := hb ▸ heap_alloc_new w _
theorem ZBlock.alloc {w : World} {b n : Nat} {e : TypeId} (h : ZBlock w b n e) (o : Obj) : ZBlock (w.alloc o) b n e := (Below.heap_alloc w o b (lt_of_block h)).trans h
theorem ZBlock.drew {w : World} {b n : Nat} {e : TypeId} (h : ZBlock w b n e) : ZBlock w.drew b n e := h
theorem ZBlock.rd {w : World} {b n : Nat} {e : TypeId} (h : ZBlock w b n e) (hn : n ≤ maxLen) : RdB (fun _ => True) w (.slice (some ⟨b, 0, none⟩) n n) (zeros n) :=
  RdS.of_owns (base := 0) (e := e) (n := n) ⟨by simp [length_zeros], Or.inr ⟨b, n, zcells n, rfl, Nat.zero_le _, h, Nat.le_refl _, hn, by simp [zcells, vzeros], by simp [zcells, vzeros, zeros]⟩⟩ (fun _ _ => trivial)
theorem hstr_rule {P : Program} {src dst e : TypeId} (hs : P.underlying src = some (.slice e)) (he : P.underlying e = some (.int .u8)) (hd : P.underlying dst = some .string) (n : Nat) (hn : n ≤ maxLen) (w : World) (b : Nat) (h : ZBlock w b n e) :
    (convert src dst (.slice (some ⟨b, 0, none⟩) n n)).run P w = .ok (strV (zeros n)) w := by
  rw [run_convert_bytes_string (P := P) w src dst e _ _ _ hs he hd]
  exact run_bytesToString_rd (h.rd hn)
end Go.Proofs.YtodcebhfkmlmgaaDoor
