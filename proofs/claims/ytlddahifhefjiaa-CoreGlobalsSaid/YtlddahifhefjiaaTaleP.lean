/-
  Operations of bytes: what Print says of them; bytes that came in.
-/
import Derived.Test.YtlddahifhefjiaaFirst27
import Derived.Test.YtlddahifhefjiaaPrint2
namespace Go
open Go.RowKit
set_option linter.unusedVariables false
/-- A slice of integers that came in. -/
theorem cellsAt_open {k : IntKind} {w : World} {x : Addr} {zs : List Int} (len : Nat) (hcell : ∀ i, i < zs.length → w.cell? (x.add i) = some (.int k (zs.getD i 0))) : CellsAt w (some x) ((zs.take len).map (Value.int k)) := by
  intro i v hi
  obtain ⟨b, off, spot⟩ := x
  have hil := (List.getElem?_eq_some_iff.1 hi).1
  simp only [List.length_map, List.length_take] at hil
  have hc := hcell i (by omega)
  have hspot : spot = none := by
    have h0 := hcell 0 (by omega)
    simpa [Addr.add] using World.cell?_spot h0
  subst hspot
  have e : (⟨b, off, none⟩ : Addr).add i = ⟨b, off + i, none⟩ := by
    unfold Addr.add
    split
    · rename_i h; subst h; rfl
    · rfl
  rw [e] at hc
  refine ⟨b, off, rfl, ?_, ?_⟩
  · have h2 := hc
    unfold World.cell? at h2
    cases hb : w.heap[b]? with
    | none => simp [hb] at h2
    | some o => exact (Array.getElem?_eq_some_iff.1 hb).1
  · rw [hc, ← hi]
    simp only [List.getElem?_map, List.getElem?_take_of_lt (show i < len by omega), List.getElem?_eq_getElem (show i < zs.length by omega), Option.map, List.getD_eq_getElem?_getD, Option.getD]
/-- The operations behind a slice's address. -/
theorem oprs_at {w : World} {A : Option Addr} {l : List Opr} (h : CellsAt w A (l.flatMap Opr.cells)) {i : Nat} {o : Opr} (hi : l[i]? = some o) :
    ∃ b off, A = some ⟨b, off, none⟩ ∧ b < w.heap.size ∧ w.cell? ⟨b, off + i * 6, none⟩ = some (.int .i64 o.kind) ∧ w.cell? ⟨b, off + i * 6 + 1, none⟩ = some (.int .i64 o.a) ∧ w.cell? ⟨b, off + i * 6 + 2, none⟩ = some (.int .i64 o.b) ∧ w.cell? ⟨b, off + i * 6 + 3, none⟩ = some (.int .i64 o.c) ∧ w.cell? ⟨b, off + i * 6 + 4, none⟩ = some (.int .i64 o.n) ∧ w.cell? ⟨b, off + i * 6 + 5, none⟩ = some (.complex .f64 o.re o.im) := by
  have c := fun j v hv => oprs_cells l i j o v hi hv
  obtain ⟨b, off, hA, hb, hc⟩ := h.cases (by have := c 0 (.int .i64 o.kind) rfl; have := (List.getElem?_eq_some_iff.1 this).1; omega)
  refine ⟨b, off, hA, hb, ?_, ?_, ?_, ?_, ?_, ?_⟩
  · exact hc _ _ (c 0 (.int .i64 o.kind) rfl)
  · rw [Nat.add_assoc]; exact hc _ _ (c 1 (.int .i64 o.a) rfl)
  · rw [Nat.add_assoc]; exact hc _ _ (c 2 (.int .i64 o.b) rfl)
  · rw [Nat.add_assoc]; exact hc _ _ (c 3 (.int .i64 o.c) rfl)
  · rw [Nat.add_assoc]; exact hc _ _ (c 4 (.int .i64 o.n) rfl)
  · rw [Nat.add_assoc]; exact hc _ _ (c 5 (.complex .f64 o.re o.im) rfl)
theorem opsTo_get (bs : List Int) {n i : Nat} (h : i < n) : (opsTo bs n)[i]? = some (opAtOf bs i) := by
  simp [opsTo, h]
/-- What an operation of bytes is like. -/
def Opr.Small (o : Opr) : Prop := (1 ≤ o.kind ∧ o.kind ≤ 17) ∧ (0 ≤ o.a ∧ o.a < 3) ∧ (0 ≤ o.b ∧ o.b < 5) ∧ (0 ≤ o.c ∧ o.c < 3) ∧ (0 ≤ o.n ∧ o.n < 50) ∧ o.re < 18446744073709551616 ∧ o.im < 18446744073709551616
theorem small_ite {c : Prop} [Decidable c] {a b : Opr} (ha : a.Small) (hb : b.Small) : (if c then a else b).Small := by
  split
  · exact ha
  · exact hb
theorem floatOfInt_lt (n : Int) : floatOfInt .f64 n < 18446744073709551616 := by
  have := floatOfInt_wf .f64 n
  simpa [Lit.wf] using this
theorem opOf_small (k x y z : Int) (hx : 0 ≤ x ∧ x ≤ 255) (hy : 0 ≤ y ∧ y ≤ 255) (hz : 0 ≤ z ∧ z ≤ 255) : (opOf k x y z).Small := by
  have t : 0 ≤ three y ∧ three y < 5 := by
    unfold three
    split
    · omega
    · split <;> omega
  have fx := floatOfInt_lt x
  have fy := floatOfInt_lt y
  unfold opOf
  generalize floatOfInt .f64 x = p at *
  generalize floatOfInt .f64 y = q at *
  generalize three y = r at *
  repeat' (refine small_ite ?_ ?_)
  all_goals
    refine ⟨⟨?_, ?_⟩, ⟨?_, ?_⟩, ⟨?_, ?_⟩, ⟨?_, ?_⟩, ⟨?_, ?_⟩, ?_, ?_⟩ <;> simp only [] <;> omega
end Go
namespace Go.Proofs.Ytlddahifhefjiaa
open Go Go.RowKit
set_option linter.unusedVariables false
theorem print_op (o : Opr) (h1 : 1 ≤ o.kind ∧ o.kind ≤ 17) (ha : 0 ≤ o.a ∧ o.a < 100) (hb : 0 ≤ o.b ∧ o.b < 100) (hc : 0 ≤ o.c ∧ o.c < 100) (hn : 0 ≤ o.n ∧ o.n < 100) (hx : o.re < 18446744073709551616) (hy : o.im < 18446744073709551616) :
    SaysOne 18 #[o.val] := by
  obtain ⟨k, a, b, c, n, x, y⟩ := o
  simp only [Opr.val] at *
  rcases (show k = 1 ∨ k = 2 ∨ k = 3 ∨ k = 4 ∨ k = 5 ∨ k = 6 ∨ k = 7 ∨ k = 8 ∨ k = 9 ∨ k = 10 ∨ k = 11 ∨ k = 12 ∨ k = 13 ∨ k = 14 ∨ k = 15 ∨ k = 16 ∨ k = 17 by omega) with rfl | rfl | rfl | rfl | rfl | rfl | rfl | rfl | rfl | rfl | rfl | rfl | rfl | rfl | rfl | rfl | rfl
  · exact print_1 a b c n x y ha hb hc hn hx hy
  · exact print_2 a b c n x y ha hb hc hn hx hy
  · exact print_3 a b c n x y ha hb hc hn hx hy
  · exact print_4 a b c n x y ha hb hc hn hx hy
  · exact print_5 a b c n x y ha hb hc hn hx hy
  · exact print_6 a b c n x y ha hb hc hn hx hy
  · exact print_7 a b c n x y ha hb hc hn hx hy
  · exact print_8 a b c n x y ha hb hc hn hx hy
  · exact print_9 a b c n x y ha hb hc hn hx hy
  · exact print_10 a b c n x y ha hb hc hn hx hy
  · exact print_11 a b c n x y ha hb hc hn hx hy
  · exact print_12 a b c n x y ha hb hc hn hx hy
  · exact print_13 a b c n x y ha hb hc hn hx hy
  · exact print_14 a b c n x y ha hb hc hn hx hy
  · exact print_15 a b c n x y ha hb hc hn hx hy
  · exact print_16 a b c n x y ha hb hc hn hx hy
  · exact print_17 a b c n x y ha hb hc hn hx hy
theorem byte_bd {bs : List Int} (hw : ∀ x ∈ bs, 0 ≤ x ∧ x ≤ 255) (i : Nat) : 0 ≤ bs.getD i 0 ∧ bs.getD i 0 ≤ 255 := by
  by_cases h : i < bs.length
  · exact hw _ (getD_mem3 h)
  · rw [List.getD_eq_getElem?_getD, List.getElem?_eq_none (by omega)]; simp
theorem opAt_small {bs : List Int} (hw : ∀ x ∈ bs, 0 ≤ x ∧ x ≤ 255) (i : Nat) : (opAtOf bs i).Small := opOf_small (bs.getD (4 * i) 0) (bs.getD (4 * i + 1) 0) (bs.getD (4 * i + 2) 0) (bs.getD (4 * i + 3) 0) (byte_bd hw _) (byte_bd hw _) (byte_bd hw _)
theorem print_at {bs : List Int} (hw : ∀ x ∈ bs, 0 ≤ x ∧ x ≤ 255) (i : Nat) : SaysOne 18 #[(opAtOf bs i).val] := by
  obtain ⟨h1, h2, h3, h4, h5, h6, h7⟩ := opAt_small hw i
  exact print_op _ h1 (by omega) (by omega) (by omega) (by omega) h6 h7
end Go.Proofs.Ytlddahifhefjiaa
