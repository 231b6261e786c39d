import Derived.Test.YtnebimabokgofaaGreatMgMem
import Derived.Test.YtnebimabokgofaaGreatChecked
import Derived.ScopeJumps
import Derived.WalkMore
/-
  Chapter 27 in plain Lean: the operation of four bytes, operations, picks. No program here.
-/
namespace Go
open Go.RowKit

/-- An operation. -/
structure Opr where
  kind : Int
  a : Int
  b : Int
  c : Int
  n : Int
  re : Nat
  im : Nat
namespace Opr
def cells (o : Opr) : List Value := [.int .i64 o.kind, .int .i64 o.a, .int .i64 o.b, .int .i64 o.c, .int .i64 o.n, .complex .f64 o.re o.im]
def val (o : Opr) : Value := .agg #[.int .i64 o.kind, .int .i64 o.a, .int .i64 o.b, .int .i64 o.c, .int .i64 o.n, .complex .f64 o.re o.im]
end Opr
def three (x : Int) : Int := if x % 3 = 0 then 0 else if x % 3 = 1 then 1 else 4
/-- P27.2: the operation of four bytes. -/
def opOf (k x y z : Int) : Opr :=
  if k % 20 ≤ 1 then ⟨1, x % 3, three y, 0, 0, 0, 0⟩
  else if k % 20 = 2 then ⟨2, x % 3, 2 + y % 2, 0, z % 50, 0, 0⟩
  else if k % 20 ≤ 4 then ⟨3, x % 3, y % 3, 0, z % 9, 0, 0⟩
  else if k % 20 ≤ 7 then ⟨4, x % 3, y % 3, 0, z % 9, 0, 0⟩
  else if k % 20 = 8 then ⟨5, x % 3, y % 3, 0, z % 50, 0, 0⟩
  else if k % 20 ≤ 10 then ⟨6, x % 3, y % 3, 0, z % 50, 0, 0⟩
  else if k % 20 = 11 then ⟨7, x % 3, 0, 0, y % 2, 0, 0⟩
  else if k % 20 = 12 then ⟨8, 0, x % 3, 0, y % 2, 0, 0⟩
  else if k % 20 = 13 then ⟨13, x % 3, 0, 0, 0, 0, 0⟩
  else if k % 20 = 14 then ⟨14, x % 3, y % 3, 0, 0, 0, 0⟩
  else if k % 20 = 15 then ⟨12, x % 3, 0, 0, 0, floatOfInt .f64 x, floatOfInt .f64 y⟩
  else if k % 20 = 16 then ⟨15 + z % 2, x % 3, y % 3, z % 3, 0, 0, 0⟩
  else if k % 20 = 17 then ⟨9, x % 3, y % 3, z % 3, 0, 0, 0⟩
  else if k % 20 = 18 then ⟨10 + z % 2, x % 3, y % 3, 0, 0, 0, 0⟩
  else ⟨17, 0, 0, 0, 0, 0, 0⟩
/-- The i-th of bytes. -/
def opAtOf (bs : List Int) (i : Nat) : Opr := opOf (bs.getD (4 * i) 0) (bs.getD (4 * i + 1) 0) (bs.getD (4 * i + 2) 0) (bs.getD (4 * i + 3) 0)
/-- P27.2: how many, and which. -/
def opCount (bs : List Int) : Nat := min (bs.length / 4) 1000
def opsTo (bs : List Int) (k : Nat) : List Opr := (List.range k).map (opAtOf bs)
def opsOf (bs : List Int) : List Opr := opsTo bs (opCount bs)
theorem opsTo_succ (bs : List Int) (k : Nat) : opsTo bs (k + 1) = opsTo bs k ++ [opAtOf bs k] := by simp [opsTo, List.range_succ]
@[simp] theorem opsTo_length (bs : List Int) (k : Nat) : (opsTo bs k).length = k := by simp [opsTo]
@[simp] theorem opsOf_length (bs : List Int) : (opsOf bs).length = opCount bs := by simp [opsOf]
theorem oprs_length (l : List Opr) : (l.flatMap Opr.cells).length = l.length * 6 := by
  induction l with
  | nil => rfl
  | cons o l ih => simp [List.flatMap_cons, Opr.cells, ih]; omega
theorem oprs_cells (l : List Opr) (k j : Nat) (o : Opr) (v : Value) (h : l[k]? = some o) (hv : o.cells[j]? = some v) : (l.flatMap Opr.cells)[k * 6 + j]? = some v := by
  induction l generalizing k with
  | nil => simp at h
  | cons x l ih =>
    cases k with
    | zero =>
      simp at h
      subst h
      rw [List.flatMap_cons, List.getElem?_append_left (by have := (List.getElem?_eq_some_iff.1 hv).1; omega)]
      simpa using hv
    | succ k =>
      have := ih k (by simpa using h)
      rw [List.flatMap_cons, List.getElem?_append_right (by simp [Opr.cells]; omega)]
      rw [← this]
      congr 1
      simp [Opr.cells]
      omega
/-- P27.3 -/
def pickOf (threads x : Int) : Int := if threads < 1 then 0 else if 255 < threads then x else x % (threads + 1)
def picksOf (bs : List Int) (threads : Int) : List Int := bs.map (pickOf threads)
end Go

/-
  tale.Picks; sporef.Ints.
-/
namespace Go
/-- A slice of the call's own: these cells; nothing that was there has turned. -/
def Made (t : TypeId) (size n : Nat) (xs : List Value) (w : World) (e : Ending) (w' : World) : Prop := ∃ v, e = .returned v ∧ w'.ownsRow w.heap.size t size v n xs ∧ Ext w w'
theorem bytes_at {w : World} {A : Option Addr} {bs : List Int} (h : CellsAt w A (bs.map (Value.int .u8))) {k : Nat} (hk : k < bs.length) :
    ∃ b o, A = some ⟨b, o, none⟩ ∧ b < w.heap.size ∧ ∀ j, j < bs.length → w.cell? ⟨b, o + j, none⟩ = some (.int .u8 (bs.getD j 0)) := by
  obtain ⟨b, o, hA, hb, hc⟩ := h.cases (by simp; omega)
  exact ⟨b, o, hA, hb, fun j hj => hc j _ (by simp [List.getD_eq_getElem?_getD, hj])⟩
theorem words_at {w : World} {A : Option Addr} {bs : List Int} (h : CellsAt w A (bs.map (Value.int .i64))) {k : Nat} (hk : k < bs.length) :
    ∃ b o, A = some ⟨b, o, none⟩ ∧ b < w.heap.size ∧ ∀ j, j < bs.length → w.cell? ⟨b, o + j, none⟩ = some (.int .i64 (bs.getD j 0)) := by
  obtain ⟨b, o, hA, hb, hc⟩ := h.cases (by simp; omega)
  exact ⟨b, o, hA, hb, fun j hj => hc j _ (by simp [List.getD_eq_getElem?_getD, hj])⟩
theorem picks_snoc (bs : List Int) (t : Int) {k : Nat} (hk : k < bs.length) : picksOf (bs.take (k + 1)) t = picksOf (bs.take k) t ++ [pickOf t (bs.getD k 0)] := by
  unfold picksOf
  rw [List.take_add_one, List.getElem?_eq_getElem hk, List.map_append, List.getD_eq_getElem?_getD, List.getElem?_eq_getElem hk]
  rfl
theorem getD_mem3 {l : List Int} {k : Nat} (h : k < l.length) : l.getD k 0 ∈ l := by
  rw [List.getD_eq_getElem?_getD, List.getElem?_eq_getElem h]
  exact List.getElem_mem h
end Go
namespace Go.Proofs.YtnebimabokgofaaGreat
open Go Go.RowKit
set_option linter.unusedVariables false

theorem infoInt : (Tryz.prog.info? 3).map (fun i => (i.zero, i.size, i.bytes)) = some (some (.int .i64 0), 1, 8) := by kernel_rfl

end Go.Proofs.YtnebimabokgofaaGreat

/-
  A scope in which the run jumps forward to one label, and on. No program here.
-/
namespace Go

theorem wp_scope_fwd {P : Program} {a : Act} {w : World} {Q : Exit → Act → World → Prop} {c rest : Code} (l : Nat) (hf : findLabel c l = some rest)
    (first : c.wp P (Exit.jump l (fun a w => rest.wp P (Exit.noGoto Q) a w) Q) a w) : (Code.scope c).wp P Q a w :=
  wp_scope_jumps l _ (fun _ _ => 0) hf first fun _ _ h => wp_mono h fun e _ _ hq => by
    cases e <;> first | exact hq | exact hq.elim
theorem Exit.jump_ret {l : Nat} {J : Act → World → Prop} {Q : Exit → Act → World → Prop} {a : Act} {w : World} : Exit.jump l J Q .ret a w = Q .ret a w := rfl
theorem Calls.added2 {P : Program} {f : FuncId} {args : Array Value} {w : World} {X : Extra} {B C : Array Obj} {v : Value}
    (h : Calls P f args (w.patch ⟨B ++ (C ++ X.blocks), X.drawn⟩) (Gives v (w.patch ⟨B ++ (C ++ X.blocks), X.drawn⟩))) : Calls P f args (w.patch ⟨B ++ (C ++ X.blocks), X.drawn⟩) fun e w'' => e = .returned v ∧ ∃ Y : Extra, w'' = w.patch ⟨B ++ (C ++ Y.blocks), Y.drawn⟩ :=
  h.mono fun _ _ ⟨he, Y, hY⟩ => ⟨he, ⟨X.blocks ++ Y.blocks, Y.drawn⟩, by rw [hY, World.patch_patch, Array.append_assoc, Array.append_assoc]⟩
open Go.RowKit
theorem CellsAt.setCell {w : World} {A : Option Addr} {vs : List Value} {p : Addr} {v : Value} (h : CellsAt w A vs) (hp : ∀ a, A = some a → p.block ≠ a.block) : CellsAt (w.setCell p v) A vs := fun i u hi => by
  obtain ⟨b, o, hA, hb, hc⟩ := h i u hi
  refine ⟨b, o, hA, by rw [World.size_setCell]; exact hb, ?_⟩
  rw [← hc]
  exact World.cell?_setCell_other _ _ _ _ (fun e => hp _ hA (by rw [e]))
theorem Shp.Ok.setCell {w : World} {s : Shp} {p : Addr} {v : Value} (h : s.Ok w) (hp : ∀ a, s.A = some a → p.block ≠ a.block) : s.Ok (w.setCell p v) :=
  ⟨h.refs.setCell hp, h.len, h.max⟩
end Go

