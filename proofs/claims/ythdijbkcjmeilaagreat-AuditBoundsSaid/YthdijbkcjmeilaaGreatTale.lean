/-
  Chapter 27 in plain Lean: the operation of four bytes, operations, picks. No program here.
-/
import Derived.Test.YthdijbkcjmeilaaGreatMem
namespace Go
open Go.RowKit

/-- An operation. -/
structure Opr where
  kind : Int
  a : Int
  b : Int
  c : Int
  n : Int
  re : Nat
  im : Nat
namespace Opr
def cells (o : Opr) : List Value := [.int .i64 o.kind, .int .i64 o.a, .int .i64 o.b, .int .i64 o.c, .int .i64 o.n, .complex .f64 o.re o.im]
def val (o : Opr) : Value := .agg #[.int .i64 o.kind, .int .i64 o.a, .int .i64 o.b, .int .i64 o.c, .int .i64 o.n, .complex .f64 o.re o.im]
end Opr
def three (x : Int) : Int := if x % 3 = 0 then 0 else if x % 3 = 1 then 1 else 4
/-- P27.2: the operation of four bytes. -/
def opOf (k x y z : Int) : Opr :=
  if k % 20 ≤ 1 then ⟨1, x % 3, three y, 0, 0, 0, 0⟩
  else if k % 20 = 2 then ⟨2, x % 3, 2 + y % 2, 0, z % 50, 0, 0⟩
  else if k % 20 ≤ 4 then ⟨3, x % 3, y % 3, 0, z % 9, 0, 0⟩
  else if k % 20 ≤ 7 then ⟨4, x % 3, y % 3, 0, z % 9, 0, 0⟩
  else if k % 20 = 8 then ⟨5, x % 3, y % 3, 0, z % 50, 0, 0⟩
  else if k % 20 ≤ 10 then ⟨6, x % 3, y % 3, 0, z % 50, 0, 0⟩
  else if k % 20 = 11 then ⟨7, x % 3, 0, 0, y % 2, 0, 0⟩
  else if k % 20 = 12 then ⟨8, 0, x % 3, 0, y % 2, 0, 0⟩
  else if k % 20 = 13 then ⟨13, x % 3, 0, 0, 0, 0, 0⟩
  else if k % 20 = 14 then ⟨14, x % 3, y % 3, 0, 0, 0, 0⟩
  else if k % 20 = 15 then ⟨12, x % 3, 0, 0, 0, floatOfInt .f64 x, floatOfInt .f64 y⟩
  else if k % 20 = 16 then ⟨15 + z % 2, x % 3, y % 3, z % 3, 0, 0, 0⟩
  else if k % 20 = 17 then ⟨9, x % 3, y % 3, z % 3, 0, 0, 0⟩
  else if k % 20 = 18 then ⟨10 + z % 2, x % 3, y % 3, 0, 0, 0, 0⟩
  else ⟨17, 0, 0, 0, 0, 0, 0⟩
/-- The i-th of bytes. -/
def opAtOf (bs : List Int) (i : Nat) : Opr := opOf (bs.getD (4 * i) 0) (bs.getD (4 * i + 1) 0) (bs.getD (4 * i + 2) 0) (bs.getD (4 * i + 3) 0)
/-- P27.2: how many, and which. -/
def opCount (bs : List Int) : Nat := min (bs.length / 4) 1000
def opsTo (bs : List Int) (k : Nat) : List Opr := (List.range k).map (opAtOf bs)
def opsOf (bs : List Int) : List Opr := opsTo bs (opCount bs)
theorem opsTo_succ (bs : List Int) (k : Nat) : opsTo bs (k + 1) = opsTo bs k ++ [opAtOf bs k] := by simp [opsTo, List.range_succ]
@[simp] theorem opsTo_length (bs : List Int) (k : Nat) : (opsTo bs k).length = k := by simp [opsTo]
@[simp] theorem opsOf_length (bs : List Int) : (opsOf bs).length = opCount bs := by simp [opsOf]
theorem oprs_length (l : List Opr) : (l.flatMap Opr.cells).length = l.length * 6 := by
  induction l with
  | nil => rfl
  | cons o l ih => simp [List.flatMap_cons, Opr.cells, ih]; omega
theorem oprs_cells (l : List Opr) (k j : Nat) (o : Opr) (v : Value) (h : l[k]? = some o) (hv : o.cells[j]? = some v) : (l.flatMap Opr.cells)[k * 6 + j]? = some v := by
  induction l generalizing k with
  | nil => simp at h
  | cons x l ih =>
    cases k with
    | zero =>
      simp at h
      subst h
      rw [List.flatMap_cons, List.getElem?_append_left (by have := (List.getElem?_eq_some_iff.1 hv).1; omega)]
      simpa using hv
    | succ k =>
      have := ih k (by simpa using h)
      rw [List.flatMap_cons, List.getElem?_append_right (by simp [Opr.cells]; omega)]
      rw [← this]
      congr 1
      simp [Opr.cells]
      omega
/-- P27.3 -/
def pickOf (threads x : Int) : Int := if threads < 1 then 0 else if 255 < threads then x else x % (threads + 1)
def picksOf (bs : List Int) (threads : Int) : List Int := bs.map (pickOf threads)
end Go
