/-
  Sizes, places and words as plain functions. No program here.
-/
import Derived.Test.YthdijbkcjmeilaaGreatData
namespace Go
open Go.RowKit
/-! ### shapes: sizes and places (chapter 3) -/
def sData (n : Int) : Int := if n < 1 ∨ 512 < n then 0 else (n + 7) / 8
theorem sData_bd (n : Int) : 0 ≤ sData n ∧ sData n ≤ 64 := by unfold sData; split <;> omega
namespace Shp
def len (s : Shp) : Int := s.refs.length
def size (s : Shp) (n : Int) : Int :=
  if s.may = false ∨ n < 0 ∨ 512 < n ∨ (s.arr = false ∧ 0 < n) then -1
  else if s.arr = true then 1 + sData n else if s.len ≤ 6 then 1 else 1 + s.len / 7
def spine (s : Shp) (n : Int) : Int := if s.may = false ∨ s.arr = false ∨ sData n ≤ 4 then 0 else sData n + 2
def hasField (s : Shp) (k : Int) : Bool := s.may && !s.arr && decide (0 ≤ k ∧ k < s.len)
def placeF (k : Int) : Int := if k < 6 then 0 else 1 + (k - 6) / 7
def placeW (k : Int) : Int := if k < 6 then 2 + k else 1 + (k - 6) % 7
def place (s : Shp) (k : Int) : Value := if s.hasField k then .tuple #[.int .i64 (placeF k), .int .i64 (placeW k), .bool true] else .tuple #[.int .i64 0, .int .i64 0, .bool false]
end Shp

/-! ### words (chapters 1, 2) -/
def cxInt (a b : Int) : Value := .complex .f64 (floatOfInt .f64 a) (floatOfInt .f64 b)
def wNone : Value := .complex .f64 0 4607182418800017408
def wZero : Value := .complex .f64 0 0
def wRef (i : Int) : Value := if i < 0 ∨ 1099511627776 < i then wNone else .complex .f64 (floatOfInt .f64 (i + 1)) 4607182418800017408
def wHead (k m : Int) : Value := if k < 0 ∨ 1099511627776 < k ∨ m < 0 ∨ 1099511627776 < m then wZero else .complex .f64 (floatOfInt .f64 k) (floatOfInt .f64 m)
def wWhole (n : Int) : Value := if n < -9007199254740992 ∨ 9007199254740992 < n then wZero else .complex .f64 (floatOfInt .f64 n) 0
theorem floatOf_zero : floatOfInt .f64 0 = 0 := by decide +kernel
theorem floatOf_one : floatOfInt .f64 1 = 4607182418800017408 := by decide +kernel
theorem wWhole_zero : wWhole 0 = wZero := by unfold wWhole wZero; rw [if_neg (by omega), floatOf_zero]
def wBlank (b : Bool) : Value := if b then wNone else wZero

/-- A shape by its number: its two parts. -/
def Cnf.shapeAt (c : Cnf) (k : Int) : Option (Bool × List Bool) := if k < 0 then none else (c.shapes[k.toNat]?).map fun s => (s.arr, s.refs)
theorem Cnf.shapeAt_neg {c : Cnf} {k : Int} (h : k < 0) : c.shapeAt k = none := if_pos h
theorem Cnf.shapeAt_big {c : Cnf} {k : Int} (h : (c.shapes.length : Int) ≤ k) : c.shapeAt k = none := by
  unfold Cnf.shapeAt
  rw [if_neg (by omega), List.getElem?_eq_none (by omega)]
  rfl
theorem Cnf.shapeAt_in {c : Cnf} {n : Nat} {s : Shp} (h : c.shapes[n]? = some s) : c.shapeAt n = some (s.arr, s.refs) := by
  unfold Cnf.shapeAt
  rw [if_neg (by omega), Int.toNat_natCast, h]
  rfl
end Go
