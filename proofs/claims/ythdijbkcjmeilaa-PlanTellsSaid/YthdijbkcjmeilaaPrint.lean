/-
  sporef19.Print: of equal operations it is the same.
-/
import Derived.Test.YthdijbkcjmeilaaChecked
import Derived.Test.YthdijbkcjmeilaaTale
namespace Go.Proofs.Ythdijbkcjmeilaa
open Go Go.RowKit
set_option linter.unusedVariables false

/-- The function hands back one string, in every world. -/
def Says (f : FuncId) (args : Array Value) (n : Nat) : Prop := ∃ s : ByteArray, s.size ≤ n ∧ ∀ w, Calls Try.prog f args w (Gives (.string s) w)

/-- A digit. -/
def hexB (i : Nat) : UInt8 := (#[48, 49, 50, 51, 52, 53, 54, 55, 56, 57, 97, 98, 99, 100, 101, 102] : Array UInt8).getD i 0
theorem hexB_at (i : Nat) (h : i < (⟨#[48, 49, 50, 51, 52, 53, 54, 55, 56, 57, 97, 98, 99, 100, 101, 102]⟩ : ByteArray).size) : (⟨#[48, 49, 50, 51, 52, 53, 54, 55, 56, 57, 97, 98, 99, 100, 101, 102]⟩ : ByteArray)[i] = hexB i := by
  have h' : i < 16 := h
  rcases (show i = 0 ∨ i = 1 ∨ i = 2 ∨ i = 3 ∨ i = 4 ∨ i = 5 ∨ i = 6 ∨ i = 7 ∨ i = 8 ∨ i = 9 ∨ i = 10 ∨ i = 11 ∨ i = 12 ∨ i = 13 ∨ i = 14 ∨ i = 15 by omega) with rfl | rfl | rfl | rfl | rfl | rfl | rfl | rfl | rfl | rfl | rfl | rfl | rfl | rfl | rfl | rfl <;> rfl
def hexQ (u : Int) : Nat → Int
  | 0 => u / 1152921504606846976
  | 1 => u / 72057594037927936
  | 2 => u / 4503599627370496
  | 3 => u / 281474976710656
  | 4 => u / 17592186044416
  | 5 => u / 1099511627776
  | 6 => u / 68719476736
  | 7 => u / 4294967296
  | 8 => u / 268435456
  | 9 => u / 16777216
  | 10 => u / 1048576
  | 11 => u / 65536
  | 12 => u / 4096
  | 13 => u / 256
  | 14 => u / 16
  | _ => u
def hexL (u : Int) (j : Nat) : UInt8 := hexB (hexQ u j % 16).toNat
theorem and15 (x : Int) (h0 : 0 ≤ x) (h1 : x ≤ 18446744073709551615) : bits .and .u64 x 15 = x % 16 := by
  have h := bits_and_u64_nat x.toNat 15 (by omega) (by omega)
  rw [Nat.and_two_pow_sub_one_eq_mod x.toNat 4, Int.toNat_of_nonneg h0] at h
  exact h.trans (by omega)
end Go.Proofs.Ythdijbkcjmeilaa
