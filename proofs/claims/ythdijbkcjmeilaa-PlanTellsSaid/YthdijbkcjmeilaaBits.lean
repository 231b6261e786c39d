/-
  Bits of floats: sporef1.bits, Bits; sporef.part, Word.
-/
import Derived.Test.YthdijbkcjmeilaaPrint
import Derived.Laws.Externs
namespace Go.Proofs.Ythdijbkcjmeilaa
open Go Go.RowKit
set_option linter.unusedVariables false

theorem f64bits (b : Nat) (w : World) : (callFunc 95 #[.float .f64 b]).run Try.prog w = .ok (.value (.int .u64 b)) w :=
  run_callFunc_extern (e := Extern.MathFloatBits.float64bits) Try.func95 (by kernel_rfl) (by kernel_rfl) (by kernel_rfl) (by kernel_rfl) _ _

/-- The bits of a part, all NaNs as one. -/
def canon (b : Nat) : Int := if 18437736874454810624 < IntKind.u64.wrap ((b : Int) * 2) then 9221120237041090560 else b
theorem canon_yes {b : Nat} (h : 18437736874454810624 < IntKind.u64.wrap ((b : Int) * 2)) : canon b = 9221120237041090560 := if_pos h
theorem canon_no {b : Nat} (h : ¬ 18437736874454810624 < IntKind.u64.wrap ((b : Int) * 2)) : canon b = b := if_neg h
theorem canon_bd {b : Nat} (h : b < 18446744073709551616) : 0 ≤ canon b ∧ canon b ≤ 18446744073709551615 := by
  unfold canon
  split <;> omega

set_option maxRecDepth 100000 in
theorem part64_any (b : Nat) (w : World) : Calls Try.prog 84 #[.float .f64 b] w fun e w' => e = .returned (.int .u64 (canon b)) ∧ w = w' := by
  have hf := f64bits
  by_cases h : 18437736874454810624 < IntKind.u64.wrap ((b : Int) * 2)
  · have HV := Lib.hid (canon_yes h)
    go_enter Try.func84, Try.ntmps84
    go_wp2
    go_ret
    exact ⟨by rw [HV.out]; rfl, rfl⟩
  · have HV := Lib.hid (canon_no h)
    go_enter Try.func84, Try.ntmps84
    go_wp2
    go_ret
    exact ⟨by rw [HV.out]; rfl, rfl⟩

/-- The same word, all NaNs as one. -/
def sameW (p q : Nat × Nat) : Bool := decide (canon p.1 = canon q.1) && decide (canon p.2 = canon q.2)
theorem word_any (p q : Nat × Nat) (w : World) : Calls Try.prog 58 #[.complex .f64 p.1 p.2, .complex .f64 q.1 q.2] w fun e w' => e = .returned (.bool (sameW p q)) ∧ w = w' := by
  have H := Lib.hid (fun b w => part64_any b w)
  have HW := Lib.hid (show sameW p q = (decide (canon p.1 = canon q.1) && decide (canon p.2 = canon q.2)) from rfl)
  by_cases h1 : canon p.1 = canon q.1
  · have H1 := Lib.hid h1
    have b1 : (canon p.1 == canon q.1) = true := by simp [h1]
    clear h1
    by_cases h2 : canon p.2 = canon q.2
    · have H2 := Lib.hid h2
      have b2 : (canon p.2 == canon q.2) = true := by simp [h2]
      clear h2
      go_enter Try.func58, Try.ntmps58
      go_wp2_with (go_at_call 84; refine (H.out _ _).mono ?_; rintro e w1 ⟨rfl, rfl⟩)
      go_ret
      exact ⟨by rw [HW.out, H1.out, H2.out]; simp, rfl⟩
    · have H2 := Lib.hid h2
      have b2 : (canon p.2 == canon q.2) = false := by simp [h2]
      clear h2
      go_enter Try.func58, Try.ntmps58
      go_wp2_with (go_at_call 84; refine (H.out _ _).mono ?_; rintro e w1 ⟨rfl, rfl⟩)
      go_ret
      exact ⟨by rw [HW.out]; simp [H2.out], rfl⟩
  · have H1 := Lib.hid h1
    have b1 : (canon p.1 == canon q.1) = false := by simp [h1]
    clear h1
    go_enter Try.func58, Try.ntmps58
    go_wp2_with (go_at_call 84; refine (H.out _ _).mono ?_; rintro e w1 ⟨rfl, rfl⟩)
    go_ret
    exact ⟨by rw [HW.out]; simp [H1.out], rfl⟩
end Go.Proofs.Ythdijbkcjmeilaa
