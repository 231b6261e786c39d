/-
  num.part, Bits, Same, Int; word.Index, Tell, Is.
-/
import Derived.Test.YtmgkfpmmlibmcaaFloat
import Derived.Test.YtmgkfpmmlibmcaaChecked
import Derived.Laws.Externs
import Derived.Test.YtmgkfpmmlibmcaaShape2
namespace Go.Proofs.Ytmgkfpmmlibmcaa
open Go Go.RowKit
set_option linter.unusedVariables false
set_option linter.unusedSimpArgs false
theorem f64bitsN (b : Nat) (w : World) : (callFunc 171 #[.float .f64 b]).run Try.prog w = .ok (.value (.int .u64 b)) w :=
  run_callFunc_extern (e := Extern.MathFloatBits.float64bits) Try.func171 (by kernel_rfl) (by kernel_rfl) (by kernel_rfl) (by kernel_rfl) _ _
def partF (b : Nat) : Int := if (FloatKind.format .f64).order b b = some .eq then b else 9221120237041090560
set_option maxRecDepth 100000 in
theorem npart_any (b : Nat) (w : World) : Calls Try.prog 222 #[.float .f64 b] w fun e w' => e = .returned (.int .u64 (partF b)) ∧ w = w' := by
  have hf := f64bitsN
  by_cases h : (FloatKind.format .f64).order b b = some .eq
  · have HV := Lib.hid (show partF b = b from if_pos h)
    have hb : ((FloatKind.format .f64).order b b != some .eq) = false := by simp [h]
    clear h
    go_enter Try.func222, Try.ntmps222
    go_wp2
    go_ret
    exact ⟨by rw [HV.out]; rfl, rfl⟩
  · have HV := Lib.hid (show partF b = 9221120237041090560 from if_neg h)
    have hb : ((FloatKind.format .f64).order b b != some .eq) = true := by simp [h]
    clear h
    go_enter Try.func222, Try.ntmps222
    go_wp2
    go_ret
    exact ⟨by rw [HV.out]; rfl, rfl⟩
theorem nbits_any (x y : Nat) (w : World) : Calls Try.prog 217 #[.complex .f64 x y] w fun e w' => e = .returned (.tuple #[.int .u64 (partF x), .int .u64 (partF y)]) ∧ w = w' := by
  have H := Lib.hid (fun b w => npart_any b w)
  go_enter Try.func217, Try.ntmps217
  go_wp2_with fail
  refine (H.out _ _).mono ?_
  rintro e w1 ⟨rfl, rfl⟩
  go_wp2_with fail
  refine (H.out _ _).mono ?_
  rintro e w1 ⟨rfl, rfl⟩
  go_wp2_with fail
  go_ret2
  exact ⟨rfl, rfl⟩
/-- Have two words the same bits (all NaNs as one)? -/
def sameF (p q : Nat × Nat) : Bool := partF p.1 == partF q.1 && partF p.2 == partF q.2
theorem sameF_self (p : Nat × Nat) : sameF p p = true := by simp [sameF]
theorem nsame_any (p q : Nat × Nat) (w : World) : Calls Try.prog 199 #[.complex .f64 p.1 p.2, .complex .f64 q.1 q.2] w fun e w' => e = .returned (.bool (sameF p q)) ∧ w = w' := by
  have H := Lib.hid (fun x y w => nbits_any x y w)
  have HV := Lib.hid (show sameF p q = (partF p.1 == partF q.1 && partF p.2 == partF q.2) from rfl)
  obtain ⟨p1, p2⟩ := p
  obtain ⟨q1, q2⟩ := q
  simp only at HV ⊢
  have H1 := Lib.hid (H.out p1 p2)
  have H2 := Lib.hid (H.out q1 q2)
  clear H
  generalize partF p1 = x1 at *
  generalize partF p2 = x2 at *
  generalize partF q1 = y1 at *
  generalize partF q2 = y2 at *
  cases hb : (x1 == y1)
  · have HV2 := Lib.hid (show sameF (p1, p2) (q1, q2) = false by rw [HV.out, hb]; rfl)
    go_enter Try.func199, Try.ntmps199
    go_wp2_with fail
    refine (H1.out _).mono ?_
    rintro e w1 ⟨rfl, rfl⟩
    go_wp2_with fail
    refine (H2.out _).mono ?_
    rintro e w1 ⟨rfl, rfl⟩
    go_wp2_with fail
    go_ret
    exact ⟨by rw [HV2.out]; rfl, rfl⟩
  · have HV2 := Lib.hid (show sameF (p1, p2) (q1, q2) = (x2 == y2) by rw [HV.out, hb]; rfl)
    go_enter Try.func199, Try.ntmps199
    go_wp2_with fail
    refine (H1.out _).mono ?_
    rintro e w1 ⟨rfl, rfl⟩
    go_wp2_with fail
    refine (H2.out _).mono ?_
    rintro e w1 ⟨rfl, rfl⟩
    go_wp2_with fail
    go_ret
    exact ⟨by rw [HV2.out]; rfl, rfl⟩
theorem nsame_self (a b : Nat) (w : World) : Calls Try.prog 199 #[.complex .f64 a b, .complex .f64 a b] w (Gives (.bool true) w) :=
  (nsame_any (a, b) (a, b) w).mono fun e w' ⟨h1, h2⟩ => ⟨by rw [h1, sameF_self], by rw [← h2]; exact Ext.refl _⟩
theorem wWhole_fits {n : Int} (hn : Fits n) : wWhole n = .complex .f64 (floatOfInt .f64 n) 0 := by
  have := hn.lo
  have := hn.hi
  unfold wWhole
  rw [if_neg (by omega)]
set_option maxRecDepth 100000 in
/-- num.Int of a whole number. -/
theorem nint_fits (n : Int) (hn : Fits n) (w : World) : Calls Try.prog 165 #[.complex .f64 (floatOfInt .f64 n) 0] w (Gives (.tuple #[.int .i64 n, .bool true]) w) := by
  have hcv : ∀ w, (convert 137 3 (.float .f64 (floatOfInt .f64 n))).run Try.prog w = .ok (.int .i64 n) w := fun w => run_convert_float_int w _ _ _ _ _ n (by kernel_rfl) (by kernel_rfl) (floatToInt_fits hn)
  have hlo := order_low hn
  have hhi := order_high hn
  have HWH := Lib.hid (fun w => wWhole_fits hn ▸ whole_any n w)
  generalize floatOfInt .f64 n = b at *
  have HSM := Lib.hid (fun w => nsame_self b 0 w)
  generalize hq : (FloatKind.format .f64).order b 14069245235905429504 = q1 at hlo
  generalize hr : (FloatKind.format .f64).order b 4845873199050653696 = q2 at hhi
  have hlo' : (q1 == some .gt) = true ∨ (q1 == some .eq) = true := by simpa using hlo
  have hhi' : (q2 == some .lt) = true ∨ (q2 == some .eq) = true := by simpa using hhi
  obtain ⟨o1, rfl⟩ : ∃ o : Ordering, q1 = some o := by
    cases q1 with
    | none => exact absurd hlo (by decide)
    | some o => exact ⟨o, rfl⟩
  obtain ⟨o2, rfl⟩ : ∃ o : Ordering, q2 = some o := by
    cases q2 with
    | none => exact absurd hhi (by decide)
    | some o => exact ⟨o, rfl⟩
  clear hlo' hhi'
  cases o1 <;> first | exact absurd hlo (by decide) | skip
  all_goals
    cases o2 <;> first | exact absurd hhi (by decide) | skip
    all_goals
      clear hlo hhi
      go_enter Try.func165, Try.ntmps165
      go_wp2_with fail
      refine (HWH.out _).mono ?_
      rintro e w1 ⟨rfl, X1, rfl⟩
      go_wp2_with fail
      refine (HSM.out _).mono ?_
      rintro e w1 ⟨rfl, X2, rfl⟩
      go_wp2_with fail
      go_ret2
      exact Gives.mk rfl (by (repeat (first | (with_reducible assumption) | (with_reducible exact Ext.refl _) | (with_reducible exact Ext.more _ _ _ _) | apply Ext.alloc | refine Ext.setCell ?_ (by first | exact Nat.le_refl _ | exact Nat.le_add_right _ _ | assumption) _ | apply Ext.patch | apply Ext.drew | apply Ext.drewN)))
set_option maxRecDepth 100000 in
/-- word.Index of a reference. -/
theorem index_ref (i : Int) (h0 : 0 ≤ i) (h1 : i ≤ 1099511627776) (w : World) : Calls Try.prog 162 #[.complex .f64 (floatOfInt .f64 (i + 1)) 4607182418800017408] w (Gives (.tuple #[.int .i64 i, .bool true]) w) := by
  have HI := Lib.hid (fun w => nint_fits (i + 1) ⟨by omega, by omega⟩ w)
  have HR := Lib.hid (fun w => (show Calls Try.prog 90 #[.int .i64 i] w (Gives (.complex .f64 (floatOfInt .f64 (i + 1)) 4607182418800017408) w) from (show wRef i = Value.complex .f64 (floatOfInt .f64 (i + 1)) 4607182418800017408 by unfold wRef; rw [if_neg (by omega)]) ▸ ref_any i w))
  generalize floatOfInt .f64 (i + 1) = b at *
  have HSM := Lib.hid (fun w => nsame_self b 4607182418800017408 w)
  have e1 : i + 1 - 1 = i := by omega
  go_enter Try.func162, Try.ntmps162
  go_wp2_with fail
  refine (HI.out _).mono ?_
  rintro e w1 ⟨rfl, X1, rfl⟩
  go_wp2_with fail
  refine (HR.out _).mono ?_
  rintro e w1 ⟨rfl, X2, rfl⟩
  go_wp2_with fail
  refine (HSM.out _).mono ?_
  rintro e w1 ⟨rfl, X3, rfl⟩
  go_wp2_with fail
  go_ret2
  exact Gives.mk rfl (by (repeat (first | (with_reducible assumption) | (with_reducible exact Ext.refl _) | (with_reducible exact Ext.more _ _ _ _) | apply Ext.alloc | refine Ext.setCell ?_ (by first | exact Nat.le_refl _ | exact Nat.le_add_right _ _ | assumption) _ | apply Ext.patch | apply Ext.drew | apply Ext.drewN)))
/-- word.Index of what has no whole part: none. -/
theorem index_none (y : Nat) (w : World) : Calls Try.prog 162 #[.complex .f64 0 y] w (Gives (.tuple #[.int .i64 0, .bool false]) w) := by
  have HI := Lib.hid (fun w => (show Calls Try.prog 165 #[.complex .f64 0 0] w (Gives (.tuple #[.int .i64 0, .bool true]) w) from floatOf_zero ▸ nint_fits 0 ⟨by omega, by omega⟩ w))
  go_enter Try.func162, Try.ntmps162
  go_wp2_with fail
  refine (HI.out _).mono ?_
  rintro e w1 ⟨rfl, X1, rfl⟩
  go_wp2_with fail
  go_ret2
  exact Gives.mk rfl (by (repeat (first | (with_reducible assumption) | (with_reducible exact Ext.refl _) | (with_reducible exact Ext.more _ _ _ _) | apply Ext.alloc | refine Ext.setCell ?_ (by first | exact Nat.le_refl _ | exact Nat.le_add_right _ _ | assumption) _ | apply Ext.patch | apply Ext.drew | apply Ext.drewN)))
set_option maxRecDepth 100000 in
/-- word.Tell of a head. -/
theorem tell_head (k m : Int) (h0 : 0 ≤ k) (h1 : k ≤ 1099511627776) (h2 : 0 ≤ m) (h3 : m ≤ 1099511627776) (w : World) : Calls Try.prog 198 #[.complex .f64 (floatOfInt .f64 k) (floatOfInt .f64 m)] w (Gives (.tuple #[.int .i64 k, .int .i64 m, .bool true]) w) := by
  have HK := Lib.hid (fun w => nint_fits k ⟨by omega, by omega⟩ w)
  have HM := Lib.hid (fun w => nint_fits m ⟨by omega, by omega⟩ w)
  generalize floatOfInt .f64 k = a at *
  generalize floatOfInt .f64 m = b at *
  go_enter Try.func198, Try.ntmps198
  go_wp2_with fail
  refine (HK.out _).mono ?_
  rintro e w1 ⟨rfl, X1, rfl⟩
  go_wp2_with fail
  refine (HM.out _).mono ?_
  rintro e w1 ⟨rfl, X2, rfl⟩
  go_wp2_with fail
  go_ret3
  exact Gives.mk rfl (by (repeat (first | (with_reducible assumption) | (with_reducible exact Ext.refl _) | (with_reducible exact Ext.more _ _ _ _) | apply Ext.alloc | refine Ext.setCell ?_ (by first | exact Nat.le_refl _ | exact Nat.le_add_right _ _ | assumption) _ | apply Ext.patch | apply Ext.drew | apply Ext.drewN)))
end Go.Proofs.Ytmgkfpmmlibmcaa
