import Derived.Test.YtnebimabokgofaaGreatFloat
import Derived.Test.YtnebimabokgofaaGreatChecked
import Derived.Laws.Externs
import Derived.Test.YtnebimabokgofaaGreatMgShape2
/-
  Merged: XNum, XNumG.
-/
/-
  num.part, Bits, Same, Int; word.Index, Tell, Is.
-/
namespace Go.Proofs.YtnebimabokgofaaGreat
open Go Go.RowKit
set_option linter.unusedVariables false
set_option linter.unusedSimpArgs false
theorem f64bitsN (b : Nat) (w : World) : (callFunc 143 #[.float .f64 b]).run Tryz.prog w = .ok (.value (.int .u64 b)) w :=
  run_callFunc_extern (e := Extern.MathFloatBits.float64bits) Tryz.func143 (by kernel_rfl) (by kernel_rfl) (by kernel_rfl) (by kernel_rfl) _ _
def partF (b : Nat) : Int := if (FloatKind.format .f64).order b b = some .eq then b else 9221120237041090560
set_option maxRecDepth 100000 in
theorem npart_any (b : Nat) (w : World) : Calls Tryz.prog 246 #[.float .f64 b] w fun e w' => e = .returned (.int .u64 (partF b)) ∧ w = w' := by
  have hf := f64bitsN
  by_cases h : (FloatKind.format .f64).order b b = some .eq
  · have HV := Lib.hid (show partF b = b from if_pos h)
    have hb : ((FloatKind.format .f64).order b b != some .eq) = false := by simp [h]
    clear h
    go_enter Tryz.func246, Tryz.ntmps246
    go_wp2
    go_ret
    exact ⟨by rw [HV.out]; rfl, rfl⟩
  · have HV := Lib.hid (show partF b = 9221120237041090560 from if_neg h)
    have hb : ((FloatKind.format .f64).order b b != some .eq) = true := by simp [h]
    clear h
    go_enter Tryz.func246, Tryz.ntmps246
    go_wp2
    go_ret
    exact ⟨by rw [HV.out]; rfl, rfl⟩
theorem nbits_any (x y : Nat) (w : World) : Calls Tryz.prog 198 #[.complex .f64 x y] w fun e w' => e = .returned (.tuple #[.int .u64 (partF x), .int .u64 (partF y)]) ∧ w = w' := by
  have H := Lib.hid (fun b w => npart_any b w)
  go_enter Tryz.func198, Tryz.ntmps198
  go_wp2_with fail
  refine (H.out _ _).mono ?_
  rintro e w1 ⟨rfl, rfl⟩
  go_wp2_with fail
  refine (H.out _ _).mono ?_
  rintro e w1 ⟨rfl, rfl⟩
  go_wp2_with fail
  go_ret2
  exact ⟨rfl, rfl⟩
/-- Have two words the same bits (all NaNs as one)? -/
def sameF (p q : Nat × Nat) : Bool := partF p.1 == partF q.1 && partF p.2 == partF q.2
theorem sameF_self (p : Nat × Nat) : sameF p p = true := by simp [sameF]
theorem nsame_any (p q : Nat × Nat) (w : World) : Calls Tryz.prog 152 #[.complex .f64 p.1 p.2, .complex .f64 q.1 q.2] w fun e w' => e = .returned (.bool (sameF p q)) ∧ w = w' := by
  have H := Lib.hid (fun x y w => nbits_any x y w)
  have HV := Lib.hid (show sameF p q = (partF p.1 == partF q.1 && partF p.2 == partF q.2) from rfl)
  obtain ⟨p1, p2⟩ := p
  obtain ⟨q1, q2⟩ := q
  simp only at HV ⊢
  have H1 := Lib.hid (H.out p1 p2)
  have H2 := Lib.hid (H.out q1 q2)
  clear H
  generalize partF p1 = x1 at *
  generalize partF p2 = x2 at *
  generalize partF q1 = y1 at *
  generalize partF q2 = y2 at *
  cases hb : (x1 == y1)
  · have HV2 := Lib.hid (show sameF (p1, p2) (q1, q2) = false by rw [HV.out, hb]; rfl)
    go_enter Tryz.func152, Tryz.ntmps152
    go_wp2_with fail
    refine (H1.out _).mono ?_
    rintro e w1 ⟨rfl, rfl⟩
    go_wp2_with fail
    refine (H2.out _).mono ?_
    rintro e w1 ⟨rfl, rfl⟩
    go_wp2_with fail
    go_ret
    exact ⟨by rw [HV2.out]; rfl, rfl⟩
  · have HV2 := Lib.hid (show sameF (p1, p2) (q1, q2) = (x2 == y2) by rw [HV.out, hb]; rfl)
    go_enter Tryz.func152, Tryz.ntmps152
    go_wp2_with fail
    refine (H1.out _).mono ?_
    rintro e w1 ⟨rfl, rfl⟩
    go_wp2_with fail
    refine (H2.out _).mono ?_
    rintro e w1 ⟨rfl, rfl⟩
    go_wp2_with fail
    go_ret
    exact ⟨by rw [HV2.out]; rfl, rfl⟩
theorem nsame_self (a b : Nat) (w : World) : Calls Tryz.prog 152 #[.complex .f64 a b, .complex .f64 a b] w (Gives (.bool true) w) :=
  (nsame_any (a, b) (a, b) w).mono fun e w' ⟨h1, h2⟩ => ⟨by rw [h1, sameF_self], by rw [← h2]; exact Ext.refl _⟩
theorem wWhole_fits {n : Int} (hn : Fits n) : wWhole n = .complex .f64 (floatOfInt .f64 n) 0 := by
  have := hn.lo
  have := hn.hi
  unfold wWhole
  rw [if_neg (by omega)]
set_option maxRecDepth 100000 in
/-- num.Int of a whole number. -/
theorem nint_fits (n : Int) (hn : Fits n) (w : World) : Calls Tryz.prog 151 #[.complex .f64 (floatOfInt .f64 n) 0] w (Gives (.tuple #[.int .i64 n, .bool true]) w) := by
  have hcv : ∀ w, (convert 131 3 (.float .f64 (floatOfInt .f64 n))).run Tryz.prog w = .ok (.int .i64 n) w := fun w => run_convert_float_int w _ _ _ _ _ n (by kernel_rfl) (by kernel_rfl) (floatToInt_fits hn)
  have hlo := order_low hn
  have hhi := order_high hn
  have HWH := Lib.hid (fun w => wWhole_fits hn ▸ whole_any n w)
  generalize floatOfInt .f64 n = b at *
  have HSM := Lib.hid (fun w => nsame_self b 0 w)
  generalize hq : (FloatKind.format .f64).order b 14069245235905429504 = q1 at hlo
  generalize hr : (FloatKind.format .f64).order b 4845873199050653696 = q2 at hhi
  have hlo' : (q1 == some .gt) = true ∨ (q1 == some .eq) = true := by simpa using hlo
  have hhi' : (q2 == some .lt) = true ∨ (q2 == some .eq) = true := by simpa using hhi
  obtain ⟨o1, rfl⟩ : ∃ o : Ordering, q1 = some o := by
    cases q1 with
    | none => exact absurd hlo (by decide)
    | some o => exact ⟨o, rfl⟩
  obtain ⟨o2, rfl⟩ : ∃ o : Ordering, q2 = some o := by
    cases q2 with
    | none => exact absurd hhi (by decide)
    | some o => exact ⟨o, rfl⟩
  clear hlo' hhi'
  cases o1 <;> first | exact absurd hlo (by decide) | skip
  all_goals
    cases o2 <;> first | exact absurd hhi (by decide) | skip
    all_goals
      clear hlo hhi
      go_enter Tryz.func151, Tryz.ntmps151
      go_wp2_with fail
      refine (HWH.out _).mono ?_
      rintro e w1 ⟨rfl, X1, rfl⟩
      go_wp2_with fail
      refine (HSM.out _).mono ?_
      rintro e w1 ⟨rfl, X2, rfl⟩
      go_wp2_with fail
      go_ret2
      exact Gives.mk rfl (by (repeat (first | (with_reducible assumption) | (with_reducible exact Ext.refl _) | (with_reducible exact Ext.more _ _ _ _) | apply Ext.alloc | refine Ext.setCell ?_ (by first | exact Nat.le_refl _ | exact Nat.le_add_right _ _ | assumption) _ | apply Ext.patch | apply Ext.drew | apply Ext.drewN)))
set_option maxRecDepth 100000 in
/-- word.Index of a reference. -/
theorem index_ref (i : Int) (h0 : 0 ≤ i) (h1 : i ≤ 1099511627776) (w : World) : Calls Tryz.prog 104 #[.complex .f64 (floatOfInt .f64 (i + 1)) 4607182418800017408] w (Gives (.tuple #[.int .i64 i, .bool true]) w) := by
  have HI := Lib.hid (fun w => nint_fits (i + 1) ⟨by omega, by omega⟩ w)
  have HR := Lib.hid (fun w => (show Calls Tryz.prog 153 #[.int .i64 i] w (Gives (.complex .f64 (floatOfInt .f64 (i + 1)) 4607182418800017408) w) from (show wRef i = Value.complex .f64 (floatOfInt .f64 (i + 1)) 4607182418800017408 by unfold wRef; rw [if_neg (by omega)]) ▸ ref_any i w))
  generalize floatOfInt .f64 (i + 1) = b at *
  have HSM := Lib.hid (fun w => nsame_self b 4607182418800017408 w)
  have e1 : i + 1 - 1 = i := by omega
  go_enter Tryz.func104, Tryz.ntmps104
  go_wp2_with fail
  refine (HI.out _).mono ?_
  rintro e w1 ⟨rfl, X1, rfl⟩
  go_wp2_with fail
  refine (HR.out _).mono ?_
  rintro e w1 ⟨rfl, X2, rfl⟩
  go_wp2_with fail
  refine (HSM.out _).mono ?_
  rintro e w1 ⟨rfl, X3, rfl⟩
  go_wp2_with fail
  go_ret2
  exact Gives.mk rfl (by (repeat (first | (with_reducible assumption) | (with_reducible exact Ext.refl _) | (with_reducible exact Ext.more _ _ _ _) | apply Ext.alloc | refine Ext.setCell ?_ (by first | exact Nat.le_refl _ | exact Nat.le_add_right _ _ | assumption) _ | apply Ext.patch | apply Ext.drew | apply Ext.drewN)))
/-- word.Index of what has no whole part: none. -/
theorem index_none (y : Nat) (w : World) : Calls Tryz.prog 104 #[.complex .f64 0 y] w (Gives (.tuple #[.int .i64 0, .bool false]) w) := by
  have HI := Lib.hid (fun w => (show Calls Tryz.prog 151 #[.complex .f64 0 0] w (Gives (.tuple #[.int .i64 0, .bool true]) w) from floatOf_zero ▸ nint_fits 0 ⟨by omega, by omega⟩ w))
  go_enter Tryz.func104, Tryz.ntmps104
  go_wp2_with fail
  refine (HI.out _).mono ?_
  rintro e w1 ⟨rfl, X1, rfl⟩
  go_wp2_with fail
  go_ret2
  exact Gives.mk rfl (by (repeat (first | (with_reducible assumption) | (with_reducible exact Ext.refl _) | (with_reducible exact Ext.more _ _ _ _) | apply Ext.alloc | refine Ext.setCell ?_ (by first | exact Nat.le_refl _ | exact Nat.le_add_right _ _ | assumption) _ | apply Ext.patch | apply Ext.drew | apply Ext.drewN)))
set_option maxRecDepth 100000 in
/-- word.Tell of a head. -/
theorem tell_head (k m : Int) (h0 : 0 ≤ k) (h1 : k ≤ 1099511627776) (h2 : 0 ≤ m) (h3 : m ≤ 1099511627776) (w : World) : Calls Tryz.prog 269 #[.complex .f64 (floatOfInt .f64 k) (floatOfInt .f64 m)] w (Gives (.tuple #[.int .i64 k, .int .i64 m, .bool true]) w) := by
  have HK := Lib.hid (fun w => nint_fits k ⟨by omega, by omega⟩ w)
  have HM := Lib.hid (fun w => nint_fits m ⟨by omega, by omega⟩ w)
  generalize floatOfInt .f64 k = a at *
  generalize floatOfInt .f64 m = b at *
  go_enter Tryz.func269, Tryz.ntmps269
  go_wp2_with fail
  refine (HK.out _).mono ?_
  rintro e w1 ⟨rfl, X1, rfl⟩
  go_wp2_with fail
  refine (HM.out _).mono ?_
  rintro e w1 ⟨rfl, X2, rfl⟩
  go_wp2_with fail
  go_ret3
  exact Gives.mk rfl (by (repeat (first | (with_reducible assumption) | (with_reducible exact Ext.refl _) | (with_reducible exact Ext.more _ _ _ _) | apply Ext.alloc | refine Ext.setCell ?_ (by first | exact Nat.le_refl _ | exact Nat.le_add_right _ _ | assumption) _ | apply Ext.patch | apply Ext.drew | apply Ext.drewN)))
end Go.Proofs.YtnebimabokgofaaGreat
/-
  num.Int, word.Index, Is, Tell of any word.
-/
namespace Go
open Ieee
theorem cut_zero (neg : Bool) (n d : Nat) : Toward.zero.cut neg n d = n / 2 ^ d := by
  unfold Toward.cut
  simp only [Bool.toNat_false, Nat.add_zero, Nat.shiftLeft_eq, Nat.one_mul]
  by_cases h : d ≤ n.log2 + 2
  · rw [Nat.min_eq_left h]
  · have h2 : n < 2 ^ (n.log2 + 1) := Nat.lt_log2_self
    rw [Nat.min_eq_right (by omega), Nat.div_eq_of_lt, Nat.div_eq_of_lt]
    · exact Nat.lt_of_lt_of_le h2 (Nat.pow_le_pow_right (by decide) (by omega))
    · exact Nat.lt_of_lt_of_le h2 (Nat.pow_le_pow_right (by decide) (by omega))
theorem signed_fits {s : Bool} {N : Nat} (h : N ≤ 9007199254740992) : Fits (signed s N 0) := by
  rw [signed_shift]
  rw [Nat.pow_zero, Nat.mul_one]
  cases s
  · exact ⟨by rw [if_neg (by decide)]; omega, by rw [if_neg (by decide)]; omega⟩
  · exact ⟨by rw [if_pos rfl]; omega, by rw [if_pos rfl]; omega⟩
/-- A float between the bounds: a whole number in them. -/
theorem range_int {x : Nat} (h1 : ((FloatKind.format .f64).order x 14069245235905429504 == some .gt || (FloatKind.format .f64).order x 14069245235905429504 == some .eq) = true) (h2 : ((FloatKind.format .f64).order x 4845873199050653696 == some .lt || (FloatKind.format .f64).order x 4845873199050653696 == some .eq) = true) : ∃ n, Fits n ∧ floatToIntVal .f64 x .i64 = some n := by
  have e1 : double.read 14069245235905429504 = .number true 4503599627370496 1 := by decide +kernel
  have e2 : double.read 4845873199050653696 = .number false 4503599627370496 1 := by decide +kernel
  rw [show (FloatKind.format .f64) = double from rfl] at h1 h2
  unfold Format.order at h1 h2
  rw [e1] at h1
  rw [e2] at h2
  have key : ∃ n, Fits n ∧ (double.read x).toInt .zero = some n := by
    generalize double.read x = d at *
    cases d with
    | nan s t => simp [Datum.order] at h1
    | infinity s => cases s <;> simp [Datum.order] at h1 h2
    | number s m i =>
      have q1 : signed true 4503599627370496 (1 - min i 1).toNat ≤ signed s m (i - min i 1).toNat := by
        refine Int.not_lt.1 fun hlt => ?_
        have h3 := cmp_lt hlt
        simp only [Datum.order] at h1
        rw [h3] at h1
        exact absurd h1 (by decide)
      have q2 : signed s m (i - min i 1).toNat ≤ signed false 4503599627370496 (1 - min i 1).toNat := by
        refine Int.not_lt.1 fun hlt => ?_
        have h3 := cmp_gt hlt
        simp only [Datum.order] at h2
        rw [h3] at h2
        exact absurd h2 (by decide)
      rw [signed_shift, signed_shift] at q1 q2
      have hA : m * 2 ^ (i - min i 1).toNat ≤ 4503599627370496 * 2 ^ (1 - min i 1).toNat := by
        generalize m * 2 ^ (i - min i 1).toNat = A at *
        generalize 4503599627370496 * 2 ^ (1 - min i 1).toNat = B at *
        cases s
        · simp at q2; omega
        · simp at q1; omega
      clear q1 q2 h1 h2 e1 e2
      refine ⟨signed s ((m <<< i.toNat) / 2 ^ (-i).toNat) 0, signed_fits ?_, by unfold Datum.toInt Datum.integral; simp only; rw [cut_zero]⟩
      rw [Nat.shiftLeft_eq]
      by_cases hi : i ≤ 0
      · rw [Int.min_eq_left (by omega), show (i - i).toNat = 0 by omega, show (1 - i).toNat = (-i).toNat + 1 by omega, Nat.pow_zero, Nat.mul_one, Nat.pow_succ] at hA
        rw [show i.toNat = 0 by omega, Nat.pow_zero, Nat.mul_one]
        refine Nat.div_le_of_le_mul ?_
        rw [Nat.mul_comm]
        omega
      · rw [Int.min_eq_right (by omega), show ((1 : Int) - 1).toNat = 0 by decide, Nat.pow_zero, Nat.mul_one] at hA
        rw [show (-i).toNat = 0 by omega, Nat.pow_zero, Nat.div_one, show i.toNat = (i - 1).toNat + 1 by omega, Nat.pow_succ, ← Nat.mul_assoc]
        omega
  obtain ⟨n, hn, hk⟩ := key
  refine ⟨n, hn, ?_⟩
  unfold floatToIntVal
  rw [show (FloatKind.decode .f64 x).toInt .zero = some n from hk]
  simp only
  rw [if_pos]
  have e1 : IntKind.min .i64 = -9223372036854775808 := by decide
  have e2 : IntKind.max .i64 = 9223372036854775807 := by decide
  have := hn.lo
  have := hn.hi
  rw [e1, e2]
  omega
/-- The whole number that a word is. -/
def wInt (p : Nat × Nat) : Option Int := match floatToIntVal .f64 p.1 .i64 with
  | some n => if -9007199254740992 ≤ n ∧ n ≤ 9007199254740992 ∧ p.1 = floatOfInt .f64 n ∧ p.2 = 0 then some n else none
  | none => none
theorem wInt_fits {n : Int} (hn : Fits n) : wInt (floatOfInt .f64 n, 0) = some n := by
  unfold wInt
  rw [floatToInt_fits hn]
  simp only
  rw [if_pos ⟨hn.lo, hn.hi, trivial, trivial⟩]
theorem wInt_some {p : Nat × Nat} {n : Int} (h : wInt p = some n) : Fits n ∧ p = (floatOfInt .f64 n, 0) := by
  unfold wInt at h
  split at h
  · split at h
    · rename_i hc
      injection h with h
      subst h
      exact ⟨⟨hc.1, hc.2.1⟩, Prod.ext hc.2.2.1 hc.2.2.2⟩
    · cases h
  · cases h
theorem wInt_none {p : Nat × Nat} (h : wInt p = none) {n : Int} (hn : Fits n) : p ≠ (floatOfInt .f64 n, 0) := fun e => by
  rw [e, wInt_fits hn] at h
  cases h
/-- The fragment of a reference. -/
def wIndex (p : Nat × Nat) : Option Int := match wInt (p.1, 0) with
  | some n => if 1 ≤ n ∧ n ≤ 1099511627777 ∧ p.2 = 4607182418800017408 then some (n - 1) else none
  | none => none
theorem wIndex_ref {i : Int} (h0 : 0 ≤ i) (h1 : i ≤ 1099511627776) : wIndex (floatOfInt .f64 (i + 1), 4607182418800017408) = some i := by
  unfold wIndex
  rw [wInt_fits ⟨by omega, by omega⟩]
  simp only
  rw [if_pos ⟨by omega, by omega, trivial⟩, Int.add_sub_cancel]
theorem wIndex_some {p : Nat × Nat} {i : Int} (h : wIndex p = some i) : (0 ≤ i ∧ i ≤ 1099511627776) ∧ p = (floatOfInt .f64 (i + 1), 4607182418800017408) := by
  unfold wIndex at h
  split at h
  · rename_i n hn
    split at h
    · rename_i hc
      injection h with h
      subst h
      have h2 := congrArg Prod.fst (wInt_some hn).2
      exact ⟨by omega, Prod.ext (by rw [Int.sub_add_cancel]; exact h2) hc.2.2⟩
    · cases h
  · cases h
theorem wIndex_none_word : wIndex (0, 4607182418800017408) = none := by
  unfold wIndex
  rw [show wInt (0, 0) = some 0 from by have := wInt_fits (n := 0) ⟨by omega, by omega⟩; rw [floatOf_zero] at this; exact this]
  rfl
/-- A reference, or none? -/
def wIs (p : Nat × Nat) : Bool := (wIndex p).isSome || decide (p = (0, 4607182418800017408))
/-- What a head says. -/
def wTell (p : Nat × Nat) : Option (Int × Int) := match wInt (p.1, 0), wInt (p.2, 0) with
  | some k, some m => if 0 ≤ k ∧ k ≤ 1099511627776 ∧ 0 ≤ m ∧ m ≤ 1099511627776 then some (k, m) else none
  | _, _ => none
theorem wTell_head {k m : Int} (h0 : 0 ≤ k) (h1 : k ≤ 1099511627776) (h2 : 0 ≤ m) (h3 : m ≤ 1099511627776) : wTell (floatOfInt .f64 k, floatOfInt .f64 m) = some (k, m) := by
  unfold wTell
  simp only
  rw [wInt_fits ⟨by omega, by omega⟩, wInt_fits ⟨by omega, by omega⟩]
  simp only
  rw [if_pos ⟨h0, h1, h2, h3⟩]
theorem wTell_some {p : Nat × Nat} {k m : Int} (h : wTell p = some (k, m)) : (0 ≤ k ∧ k ≤ 1099511627776) ∧ (0 ≤ m ∧ m ≤ 1099511627776) ∧ p = (floatOfInt .f64 k, floatOfInt .f64 m) := by
  unfold wTell at h
  split at h
  · rename_i k' m' hk hm
    split at h
    · rename_i hc
      injection h with h
      injection h with e1 e2
      subst e1 e2
      have h2 := congrArg Prod.fst (wInt_some hk).2
      have h3 := congrArg Prod.fst (wInt_some hm).2
      exact ⟨⟨hc.1, hc.2.1⟩, ⟨hc.2.2.1, hc.2.2.2⟩, Prod.ext h2 h3⟩
    · cases h
  · cases h
def optV (o : Option Int) : Value := .tuple #[.int .i64 (o.getD 0), .bool o.isSome]
def tellV (o : Option (Int × Int)) : Value := .tuple #[.int .i64 ((o.map Prod.fst).getD 0), .int .i64 ((o.map Prod.snd).getD 0), .bool o.isSome]
end Go
namespace Go.Proofs.YtnebimabokgofaaGreat
open Go Go.RowKit
set_option linter.unusedVariables false
set_option linter.unusedSimpArgs false
set_option maxRecDepth 100000
set_option maxHeartbeats 1000000
theorem partF_fits {n : Int} (h : Fits n) : partF (floatOfInt .f64 n) = floatOfInt .f64 n := if_pos (order_self h)
theorem partF_nan_ne {n : Int} (h : Fits n) : floatOfInt .f64 n ≠ 9221120237041090560 := fun e => by
  have h1 := order_self h
  rw [e] at h1
  exact absurd h1 (by decide +kernel)
theorem partF_eq {x : Nat} {n : Int} (h : Fits n) : (partF x == partF (floatOfInt .f64 n)) = decide (x = floatOfInt .f64 n) := by
  rw [partF_fits h, Bool.eq_iff_iff, beq_iff_eq, decide_eq_true_iff]
  unfold partF
  split
  · omega
  · rename_i hx
    constructor
    · intro e
      exact absurd (show floatOfInt .f64 n = 9221120237041090560 by omega) (partF_nan_ne h)
    · intro e
      exact absurd (by rw [e]; exact order_self h) hx
theorem sameF_fits {p : Nat × Nat} {a b : Int} (ha : Fits a) (hb : Fits b) : sameF p (floatOfInt .f64 a, floatOfInt .f64 b) = decide (p = (floatOfInt .f64 a, floatOfInt .f64 b)) := by
  unfold sameF
  rw [partF_eq ha, partF_eq hb, Bool.eq_iff_iff, Bool.and_eq_true, decide_eq_true_iff, decide_eq_true_iff, decide_eq_true_iff]
  exact ⟨fun h => Prod.ext h.1 h.2, fun h => ⟨congrArg Prod.fst h, congrArg Prod.snd h⟩⟩
theorem nint_any (p : Nat × Nat) (w : World) : Calls Tryz.prog 151 #[.complex .f64 p.1 p.2] w (Gives (optV (wInt p)) w) := by
  cases h : wInt p with
  | some n =>
    obtain ⟨hn, rfl⟩ := wInt_some h
    exact nint_fits n hn w
  | none =>
    have HV := Lib.hid (show optV none = .tuple #[.int .i64 0, .bool false] from rfl)
    have hcv : ((FloatKind.format .f64).order p.1 14069245235905429504 == some .gt || (FloatKind.format .f64).order p.1 14069245235905429504 == some .eq) = true → ((FloatKind.format .f64).order p.1 4845873199050653696 == some .lt || (FloatKind.format .f64).order p.1 4845873199050653696 == some .eq) = true →
        ∃ n, (∀ w, (convert 131 3 (.float .f64 p.1)).run Tryz.prog w = .ok (.int .i64 n) w) ∧ (∀ w, Calls Tryz.prog 191 #[.int .i64 n] w (Gives (.complex .f64 (floatOfInt .f64 n) 0) w)) ∧ ∀ w, Calls Tryz.prog 152 #[.complex .f64 p.1 p.2, .complex .f64 (floatOfInt .f64 n) 0] w (fun e w' => e = .returned (.bool false) ∧ w = w') := fun h1 h2 => by
      obtain ⟨n, hn, hk⟩ := range_int h1 h2
      refine ⟨n, fun w => run_convert_float_int w _ _ _ _ _ n (by kernel_rfl) (by kernel_rfl) hk, fun w => wWhole_fits hn ▸ whole_any n w, fun w => ?_⟩
      have h3 := nsame_any p (floatOfInt .f64 n, 0) w
      have h4 : sameF p (floatOfInt .f64 n, 0) = false := by
        have h5 := sameF_fits (p := p) hn (b := 0) ⟨by omega, by omega⟩
        rw [floatOf_zero] at h5
        rw [h5]
        exact decide_eq_false (wInt_none h hn)
      rw [h4] at h3
      exact h3
    have HCV := Lib.hid hcv
    obtain ⟨x, y⟩ := p
    simp only at HCV ⊢
    clear hcv h
    generalize hq : (FloatKind.format .f64).order x 14069245235905429504 = q1 at HCV
    generalize hr : (FloatKind.format .f64).order x 4845873199050653696 = q2 at HCV
    rcases q1 with _ | (_ | _ | _)
    all_goals
      rcases q2 with _ | (_ | _ | _)
      all_goals
        first
          | (obtain ⟨n, h1, h2, h3⟩ := HCV.out (by decide) (by decide)
             have H2 := Lib.hid h2
             have H3 := Lib.hid h3
             clear h2 h3 HCV
             go_enter Tryz.func151, Tryz.ntmps151
             go_wp2_with fail
             refine (H2.out _).mono ?_
             rintro e w1 ⟨rfl, X1, rfl⟩
             go_wp2_with fail
             refine (H3.out _).mono ?_
             rintro e w1 ⟨rfl, rfl⟩
             go_wp2_with fail
             go_ret2
             exact Gives.mk rfl (by (repeat (first | (with_reducible assumption) | (with_reducible exact Ext.refl _) | (with_reducible exact Ext.more _ _ _ _) | apply Ext.alloc | refine Ext.setCell ?_ (by first | exact Nat.le_refl _ | exact Nat.le_add_right _ _ | assumption) _ | apply Ext.patch | apply Ext.drew | apply Ext.drewN))))
          | (clear HCV
             go_enter Tryz.func151, Tryz.ntmps151
             go_wp2_with fail
             go_ret2
             exact Gives.mk rfl (by (repeat (first | (with_reducible assumption) | (with_reducible exact Ext.refl _) | (with_reducible exact Ext.more _ _ _ _) | apply Ext.alloc | refine Ext.setCell ?_ (by first | exact Nat.le_refl _ | exact Nat.le_add_right _ _ | assumption) _ | apply Ext.patch | apply Ext.drew | apply Ext.drewN))))
theorem index_any_w (p : Nat × Nat) (w : World) : Calls Tryz.prog 104 #[.complex .f64 p.1 p.2] w (Gives (optV (wIndex p)) w) := by
  have HI := Lib.hid (fun w => nint_any (p.1, 0) w)
  cases h : wInt (p.1, 0) with
  | none =>
    have HV := Lib.hid (show wIndex p = none by unfold wIndex; rw [h])
    rw [h] at HI
    rw [HV.out]
    unfold optV at HI ⊢
    obtain ⟨x, y⟩ := p
    clear h HV
    go_enter Tryz.func104, Tryz.ntmps104
    go_wp2_with fail
    refine (HI.out _).mono ?_
    rintro e w1 ⟨rfl, X1, rfl⟩
    go_wp2_with fail
    go_ret2
    exact Gives.mk rfl (by (repeat (first | (with_reducible assumption) | (with_reducible exact Ext.refl _) | (with_reducible exact Ext.more _ _ _ _) | apply Ext.alloc | refine Ext.setCell ?_ (by first | exact Nat.le_refl _ | exact Nat.le_add_right _ _ | assumption) _ | apply Ext.patch | apply Ext.drew | apply Ext.drewN)))
  | some n =>
    rw [h] at HI
    unfold optV at HI
    by_cases h1 : 1 ≤ n
    · by_cases h2 : n ≤ 1099511627777
      · have hp : p.1 = floatOfInt .f64 n := congrArg Prod.fst (wInt_some h).2
        have HR := Lib.hid (fun w => (show Calls Tryz.prog 153 #[.int .i64 (n - 1)] w (Gives (.complex .f64 p.1 4607182418800017408) w) from (show wRef (n - 1) = Value.complex .f64 p.1 4607182418800017408 by unfold wRef; rw [if_neg (by omega), Int.sub_add_cancel, hp]) ▸ ref_any (n - 1) w))
        have HS := Lib.hid (fun w => nsame_any p (p.1, 4607182418800017408) w)
        have hsf : sameF p (p.1, 4607182418800017408) = decide (p.2 = 4607182418800017408) := by
          have h5 := sameF_fits (p := p) (wInt_some h).1 (b := 1) ⟨by omega, by omega⟩
          rw [floatOf_one, ← hp] at h5
          rw [h5, Bool.eq_iff_iff, decide_eq_true_iff, decide_eq_true_iff]
          exact ⟨fun e => congrArg Prod.snd e, fun e => Prod.ext rfl e⟩
        rw [hsf] at HS
        by_cases h3 : p.2 = 4607182418800017408
        · have HV := Lib.hid (show optV (wIndex p) = .tuple #[.int .i64 (n - 1), .bool true] by unfold wIndex; rw [h]; simp only; rw [if_pos ⟨h1, h2, h3⟩]; rfl)
          rw [decide_eq_true h3] at HS
          rw [HV.out]
          obtain ⟨x, y⟩ := p
          have e1 := IntWalk.i64_in (n - 1) (by omega)
          simp only at HR HS HI ⊢
          clear h h3 hp hsf HV
          go_enter Tryz.func104, Tryz.ntmps104
          go_wp2_with fail
          refine (HI.out _).mono ?_
          rintro e w1 ⟨rfl, X1, rfl⟩
          go_wp2_with fail
          refine (HR.out _).mono ?_
          rintro e w1 ⟨rfl, X2, rfl⟩
          go_wp2_with fail
          refine (HS.out _).mono ?_
          rintro e w1 ⟨rfl, rfl⟩
          go_wp2_with fail
          go_ret2
          exact Gives.mk rfl (by (repeat (first | (with_reducible assumption) | (with_reducible exact Ext.refl _) | (with_reducible exact Ext.more _ _ _ _) | apply Ext.alloc | refine Ext.setCell ?_ (by first | exact Nat.le_refl _ | exact Nat.le_add_right _ _ | assumption) _ | apply Ext.patch | apply Ext.drew | apply Ext.drewN)))
        · have HV := Lib.hid (show optV (wIndex p) = .tuple #[.int .i64 0, .bool false] by unfold wIndex; rw [h]; simp only; rw [if_neg (fun hc => h3 hc.2.2)]; rfl)
          rw [decide_eq_false h3] at HS
          rw [HV.out]
          obtain ⟨x, y⟩ := p
          have e1 := IntWalk.i64_in (n - 1) (by omega)
          simp only at HR HS HI ⊢
          clear h h3 hp hsf HV
          go_enter Tryz.func104, Tryz.ntmps104
          go_wp2_with fail
          refine (HI.out _).mono ?_
          rintro e w1 ⟨rfl, X1, rfl⟩
          go_wp2_with fail
          refine (HR.out _).mono ?_
          rintro e w1 ⟨rfl, X2, rfl⟩
          go_wp2_with fail
          refine (HS.out _).mono ?_
          rintro e w1 ⟨rfl, rfl⟩
          go_wp2_with fail
          go_ret2
          exact Gives.mk rfl (by (repeat (first | (with_reducible assumption) | (with_reducible exact Ext.refl _) | (with_reducible exact Ext.more _ _ _ _) | apply Ext.alloc | refine Ext.setCell ?_ (by first | exact Nat.le_refl _ | exact Nat.le_add_right _ _ | assumption) _ | apply Ext.patch | apply Ext.drew | apply Ext.drewN)))
      · have HV := Lib.hid (show optV (wIndex p) = .tuple #[.int .i64 0, .bool false] by unfold wIndex; rw [h]; simp only; rw [if_neg (fun hc => h2 hc.2.1)]; rfl)
        rw [HV.out]
        obtain ⟨x, y⟩ := p
        have h4 : 1099511627777 < n := by omega
        clear h HV h2
        go_enter Tryz.func104, Tryz.ntmps104
        go_wp2_with fail
        refine (HI.out _).mono ?_
        rintro e w1 ⟨rfl, X1, rfl⟩
        go_wp2_with fail
        go_ret2
        exact Gives.mk rfl (by (repeat (first | (with_reducible assumption) | (with_reducible exact Ext.refl _) | (with_reducible exact Ext.more _ _ _ _) | apply Ext.alloc | refine Ext.setCell ?_ (by first | exact Nat.le_refl _ | exact Nat.le_add_right _ _ | assumption) _ | apply Ext.patch | apply Ext.drew | apply Ext.drewN)))
    · have HV := Lib.hid (show optV (wIndex p) = .tuple #[.int .i64 0, .bool false] by unfold wIndex; rw [h]; simp only; rw [if_neg (fun hc => h1 hc.1)]; rfl)
      rw [HV.out]
      obtain ⟨x, y⟩ := p
      have h4 : n < 1 := by omega
      clear h HV h1
      go_enter Tryz.func104, Tryz.ntmps104
      go_wp2_with fail
      refine (HI.out _).mono ?_
      rintro e w1 ⟨rfl, X1, rfl⟩
      go_wp2_with fail
      go_ret2
      exact Gives.mk rfl (by (repeat (first | (with_reducible assumption) | (with_reducible exact Ext.refl _) | (with_reducible exact Ext.more _ _ _ _) | apply Ext.alloc | refine Ext.setCell ?_ (by first | exact Nat.le_refl _ | exact Nat.le_add_right _ _ | assumption) _ | apply Ext.patch | apply Ext.drew | apply Ext.drewN)))
theorem is_any (p : Nat × Nat) (w : World) : Calls Tryz.prog 187 #[.complex .f64 p.1 p.2] w (Gives (.bool (wIs p)) w) := by
  have HI := Lib.hid (fun w => index_any_w p w)
  have HN := Lib.hid (fun w => none_any w)
  have HS := Lib.hid (fun w => nsame_any p (0, 4607182418800017408) w)
  have hsf : sameF p (0, 4607182418800017408) = decide (p = (0, 4607182418800017408)) := by
    have h5 := sameF_fits (p := p) (a := 0) (b := 1) ⟨by omega, by omega⟩ ⟨by omega, by omega⟩
    rw [floatOf_zero, floatOf_one] at h5
    exact h5
  rw [hsf] at HS
  have HV := Lib.hid (show wIs p = ((wIndex p).isSome || decide (p = (0, 4607182418800017408))) from rfl)
  rw [HV.out]
  unfold optV at HI
  unfold wNone at HN
  simp only at HS
  generalize decide (p = (0, 4607182418800017408)) = z at *
  generalize (wIndex p).getD 0 = i at *
  generalize (wIndex p).isSome = s at *
  obtain ⟨x, y⟩ := p
  simp only at HI HS ⊢
  clear HV hsf
  cases s
  · go_enter Tryz.func187, Tryz.ntmps187
    go_wp2_with fail
    refine (HI.out _).mono ?_
    rintro e w1 ⟨rfl, X1, rfl⟩
    go_wp2_with fail
    refine (HN.out _).mono ?_
    rintro e w1 ⟨rfl, X2, rfl⟩
    go_wp2_with fail
    refine (HS.out _).mono ?_
    rintro e w1 ⟨rfl, rfl⟩
    go_wp2_with fail
    go_ret
    exact Gives.mk (by simp) (by (repeat (first | (with_reducible assumption) | (with_reducible exact Ext.refl _) | (with_reducible exact Ext.more _ _ _ _) | apply Ext.alloc | refine Ext.setCell ?_ (by first | exact Nat.le_refl _ | exact Nat.le_add_right _ _ | assumption) _ | apply Ext.patch | apply Ext.drew | apply Ext.drewN)))
  · go_enter Tryz.func187, Tryz.ntmps187
    go_wp2_with fail
    refine (HI.out _).mono ?_
    rintro e w1 ⟨rfl, X1, rfl⟩
    go_wp2_with fail
    go_ret
    exact Gives.mk (by simp) (by (repeat (first | (with_reducible assumption) | (with_reducible exact Ext.refl _) | (with_reducible exact Ext.more _ _ _ _) | apply Ext.alloc | refine Ext.setCell ?_ (by first | exact Nat.le_refl _ | exact Nat.le_add_right _ _ | assumption) _ | apply Ext.patch | apply Ext.drew | apply Ext.drewN)))
theorem tell_any_w (p : Nat × Nat) (w : World) : Calls Tryz.prog 269 #[.complex .f64 p.1 p.2] w (Gives (tellV (wTell p)) w) := by
  have HK := Lib.hid (fun w => nint_any (p.1, 0) w)
  have HM := Lib.hid (fun w => nint_any (p.2, 0) w)
  have hd : wTell p = (match wInt (p.1, 0), wInt (p.2, 0) with | some k, some m => if 0 ≤ k ∧ k ≤ 1099511627776 ∧ 0 ≤ m ∧ m ≤ 1099511627776 then some (k, m) else none | _, _ => none) := rfl
  unfold optV at HK HM
  generalize wInt (p.1, 0) = a at *
  generalize wInt (p.2, 0) = b at *
  obtain ⟨x, y⟩ := p
  simp only at HK HM
  have fin : ∀ {v : Value}, tellV (wTell (x, y)) = v → Calls Tryz.prog 269 #[.complex .f64 x y] w (Gives v w) → Calls Tryz.prog 269 #[.complex .f64 x y] w (Gives (tellV (wTell (x, y))) w) := fun e h => e ▸ h
  rcases a with _ | k
  · refine fin (v := .tuple #[.int .i64 0, .int .i64 0, .bool false]) (by rw [hd]; rfl) ?_
    clear hd fin
    go_enter Tryz.func269, Tryz.ntmps269
    go_wp2_with fail
    refine (HK.out _).mono ?_
    rintro e w1 ⟨rfl, X1, rfl⟩
    go_wp2_with fail
    refine (HM.out _).mono ?_
    rintro e w1 ⟨rfl, X2, rfl⟩
    go_wp2_with fail
    go_ret3
    exact Gives.mk rfl (by (repeat (first | (with_reducible assumption) | (with_reducible exact Ext.refl _) | (with_reducible exact Ext.more _ _ _ _) | apply Ext.alloc | refine Ext.setCell ?_ (by first | exact Nat.le_refl _ | exact Nat.le_add_right _ _ | assumption) _ | apply Ext.patch | apply Ext.drew | apply Ext.drewN)))
  · rcases b with _ | m
    · refine fin (v := .tuple #[.int .i64 0, .int .i64 0, .bool false]) (by rw [hd]; rfl) ?_
      clear hd fin
      go_enter Tryz.func269, Tryz.ntmps269
      go_wp2_with fail
      refine (HK.out _).mono ?_
      rintro e w1 ⟨rfl, X1, rfl⟩
      go_wp2_with fail
      refine (HM.out _).mono ?_
      rintro e w1 ⟨rfl, X2, rfl⟩
      go_wp2_with fail
      go_ret3
      exact Gives.mk rfl (by (repeat (first | (with_reducible assumption) | (with_reducible exact Ext.refl _) | (with_reducible exact Ext.more _ _ _ _) | apply Ext.alloc | refine Ext.setCell ?_ (by first | exact Nat.le_refl _ | exact Nat.le_add_right _ _ | assumption) _ | apply Ext.patch | apply Ext.drew | apply Ext.drewN)))
    · simp only [Option.getD_some, Option.isSome_some] at HK HM
      by_cases h1 : k < 0
      · refine fin (v := .tuple #[.int .i64 0, .int .i64 0, .bool false]) (by rw [hd]; simp only; rw [if_neg (by omega)]; rfl) ?_
        clear hd fin
        go_enter Tryz.func269, Tryz.ntmps269
        go_wp2_with fail
        refine (HK.out _).mono ?_
        rintro e w1 ⟨rfl, X1, rfl⟩
        go_wp2_with fail
        refine (HM.out _).mono ?_
        rintro e w1 ⟨rfl, X2, rfl⟩
        go_wp2_with fail
        go_ret3
        exact Gives.mk rfl (by (repeat (first | (with_reducible assumption) | (with_reducible exact Ext.refl _) | (with_reducible exact Ext.more _ _ _ _) | apply Ext.alloc | refine Ext.setCell ?_ (by first | exact Nat.le_refl _ | exact Nat.le_add_right _ _ | assumption) _ | apply Ext.patch | apply Ext.drew | apply Ext.drewN)))
      by_cases h2 : 1099511627776 < k
      · refine fin (v := .tuple #[.int .i64 0, .int .i64 0, .bool false]) (by rw [hd]; simp only; rw [if_neg (by omega)]; rfl) ?_
        clear hd fin
        go_enter Tryz.func269, Tryz.ntmps269
        go_wp2_with fail
        refine (HK.out _).mono ?_
        rintro e w1 ⟨rfl, X1, rfl⟩
        go_wp2_with fail
        refine (HM.out _).mono ?_
        rintro e w1 ⟨rfl, X2, rfl⟩
        go_wp2_with fail
        go_ret3
        exact Gives.mk rfl (by (repeat (first | (with_reducible assumption) | (with_reducible exact Ext.refl _) | (with_reducible exact Ext.more _ _ _ _) | apply Ext.alloc | refine Ext.setCell ?_ (by first | exact Nat.le_refl _ | exact Nat.le_add_right _ _ | assumption) _ | apply Ext.patch | apply Ext.drew | apply Ext.drewN)))
      by_cases h3 : m < 0
      · refine fin (v := .tuple #[.int .i64 0, .int .i64 0, .bool false]) (by rw [hd]; simp only; rw [if_neg (by omega)]; rfl) ?_
        clear hd fin
        go_enter Tryz.func269, Tryz.ntmps269
        go_wp2_with fail
        refine (HK.out _).mono ?_
        rintro e w1 ⟨rfl, X1, rfl⟩
        go_wp2_with fail
        refine (HM.out _).mono ?_
        rintro e w1 ⟨rfl, X2, rfl⟩
        go_wp2_with fail
        go_ret3
        exact Gives.mk rfl (by (repeat (first | (with_reducible assumption) | (with_reducible exact Ext.refl _) | (with_reducible exact Ext.more _ _ _ _) | apply Ext.alloc | refine Ext.setCell ?_ (by first | exact Nat.le_refl _ | exact Nat.le_add_right _ _ | assumption) _ | apply Ext.patch | apply Ext.drew | apply Ext.drewN)))
      by_cases h4 : 1099511627776 < m
      · refine fin (v := .tuple #[.int .i64 0, .int .i64 0, .bool false]) (by rw [hd]; simp only; rw [if_neg (by omega)]; rfl) ?_
        clear hd fin
        go_enter Tryz.func269, Tryz.ntmps269
        go_wp2_with fail
        refine (HK.out _).mono ?_
        rintro e w1 ⟨rfl, X1, rfl⟩
        go_wp2_with fail
        refine (HM.out _).mono ?_
        rintro e w1 ⟨rfl, X2, rfl⟩
        go_wp2_with fail
        go_ret3
        exact Gives.mk rfl (by (repeat (first | (with_reducible assumption) | (with_reducible exact Ext.refl _) | (with_reducible exact Ext.more _ _ _ _) | apply Ext.alloc | refine Ext.setCell ?_ (by first | exact Nat.le_refl _ | exact Nat.le_add_right _ _ | assumption) _ | apply Ext.patch | apply Ext.drew | apply Ext.drewN)))
      · refine fin (v := .tuple #[.int .i64 k, .int .i64 m, .bool true]) (by rw [hd]; simp only; rw [if_pos (by omega)]; rfl) ?_
        have h5 : 0 ≤ k := by omega
        have h6 : k ≤ 1099511627776 := by omega
        have h7 : 0 ≤ m := by omega
        have h8 : m ≤ 1099511627776 := by omega
        clear hd fin h1 h2 h3 h4
        go_enter Tryz.func269, Tryz.ntmps269
        go_wp2_with fail
        refine (HK.out _).mono ?_
        rintro e w1 ⟨rfl, X1, rfl⟩
        go_wp2_with fail
        refine (HM.out _).mono ?_
        rintro e w1 ⟨rfl, X2, rfl⟩
        go_wp2_with fail
        go_ret3
        exact Gives.mk rfl (by (repeat (first | (with_reducible assumption) | (with_reducible exact Ext.refl _) | (with_reducible exact Ext.more _ _ _ _) | apply Ext.alloc | refine Ext.setCell ?_ (by first | exact Nat.le_refl _ | exact Nat.le_add_right _ _ | assumption) _ | apply Ext.patch | apply Ext.drew | apply Ext.drewN)))
end Go.Proofs.YtnebimabokgofaaGreat

