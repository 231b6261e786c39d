import Derived.Test.YtoaehfdjffejeaaGreatKL09
import Derived.Laws.FloatArith
import Derived.Test.YtoaehfdjffejeaaGreatChecked
import Derived.Laws.Externs
import Derived.Deep.DeepCutAuto
/-
  Packed: Float, Num, TraceS.
-/
open Go.Ext renaming alloc → zA, patch → zP, drew → zD, drewN → zN, more → zM, refl → zR, setCell → zS
open Nat renaming le_refl → zL, le_add_right → zK
/-
  Whole numbers as floats, and back: up to 2^53 nothing is lost. No program here.
-/
namespace Go
open Ieee
theorem log_bd {m : Nat} (h : 0 < m) : 2 ^ m.log2 ≤ m ∧ m < 2 ^ (m.log2 + 1) := ⟨Nat.log2_self_le (by omega), Nat.lt_log2_self⟩
theorem read_whole (neg : Bool) {m : Nat} (h0 : 0 < m) (h1 : m < 9007199254740992) :
    double.read (double.write (.number neg m 0)) = .number neg (m * 2 ^ (52 - m.log2)) (m.log2 - 52 : Int) ∧ m.log2 ≤ 52 := by
  obtain ⟨hl, hu⟩ := log_bd h0
  have hL : m.log2 ≤ 52 := by
    refine Nat.le_of_not_lt fun h => ?_
    have : 2 ^ 53 ≤ 2 ^ m.log2 := Nat.pow_le_pow_right (by decide) h
    have e : (2 : Nat) ^ 53 = 9007199254740992 := by decide
    omega
  refine ⟨?_, hL⟩
  generalize hg : m.log2 = L at *
  have hk1 : 2 ^ 52 ≤ m * 2 ^ (52 - L) := by
    have : 2 ^ L * 2 ^ (52 - L) ≤ m * 2 ^ (52 - L) := Nat.mul_le_mul_right _ hl
    rw [← Nat.pow_add, show L + (52 - L) = 52 by omega] at this
    exact this
  have hk2 : m * 2 ^ (52 - L) < 2 ^ 53 := by
    have : m * 2 ^ (52 - L) < 2 ^ (L + 1) * 2 ^ (52 - L) := Nat.mul_lt_mul_of_pos_right hu (Nat.pow_pos (by decide))
    rw [← Nat.pow_add, show L + 1 + (52 - L) = 53 by omega] at this
    exact this
  have hlast : max ((0 : Int) + (L : Int) - (52 : Nat)) double.leastPlace = (L : Int) - 52 := by
    have : double.leastPlace = -1074 := by decide
    rw [this]
    omega
  have hw : double.write (.number neg m 0) = double.word neg ((L + 1022) * 2 ^ 52 + m * 2 ^ (52 - L)) := by
    show double.nearest neg m 0 = _
    unfold Format.nearest
    rw [if_neg (by omega)]
    simp only [show double.fractionBits = 52 from rfl, hg, hlast]
    have e1 : ((L : Int) - 52 - double.leastPlace).toNat = L + 1022 := by
      have : double.leastPlace = -1074 := by decide
      rw [this]; omega
    have e2 : ((0 : Int) - ((L : Int) - 52)).toNat = 52 - L := by omega
    have e3 : ((L : Int) - 52 - 0).toNat = 0 := by omega
    rw [e1, e2, e3]
    have e4 : Toward.even.cut neg (m <<< (52 - L)) 0 = m * 2 ^ (52 - L) := by
      unfold Toward.cut
      simp [Nat.shiftLeft_eq, Nat.mod_one]
    rw [e4]
    have e5 : double.binade = 2 ^ 52 := by decide
    have e6 : double.infRung = 2047 * 2 ^ 52 := by decide
    rw [e5, e6, Nat.min_eq_left]
    omega
  rw [hw]
  generalize hK : m * 2 ^ (52 - L) = K at *
  have e5 : double.binade = 4503599627370496 := by decide
  have e6 : double.infRung = 9218868437227405312 := by decide
  have e7 : double.signWeight = 9223372036854775808 := by decide
  have e8 : double.leastPlace = -1074 := by decide
  have p52 : (2 : Nat) ^ 52 = 4503599627370496 := by decide
  have p53 : (2 : Nat) ^ 53 = 9007199254740992 := by decide
  rw [p52] at *
  rw [p53] at hk2
  have hr1 : (L + 1022) * 4503599627370496 + K < 9218868437227405312 := by omega
  have hmod : double.word neg ((L + 1022) * 4503599627370496 + K) % double.signWeight = (L + 1022) * 4503599627370496 + K := by
    unfold Format.word
    rw [e7]
    split <;> omega
  have hneg : (double.word neg ((L + 1022) * 4503599627370496 + K) / double.signWeight % 2 == 1) = neg := by
    unfold Format.word
    rw [e7]
    cases neg
    · rw [if_neg (by simp), show ((L + 1022) * 4503599627370496 + K) / 9223372036854775808 = 0 by omega]; rfl
    · rw [if_pos rfl, show (9223372036854775808 + ((L + 1022) * 4503599627370496 + K)) / 9223372036854775808 = 1 by omega]; rfl
  unfold Format.read
  simp only
  rw [hmod, hneg, e5, e6, e8, if_neg (by omega), if_pos hr1]
  congr 1
  · omega
  · omega
theorem read_zero : double.read (double.write (.number false 0 0)) = .number false 0 (-1074) := by decide +kernel
theorem read_top (neg : Bool) : double.read (double.write (.number neg 9007199254740992 0)) = .number neg 4503599627370496 1 := by cases neg <;> decide +kernel
structure Fits (n : Int) : Prop where
  lo : -9007199254740992 ≤ n
  hi : n ≤ 9007199254740992
theorem signed_shift (neg : Bool) (m a : Nat) : signed neg m a = (if neg then -1 else 1) * ((m * 2 ^ a : Nat) : Int) := by
  unfold signed
  rw [Nat.shiftLeft_eq]
  cases neg <;> simp
theorem zero_nat (a : Nat) : 0 = (0 : Int).natAbs * a := by rw [Int.natAbs_zero, Nat.zero_mul]
theorem read_fits {n : Int} (h : Fits n) : ∃ (k : Nat) (j : Int), double.read (floatOfInt .f64 n) = .number (decide (n < 0)) k j ∧ -1074 ≤ j ∧ j ≤ 1 ∧ k < 2 ^ 53 ∧ ((j ≤ 0 ∧ k = n.natAbs * 2 ^ (-j).toNat) ∨ (j = 1 ∧ k = 4503599627370496 ∧ n.natAbs = 9007199254740992)) := by
  obtain ⟨h1, h2⟩ := h
  show ∃ k j, double.read (double.write (.number (decide (n < 0)) n.natAbs 0)) = _ ∧ _
  by_cases h0 : n = 0
  · subst h0
    exact ⟨0, -1074, read_zero, by omega, by omega, by decide, Or.inl ⟨by decide, zero_nat _⟩⟩
  · by_cases ht : n.natAbs = 9007199254740992
    · rw [ht]
      exact ⟨_, _, read_top _, by omega, by omega, by decide, Or.inr ⟨rfl, rfl, rfl⟩⟩
    · obtain ⟨r1, r2⟩ := read_whole (decide (n < 0)) (m := n.natAbs) (by omega) (by omega)
      have hu := (log_bd (m := n.natAbs) (by omega)).2
      refine ⟨_, _, r1, by omega, by omega, ?_, Or.inl ⟨by omega, ?_⟩⟩
      · have : n.natAbs * 2 ^ (52 - n.natAbs.log2) < 2 ^ (n.natAbs.log2 + 1) * 2 ^ (52 - n.natAbs.log2) := Nat.mul_lt_mul_of_pos_right hu (Nat.pow_pos (by decide))
        rw [← Nat.pow_add, show n.natAbs.log2 + 1 + (52 - n.natAbs.log2) = 53 by omega] at this
        exact this
      · rw [show (-((n.natAbs.log2 : Int) - 52)).toNat = 52 - n.natAbs.log2 by omega]
theorem toInt_fits {n : Int} (h : Fits n) : (double.read (floatOfInt .f64 n)).toInt .zero = some n := by
  obtain ⟨k, j, hr, hj0, hj1, hk, hc⟩ := read_fits h
  rw [hr]
  unfold Datum.toInt Datum.integral
  simp only
  rw [signed_shift]
  rcases hc with ⟨hj, rfl⟩ | ⟨rfl, rfl, hn⟩
  · have e1 : j.toNat = 0 := by omega
    rw [e1, Nat.shiftLeft_zero]
    have e2 : Toward.zero.cut (decide (n < 0)) (n.natAbs * 2 ^ (-j).toNat) (-j).toNat = n.natAbs := by
      unfold Toward.cut
      simp only [Bool.toNat_false, Nat.add_zero, Nat.shiftLeft_eq, Nat.one_mul]
      by_cases h0 : n.natAbs = 0
      · rw [h0]; simp
      · have hlog : (-j).toNat ≤ (n.natAbs * 2 ^ (-j).toNat).log2 := by
          refine (Nat.le_log2 (by have := Nat.pow_pos (n := (-j).toNat) (show 0 < 2 by decide); exact Nat.ne_of_gt (Nat.mul_pos (by omega) this))).2 ?_
          exact Nat.le_mul_of_pos_left _ (by omega)
        rw [Nat.min_eq_left (by omega)]
        exact Nat.mul_div_cancel _ (Nat.pow_pos (by decide))
    rw [e2]
    by_cases hs : n < 0
    · rw [decide_eq_true hs]; simp; omega
    · rw [decide_eq_false hs]; simp; omega
  · have e2 : Toward.zero.cut (decide (n < 0)) (4503599627370496 <<< (1 : Int).toNat) (-(1 : Int)).toNat = 9007199254740992 := by
      cases (decide (n < 0)) <;> decide +kernel
    rw [e2]
    by_cases hs : n < 0
    · rw [decide_eq_true hs]; simp; omega
    · rw [decide_eq_false hs]; simp; omega
theorem floatToInt_fits {n : Int} (h : Fits n) : floatToIntVal .f64 (floatOfInt .f64 n) .i64 = some n := by
  unfold floatToIntVal
  rw [show (FloatKind.decode .f64 (floatOfInt .f64 n)).toInt .zero = some n from toInt_fits h]
  simp only
  rw [if_pos]
  have e1 : IntKind.min .i64 = -9223372036854775808 := by decide
  have e2 : IntKind.max .i64 = 9223372036854775807 := by decide
  have := h.lo
  have := h.hi
  rw [e1, e2]
  omega
theorem scaled {n : Int} {k : Nat} {j base : Int} (hb : base ≤ j) (hb0 : base ≤ 0) (hc : (j ≤ 0 ∧ k = n.natAbs * 2 ^ (-j).toNat) ∨ (j = 1 ∧ k = 4503599627370496 ∧ n.natAbs = 9007199254740992)) :
    signed (decide (n < 0)) k (j - base).toNat = n * ((2 ^ (-base).toNat : Nat) : Int) := by
  have hk : k * 2 ^ (j - base).toNat = n.natAbs * 2 ^ (-base).toNat := by
    rcases hc with ⟨hj, rfl⟩ | ⟨rfl, rfl, hn⟩
    · rw [Nat.mul_assoc, ← Nat.pow_add, show (-j).toNat + (j - base).toNat = (-base).toNat by omega]
    · rw [hn, show (1 - base).toNat = (-base).toNat + 1 by omega, Nat.pow_succ]
      omega
  rw [signed_shift, hk, Int.natCast_mul, ← Int.mul_assoc]
  congr 1
  by_cases hs : n < 0
  · rw [decide_eq_true hs, if_pos rfl]; omega
  · rw [decide_eq_false hs, if_neg (by simp)]; omega
theorem cmp_lt {a b : Int} (h : a < b) : compare a b = .lt := by
  show compareOfLessAndEq a b = _
  unfold compareOfLessAndEq
  rw [if_pos h]
theorem cmp_eq {a b : Int} (h : a = b) : compare a b = .eq := by
  show compareOfLessAndEq a b = _
  unfold compareOfLessAndEq
  rw [if_neg (by omega), if_pos h]
theorem cmp_gt {a b : Int} (h : b < a) : compare a b = .gt := by
  show compareOfLessAndEq a b = _
  unfold compareOfLessAndEq
  rw [if_neg (by omega), if_neg (by omega)]
theorem compare_scale (a b : Int) {c : Nat} (hc : 0 < c) : compare (a * (c : Int)) (b * (c : Int)) = compare a b := by
  have hc' : (0 : Int) < c := by omega
  rcases Int.lt_trichotomy a b with h | h | h
  · rw [cmp_lt h, cmp_lt (Int.mul_lt_mul_of_pos_right h hc')]
  · subst h
    rw [cmp_eq rfl, cmp_eq rfl]
  · rw [cmp_gt h, cmp_gt (Int.mul_lt_mul_of_pos_right h hc')]
theorem order_fits {a b : Int} (ha : Fits a) (hb : Fits b) : double.order (floatOfInt .f64 a) (floatOfInt .f64 b) = some (compare a b) := by
  obtain ⟨k1, j1, hr1, l1, u1, -, c1⟩ := read_fits ha
  obtain ⟨k2, j2, hr2, l2, u2, -, c2⟩ := read_fits hb
  unfold Format.order
  rw [hr1, hr2]
  show some (compare (signed (decide (a < 0)) k1 (j1 - min j1 j2).toNat) (signed (decide (b < 0)) k2 (j2 - min j1 j2).toNat)) = _
  by_cases ht : j1 = 1 ∧ j2 = 1
  · obtain ⟨rfl, rfl⟩ := ht
    rcases c1 with ⟨h, -⟩ | ⟨-, rfl, h1⟩
    · omega
    rcases c2 with ⟨h, -⟩ | ⟨-, rfl, h2⟩
    · omega
    rw [signed_shift, signed_shift]
    have e : ((1 : Int) - min 1 1).toNat = 0 := by decide
    rw [e]
    by_cases s1 : a < 0 <;> by_cases s2 : b < 0
    · rw [decide_eq_true s1, decide_eq_true s2, show a = b by omega]
      rw [cmp_eq rfl, cmp_eq rfl]
    · rw [decide_eq_true s1, decide_eq_false s2, cmp_lt (show a < b by omega)]
      decide
    · rw [decide_eq_false s1, decide_eq_true s2, cmp_gt (show b < a by omega)]
      decide
    · rw [decide_eq_false s1, decide_eq_false s2, show a = b by omega]
      rw [cmp_eq rfl, cmp_eq rfl]
  · rw [scaled (Int.min_le_left _ _) (by omega) c1, scaled (Int.min_le_right _ _) (by omega) c2, compare_scale _ _ (Nat.pow_pos (by decide))]
theorem order_self {a : Int} (ha : Fits a) : (FloatKind.format .f64).order (floatOfInt .f64 a) (floatOfInt .f64 a) = some .eq := (order_fits ha ha).trans (by rw [cmp_eq rfl])
theorem order_low {a : Int} (ha : Fits a) : ((FloatKind.format .f64).order (floatOfInt .f64 a) 14069245235905429504 == some .gt || (FloatKind.format .f64).order (floatOfInt .f64 a) 14069245235905429504 == some .eq) = true := by
  have e : (14069245235905429504 : Nat) = floatOfInt .f64 (-9007199254740992) := by decide +kernel
  have h := order_fits ha (b := -9007199254740992) ⟨by omega, by omega⟩
  rw [e, show (FloatKind.format .f64) = double from rfl, h]
  have := ha.lo
  rcases Int.lt_or_eq_of_le this with hl | hl
  · rw [cmp_gt hl]; rfl
  · rw [cmp_eq hl.symm]; rfl
theorem order_high {a : Int} (ha : Fits a) : ((FloatKind.format .f64).order (floatOfInt .f64 a) 4845873199050653696 == some .lt || (FloatKind.format .f64).order (floatOfInt .f64 a) 4845873199050653696 == some .eq) = true := by
  have e : (4845873199050653696 : Nat) = floatOfInt .f64 9007199254740992 := by decide +kernel
  have h := order_fits ha (b := 9007199254740992) ⟨by omega, by omega⟩
  rw [e, show (FloatKind.format .f64) = double from rfl, h]
  have := ha.hi
  rcases Int.lt_or_eq_of_le this with hl | hl
  · rw [cmp_lt hl]; rfl
  · rw [cmp_eq hl]; rfl
end Go

/-
  Merged: XNum, XNumG.
-/
/-
  num.part, Bits, Same, Int; word.Index, Tell, Is.
-/
namespace Go.Proofs.YtoaehfdjffejeaaGreat
open Go Go.RowKit
set_option linter.unusedVariables false
set_option linter.unusedSimpArgs false
theorem f64bitsN (b : Nat) (w : World) : (callFunc 65 #[.float .f64 b]).run Tryz.prog w = .ok (.value (.int .u64 b)) w :=
  run_callFunc_extern (e := Extern.MathFloatBits.float64bits) Tryz.func65 (by kernel_rfl) (by kernel_rfl) (by kernel_rfl) (by kernel_rfl) _ _
def partF (b : Nat) : Int := if (FloatKind.format .f64).order b b = some .eq then b else 9221120237041090560
set_option maxRecDepth 100000 in
theorem npart_any (b : Nat) (w : World) : Calls Tryz.prog 186 #[.float .f64 b] w fun e w' => e = .returned (.int .u64 (partF b)) ∧ w = w' := by
  have hf := f64bitsN
  by_cases h : (FloatKind.format .f64).order b b = some .eq
  · have HV := Lib.hid (show partF b = b from if_pos h)
    have hb : ((FloatKind.format .f64).order b b != some .eq) = false := by simp [h]
    clear h
    go_enter Tryz.func186, Tryz.ntmps186
    go_wp2
    go_ret
    exact ⟨by rw [HV.out]; rfl, rfl⟩
  · have HV := Lib.hid (show partF b = 9221120237041090560 from if_neg h)
    have hb : ((FloatKind.format .f64).order b b != some .eq) = true := by simp [h]
    clear h
    go_enter Tryz.func186, Tryz.ntmps186
    go_wp2
    go_ret
    exact ⟨by rw [HV.out]; rfl, rfl⟩
theorem nbits_any (x y : Nat) (w : World) : Calls Tryz.prog 160 #[.complex .f64 x y] w fun e w' => e = .returned (.tuple #[.int .u64 (partF x), .int .u64 (partF y)]) ∧ w = w' := by
  have H := Lib.hid (fun b w => npart_any b w)
  go_enter Tryz.func160, Tryz.ntmps160
  go_wp2_with fail
  refine (H.out _ _).mono ?_
  rintro e w1 ⟨rfl, rfl⟩
  go_wp2_with fail
  refine (H.out _ _).mono ?_
  rintro e w1 ⟨rfl, rfl⟩
  go_wp2_with fail
  go_ret2
  exact ⟨rfl, rfl⟩
def sameF (p q : Nat × Nat) : Bool := partF p.1 == partF q.1 && partF p.2 == partF q.2
theorem sameF_self (p : Nat × Nat) : sameF p p = true := by simp [sameF]
theorem nsame_any (p q : Nat × Nat) (w : World) : Calls Tryz.prog 119 #[.complex .f64 p.1 p.2, .complex .f64 q.1 q.2] w fun e w' => e = .returned (.bool (sameF p q)) ∧ w = w' := by
  have H := Lib.hid (fun x y w => nbits_any x y w)
  have HV := Lib.hid (show sameF p q = (partF p.1 == partF q.1 && partF p.2 == partF q.2) from rfl)
  obtain ⟨p1, p2⟩ := p
  obtain ⟨q1, q2⟩ := q
  simp only at HV ⊢
  have H1 := Lib.hid (H.out p1 p2)
  have H2 := Lib.hid (H.out q1 q2)
  clear H
  generalize partF p1 = x1 at *
  generalize partF p2 = x2 at *
  generalize partF q1 = y1 at *
  generalize partF q2 = y2 at *
  cases hb : (x1 == y1)
  · have HV2 := Lib.hid (show sameF (p1, p2) (q1, q2) = false by rw [HV.out, hb]; rfl)
    go_enter Tryz.func119, Tryz.ntmps119
    go_wp2_with fail
    refine (H1.out _).mono ?_
    rintro e w1 ⟨rfl, rfl⟩
    go_wp2_with fail
    refine (H2.out _).mono ?_
    rintro e w1 ⟨rfl, rfl⟩
    go_wp2_with fail
    go_ret
    exact ⟨by rw [HV2.out]; rfl, rfl⟩
  · have HV2 := Lib.hid (show sameF (p1, p2) (q1, q2) = (x2 == y2) by rw [HV.out, hb]; rfl)
    go_enter Tryz.func119, Tryz.ntmps119
    go_wp2_with fail
    refine (H1.out _).mono ?_
    rintro e w1 ⟨rfl, rfl⟩
    go_wp2_with fail
    refine (H2.out _).mono ?_
    rintro e w1 ⟨rfl, rfl⟩
    go_wp2_with fail
    go_ret
    exact ⟨by rw [HV2.out]; rfl, rfl⟩
theorem nsame_self (a b : Nat) (w : World) : Calls Tryz.prog 119 #[.complex .f64 a b, .complex .f64 a b] w (Gives (.bool true) w) :=
  (nsame_any (a, b) (a, b) w).mono fun e w' ⟨h1, h2⟩ => ⟨by rw [h1, sameF_self], by rw [← h2]; exact Ext.refl _⟩
theorem wWhole_fits {n : Int} (hn : Fits n) : wWhole n = .complex .f64 (floatOfInt .f64 n) 0 := by
  have := hn.lo
  have := hn.hi
  unfold wWhole
  rw [if_neg (by omega)]
set_option maxRecDepth 100000 in
theorem nint_fits (n : Int) (hn : Fits n) (w : World) : Calls Tryz.prog 109 #[.complex .f64 (floatOfInt .f64 n) 0] w (Gives (.tuple #[.int .i64 n, .bool true]) w) := by
  have hcv : ∀ w, (convert 87 3 (.float .f64 (floatOfInt .f64 n))).run Tryz.prog w = .ok (.int .i64 n) w := fun w => run_convert_float_int w _ _ _ _ _ n (by kernel_rfl) (by kernel_rfl) (floatToInt_fits hn)
  have hlo := order_low hn
  have hhi := order_high hn
  have HWH := Lib.hid (fun w => wWhole_fits hn ▸ whole_any n w)
  generalize floatOfInt .f64 n = b at *
  have HSM := Lib.hid (fun w => nsame_self b 0 w)
  generalize hq : (FloatKind.format .f64).order b 14069245235905429504 = q1 at hlo
  generalize hr : (FloatKind.format .f64).order b 4845873199050653696 = q2 at hhi
  have hlo' : (q1 == some .gt) = true ∨ (q1 == some .eq) = true := by simpa using hlo
  have hhi' : (q2 == some .lt) = true ∨ (q2 == some .eq) = true := by simpa using hhi
  obtain ⟨o1, rfl⟩ : ∃ o : Ordering, q1 = some o := by
    cases q1 with
    | none => exact absurd hlo (by decide)
    | some o => exact ⟨o, rfl⟩
  obtain ⟨o2, rfl⟩ : ∃ o : Ordering, q2 = some o := by
    cases q2 with
    | none => exact absurd hhi (by decide)
    | some o => exact ⟨o, rfl⟩
  clear hlo' hhi'
  cases o1 <;> first | exact absurd hlo (by decide) | skip
  all_goals
    cases o2 <;> first | exact absurd hhi (by decide) | skip
    all_goals
      clear hlo hhi
      go_enter Tryz.func109, Tryz.ntmps109
      go_wp2_with fail
      refine (HWH.out _).mono ?_
      rintro e w1 ⟨rfl, X1, rfl⟩
      go_wp2_with fail
      refine (HSM.out _).mono ?_
      rintro e w1 ⟨rfl, X2, rfl⟩
      go_wp2_with fail
      go_ret2
      exact Gives.mk rfl (by (repeat (first | (with_reducible (first | assumption | exact zR _ | exact zM _ _ _ _)) | apply zA | refine zS ?_ (by first | exact zL _ | exact zK _ _ | assumption) _ | apply zP | apply zD | apply zN)))
set_option maxRecDepth 100000 in
theorem index_ref (i : Int) (h0 : 0 ≤ i) (h1 : i ≤ 1099511627776) (w : World) : Calls Tryz.prog 82 #[.complex .f64 (floatOfInt .f64 (i + 1)) 4607182418800017408] w (Gives (.tuple #[.int .i64 i, .bool true]) w) := by
  have HI := Lib.hid (fun w => nint_fits (i + 1) ⟨by omega, by omega⟩ w)
  have HR := Lib.hid (fun w => (show Calls Tryz.prog 107 #[.int .i64 i] w (Gives (.complex .f64 (floatOfInt .f64 (i + 1)) 4607182418800017408) w) from (show wRef i = Value.complex .f64 (floatOfInt .f64 (i + 1)) 4607182418800017408 by unfold wRef; rw [if_neg (by omega)]) ▸ ref_any i w))
  generalize floatOfInt .f64 (i + 1) = b at *
  have HSM := Lib.hid (fun w => nsame_self b 4607182418800017408 w)
  have e1 : i + 1 - 1 = i := by omega
  go_enter Tryz.func82, Tryz.ntmps82
  go_wp2_with fail
  refine (HI.out _).mono ?_
  rintro e w1 ⟨rfl, X1, rfl⟩
  go_wp2_with fail
  refine (HR.out _).mono ?_
  rintro e w1 ⟨rfl, X2, rfl⟩
  go_wp2_with fail
  refine (HSM.out _).mono ?_
  rintro e w1 ⟨rfl, X3, rfl⟩
  go_wp2_with fail
  go_ret2
  exact Gives.mk rfl (by (repeat (first | (with_reducible (first | assumption | exact zR _ | exact zM _ _ _ _)) | apply zA | refine zS ?_ (by first | exact zL _ | exact zK _ _ | assumption) _ | apply zP | apply zD | apply zN)))
theorem index_none (y : Nat) (w : World) : Calls Tryz.prog 82 #[.complex .f64 0 y] w (Gives (.tuple #[.int .i64 0, .bool false]) w) := by
  have HI := Lib.hid (fun w => (show Calls Tryz.prog 109 #[.complex .f64 0 0] w (Gives (.tuple #[.int .i64 0, .bool true]) w) from floatOf_zero ▸ nint_fits 0 ⟨by omega, by omega⟩ w))
  go_enter Tryz.func82, Tryz.ntmps82
  go_wp2_with fail
  refine (HI.out _).mono ?_
  rintro e w1 ⟨rfl, X1, rfl⟩
  go_wp2_with fail
  go_ret2
  exact Gives.mk rfl (by (repeat (first | (with_reducible (first | assumption | exact zR _ | exact zM _ _ _ _)) | apply zA | refine zS ?_ (by first | exact zL _ | exact zK _ _ | assumption) _ | apply zP | apply zD | apply zN)))
set_option maxRecDepth 100000 in
theorem tell_head (k m : Int) (h0 : 0 ≤ k) (h1 : k ≤ 1099511627776) (h2 : 0 ≤ m) (h3 : m ≤ 1099511627776) (w : World) : Calls Tryz.prog 173 #[.complex .f64 (floatOfInt .f64 k) (floatOfInt .f64 m)] w (Gives (.tuple #[.int .i64 k, .int .i64 m, .bool true]) w) := by
  have HK := Lib.hid (fun w => nint_fits k ⟨by omega, by omega⟩ w)
  have HM := Lib.hid (fun w => nint_fits m ⟨by omega, by omega⟩ w)
  generalize floatOfInt .f64 k = a at *
  generalize floatOfInt .f64 m = b at *
  go_enter Tryz.func173, Tryz.ntmps173
  go_wp2_with fail
  refine (HK.out _).mono ?_
  rintro e w1 ⟨rfl, X1, rfl⟩
  go_wp2_with fail
  refine (HM.out _).mono ?_
  rintro e w1 ⟨rfl, X2, rfl⟩
  go_wp2_with fail
  go_ret3
  exact Gives.mk rfl (by (repeat (first | (with_reducible (first | assumption | exact zR _ | exact zM _ _ _ _)) | apply zA | refine zS ?_ (by first | exact zL _ | exact zK _ _ | assumption) _ | apply zP | apply zD | apply zN)))
end Go.Proofs.YtoaehfdjffejeaaGreat
/-
  num.Int, word.Index, Is, Tell of any word.
-/
namespace Go
open Ieee
theorem cut_zero (neg : Bool) (n d : Nat) : Toward.zero.cut neg n d = n / 2 ^ d := by
  unfold Toward.cut
  simp only [Bool.toNat_false, Nat.add_zero, Nat.shiftLeft_eq, Nat.one_mul]
  by_cases h : d ≤ n.log2 + 2
  · rw [Nat.min_eq_left h]
  · have h2 : n < 2 ^ (n.log2 + 1) := Nat.lt_log2_self
    rw [Nat.min_eq_right (by omega), Nat.div_eq_of_lt, Nat.div_eq_of_lt]
    · exact Nat.lt_of_lt_of_le h2 (Nat.pow_le_pow_right (by decide) (by omega))
    · exact Nat.lt_of_lt_of_le h2 (Nat.pow_le_pow_right (by decide) (by omega))
theorem signed_fits {s : Bool} {N : Nat} (h : N ≤ 9007199254740992) : Fits (signed s N 0) := by
  rw [signed_shift]
  rw [Nat.pow_zero, Nat.mul_one]
  cases s
  · exact ⟨by rw [if_neg (by decide)]; omega, by rw [if_neg (by decide)]; omega⟩
  · exact ⟨by rw [if_pos rfl]; omega, by rw [if_pos rfl]; omega⟩
theorem range_int {x : Nat} (h1 : ((FloatKind.format .f64).order x 14069245235905429504 == some .gt || (FloatKind.format .f64).order x 14069245235905429504 == some .eq) = true) (h2 : ((FloatKind.format .f64).order x 4845873199050653696 == some .lt || (FloatKind.format .f64).order x 4845873199050653696 == some .eq) = true) : ∃ n, Fits n ∧ floatToIntVal .f64 x .i64 = some n := by
  have e1 : double.read 14069245235905429504 = .number true 4503599627370496 1 := by decide +kernel
  have e2 : double.read 4845873199050653696 = .number false 4503599627370496 1 := by decide +kernel
  rw [show (FloatKind.format .f64) = double from rfl] at h1 h2
  unfold Format.order at h1 h2
  rw [e1] at h1
  rw [e2] at h2
  have key : ∃ n, Fits n ∧ (double.read x).toInt .zero = some n := by
    generalize double.read x = d at *
    cases d with
    | nan s t => simp [Datum.order] at h1
    | infinity s => cases s <;> simp [Datum.order] at h1 h2
    | number s m i =>
      have q1 : signed true 4503599627370496 (1 - min i 1).toNat ≤ signed s m (i - min i 1).toNat := by
        refine Int.not_lt.1 fun hlt => ?_
        have h3 := cmp_lt hlt
        simp only [Datum.order] at h1
        rw [h3] at h1
        exact absurd h1 (by decide)
      have q2 : signed s m (i - min i 1).toNat ≤ signed false 4503599627370496 (1 - min i 1).toNat := by
        refine Int.not_lt.1 fun hlt => ?_
        have h3 := cmp_gt hlt
        simp only [Datum.order] at h2
        rw [h3] at h2
        exact absurd h2 (by decide)
      rw [signed_shift, signed_shift] at q1 q2
      have hA : m * 2 ^ (i - min i 1).toNat ≤ 4503599627370496 * 2 ^ (1 - min i 1).toNat := by
        generalize m * 2 ^ (i - min i 1).toNat = A at *
        generalize 4503599627370496 * 2 ^ (1 - min i 1).toNat = B at *
        cases s
        · simp at q2; omega
        · simp at q1; omega
      clear q1 q2 h1 h2 e1 e2
      refine ⟨signed s ((m <<< i.toNat) / 2 ^ (-i).toNat) 0, signed_fits ?_, by unfold Datum.toInt Datum.integral; simp only; rw [cut_zero]⟩
      rw [Nat.shiftLeft_eq]
      by_cases hi : i ≤ 0
      · rw [Int.min_eq_left (by omega), show (i - i).toNat = 0 by omega, show (1 - i).toNat = (-i).toNat + 1 by omega, Nat.pow_zero, Nat.mul_one, Nat.pow_succ] at hA
        rw [show i.toNat = 0 by omega, Nat.pow_zero, Nat.mul_one]
        refine Nat.div_le_of_le_mul ?_
        rw [Nat.mul_comm]
        omega
      · rw [Int.min_eq_right (by omega), show ((1 : Int) - 1).toNat = 0 by decide, Nat.pow_zero, Nat.mul_one] at hA
        rw [show (-i).toNat = 0 by omega, Nat.pow_zero, Nat.div_one, show i.toNat = (i - 1).toNat + 1 by omega, Nat.pow_succ, ← Nat.mul_assoc]
        omega
  obtain ⟨n, hn, hk⟩ := key
  refine ⟨n, hn, ?_⟩
  unfold floatToIntVal
  rw [show (FloatKind.decode .f64 x).toInt .zero = some n from hk]
  simp only
  rw [if_pos]
  have e1 : IntKind.min .i64 = -9223372036854775808 := by decide
  have e2 : IntKind.max .i64 = 9223372036854775807 := by decide
  have := hn.lo
  have := hn.hi
  rw [e1, e2]
  omega
def wInt (p : Nat × Nat) : Option Int := match floatToIntVal .f64 p.1 .i64 with
  | some n => if -9007199254740992 ≤ n ∧ n ≤ 9007199254740992 ∧ p.1 = floatOfInt .f64 n ∧ p.2 = 0 then some n else none
  | none => none
theorem wInt_fits {n : Int} (hn : Fits n) : wInt (floatOfInt .f64 n, 0) = some n := by
  unfold wInt
  rw [floatToInt_fits hn]
  simp only
  rw [if_pos ⟨hn.lo, hn.hi, trivial, trivial⟩]
theorem wInt_some {p : Nat × Nat} {n : Int} (h : wInt p = some n) : Fits n ∧ p = (floatOfInt .f64 n, 0) := by
  unfold wInt at h
  split at h
  · split at h
    · rename_i hc
      injection h with h
      subst h
      exact ⟨⟨hc.1, hc.2.1⟩, Prod.ext hc.2.2.1 hc.2.2.2⟩
    · cases h
  · cases h
theorem wInt_none {p : Nat × Nat} (h : wInt p = none) {n : Int} (hn : Fits n) : p ≠ (floatOfInt .f64 n, 0) := fun e => by
  rw [e, wInt_fits hn] at h
  cases h
def wIndex (p : Nat × Nat) : Option Int := match wInt (p.1, 0) with
  | some n => if 1 ≤ n ∧ n ≤ 1099511627777 ∧ p.2 = 4607182418800017408 then some (n - 1) else none
  | none => none
theorem wIndex_some {p : Nat × Nat} {i : Int} (h : wIndex p = some i) : (0 ≤ i ∧ i ≤ 1099511627776) ∧ p = (floatOfInt .f64 (i + 1), 4607182418800017408) := by
  unfold wIndex at h
  split at h
  · rename_i n hn
    split at h
    · rename_i hc
      injection h with h
      subst h
      have h2 := congrArg Prod.fst (wInt_some hn).2
      exact ⟨by omega, Prod.ext (by rw [Int.sub_add_cancel]; exact h2) hc.2.2⟩
    · cases h
  · cases h
def wIs (p : Nat × Nat) : Bool := (wIndex p).isSome || decide (p = (0, 4607182418800017408))
def wTell (p : Nat × Nat) : Option (Int × Int) := match wInt (p.1, 0), wInt (p.2, 0) with
  | some k, some m => if 0 ≤ k ∧ k ≤ 1099511627776 ∧ 0 ≤ m ∧ m ≤ 1099511627776 then some (k, m) else none
  | _, _ => none
def optV (o : Option Int) : Value := .tuple #[.int .i64 (o.getD 0), .bool o.isSome]
def tellV (o : Option (Int × Int)) : Value := .tuple #[.int .i64 ((o.map Prod.fst).getD 0), .int .i64 ((o.map Prod.snd).getD 0), .bool o.isSome]
end Go
namespace Go.Proofs.YtoaehfdjffejeaaGreat
open Go Go.RowKit
set_option linter.unusedVariables false
set_option linter.unusedSimpArgs false
set_option maxRecDepth 100000
set_option maxHeartbeats 1000000
theorem partF_fits {n : Int} (h : Fits n) : partF (floatOfInt .f64 n) = floatOfInt .f64 n := if_pos (order_self h)
theorem partF_nan_ne {n : Int} (h : Fits n) : floatOfInt .f64 n ≠ 9221120237041090560 := fun e => by
  have h1 := order_self h
  rw [e] at h1
  exact absurd h1 (by decide +kernel)
theorem partF_eq {x : Nat} {n : Int} (h : Fits n) : (partF x == partF (floatOfInt .f64 n)) = decide (x = floatOfInt .f64 n) := by
  rw [partF_fits h, Bool.eq_iff_iff, beq_iff_eq, decide_eq_true_iff]
  unfold partF
  split
  · omega
  · rename_i hx
    constructor
    · intro e
      exact absurd (show floatOfInt .f64 n = 9221120237041090560 by omega) (partF_nan_ne h)
    · intro e
      exact absurd (by rw [e]; exact order_self h) hx
theorem sameF_fits {p : Nat × Nat} {a b : Int} (ha : Fits a) (hb : Fits b) : sameF p (floatOfInt .f64 a, floatOfInt .f64 b) = decide (p = (floatOfInt .f64 a, floatOfInt .f64 b)) := by
  unfold sameF
  rw [partF_eq ha, partF_eq hb, Bool.eq_iff_iff, Bool.and_eq_true, decide_eq_true_iff, decide_eq_true_iff, decide_eq_true_iff]
  exact ⟨fun h => Prod.ext h.1 h.2, fun h => ⟨congrArg Prod.fst h, congrArg Prod.snd h⟩⟩
theorem nint_any (p : Nat × Nat) (w : World) : Calls Tryz.prog 109 #[.complex .f64 p.1 p.2] w (Gives (optV (wInt p)) w) := by
  cases h : wInt p with
  | some n =>
    obtain ⟨hn, rfl⟩ := wInt_some h
    exact nint_fits n hn w
  | none =>
    have HV := Lib.hid (show optV none = .tuple #[.int .i64 0, .bool false] from rfl)
    have hcv : ((FloatKind.format .f64).order p.1 14069245235905429504 == some .gt || (FloatKind.format .f64).order p.1 14069245235905429504 == some .eq) = true → ((FloatKind.format .f64).order p.1 4845873199050653696 == some .lt || (FloatKind.format .f64).order p.1 4845873199050653696 == some .eq) = true →
        ∃ n, (∀ w, (convert 87 3 (.float .f64 p.1)).run Tryz.prog w = .ok (.int .i64 n) w) ∧ (∀ w, Calls Tryz.prog 110 #[.int .i64 n] w (Gives (.complex .f64 (floatOfInt .f64 n) 0) w)) ∧ ∀ w, Calls Tryz.prog 119 #[.complex .f64 p.1 p.2, .complex .f64 (floatOfInt .f64 n) 0] w (fun e w' => e = .returned (.bool false) ∧ w = w') := fun h1 h2 => by
      obtain ⟨n, hn, hk⟩ := range_int h1 h2
      refine ⟨n, fun w => run_convert_float_int w _ _ _ _ _ n (by kernel_rfl) (by kernel_rfl) hk, fun w => wWhole_fits hn ▸ whole_any n w, fun w => ?_⟩
      have h3 := nsame_any p (floatOfInt .f64 n, 0) w
      have h4 : sameF p (floatOfInt .f64 n, 0) = false := by
        have h5 := sameF_fits (p := p) hn (b := 0) ⟨by omega, by omega⟩
        rw [floatOf_zero] at h5
        rw [h5]
        exact decide_eq_false (wInt_none h hn)
      rw [h4] at h3
      exact h3
    have HCV := Lib.hid hcv
    obtain ⟨x, y⟩ := p
    simp only at HCV ⊢
    clear hcv h
    generalize hq : (FloatKind.format .f64).order x 14069245235905429504 = q1 at HCV
    generalize hr : (FloatKind.format .f64).order x 4845873199050653696 = q2 at HCV
    rcases q1 with _ | (_ | _ | _)
    all_goals
      rcases q2 with _ | (_ | _ | _)
      all_goals
        first
          | (obtain ⟨n, h1, h2, h3⟩ := HCV.out (by decide) (by decide)
             have H2 := Lib.hid h2
             have H3 := Lib.hid h3
             clear h2 h3 HCV
             go_enter Tryz.func109, Tryz.ntmps109
             go_wp2_with fail
             refine (H2.out _).mono ?_
             rintro e w1 ⟨rfl, X1, rfl⟩
             go_wp2_with fail
             refine (H3.out _).mono ?_
             rintro e w1 ⟨rfl, rfl⟩
             go_wp2_with fail
             go_ret2
             exact Gives.mk rfl (by (repeat (first | (with_reducible (first | assumption | exact zR _ | exact zM _ _ _ _)) | apply zA | refine zS ?_ (by first | exact zL _ | exact zK _ _ | assumption) _ | apply zP | apply zD | apply zN))))
          | (clear HCV
             go_enter Tryz.func109, Tryz.ntmps109
             go_wp2_with fail
             go_ret2
             exact Gives.mk rfl (by (repeat (first | (with_reducible (first | assumption | exact zR _ | exact zM _ _ _ _)) | apply zA | refine zS ?_ (by first | exact zL _ | exact zK _ _ | assumption) _ | apply zP | apply zD | apply zN))))
theorem index_any_w (p : Nat × Nat) (w : World) : Calls Tryz.prog 82 #[.complex .f64 p.1 p.2] w (Gives (optV (wIndex p)) w) := by
  have HI := Lib.hid (fun w => nint_any (p.1, 0) w)
  cases h : wInt (p.1, 0) with
  | none =>
    have HV := Lib.hid (show wIndex p = none by unfold wIndex; rw [h])
    rw [h] at HI
    rw [HV.out]
    unfold optV at HI ⊢
    obtain ⟨x, y⟩ := p
    clear h HV
    go_enter Tryz.func82, Tryz.ntmps82
    go_wp2_with fail
    refine (HI.out _).mono ?_
    rintro e w1 ⟨rfl, X1, rfl⟩
    go_wp2_with fail
    go_ret2
    exact Gives.mk rfl (by (repeat (first | (with_reducible (first | assumption | exact zR _ | exact zM _ _ _ _)) | apply zA | refine zS ?_ (by first | exact zL _ | exact zK _ _ | assumption) _ | apply zP | apply zD | apply zN)))
  | some n =>
    rw [h] at HI
    unfold optV at HI
    by_cases h1 : 1 ≤ n
    · by_cases h2 : n ≤ 1099511627777
      · have hp : p.1 = floatOfInt .f64 n := congrArg Prod.fst (wInt_some h).2
        have HR := Lib.hid (fun w => (show Calls Tryz.prog 107 #[.int .i64 (n - 1)] w (Gives (.complex .f64 p.1 4607182418800017408) w) from (show wRef (n - 1) = Value.complex .f64 p.1 4607182418800017408 by unfold wRef; rw [if_neg (by omega), Int.sub_add_cancel, hp]) ▸ ref_any (n - 1) w))
        have HS := Lib.hid (fun w => nsame_any p (p.1, 4607182418800017408) w)
        have hsf : sameF p (p.1, 4607182418800017408) = decide (p.2 = 4607182418800017408) := by
          have h5 := sameF_fits (p := p) (wInt_some h).1 (b := 1) ⟨by omega, by omega⟩
          rw [floatOf_one, ← hp] at h5
          rw [h5, Bool.eq_iff_iff, decide_eq_true_iff, decide_eq_true_iff]
          exact ⟨fun e => congrArg Prod.snd e, fun e => Prod.ext rfl e⟩
        rw [hsf] at HS
        by_cases h3 : p.2 = 4607182418800017408
        · have HV := Lib.hid (show optV (wIndex p) = .tuple #[.int .i64 (n - 1), .bool true] by unfold wIndex; rw [h]; simp only; rw [if_pos ⟨h1, h2, h3⟩]; rfl)
          rw [decide_eq_true h3] at HS
          rw [HV.out]
          obtain ⟨x, y⟩ := p
          have e1 := IntWalk.i64_in (n - 1) (by omega)
          simp only at HR HS HI ⊢
          clear h h3 hp hsf HV
          go_enter Tryz.func82, Tryz.ntmps82
          go_wp2_with fail
          refine (HI.out _).mono ?_
          rintro e w1 ⟨rfl, X1, rfl⟩
          go_wp2_with fail
          refine (HR.out _).mono ?_
          rintro e w1 ⟨rfl, X2, rfl⟩
          go_wp2_with fail
          refine (HS.out _).mono ?_
          rintro e w1 ⟨rfl, rfl⟩
          go_wp2_with fail
          go_ret2
          exact Gives.mk rfl (by (repeat (first | (with_reducible (first | assumption | exact zR _ | exact zM _ _ _ _)) | apply zA | refine zS ?_ (by first | exact zL _ | exact zK _ _ | assumption) _ | apply zP | apply zD | apply zN)))
        · have HV := Lib.hid (show optV (wIndex p) = .tuple #[.int .i64 0, .bool false] by unfold wIndex; rw [h]; simp only; rw [if_neg (fun hc => h3 hc.2.2)]; rfl)
          rw [decide_eq_false h3] at HS
          rw [HV.out]
          obtain ⟨x, y⟩ := p
          have e1 := IntWalk.i64_in (n - 1) (by omega)
          simp only at HR HS HI ⊢
          clear h h3 hp hsf HV
          go_enter Tryz.func82, Tryz.ntmps82
          go_wp2_with fail
          refine (HI.out _).mono ?_
          rintro e w1 ⟨rfl, X1, rfl⟩
          go_wp2_with fail
          refine (HR.out _).mono ?_
          rintro e w1 ⟨rfl, X2, rfl⟩
          go_wp2_with fail
          refine (HS.out _).mono ?_
          rintro e w1 ⟨rfl, rfl⟩
          go_wp2_with fail
          go_ret2
          exact Gives.mk rfl (by (repeat (first | (with_reducible (first | assumption | exact zR _ | exact zM _ _ _ _)) | apply zA | refine zS ?_ (by first | exact zL _ | exact zK _ _ | assumption) _ | apply zP | apply zD | apply zN)))
      · have HV := Lib.hid (show optV (wIndex p) = .tuple #[.int .i64 0, .bool false] by unfold wIndex; rw [h]; simp only; rw [if_neg (fun hc => h2 hc.2.1)]; rfl)
        rw [HV.out]
        obtain ⟨x, y⟩ := p
        have h4 : 1099511627777 < n := by omega
        clear h HV h2
        go_enter Tryz.func82, Tryz.ntmps82
        go_wp2_with fail
        refine (HI.out _).mono ?_
        rintro e w1 ⟨rfl, X1, rfl⟩
        go_wp2_with fail
        go_ret2
        exact Gives.mk rfl (by (repeat (first | (with_reducible (first | assumption | exact zR _ | exact zM _ _ _ _)) | apply zA | refine zS ?_ (by first | exact zL _ | exact zK _ _ | assumption) _ | apply zP | apply zD | apply zN)))
    · have HV := Lib.hid (show optV (wIndex p) = .tuple #[.int .i64 0, .bool false] by unfold wIndex; rw [h]; simp only; rw [if_neg (fun hc => h1 hc.1)]; rfl)
      rw [HV.out]
      obtain ⟨x, y⟩ := p
      have h4 : n < 1 := by omega
      clear h HV h1
      go_enter Tryz.func82, Tryz.ntmps82
      go_wp2_with fail
      refine (HI.out _).mono ?_
      rintro e w1 ⟨rfl, X1, rfl⟩
      go_wp2_with fail
      go_ret2
      exact Gives.mk rfl (by (repeat (first | (with_reducible (first | assumption | exact zR _ | exact zM _ _ _ _)) | apply zA | refine zS ?_ (by first | exact zL _ | exact zK _ _ | assumption) _ | apply zP | apply zD | apply zN)))
theorem is_any (p : Nat × Nat) (w : World) : Calls Tryz.prog 104 #[.complex .f64 p.1 p.2] w (Gives (.bool (wIs p)) w) := by
  have HI := Lib.hid (fun w => index_any_w p w)
  have HN := Lib.hid (fun w => none_any w)
  have HS := Lib.hid (fun w => nsame_any p (0, 4607182418800017408) w)
  have hsf : sameF p (0, 4607182418800017408) = decide (p = (0, 4607182418800017408)) := by
    have h5 := sameF_fits (p := p) (a := 0) (b := 1) ⟨by omega, by omega⟩ ⟨by omega, by omega⟩
    rw [floatOf_zero, floatOf_one] at h5
    exact h5
  rw [hsf] at HS
  have HV := Lib.hid (show wIs p = ((wIndex p).isSome || decide (p = (0, 4607182418800017408))) from rfl)
  rw [HV.out]
  unfold optV at HI
  unfold wNone at HN
  simp only at HS
  generalize decide (p = (0, 4607182418800017408)) = z at *
  generalize (wIndex p).getD 0 = i at *
  generalize (wIndex p).isSome = s at *
  obtain ⟨x, y⟩ := p
  simp only at HI HS ⊢
  clear HV hsf
  cases s
  · go_enter Tryz.func104, Tryz.ntmps104
    go_wp2_with fail
    refine (HI.out _).mono ?_
    rintro e w1 ⟨rfl, X1, rfl⟩
    go_wp2_with fail
    refine (HN.out _).mono ?_
    rintro e w1 ⟨rfl, X2, rfl⟩
    go_wp2_with fail
    refine (HS.out _).mono ?_
    rintro e w1 ⟨rfl, rfl⟩
    go_wp2_with fail
    go_ret
    exact Gives.mk (by simp) (by (repeat (first | (with_reducible (first | assumption | exact zR _ | exact zM _ _ _ _)) | apply zA | refine zS ?_ (by first | exact zL _ | exact zK _ _ | assumption) _ | apply zP | apply zD | apply zN)))
  · go_enter Tryz.func104, Tryz.ntmps104
    go_wp2_with fail
    refine (HI.out _).mono ?_
    rintro e w1 ⟨rfl, X1, rfl⟩
    go_wp2_with fail
    go_ret
    exact Gives.mk (by simp) (by (repeat (first | (with_reducible (first | assumption | exact zR _ | exact zM _ _ _ _)) | apply zA | refine zS ?_ (by first | exact zL _ | exact zK _ _ | assumption) _ | apply zP | apply zD | apply zN)))
theorem tell_any_w (p : Nat × Nat) (w : World) : Calls Tryz.prog 173 #[.complex .f64 p.1 p.2] w (Gives (tellV (wTell p)) w) := by
  have HK := Lib.hid (fun w => nint_any (p.1, 0) w)
  have HM := Lib.hid (fun w => nint_any (p.2, 0) w)
  have hd : wTell p = (match wInt (p.1, 0), wInt (p.2, 0) with | some k, some m => if 0 ≤ k ∧ k ≤ 1099511627776 ∧ 0 ≤ m ∧ m ≤ 1099511627776 then some (k, m) else none | _, _ => none) := rfl
  unfold optV at HK HM
  generalize wInt (p.1, 0) = a at *
  generalize wInt (p.2, 0) = b at *
  obtain ⟨x, y⟩ := p
  simp only at HK HM
  have fin : ∀ {v : Value}, tellV (wTell (x, y)) = v → Calls Tryz.prog 173 #[.complex .f64 x y] w (Gives v w) → Calls Tryz.prog 173 #[.complex .f64 x y] w (Gives (tellV (wTell (x, y))) w) := fun e h => e ▸ h
  rcases a with _ | k
  · refine fin (v := .tuple #[.int .i64 0, .int .i64 0, .bool false]) (by rw [hd]; rfl) ?_
    clear hd fin
    go_enter Tryz.func173, Tryz.ntmps173
    go_wp2_with fail
    refine (HK.out _).mono ?_
    rintro e w1 ⟨rfl, X1, rfl⟩
    go_wp2_with fail
    refine (HM.out _).mono ?_
    rintro e w1 ⟨rfl, X2, rfl⟩
    go_wp2_with fail
    go_ret3
    exact Gives.mk rfl (by (repeat (first | (with_reducible (first | assumption | exact zR _ | exact zM _ _ _ _)) | apply zA | refine zS ?_ (by first | exact zL _ | exact zK _ _ | assumption) _ | apply zP | apply zD | apply zN)))
  · rcases b with _ | m
    · refine fin (v := .tuple #[.int .i64 0, .int .i64 0, .bool false]) (by rw [hd]; rfl) ?_
      clear hd fin
      go_enter Tryz.func173, Tryz.ntmps173
      go_wp2_with fail
      refine (HK.out _).mono ?_
      rintro e w1 ⟨rfl, X1, rfl⟩
      go_wp2_with fail
      refine (HM.out _).mono ?_
      rintro e w1 ⟨rfl, X2, rfl⟩
      go_wp2_with fail
      go_ret3
      exact Gives.mk rfl (by (repeat (first | (with_reducible (first | assumption | exact zR _ | exact zM _ _ _ _)) | apply zA | refine zS ?_ (by first | exact zL _ | exact zK _ _ | assumption) _ | apply zP | apply zD | apply zN)))
    · simp only [Option.getD_some, Option.isSome_some] at HK HM
      by_cases h1 : k < 0
      · refine fin (v := .tuple #[.int .i64 0, .int .i64 0, .bool false]) (by rw [hd]; simp only; rw [if_neg (by omega)]; rfl) ?_
        clear hd fin
        go_enter Tryz.func173, Tryz.ntmps173
        go_wp2_with fail
        refine (HK.out _).mono ?_
        rintro e w1 ⟨rfl, X1, rfl⟩
        go_wp2_with fail
        refine (HM.out _).mono ?_
        rintro e w1 ⟨rfl, X2, rfl⟩
        go_wp2_with fail
        go_ret3
        exact Gives.mk rfl (by (repeat (first | (with_reducible (first | assumption | exact zR _ | exact zM _ _ _ _)) | apply zA | refine zS ?_ (by first | exact zL _ | exact zK _ _ | assumption) _ | apply zP | apply zD | apply zN)))
      by_cases h2 : 1099511627776 < k
      · refine fin (v := .tuple #[.int .i64 0, .int .i64 0, .bool false]) (by rw [hd]; simp only; rw [if_neg (by omega)]; rfl) ?_
        clear hd fin
        go_enter Tryz.func173, Tryz.ntmps173
        go_wp2_with fail
        refine (HK.out _).mono ?_
        rintro e w1 ⟨rfl, X1, rfl⟩
        go_wp2_with fail
        refine (HM.out _).mono ?_
        rintro e w1 ⟨rfl, X2, rfl⟩
        go_wp2_with fail
        go_ret3
        exact Gives.mk rfl (by (repeat (first | (with_reducible (first | assumption | exact zR _ | exact zM _ _ _ _)) | apply zA | refine zS ?_ (by first | exact zL _ | exact zK _ _ | assumption) _ | apply zP | apply zD | apply zN)))
      by_cases h3 : m < 0
      · refine fin (v := .tuple #[.int .i64 0, .int .i64 0, .bool false]) (by rw [hd]; simp only; rw [if_neg (by omega)]; rfl) ?_
        clear hd fin
        go_enter Tryz.func173, Tryz.ntmps173
        go_wp2_with fail
        refine (HK.out _).mono ?_
        rintro e w1 ⟨rfl, X1, rfl⟩
        go_wp2_with fail
        refine (HM.out _).mono ?_
        rintro e w1 ⟨rfl, X2, rfl⟩
        go_wp2_with fail
        go_ret3
        exact Gives.mk rfl (by (repeat (first | (with_reducible (first | assumption | exact zR _ | exact zM _ _ _ _)) | apply zA | refine zS ?_ (by first | exact zL _ | exact zK _ _ | assumption) _ | apply zP | apply zD | apply zN)))
      by_cases h4 : 1099511627776 < m
      · refine fin (v := .tuple #[.int .i64 0, .int .i64 0, .bool false]) (by rw [hd]; simp only; rw [if_neg (by omega)]; rfl) ?_
        clear hd fin
        go_enter Tryz.func173, Tryz.ntmps173
        go_wp2_with fail
        refine (HK.out _).mono ?_
        rintro e w1 ⟨rfl, X1, rfl⟩
        go_wp2_with fail
        refine (HM.out _).mono ?_
        rintro e w1 ⟨rfl, X2, rfl⟩
        go_wp2_with fail
        go_ret3
        exact Gives.mk rfl (by (repeat (first | (with_reducible (first | assumption | exact zR _ | exact zM _ _ _ _)) | apply zA | refine zS ?_ (by first | exact zL _ | exact zK _ _ | assumption) _ | apply zP | apply zD | apply zN)))
      · refine fin (v := .tuple #[.int .i64 k, .int .i64 m, .bool true]) (by rw [hd]; simp only; rw [if_pos (by omega)]; rfl) ?_
        have h5 : 0 ≤ k := by omega
        have h6 : k ≤ 1099511627776 := by omega
        have h7 : 0 ≤ m := by omega
        have h8 : m ≤ 1099511627776 := by omega
        clear hd fin h1 h2 h3 h4
        go_enter Tryz.func173, Tryz.ntmps173
        go_wp2_with fail
        refine (HK.out _).mono ?_
        rintro e w1 ⟨rfl, X1, rfl⟩
        go_wp2_with fail
        refine (HM.out _).mono ?_
        rintro e w1 ⟨rfl, X2, rfl⟩
        go_wp2_with fail
        go_ret3
        exact Gives.mk rfl (by (repeat (first | (with_reducible (first | assumption | exact zR _ | exact zM _ _ _ _)) | apply zA | refine zS ?_ (by first | exact zL _ | exact zK _ _ | assumption) _ | apply zP | apply zD | apply zN)))
end Go.Proofs.YtoaehfdjffejeaaGreat

/-
  Merged: XTraceS, XTraceP, XTraceF, XTraceR, XTraceG.
-/
/-
  trace: the program's state, in memory; New, the readers; read.
-/
namespace Go.Proofs.YtoaehfdjffejeaaGreat
open Go Go.RowKit
set_option linter.unusedVariables false
set_option linter.unnecessarySimpa false
set_option linter.unusedSimpArgs false
set_option maxHeartbeats 2000000
set_option maxRecDepth 100000
structure TraceS where
  c : Cnf
  head : Int
  sense : Bool
  pc : Int
  arr : Bool
  refs : List Bool
  frag : Int
  j : Int
  words : List Int
  next : Int
  n : Int
  mode : Int
  base : Int
  e : Int
  steps : Int
namespace TraceS
def cells (S : TraceS) (sA : Option Addr) (sc : Nat) (wA : Option Addr) (wc : Nat) : List Value := [.int .i64 S.c.frags, .int .i64 S.c.spine, .int .i64 S.c.globals, .int .i64 S.c.threads, .int .i64 S.c.locals, .int .i64 S.c.cache, .int .i64 S.c.stack, .int .i64 S.c.low, .slice S.c.A S.c.shapes.length S.c.cap,
  .int .i64 S.head, .bool S.sense, .int .i64 S.pc, .bool S.arr, .slice sA S.refs.length sc, .int .i64 S.frag, .int .i64 S.j, .slice wA S.words.length wc, .int .i64 S.next, .int .i64 S.n, .int .i64 S.mode, .int .i64 S.base, .int .i64 S.e, .int .i64 S.steps]
def fresh (c : Cnf) (head : Int) (sense : Bool) : TraceS := ⟨c, head, sense, 0, false, [], head, 0, [], 0, 0, 0, 0, 0, 0⟩
def okAt (S : TraceS) (frag k : Int) : Bool := decide (S.c.check = 0 ∧ 0 ≤ frag ∧ frag < S.c.frags ∧ 0 ≤ k ∧ k < 8)
def rd (S : TraceS) (m : MemS) (frag k : Int) : Option (Nat × Nat) := if S.okAt frag k && inB (frag * 8 + k) m.l.length then some (m.peek (frag * 8 + k)) else none
def rdM (S : TraceS) (m : MemS) (frag k : Int) : MemS := if S.okAt frag k then m.tick else m
def shp (S : TraceS) : Shp := ⟨S.arr, none, 0, S.refs⟩
end TraceS
structure TrPl where
  sA : Option Addr
  sc : Nat
  wA : Option Addr
  wc : Nat
def trdV (o : Option (Nat × Nat)) : Value := .tuple #[.complex .f64 (o.getD (0, 0)).1 (o.getD (0, 0)).2, .bool o.isSome]
end Go.Proofs.YtoaehfdjffejeaaGreat
/-
  trace: what a step does, as plain data. No walk here.
-/
namespace Go
def TabS.white (T : TabS) (i : Int) (s : Bool) : Bool := T.head i && !T.black i s
def TabS.grey (T : TabS) (i : Int) (s : Bool) : TabS := if T.white i s then T.mark i s else T
def PileS.push (p : PileS) (i : Int) : PileS := if (p.l.length : Int) = p.most then { p with lost := true } else { p with l := p.l ++ [i] }
def PileS.grey (p : PileS) (T : TabS) (i : Int) (s : Bool) : PileS := if T.white i s then p.push i else p
end Go
namespace Go.Proofs.YtoaehfdjffejeaaGreat
open Go Go.RowKit
set_option linter.unusedVariables false
set_option linter.unusedSimpArgs false
namespace TraceS
def frs (S : TraceS) : Int := if S.arr then sData S.n else S.shp.size 0
def refsL (S : TraceS) : List Int :=
  if S.arr then (if S.refs.getD 0 false then (List.range (min S.n ((S.j + 1) * 8) - S.j * 8).toNat).map (fun x => ((x : Nat) : Int)) else [])
  else (List.range S.refs.length).filterMap fun k => if S.refs.getD k false && decide (Shp.placeF k = S.j) then some (Shp.placeW k) else none
def enters (S : TraceS) : TraceS := if S.mode = 2 then { S with frag := S.base + S.j } else S
def entersPc (S : TraceS) : Int := if S.mode = 2 then 4 else 8
def goes (S : TraceS) : TraceS := if S.words ≠ [] then S else if S.frs ≤ S.j + 1 then S else if S.arr = false then S else { S with j := S.j + 1 }.enters
def goesPc (S : TraceS) : Int := if S.words ≠ [] then 1 else if S.frs ≤ S.j + 1 then 9 else if S.arr = false then 3 else { S with j := S.j + 1 }.entersPc
def gone (S : TraceS) : TraceS := { S.goes with pc := S.goesPc }
def first (S : TraceS) (w : Nat × Nat) : TraceS × Bool := match wTell w with
  | none => (S, false)
  | some (kind, mode) => match S.c.shapeAt kind with
    | none => (S, false)
    | some (arr, refs) => if 1 < mode ∨ (arr = true ∧ 0 < mode) then (S, false)
      else if arr then ({ S with arr := arr, refs := refs, pc := 5 }, true)
      else (TraceS.gone { S with arr := arr, refs := refs, words := TraceS.refsL { S with arr := arr, refs := refs } }, true)
end TraceS
structure TrW where
  s : TraceS
  m : MemS
  T : TabS
  p : PileS
  k : Int
namespace TrW
def head (w : TrW) : TrW × Bool := match w.s.rd w.m w.s.head 1 with
  | none => ({ w with m := w.s.rdM w.m w.s.head 1 }, false)
  | some v => ({ w with m := w.s.rdM w.m w.s.head 1, s := (w.s.first v).1 }, (w.s.first v).2)
def field (w : TrW) : TrW × Bool := match w.s.rd w.m w.s.frag (w.s.words.headD 0) with
  | none => ({ w with m := w.s.rdM w.m w.s.frag (w.s.words.headD 0) }, false)
  | some v => if wIs v = false then ({ w with m := w.s.rdM w.m w.s.frag (w.s.words.headD 0) }, false)
    else if (wIndex v).isSome then ({ w with m := w.s.rdM w.m w.s.frag (w.s.words.headD 0), s := { w.s with words := w.s.words.tail, next := (wIndex v).getD 0, pc := 2 } }, true)
    else ({ w with m := w.s.rdM w.m w.s.frag (w.s.words.headD 0), s := TraceS.gone { w.s with words := w.s.words.tail, next := 0 } }, true)
def grey (w : TrW) : TrW × Bool := ({ w with T := w.T.grey w.s.next w.s.sense, p := w.p.grey w.T w.s.next w.s.sense, k := w.k + 1, s := w.s.gone }, true)
def link (w : TrW) : TrW × Bool := match w.s.rd w.m w.s.frag 0 with
  | none => ({ w with m := w.s.rdM w.m w.s.frag 0 }, false)
  | some v => match wIndex v with
    | none => ({ w with m := w.s.rdM w.m w.s.frag 0 }, false)
    | some i => if i < w.s.c.frags then ({ w with m := w.s.rdM w.m w.s.frag 0, s := { w.s with frag := i, pc := 4, j := w.s.j + 1 } }, true) else ({ w with m := w.s.rdM w.m w.s.frag 0 }, false)
def part (w : TrW) : TrW × Bool := ({ w with T := w.T.mark w.s.frag w.s.sense, k := w.k + 1, s := TraceS.gone { w.s with words := w.s.refsL } }, true)
def length (w : TrW) : TrW × Bool := match w.s.rd w.m w.s.head 2 with
  | none => ({ w with m := w.s.rdM w.m w.s.head 2 }, false)
  | some v => match wInt v with
    | none => ({ w with m := w.s.rdM w.m w.s.head 2, s := { w.s with n := 0 } }, false)
    | some n => if n < 0 ∨ 512 < n then ({ w with m := w.s.rdM w.m w.s.head 2, s := { w.s with n := n } }, false) else ({ w with m := w.s.rdM w.m w.s.head 2, s := { w.s with n := n, pc := if n = 0 then 9 else 6 } }, true)
def mode (w : TrW) : TrW × Bool := match w.s.rd w.m w.s.head 3 with
  | none => ({ w with m := w.s.rdM w.m w.s.head 3 }, false)
  | some v => match wInt v with
    | none => ({ w with m := w.s.rdM w.m w.s.head 3, s := { w.s with mode := 0 } }, false)
    | some n => if n < 0 ∨ 2 < n ∨ decide (n = 0) ≠ decide (sData w.s.n ≤ 4) then ({ w with m := w.s.rdM w.m w.s.head 3, s := { w.s with mode := n } }, false)
      else ({ w with m := w.s.rdM w.m w.s.head 3, s := { w.s with mode := n, pc := if n = 0 then 8 else 7 } }, true)
def base (w : TrW) : TrW × Bool := match w.s.rd w.m w.s.head 4 with
  | none => ({ w with m := w.s.rdM w.m w.s.head 4 }, false)
  | some v => if w.s.mode = 1 then (match wInt v with
      | none => ({ w with m := w.s.rdM w.m w.s.head 4, s := { w.s with base := 0 } }, false)
      | some a => if a < 0 ∨ cWords w.s.c ≤ a then ({ w with m := w.s.rdM w.m w.s.head 4, s := { w.s with base := a } }, false) else ({ w with m := w.s.rdM w.m w.s.head 4, s := { w.s with base := a, pc := 8 } }, true))
    else (match wIndex v with
      | none => ({ w with m := w.s.rdM w.m w.s.head 4, s := { w.s with base := 0 } }, false)
      | some i => if w.s.c.frags < i + sData w.s.n then ({ w with m := w.s.rdM w.m w.s.head 4, s := { w.s with base := i } }, false) else ({ w with m := w.s.rdM w.m w.s.head 4, s := { w.s with base := i, frag := i + w.s.j, pc := 4 } }, true))
def slotRd (w : TrW) : Option (Nat × Nat) := if w.s.mode = 0 then w.s.rd w.m w.s.head (4 + w.s.j) else if inB (w.s.base + 2 + w.s.j) w.m.l.length then some (w.m.peek (w.s.base + 2 + w.s.j)) else none
def slotM (w : TrW) : MemS := if w.s.mode = 0 then w.s.rdM w.m w.s.head (4 + w.s.j) else w.m.tick
def slot (w : TrW) : TrW × Bool := match w.slotRd with
  | none => ({ w with m := w.slotM }, false)
  | some v => ({ w with m := w.slotM, s := { w.s with frag := (wIndex v).getD 0, pc := 4 } }, (wIndex v).isSome && decide ((wIndex v).getD 0 < w.s.c.frags))
def does (w : TrW) : TrW × Bool :=
  if w.s.pc = 0 then w.head
  else if 5 ≤ w.s.pc then (if w.s.pc = 6 then w.mode else if w.s.pc = 7 then w.base else if w.s.pc = 8 then w.slot else w.length)
  else if w.s.pc = 2 then w.grey else if w.s.pc = 3 then w.link else if w.s.pc = 4 then w.part else w.field
def ticked (w : TrW) : TrW := { w with s := { w.s with steps := w.s.steps + 1 } }
def ended (w : TrW) : TrW := { w with s := { w.s with pc := 9, e := 10 } }
def step (w : TrW) : TrW := if w.s.pc = 9 then w else if w.ticked.does.2 then w.ticked.does.1 else w.ticked.does.1.ended
end TrW
end Go.Proofs.YtoaehfdjffejeaaGreat
/-
  trace: fragments, enters, goes.
-/
namespace Go.Proofs.YtoaehfdjffejeaaGreat
open Go Go.RowKit
set_option linter.unusedVariables false
set_option linter.unnecessarySimpa false
set_option linter.unusedSimpArgs false
set_option maxHeartbeats 2000000
set_option maxRecDepth 100000
end Go.Proofs.YtoaehfdjffejeaaGreat
/-
  trace: refs.
-/
namespace Go.Proofs.YtoaehfdjffejeaaGreat
open Go Go.RowKit
set_option linter.unusedVariables false
set_option linter.unnecessarySimpa false
set_option linter.unusedSimpArgs false
set_option maxHeartbeats 4000000
set_option maxRecDepth 100000
def minF (x y : Int) : Int := if y < x then y else x
@[go_sem] theorem min_intsF (ats : Array TypeId) (ty : TypeId) (x y : Int) : Builtin.min_ ats ty #[.int .i64 x, .int .i64 y] = pure (.int .i64 (minF x y)) := rfl
def RefsGot (g : GW) (l : List Int) (e : Ending) (w' : World) : Prop := ∃ A c, e = .returned (.slice A l.length c) ∧ Ext g.w w' ∧ (l.length ≤ c ∧ c ≤ 9223372036854775807) ∧ CellsAt w' A (l.map (Value.int .i64)) ∧ ∀ a, A = some a → g.w.heap.size ≤ a.block
def TraceS.elsN (S : TraceS) : Nat := (min S.n ((S.j + 1) * 8) - S.j * 8).toNat
def numsL (k : Nat) : List Int := (List.range k).map (fun x => ((x : Nat) : Int))
def fieldsL (refs : List Bool) (j : Int) : Nat → List Int
  | 0 => []
  | k + 1 => fieldsL refs j k ++ if refs.getD k false && decide (Shp.placeF k = j) then [Shp.placeW k] else []
end Go.Proofs.YtoaehfdjffejeaaGreat
/-
  trace: first.
-/
namespace Go.Proofs.YtoaehfdjffejeaaGreat
open Go Go.RowKit
set_option linter.unusedVariables false
set_option linter.unnecessarySimpa false
set_option linter.unusedSimpArgs false
set_option maxHeartbeats 4000000
set_option maxRecDepth 100000
end Go.Proofs.YtoaehfdjffejeaaGreat

