import Derived.Test.YtnebimabokgofaaGreatMgMem
import Derived.Laws.FloatArith
/-
  Whole numbers as floats, and back: up to 2^53 nothing is lost. No program here.
-/
namespace Go
open Ieee
theorem log_bd {m : Nat} (h : 0 < m) : 2 ^ m.log2 ≤ m ∧ m < 2 ^ (m.log2 + 1) := ⟨Nat.log2_self_le (by omega), Nat.lt_log2_self⟩
/-- What the word of a whole number stands for. -/
theorem read_whole (neg : Bool) {m : Nat} (h0 : 0 < m) (h1 : m < 9007199254740992) :
    double.read (double.write (.number neg m 0)) = .number neg (m * 2 ^ (52 - m.log2)) (m.log2 - 52 : Int) ∧ m.log2 ≤ 52 := by
  obtain ⟨hl, hu⟩ := log_bd h0
  have hL : m.log2 ≤ 52 := by
    refine Nat.le_of_not_lt fun h => ?_
    have : 2 ^ 53 ≤ 2 ^ m.log2 := Nat.pow_le_pow_right (by decide) h
    have e : (2 : Nat) ^ 53 = 9007199254740992 := by decide
    omega
  refine ⟨?_, hL⟩
  generalize hg : m.log2 = L at *
  have hk1 : 2 ^ 52 ≤ m * 2 ^ (52 - L) := by
    have : 2 ^ L * 2 ^ (52 - L) ≤ m * 2 ^ (52 - L) := Nat.mul_le_mul_right _ hl
    rw [← Nat.pow_add, show L + (52 - L) = 52 by omega] at this
    exact this
  have hk2 : m * 2 ^ (52 - L) < 2 ^ 53 := by
    have : m * 2 ^ (52 - L) < 2 ^ (L + 1) * 2 ^ (52 - L) := Nat.mul_lt_mul_of_pos_right hu (Nat.pow_pos (by decide))
    rw [← Nat.pow_add, show L + 1 + (52 - L) = 53 by omega] at this
    exact this
  have hlast : max ((0 : Int) + (L : Int) - (52 : Nat)) double.leastPlace = (L : Int) - 52 := by
    have : double.leastPlace = -1074 := by decide
    rw [this]
    omega
  have hw : double.write (.number neg m 0) = double.word neg ((L + 1022) * 2 ^ 52 + m * 2 ^ (52 - L)) := by
    show double.nearest neg m 0 = _
    unfold Format.nearest
    rw [if_neg (by omega)]
    simp only [show double.fractionBits = 52 from rfl, hg, hlast]
    have e1 : ((L : Int) - 52 - double.leastPlace).toNat = L + 1022 := by
      have : double.leastPlace = -1074 := by decide
      rw [this]; omega
    have e2 : ((0 : Int) - ((L : Int) - 52)).toNat = 52 - L := by omega
    have e3 : ((L : Int) - 52 - 0).toNat = 0 := by omega
    rw [e1, e2, e3]
    have e4 : Toward.even.cut neg (m <<< (52 - L)) 0 = m * 2 ^ (52 - L) := by
      unfold Toward.cut
      simp [Nat.shiftLeft_eq, Nat.mod_one]
    rw [e4]
    have e5 : double.binade = 2 ^ 52 := by decide
    have e6 : double.infRung = 2047 * 2 ^ 52 := by decide
    rw [e5, e6, Nat.min_eq_left]
    omega
  rw [hw]
  generalize hK : m * 2 ^ (52 - L) = K at *
  have e5 : double.binade = 4503599627370496 := by decide
  have e6 : double.infRung = 9218868437227405312 := by decide
  have e7 : double.signWeight = 9223372036854775808 := by decide
  have e8 : double.leastPlace = -1074 := by decide
  have p52 : (2 : Nat) ^ 52 = 4503599627370496 := by decide
  have p53 : (2 : Nat) ^ 53 = 9007199254740992 := by decide
  rw [p52] at *
  rw [p53] at hk2
  have hr1 : (L + 1022) * 4503599627370496 + K < 9218868437227405312 := by omega
  have hmod : double.word neg ((L + 1022) * 4503599627370496 + K) % double.signWeight = (L + 1022) * 4503599627370496 + K := by
    unfold Format.word
    rw [e7]
    split <;> omega
  have hneg : (double.word neg ((L + 1022) * 4503599627370496 + K) / double.signWeight % 2 == 1) = neg := by
    unfold Format.word
    rw [e7]
    cases neg
    · rw [if_neg (by simp), show ((L + 1022) * 4503599627370496 + K) / 9223372036854775808 = 0 by omega]; rfl
    · rw [if_pos rfl, show (9223372036854775808 + ((L + 1022) * 4503599627370496 + K)) / 9223372036854775808 = 1 by omega]; rfl
  unfold Format.read
  simp only
  rw [hmod, hneg, e5, e6, e8, if_neg (by omega), if_pos hr1]
  congr 1
  · omega
  · omega
theorem read_zero : double.read (double.write (.number false 0 0)) = .number false 0 (-1074) := by decide +kernel
theorem read_top (neg : Bool) : double.read (double.write (.number neg 9007199254740992 0)) = .number neg 4503599627370496 1 := by cases neg <;> decide +kernel
/-- A whole number that is not too great, as a float. -/
structure Fits (n : Int) : Prop where
  lo : -9007199254740992 ≤ n
  hi : n ≤ 9007199254740992
theorem signed_shift (neg : Bool) (m a : Nat) : signed neg m a = (if neg then -1 else 1) * ((m * 2 ^ a : Nat) : Int) := by
  unfold signed
  rw [Nat.shiftLeft_eq]
  cases neg <;> simp
theorem zero_nat (a : Nat) : 0 = (0 : Int).natAbs * a := by rw [Int.natAbs_zero, Nat.zero_mul]
/-- What is read, in one form. -/
theorem read_fits {n : Int} (h : Fits n) : ∃ (k : Nat) (j : Int), double.read (floatOfInt .f64 n) = .number (decide (n < 0)) k j ∧ -1074 ≤ j ∧ j ≤ 1 ∧ k < 2 ^ 53 ∧ ((j ≤ 0 ∧ k = n.natAbs * 2 ^ (-j).toNat) ∨ (j = 1 ∧ k = 4503599627370496 ∧ n.natAbs = 9007199254740992)) := by
  obtain ⟨h1, h2⟩ := h
  show ∃ k j, double.read (double.write (.number (decide (n < 0)) n.natAbs 0)) = _ ∧ _
  by_cases h0 : n = 0
  · subst h0
    exact ⟨0, -1074, read_zero, by omega, by omega, by decide, Or.inl ⟨by decide, zero_nat _⟩⟩
  · by_cases ht : n.natAbs = 9007199254740992
    · rw [ht]
      exact ⟨_, _, read_top _, by omega, by omega, by decide, Or.inr ⟨rfl, rfl, rfl⟩⟩
    · obtain ⟨r1, r2⟩ := read_whole (decide (n < 0)) (m := n.natAbs) (by omega) (by omega)
      have hu := (log_bd (m := n.natAbs) (by omega)).2
      refine ⟨_, _, r1, by omega, by omega, ?_, Or.inl ⟨by omega, ?_⟩⟩
      · have : n.natAbs * 2 ^ (52 - n.natAbs.log2) < 2 ^ (n.natAbs.log2 + 1) * 2 ^ (52 - n.natAbs.log2) := Nat.mul_lt_mul_of_pos_right hu (Nat.pow_pos (by decide))
        rw [← Nat.pow_add, show n.natAbs.log2 + 1 + (52 - n.natAbs.log2) = 53 by omega] at this
        exact this
      · rw [show (-((n.natAbs.log2 : Int) - 52)).toNat = 52 - n.natAbs.log2 by omega]
theorem toInt_fits {n : Int} (h : Fits n) : (double.read (floatOfInt .f64 n)).toInt .zero = some n := by
  obtain ⟨k, j, hr, hj0, hj1, hk, hc⟩ := read_fits h
  rw [hr]
  unfold Datum.toInt Datum.integral
  simp only
  rw [signed_shift]
  rcases hc with ⟨hj, rfl⟩ | ⟨rfl, rfl, hn⟩
  · have e1 : j.toNat = 0 := by omega
    rw [e1, Nat.shiftLeft_zero]
    have e2 : Toward.zero.cut (decide (n < 0)) (n.natAbs * 2 ^ (-j).toNat) (-j).toNat = n.natAbs := by
      unfold Toward.cut
      simp only [Bool.toNat_false, Nat.add_zero, Nat.shiftLeft_eq, Nat.one_mul]
      by_cases h0 : n.natAbs = 0
      · rw [h0]; simp
      · have hlog : (-j).toNat ≤ (n.natAbs * 2 ^ (-j).toNat).log2 := by
          refine (Nat.le_log2 (by have := Nat.pow_pos (n := (-j).toNat) (show 0 < 2 by decide); exact Nat.ne_of_gt (Nat.mul_pos (by omega) this))).2 ?_
          exact Nat.le_mul_of_pos_left _ (by omega)
        rw [Nat.min_eq_left (by omega)]
        exact Nat.mul_div_cancel _ (Nat.pow_pos (by decide))
    rw [e2]
    by_cases hs : n < 0
    · rw [decide_eq_true hs]; simp; omega
    · rw [decide_eq_false hs]; simp; omega
  · have e2 : Toward.zero.cut (decide (n < 0)) (4503599627370496 <<< (1 : Int).toNat) (-(1 : Int)).toNat = 9007199254740992 := by
      cases (decide (n < 0)) <;> decide +kernel
    rw [e2]
    by_cases hs : n < 0
    · rw [decide_eq_true hs]; simp; omega
    · rw [decide_eq_false hs]; simp; omega
theorem floatToInt_fits {n : Int} (h : Fits n) : floatToIntVal .f64 (floatOfInt .f64 n) .i64 = some n := by
  unfold floatToIntVal
  rw [show (FloatKind.decode .f64 (floatOfInt .f64 n)).toInt .zero = some n from toInt_fits h]
  simp only
  rw [if_pos]
  have e1 : IntKind.min .i64 = -9223372036854775808 := by decide
  have e2 : IntKind.max .i64 = 9223372036854775807 := by decide
  have := h.lo
  have := h.hi
  rw [e1, e2]
  omega
theorem float_inj {a b : Int} (ha : Fits a) (hb : Fits b) (h : floatOfInt .f64 a = floatOfInt .f64 b) : a = b := by
  have h1 := toInt_fits ha
  rw [h, toInt_fits hb] at h1
  injection h1 with h1
  exact h1.symm
theorem scaled {n : Int} {k : Nat} {j base : Int} (hb : base ≤ j) (hb0 : base ≤ 0) (hc : (j ≤ 0 ∧ k = n.natAbs * 2 ^ (-j).toNat) ∨ (j = 1 ∧ k = 4503599627370496 ∧ n.natAbs = 9007199254740992)) :
    signed (decide (n < 0)) k (j - base).toNat = n * ((2 ^ (-base).toNat : Nat) : Int) := by
  have hk : k * 2 ^ (j - base).toNat = n.natAbs * 2 ^ (-base).toNat := by
    rcases hc with ⟨hj, rfl⟩ | ⟨rfl, rfl, hn⟩
    · rw [Nat.mul_assoc, ← Nat.pow_add, show (-j).toNat + (j - base).toNat = (-base).toNat by omega]
    · rw [hn, show (1 - base).toNat = (-base).toNat + 1 by omega, Nat.pow_succ]
      omega
  rw [signed_shift, hk, Int.natCast_mul, ← Int.mul_assoc]
  congr 1
  by_cases hs : n < 0
  · rw [decide_eq_true hs, if_pos rfl]; omega
  · rw [decide_eq_false hs, if_neg (by simp)]; omega
theorem cmp_lt {a b : Int} (h : a < b) : compare a b = .lt := by
  show compareOfLessAndEq a b = _
  unfold compareOfLessAndEq
  rw [if_pos h]
theorem cmp_eq {a b : Int} (h : a = b) : compare a b = .eq := by
  show compareOfLessAndEq a b = _
  unfold compareOfLessAndEq
  rw [if_neg (by omega), if_pos h]
theorem cmp_gt {a b : Int} (h : b < a) : compare a b = .gt := by
  show compareOfLessAndEq a b = _
  unfold compareOfLessAndEq
  rw [if_neg (by omega), if_neg (by omega)]
theorem compare_scale (a b : Int) {c : Nat} (hc : 0 < c) : compare (a * (c : Int)) (b * (c : Int)) = compare a b := by
  have hc' : (0 : Int) < c := by omega
  rcases Int.lt_trichotomy a b with h | h | h
  · rw [cmp_lt h, cmp_lt (Int.mul_lt_mul_of_pos_right h hc')]
  · subst h
    rw [cmp_eq rfl, cmp_eq rfl]
  · rw [cmp_gt h, cmp_gt (Int.mul_lt_mul_of_pos_right h hc')]
/-- They stand to each other as the numbers do. -/
theorem order_fits {a b : Int} (ha : Fits a) (hb : Fits b) : double.order (floatOfInt .f64 a) (floatOfInt .f64 b) = some (compare a b) := by
  obtain ⟨k1, j1, hr1, l1, u1, -, c1⟩ := read_fits ha
  obtain ⟨k2, j2, hr2, l2, u2, -, c2⟩ := read_fits hb
  unfold Format.order
  rw [hr1, hr2]
  show some (compare (signed (decide (a < 0)) k1 (j1 - min j1 j2).toNat) (signed (decide (b < 0)) k2 (j2 - min j1 j2).toNat)) = _
  by_cases ht : j1 = 1 ∧ j2 = 1
  · obtain ⟨rfl, rfl⟩ := ht
    rcases c1 with ⟨h, -⟩ | ⟨-, rfl, h1⟩
    · omega
    rcases c2 with ⟨h, -⟩ | ⟨-, rfl, h2⟩
    · omega
    rw [signed_shift, signed_shift]
    have e : ((1 : Int) - min 1 1).toNat = 0 := by decide
    rw [e]
    by_cases s1 : a < 0 <;> by_cases s2 : b < 0
    · rw [decide_eq_true s1, decide_eq_true s2, show a = b by omega]
      rw [cmp_eq rfl, cmp_eq rfl]
    · rw [decide_eq_true s1, decide_eq_false s2, cmp_lt (show a < b by omega)]
      decide
    · rw [decide_eq_false s1, decide_eq_true s2, cmp_gt (show b < a by omega)]
      decide
    · rw [decide_eq_false s1, decide_eq_false s2, show a = b by omega]
      rw [cmp_eq rfl, cmp_eq rfl]
  · rw [scaled (Int.min_le_left _ _) (by omega) c1, scaled (Int.min_le_right _ _) (by omega) c2, compare_scale _ _ (Nat.pow_pos (by decide))]
theorem order_self {a : Int} (ha : Fits a) : (FloatKind.format .f64).order (floatOfInt .f64 a) (floatOfInt .f64 a) = some .eq := (order_fits ha ha).trans (by rw [cmp_eq rfl])
theorem order_low {a : Int} (ha : Fits a) : ((FloatKind.format .f64).order (floatOfInt .f64 a) 14069245235905429504 == some .gt || (FloatKind.format .f64).order (floatOfInt .f64 a) 14069245235905429504 == some .eq) = true := by
  have e : (14069245235905429504 : Nat) = floatOfInt .f64 (-9007199254740992) := by decide +kernel
  have h := order_fits ha (b := -9007199254740992) ⟨by omega, by omega⟩
  rw [e, show (FloatKind.format .f64) = double from rfl, h]
  have := ha.lo
  rcases Int.lt_or_eq_of_le this with hl | hl
  · rw [cmp_gt hl]; rfl
  · rw [cmp_eq hl.symm]; rfl
theorem order_high {a : Int} (ha : Fits a) : ((FloatKind.format .f64).order (floatOfInt .f64 a) 4845873199050653696 == some .lt || (FloatKind.format .f64).order (floatOfInt .f64 a) 4845873199050653696 == some .eq) = true := by
  have e : (4845873199050653696 : Nat) = floatOfInt .f64 9007199254740992 := by decide +kernel
  have h := order_fits ha (b := 9007199254740992) ⟨by omega, by omega⟩
  rw [e, show (FloatKind.format .f64) = double from rfl, h]
  have := ha.hi
  rcases Int.lt_or_eq_of_le this with hl | hl
  · rw [cmp_lt hl]; rfl
  · rw [cmp_eq hl]; rfl
end Go

