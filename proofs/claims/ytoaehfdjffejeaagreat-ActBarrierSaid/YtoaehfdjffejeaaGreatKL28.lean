import Derived.Test.YtoaehfdjffejeaaGreatKL27
/-
  Packed: Colours.
-/
open Go.Ext renaming alloc → zA, patch → zP, drew → zD, drewN → zN, more → zM, refl → zR, setCell → zS
open Nat renaming le_refl → zL, le_add_right → zK
/-
  ActColours: the walk.
-/
namespace Go.Proofs.YtoaehfdjffejeaaGreat
open Go Go.RowKit
set_option linter.unusedVariables false
set_option linter.unnecessarySimpa false
set_option linter.unusedSimpArgs false
set_option maxHeartbeats 4000000
set_option maxRecDepth 100000
theorem postR_some {W V : AcW} {s : Int} {flip : Bool} (h : W.postR s flip = some V) : AcW.cntOk W.K.hand.count = true ∧ W.post s flip = V := by
  unfold AcW.postR at h
  split at h
  case isTrue hc => injection h with h; exact ⟨hc, h⟩
  case isFalse => cases h
theorem awaitR_exit (n : Nat) (s : Int) (W : AcW) (V : AcW) (h : AcW.awaitR n s W = some V) (hx : n = 0 ∨ W.a.status = s) : V = W := by
  cases n with
  | zero => unfold AcW.awaitR at h; injection h with h; exact h.symm
  | succ n =>
    rcases hx with hx | hx
    · cases hx
    · unfold AcW.awaitR at h
      rw [if_pos (beq_iff_eq.2 hx)] at h
      injection h with h
      exact h.symm
theorem awaitR_step (n : Nat) (s : Int) (W : AcW) (V : AcW) (h : AcW.awaitR (n + 1) s W = some V) (hx : W.a.status ≠ s) : ∃ x : AcR, W.stepR = some x ∧ AcW.awaitR n s x.2 = some V := by
  unfold AcW.awaitR at h
  rw [if_neg (by simpa using hx)] at h
  cases hs : W.stepR with
  | none => rw [hs] at h; cases h
  | some x => rw [hs] at h; exact ⟨x, rfl, h⟩
theorem colStages_step (k : Nat) (s : Int) (W V : AcW) (h : colStages (k + 1) s W = some V) : ∃ U X : AcW, (if decide (1 < s) then W.postR s false else some W) = some U ∧ AcW.awaitR 6 s U = some X ∧ colStages k (s + 1) X = some V := by
  unfold colStages at h
  cases h1 : (if decide (1 < s) then W.postR s false else some W) with
  | none => rw [h1] at h; cases h
  | some U =>
    rw [h1] at h
    simp only at h
    cases h2 : AcW.awaitR 6 s U with
    | none => rw [h2] at h; cases h
    | some X => rw [h2] at h; exact ⟨U, X, rfl, h2, h⟩
theorem col_end (A A1 A2 : Option Addr) (m : Nat) (hm : m < 5) : ∃ (x : AcR) (V U : AcW), (pairW A A1 A2 [opNew 0]).stepR = some x ∧ (if decide (0 < (m : Int)) then x.2.postR 1 true else some x.2) = some V ∧ colStages m 1 V = some U ∧ colRun m 30 U = true := by
  have h := col_all A A1 A2 m hm
  unfold colAll colStart at h
  cases h1 : (pairW A A1 A2 [opNew 0]).stepR with
  | none => rw [h1] at h; cases h
  | some x =>
    rw [h1] at h
    simp only at h
    cases h2 : (if decide (0 < (m : Int)) then x.2.postR 1 true else some x.2) with
    | none => rw [h2] at h; cases h
    | some V =>
      rw [h2] at h
      simp only [Int.toNat_natCast] at h
      cases h3 : colStages m 1 V with
      | none => rw [h3] at h; cases h
      | some U => rw [h3] at h; exact ⟨x, V, U, rfl, h2, h3, h⟩
theorem colRun_step (m : Int) (n : Nat) (W : AcW) (h : colRun m n W = true) : ∃ (q : Nat) (x : AcR), n = q + 1 ∧ W.stepR = some x ∧ ((x.1.2 = true ∧ colDone m x = true) ∨ (x.1.2 = false ∧ (decide ((0 : Int) < W.K.sp.tab.cnt 2) && x.2.K.sp.tab.head 39) = false ∧ colRun m q x.2 = true)) := by
  cases n with
  | zero => unfold colRun at h; cases h
  | succ q =>
    unfold colRun at h
    cases hs : W.stepR with
    | none => rw [hs] at h; cases h
    | some x =>
      rw [hs] at h
      simp only at h
      cases hb : x.1.2
      · rw [hb] at h
        simp only [Bool.false_eq_true, if_false] at h
        split at h
        case isTrue => cases h
        case isFalse hn => exact ⟨q, x, rfl, rfl, Or.inr ⟨hb, by simpa using hn, h⟩⟩
      · rw [hb] at h
        exact ⟨q, x, rfl, rfl, Or.inl ⟨hb, h⟩⟩
theorem zRef39 : zRef 39 = (4630826316843712512, 4607182418800017408) := by kernel_rfl
end Go.Proofs.YtoaehfdjffejeaaGreat

