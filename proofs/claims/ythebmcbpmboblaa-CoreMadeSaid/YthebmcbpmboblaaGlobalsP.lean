/-
  core: the memory that New lays. No walk here.
-/
import Derived.Test.YthebmcbpmboblaaCore
namespace Go.Proofs.Ythebmcbpmboblaa
open Go Go.RowKit
set_option linter.unusedVariables false
theorem MemS.lay_len (m : MemS) (a : Int) (x : Nat × Nat) : (m.lay a x).l.length = m.l.length := by unfold MemS.lay; split <;> simp
theorem MemS.lay_count (m : MemS) (a : Int) (x : Nat × Nat) : (m.lay a x).count = m.count := by unfold MemS.lay; split <;> rfl
theorem memLaid_len (c : Cnf) (k : Nat) : (memLaid c k).l.length = (cWords c).toNat := by
  induction k with
  | zero => simp [memLaid]
  | succ k ih => rw [memLaid_succ, MemS.lay_len, ih]
theorem memLaid_count (c : Cnf) (k : Nat) : (memLaid c k).count = 0 := by
  induction k with
  | zero => rfl
  | succ k ih => rw [memLaid_succ, MemS.lay_count, ih]
theorem memLaid_get (c : Cnf) (hck : c.check = 0) (k : Nat) (hk : (k : Int) ≤ c.globals) (j : Nat) : (memLaid c k).l.getD j (0, 0) = if c.frags * 8 + c.spine + c.spine ≤ (j : Int) ∧ (j : Int) < c.frags * 8 + c.spine + c.spine + k then (0, 4607182418800017408) else (0, 0) := by
  obtain ⟨⟨r0, r1⟩, ⟨r2, r3⟩, ⟨r4, r5⟩, -⟩ := Cnf.ranged (Cnf.check_zero hck).1
  induction k with
  | zero =>
    rw [if_neg (by omega)]
    unfold memLaid
    simp only [List.range_zero, List.foldl_nil, List.getD_eq_getElem?_getD, List.getElem?_replicate]
    split <;> rfl
  | succ k ih =>
    have ih := ih (by omega)
    have ha : cAtV c 3 (k : Nat) = k + (c.frags * 8 + c.spine + c.spine) := by
      unfold cAtV cSize cAhead
      rw [if_pos hck, if_pos hck]
      show (if (0 : Int) ≤ k ∧ (k : Int) < c.globals then (k : Int) + (c.frags * 8 + (c.spine + (c.spine + 0))) else 0) = _
      rw [if_pos ⟨by omega, by omega⟩]
      omega
    have hw : cWords c = c.frags * 8 + c.spine + c.spine + c.globals := by unfold cWords; rw [if_pos hck]
    obtain ⟨q, hq⟩ := Int.eq_ofNat_of_zero_le (show 0 ≤ (k : Int) + (c.frags * 8 + c.spine + c.spine) by omega)
    have hql : q < (memLaid c k).l.length := by rw [memLaid_len]; omega
    rw [memLaid_succ, ha, hq]
    unfold MemS.lay
    rw [if_pos (inB_cast hql), Int.toNat_natCast]
    simp only [List.getD_eq_getElem?_getD] at ih ⊢
    by_cases hj : q = j
    · subst hj
      rw [List.getElem?_set_self hql, if_pos (by omega)]
      rfl
    · rw [List.getElem?_set_ne hj, ih]
      by_cases h1 : c.frags * 8 + c.spine + c.spine ≤ (j : Int) ∧ (j : Int) < c.frags * 8 + c.spine + c.spine + k
      · rw [if_pos h1, if_pos (by omega)]
      · rw [if_neg h1, if_neg (by omega)]
theorem memLaid_peek (c : Cnf) (hck : c.check = 0) (j : Nat) (hj : (j : Int) < cWords c) : (memLaid c c.globals.toNat).peek j = if c.frags * 8 + c.spine + c.spine ≤ (j : Int) then (0, 4607182418800017408) else (0, 0) := by
  obtain ⟨⟨r0, r1⟩, ⟨r2, r3⟩, ⟨r4, r5⟩, -⟩ := Cnf.ranged (Cnf.check_zero hck).1
  have hw : cWords c = c.frags * 8 + c.spine + c.spine + c.globals := by unfold cWords; rw [if_pos hck]
  unfold MemS.peek
  rw [if_pos (inB_cast (by rw [memLaid_len]; omega)), Int.toNat_natCast, memLaid_get c hck _ (by omega)]
  by_cases h1 : c.frags * 8 + c.spine + c.spine ≤ (j : Int)
  · rw [if_pos ⟨h1, by omega⟩, if_pos h1]
  · rw [if_neg (fun e => h1 e.1), if_neg h1]
end Go.Proofs.Ythebmcbpmboblaa
