/-
  SpaceRuns: the states that the law goes through. No walk here.
-/
import Derived.Test.YthebmcbpmboblaaFirst21
namespace Go.Proofs.Ythebmcbpmboblaa
open Go Go.RowKit
set_option linter.unusedVariables false
def stR (room : Int) (A : Option Addr) (l : List Bool) (tab : List One) (n : Int) : SpaceS := ⟨⟨tab⟩, [⟨[], 0⟩, ⟨[], 0⟩, ⟨[], 0⟩], false, n, cS 20 room 0 A, ⟨l⟩, ⟨room, 0, 0, 0, 0⟩, []⟩
def usedOne : One := ⟨2, false, true⟩
def rk (room : Int) (A : Option Addr) (k : Nat) : SpaceS := stR room A (List.replicate (14 - k) true ++ List.replicate (6 + k) false) (List.replicate (14 - k) One.zero ++ List.replicate (6 + k) usedOne) (1 + k)
theorem sR_ask2 (room sp : Int) (A : Option Addr) (h : 0 ≤ sp) : (ask (sR room A) 0 6 sp true).2 = rk room A 0 := by
  unfold ask
  rw [show askNo (sR room A) 0 6 sp = false by unfold askNo; rw [decide_eq_false (show ¬ sp < 0 by omega)]; rfl]
  rw [if_neg (by simp), if_neg (fun e => absurd e.2 (show ¬ ((6 : Int) ≤ 0) by decide)), if_neg (fun e => by
    rcases e with e | e
    · exact absurd e (show ¬ 0 < 0 by decide)
    · have : (sR room A).fits 6 sp = (decide ((6 : Int) ≤ 20) && (sp == 0 || true || decide (sp ≤ (sR room A).coil.room))) := rfl
      rw [this] at e
      simp at e)]
  show askAll (sR room A).tick 0 6 sp true = _
  unfold askAll askMore
  rw [show takesS (sR room A).tick (askGot (sR room A).tick 6) sp = { (sR room A).tick with pool := (sR room A).tick.pool.takes [14, 15, 16, 17, 18, 19] } by
    rw [show askGot (sR room A).tick 6 = [14, 15, 16, 17, 18, 19] from rfl]
    unfold takesS
    rw [if_pos (show sp = 0 ∨ isSide [14, 15, 16, 17, 18, 19] = true from Or.inr rfl)]]
  rfl
theorem rk_ask (room : Int) (A : Option Addr) (k : Nat) (hk : k < 14) : ask (rk room A k) 1 1 0 true = ((1, [13 - (k : Int)], -1), rk room A (k + 1)) := by
  rcases (show k = 0 ∨ k = 1 ∨ k = 2 ∨ k = 3 ∨ k = 4 ∨ k = 5 ∨ k = 6 ∨ k = 7 ∨ k = 8 ∨ k = 9 ∨ k = 10 ∨ k = 11 ∨ k = 12 ∨ k = 13 by omega) with rfl | rfl | rfl | rfl | rfl | rfl | rfl | rfl | rfl | rfl | rfl | rfl | rfl | rfl
  · exact ask_one _ 13 rfl (show (-1 : Int) < 0 by decide) rfl rfl (Nat.le_of_ble_eq_true rfl) rfl
  · exact ask_one _ 12 rfl (show (-1 : Int) < 0 by decide) rfl rfl (Nat.le_of_ble_eq_true rfl) rfl
  · exact ask_one _ 11 rfl (show (-1 : Int) < 0 by decide) rfl rfl (Nat.le_of_ble_eq_true rfl) rfl
  · exact ask_one _ 10 rfl (show (-1 : Int) < 0 by decide) rfl rfl (Nat.le_of_ble_eq_true rfl) rfl
  · exact ask_one _ 9 rfl (show (-1 : Int) < 0 by decide) rfl rfl (Nat.le_of_ble_eq_true rfl) rfl
  · exact ask_one _ 8 rfl (show (-1 : Int) < 0 by decide) rfl rfl (Nat.le_of_ble_eq_true rfl) rfl
  · exact ask_one _ 7 rfl (show (-1 : Int) < 0 by decide) rfl rfl (Nat.le_of_ble_eq_true rfl) rfl
  · exact ask_one _ 6 rfl (show (-1 : Int) < 0 by decide) rfl rfl (Nat.le_of_ble_eq_true rfl) rfl
  · exact ask_one _ 5 rfl (show (-1 : Int) < 0 by decide) rfl rfl (Nat.le_of_ble_eq_true rfl) rfl
  · exact ask_one _ 4 rfl (show (-1 : Int) < 0 by decide) rfl rfl (Nat.le_of_ble_eq_true rfl) rfl
  · exact ask_one _ 3 rfl (show (-1 : Int) < 0 by decide) rfl rfl (Nat.le_of_ble_eq_true rfl) rfl
  · exact ask_one _ 2 rfl (show (-1 : Int) < 0 by decide) rfl rfl (Nat.le_of_ble_eq_true rfl) rfl
  · exact ask_one _ 1 rfl (show (-1 : Int) < 0 by decide) rfl rfl (Nat.le_of_ble_eq_true rfl) rfl
  · exact ask_one _ 0 rfl (show (-1 : Int) < 0 by decide) rfl rfl (Nat.le_of_ble_eq_true rfl) rfl
/-- .. and so many swept. -/
def wk (room : Int) (A : Option Addr) (m : Nat) : SpaceS := stR room A ((List.range 20).map fun i => i % 2 == 0 && Nat.blt i (2 * m)) ((List.range 20).map fun i => if i % 2 == 0 && Nat.blt i (2 * m) then One.zero else usedOne) (15 + m)
theorem wk_zero (room : Int) (A : Option Addr) : rk room A 14 = wk room A 0 := rfl
theorem wk_sweep (room : Int) (A : Option Addr) (m : Nat) (hm : m < 6) : sweeps (wk room A m) ((2 * m : Nat) : Int) false = true ∧ sweepS (wk room A m) ((2 * m : Nat) : Int) false = wk room A (m + 1) := by
  rcases (show m = 0 ∨ m = 1 ∨ m = 2 ∨ m = 3 ∨ m = 4 ∨ m = 5 by omega) with rfl | rfl | rfl | rfl | rfl | rfl <;> exact ⟨rfl, rfl⟩
theorem wk_no (room sp : Int) (A : Option Addr) (h1 : 1 ≤ sp) : askNo (wk room A 6) 2 6 sp = false ∧ (stockOf (wk room A 6) 2) = ⟨[], 0⟩ := by
  refine ⟨?_, rfl⟩
  unfold askNo
  rw [decide_eq_false (show ¬ sp < 0 by omega)]
  rfl
theorem wk_fits (room sp : Int) (A : Option Addr) (h1 : 1 ≤ sp) : (wk room A 6).fits 6 sp = decide (sp ≤ room) := by
  have e : (wk room A 6).fits 6 sp = (decide ((6 : Int) ≤ 6) && (sp == 0 || false || decide (sp ≤ (wk room A 6).coil.room))) := rfl
  rw [e, show (wk room A 6).coil.room = room by show room - 0 - 0 = room; omega, show (sp == 0) = false by simp; omega]
  simp
theorem wk_ask_no (room sp : Int) (A : Option Addr) (h1 : 1 ≤ sp) (h2 : room < sp) : ask (wk room A 6) 2 6 sp true = ((0, [], -1), { (wk room A 6).tick with line := [Ent.asked 2 6 sp] }) := by
  obtain ⟨n1, n2⟩ := wk_no room sp A h1
  unfold ask
  rw [n1, if_neg (by simp), if_neg (fun e => by omega), if_pos (Or.inr (by rw [wk_fits room sp A h1]; simp; omega))]
  rfl
theorem wk_ask_yes (room sp : Int) (A : Option Addr) (h1 : 1 ≤ sp) (h2 : sp ≤ room) (h3 : room ≤ 40) : (ask (wk room A 6) 2 6 sp true).1 = (1, [0, 2, 4, 6, 8, 10], 160) ∧ (ask (wk room A 6) 2 6 sp true).2.pool.free = 0 ∧ (ask (wk room A 6) 2 6 sp true).2.coil.used 0 = sp := by
  obtain ⟨n1, n2⟩ := wk_no room sp A h1
  have hk : (cS 20 room 0 A).check = 0 ∨ True := Or.inr trivial
  have e : ask (wk room A 6) 2 6 sp true = ((1, askGot (wk room A 6) 6, takesAt (wk room A 6) (askGot (wk room A 6) 6) sp), askAll (wk room A 6).tick 2 6 sp true) := by
    unfold ask
    rw [n1, if_neg (by simp), if_neg (fun e => by omega), if_neg (fun e => by
      rcases e with e | e
      · exact absurd e (show ¬ 0 < 0 by decide)
      · rw [wk_fits room sp A h1] at e; simp at e; omega)]
  have hg : askGot (wk room A 6) 6 = [0, 2, 4, 6, 8, 10] := rfl
  have hs : ¬ (sp = 0 ∨ isSide [0, 2, 4, 6, 8, 10] = true) := fun e => by
    rcases e with e | e
    · omega
    · cases e
  have ht : (wk room A 6).coil.takeable sp = true := by
    unfold CoilS.takeable
    rw [show (wk room A 6).coil.room = room by show room - 0 - 0 = room; omega]
    simp
    omega
  rw [e]
  refine ⟨?_, ?_, ?_⟩
  · rw [hg]
    show ((1 : Int), ([0, 2, 4, 6, 8, 10] : List Int), takesAt (wk room A 6) [0, 2, 4, 6, 8, 10] sp) = _
    have ha : takesAt (wk room A 6) [0, 2, 4, 6, 8, 10] sp = 160 := by
      unfold takesAt
      rw [if_neg hs, show (wk room A 6).coil.takenAt sp = 0 by unfold CoilS.takenAt; rw [ht]; rfl]
      have hc : (cS 20 room 0 A).check = 0 := cS_check ⟨by omega, by omega⟩ ⟨by omega, by omega⟩ ⟨by omega, by omega⟩ (by omega)
      show cAtV (cS 20 room 0 A) 1 0 = 160
      unfold cAtV cSize cAhead
      rw [hc]
      show (if (0 : Int) ≤ 0 ∧ (0 : Int) < room then (0 : Int) + (20 * 8 + 0) else 0) = 160
      rw [if_pos ⟨by omega, by omega⟩]
      rfl
    rw [ha]
  · rfl
  · show ((takesS (wk room A 6).tick (askGot (wk room A 6).tick 6) sp).coil).used 0 = sp
    rw [show askGot (wk room A 6).tick 6 = [0, 2, 4, 6, 8, 10] from rfl]
    unfold takesS
    rw [if_neg hs]
    show ((wk room A 6).coil.take sp).used 0 = sp
    unfold CoilS.take
    rw [ht]
    show (0 : Int) + sp = sp
    omega
end Go.Proofs.Ythebmcbpmboblaa
