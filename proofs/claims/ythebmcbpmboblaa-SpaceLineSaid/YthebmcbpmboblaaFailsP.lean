/-
  SpaceFails: the states that the law goes through; counts of calls. No walk here.
-/
import Derived.Test.YthebmcbpmboblaaSpaceM
import Derived.Test.YthebmcbpmboblaaRuns
namespace Go.Proofs.Ythebmcbpmboblaa
open Go Go.RowKit
set_option linter.unusedVariables false
theorem ask_cnt (S : SpaceS) (t fr sp : Int) (b : Bool) : (ask S t fr sp b).2.count = S.count + 1 := by
  unfold ask
  split
  · rfl
  · split
    · rfl
    · split <;> rfl
theorem look_cnt (S : SpaceS) (t : Int) : (look S t).2.count = S.count + 1 := by
  unfold look
  split
  · rfl
  · split
    · rfl
    · split <;> rfl
theorem serve_cnt (S : SpaceS) (b : Bool) : (serve S b).2.count = S.count + 1 := by
  unfold serve
  split
  · rfl
  · split
    · rfl
    · split <;> rfl
def lineOk (S : SpaceS) : Bool := decide (S.line.length ≤ 1000) && S.line.all (fun e => decide (0 ≤ e.cycles ∧ e.cycles ≤ 1000000) && decide (1 ≤ e.frags ∧ e.frags ≤ 1000000 ∧ 0 ≤ e.spine ∧ e.spine ≤ 1000000))
theorem lineOk_len {S : SpaceS} (h : lineOk S = true) : S.line.length < 1000000 := by
  unfold lineOk at h
  simp only [Bool.and_eq_true, decide_eq_true_eq] at h
  omega
theorem lineOk_cyc {S : SpaceS} (h : lineOk S = true) : ∀ e ∈ S.line, 0 ≤ e.cycles ∧ e.cycles ≤ 1099511627776 := by
  unfold lineOk at h
  simp only [Bool.and_eq_true, decide_eq_true_eq, List.all_eq_true] at h
  intro e he
  have := (h.2 e he).1
  omega
theorem lineOk_fair {S : SpaceS} (h : lineOk S = true) : ∀ e ∈ S.line, e.fair := by
  unfold lineOk at h
  simp only [Bool.and_eq_true, decide_eq_true_eq, List.all_eq_true] at h
  intro e he
  have := (h.2 e he).2
  exact ⟨by omega, by omega, by omega, by omega⟩
def s8 (n : Int) (A : Option Addr) : SpaceS := { SpaceS.fresh (cS 8 0 0 A) (TabS.fresh 8) with count := n }
theorem s8_cyc (n : Int) (A : Option Addr) : endS (beginS (s8 n A)) = s8 (n + 2) A := by
  unfold endS beginS SpaceS.tick s8 SpaceS.fresh
  simp [Int.add_assoc]
def fT1 (n : Int) (A : Option Addr) : SpaceS := (ask (s8 n A) 0 7 0 true).2
def fT2 (n : Int) (A : Option Addr) : SpaceS := (ask (fT1 n A) 1 2 0 true).2
def fT3 (n : Int) (A : Option Addr) : SpaceS := (ask (fT2 n A) 2 1 0 true).2
def fT5 (n : Int) (A : Option Addr) : SpaceS := endS (fT3 n A).tick
/-- The law's second loop, behind k rounds. -/
def fR (n : Int) (A : Option Addr) : Nat → SpaceS
  | 0 => fT5 n A
  | k + 1 => endS (beginS (look (serve (fR n A k) true).2 1).2)
def fT6 (n : Int) (A : Option Addr) : SpaceS := (serve (fR n A 2) true).2
def fT7 (n : Int) (A : Option Addr) : SpaceS := (look (fT6 n A) 1).2
def fT8 (n : Int) (A : Option Addr) : SpaceS := (serve (fT7 n A) true).2
def fT9 (n : Int) (A : Option Addr) : SpaceS := (look (fT8 n A) 2).2
def fT10 (n : Int) (A : Option Addr) : SpaceS := (look (fT9 n A) 1).2
def rOk (S : SpaceS) : Bool := lineOk S && (serve S true).1 == false && lineOk (serve S true).2 && (look (serve S true).2 1).1.1 == 0 && lineOk (look (serve S true).2 1).2 && lineOk (beginS (look (serve S true).2 1).2)
def failsOk (n : Int) (A : Option Addr) : Bool :=
  lineOk (s8 n A) && (ask (s8 n A) 0 7 0 true).1.1 == 1 && lineOk (fT1 n A) && (ask (fT1 n A) 1 2 0 true).1.1 == 0 && lineOk (fT2 n A) && (ask (fT2 n A) 2 1 0 true).1.1 == 0 && lineOk (fT3 n A) && decide (0 < Ent.wait (fT3 n A).line) &&
  rOk (fR n A 0) && rOk (fR n A 1) && lineOk (fR n A 2) && (serve (fR n A 2) true).1 == true && (look (fT6 n A) 1).1.1 == 2 && lineOk (fT7 n A) && (serve (fT7 n A) true).1 == true && (look (fT8 n A) 2).1.1 == 1 && (look (fT8 n A) 2).1.2.1.length == 1 &&
  Ent.wait (fT9 n A).line == 0 && (fT9 n A).pool.free == 0 && (look (fT9 n A) 1).1.1 == 3 && lineOk (fT10 n A) && (serve (fT10 n A) true).1 == false
theorem fails_all : (fun n A => failsOk n A) = fun n A => true := by kernel_rfl
structure FailsOk (n : Int) (A : Option Addr) : Prop where
  l0 : lineOk (s8 n A) = true
  a1 : (ask (s8 n A) 0 7 0 true).1.1 = 1
  l1 : lineOk (fT1 n A) = true
  a2 : (ask (fT1 n A) 1 2 0 true).1.1 = 0
  l2 : lineOk (fT2 n A) = true
  a3 : (ask (fT2 n A) 2 1 0 true).1.1 = 0
  l3 : lineOk (fT3 n A) = true
  w3 : 0 < Ent.wait (fT3 n A).line
  r0 : rOk (fR n A 0) = true
  r1 : rOk (fR n A 1) = true
  l5 : lineOk (fR n A 2) = true
  b6 : (serve (fR n A 2) true).1 = true
  k7 : (look (fT6 n A) 1).1.1 = 2
  l7 : lineOk (fT7 n A) = true
  b8 : (serve (fT7 n A) true).1 = true
  k9 : (look (fT8 n A) 2).1.1 = 1
  g9 : (look (fT8 n A) 2).1.2.1.length = 1
  w9 : Ent.wait (fT9 n A).line = 0
  f9 : (fT9 n A).pool.free = 0
  k10 : (look (fT9 n A) 1).1.1 = 3
  l10 : lineOk (fT10 n A) = true
  b10 : (serve (fT10 n A) true).1 = false
theorem fails_ok (n : Int) (A : Option Addr) : FailsOk n A := by
  have h : failsOk n A = true := congrFun (congrFun fails_all n) A
  unfold failsOk at h
  simp only [Bool.and_eq_true, beq_iff_eq, decide_eq_true_eq] at h
  obtain ⟨⟨⟨⟨⟨⟨⟨⟨⟨⟨⟨⟨⟨⟨⟨⟨⟨⟨⟨⟨⟨h1, h2⟩, h3⟩, h4⟩, h5⟩, h6⟩, h7⟩, h8⟩, h9⟩, h10⟩, h11⟩, h12⟩, h13⟩, h14⟩, h15⟩, h16⟩, h17⟩, h18⟩, h19⟩, h20⟩, h21⟩, h22⟩ := h
  exact ⟨h1, h2, h3, h4, h5, h6, h7, h8, h9, h10, h11, h12, h13, h14, h15, h16, h17, h18, h19, h20, h21, h22⟩
structure ROk (S : SpaceS) : Prop where
  l0 : lineOk S = true
  b : (serve S true).1 = false
  l1 : lineOk (serve S true).2 = true
  k : (look (serve S true).2 1).1.1 = 0
  l2 : lineOk (look (serve S true).2 1).2 = true
  l3 : lineOk (beginS (look (serve S true).2 1).2) = true
theorem rOk_of {S : SpaceS} (h : rOk S = true) : ROk S := by
  unfold rOk at h
  simp only [Bool.and_eq_true, beq_iff_eq] at h
  obtain ⟨⟨⟨⟨⟨h1, h2⟩, h3⟩, h4⟩, h5⟩, h6⟩ := h
  exact ⟨h1, h2, h3, h4, h5, h6⟩
theorem fR_cnt (n : Int) (A : Option Addr) (k : Nat) : (fR n A k).count = n + 5 + 4 * k := by
  induction k with
  | zero =>
    show ((fT3 n A).count + 1) + 1 = _
    unfold fT3 fT2 fT1
    rw [ask_cnt, ask_cnt, ask_cnt]
    show n + 1 + 1 + 1 + 1 + 1 = _
    omega
  | succ k ih =>
    show ((look (serve (fR n A k) true).2 1).2.count + 1) + 1 = _
    rw [look_cnt, serve_cnt, ih]
    omega
/-- The same, with the states under names. -/
structure FailsRun (n : Int) (S0 S1 S2 S3 : SpaceS) (R : Nat → SpaceS) (S6 S7 S8 S9 S10 : SpaceS) : Prop where
  c0 : S0.count = n
  l0 : lineOk S0 = true
  a1 : (ask S0 0 7 0 true).1.1 = 1
  e1 : (ask S0 0 7 0 true).2 = S1
  c1 : S1.count = n + 1
  l1 : lineOk S1 = true
  a2 : (ask S1 1 2 0 true).1.1 = 0
  e2 : (ask S1 1 2 0 true).2 = S2
  c2 : S2.count = n + 2
  l2 : lineOk S2 = true
  a3 : (ask S2 2 1 0 true).1.1 = 0
  e3 : (ask S2 2 1 0 true).2 = S3
  c3 : S3.count = n + 3
  l3 : lineOk S3 = true
  w3 : 0 < Ent.wait S3.line
  e5 : endS S3.tick = R 0
  r : ∀ j, j < 2 → ROk (R j)
  cR : ∀ j : Nat, (R j).count = n + 5 + 4 * j
  eR : ∀ j, endS (beginS (look (serve (R j) true).2 1).2) = R (j + 1)
  l5 : lineOk (R 2) = true
  b6 : (serve (R 2) true).1 = true
  e6 : (serve (R 2) true).2 = S6
  c6 : S6.count = n + 14
  k7 : (look S6 1).1.1 = 2
  e7 : (look S6 1).2 = S7
  c7 : S7.count = n + 15
  l7 : lineOk S7 = true
  b8 : (serve S7 true).1 = true
  e8 : (serve S7 true).2 = S8
  c8 : S8.count = n + 16
  k9 : (look S8 2).1.1 = 1
  g9 : (look S8 2).1.2.1.length = 1
  e9 : (look S8 2).2 = S9
  c9 : S9.count = n + 17
  w9 : Ent.wait S9.line = 0
  f9 : S9.pool.free = 0
  k10 : (look S9 1).1.1 = 3
  e10 : (look S9 1).2 = S10
  c10 : S10.count = n + 18
  l10 : lineOk S10 = true
  b10 : (serve S10 true).1 = false
theorem fails_run (n : Int) (A : Option Addr) : ∃ S1 S2 S3 R S6 S7 S8 S9 S10, FailsRun n (s8 n A) S1 S2 S3 R S6 S7 S8 S9 S10 := by
  have F := fails_ok n A
  have c1 : (fT1 n A).count = n + 1 := ask_cnt _ _ _ _ _
  have c2 : (fT2 n A).count = n + 2 := by unfold fT2; rw [ask_cnt, c1]; omega
  have c3 : (fT3 n A).count = n + 3 := by unfold fT3; rw [ask_cnt, c2]; omega
  have c6 : (fT6 n A).count = n + 14 := by unfold fT6; rw [serve_cnt, fR_cnt]; omega
  have c7 : (fT7 n A).count = n + 15 := by unfold fT7; rw [look_cnt, c6]; omega
  have c8 : (fT8 n A).count = n + 16 := by unfold fT8; rw [serve_cnt, c7]; omega
  have c9 : (fT9 n A).count = n + 17 := by unfold fT9; rw [look_cnt, c8]; omega
  have c10 : (fT10 n A).count = n + 18 := by unfold fT10; rw [look_cnt, c9]; omega
  refine ⟨fT1 n A, fT2 n A, fT3 n A, fR n A, fT6 n A, fT7 n A, fT8 n A, fT9 n A, fT10 n A, ⟨rfl, F.l0, F.a1, rfl, c1, F.l1, F.a2, rfl, c2, F.l2, F.a3, rfl, c3, F.l3, F.w3, rfl, fun j hj => ?_, fR_cnt n A, fun j => rfl, F.l5, F.b6, rfl, c6, F.k7, rfl, c7, F.l7, F.b8, rfl, c8, F.k9, F.g9, rfl, c9, F.w9, F.f9, F.k10, rfl, c10, F.l10, F.b10⟩⟩
  rcases (show j = 0 ∨ j = 1 by omega) with rfl | rfl
  · exact rOk_of F.r0
  · exact rOk_of F.r1
end Go.Proofs.Ythebmcbpmboblaa
