/-
  SpaceStocks: the states that the law goes through. No walk here.
-/
import Derived.Test.YtlddahifhefjiaaDrain
namespace Go.Proofs.Ytlddahifhefjiaa
open Go Go.RowKit
set_option linter.unusedVariables false
/-- The law's variable stock, behind one more request. -/
def stockN (cache frags : Int) (S : SpaceS) (s : Int) : Int := if frags ≤ s then s - frags else s + min (cache - s) (S.pool.free - frags)
/-- What the law looks at, in one round. -/
structure StepOk (cache frags : Int) (S : SpaceS) (s u : Int) : Prop where
  one : (ask S 0 frags 0 true).1.1 = 1
  got : ((ask S 0 frags 0 true).1.2.1.length : Int) = frags
  at_ : (ask S 0 frags 0 true).1.2.2 = -1
  count : 0 ≤ S.count ∧ S.count ≤ 100
  line : S.line.length ≤ 10
  fr : ((ask S 0 frags 0 true).2.pool.free : Int) = (if frags ≤ s then (S.pool.free : Int) else S.pool.free - frags - min (cache - s) (S.pool.free - frags))
  c1 : ((ask S 0 frags 0 true).2.tab.cnt 1 : Int) = stockN cache frags S s
  c2 : ((ask S 0 frags 0 true).2.tab.cnt 2 : Int) = u
  c0 : ((ask S 0 frags 0 true).2.tab.cnt 0 : Int) = 60 - stockN cache frags S s - u
def stepOk (cache frags : Int) (S : SpaceS) (s u : Int) : Bool :=
  (ask S 0 frags 0 true).1.1 == 1 && ((ask S 0 frags 0 true).1.2.1.length : Int) == frags && (ask S 0 frags 0 true).1.2.2 == -1 && decide (0 ≤ S.count ∧ S.count ≤ 100) && decide (S.line.length ≤ 10) &&
  ((ask S 0 frags 0 true).2.pool.free : Int) == (if frags ≤ s then (S.pool.free : Int) else S.pool.free - frags - min (cache - s) (S.pool.free - frags)) &&
  ((ask S 0 frags 0 true).2.tab.cnt 1 : Int) == stockN cache frags S s && ((ask S 0 frags 0 true).2.tab.cnt 2 : Int) == u && ((ask S 0 frags 0 true).2.tab.cnt 0 : Int) == 60 - stockN cache frags S s - u
theorem stepOk_of {cache frags s u : Int} {S : SpaceS} (h : stepOk cache frags S s u = true) : StepOk cache frags S s u := by
  unfold stepOk at h
  simp only [Bool.and_eq_true, beq_iff_eq, decide_eq_true_eq] at h
  obtain ⟨⟨⟨⟨⟨⟨⟨⟨h1, h2⟩, h3⟩, h4⟩, h5⟩, h6⟩, h7⟩, h8⟩, h9⟩ := h
  exact ⟨h1, h2, h3, h4, h5, h6, h7, h8, h9⟩
structure EndOk (S : SpaceS) (s u : Int) : Prop where
  count : 0 ≤ S.count ∧ S.count ≤ 100
  n : drainN S 0 = s
  c1 : ((drainS S 0).tab.cnt 1 : Int) = 0
  count2 : 0 ≤ (drainS S 0).count ∧ (drainS S 0).count ≤ 100
  n2 : drainN (drainS S 0) 0 = 0
  fr : ((drainS (drainS S 0) 0).pool.free : Int) = 60 - u
def endOk (S : SpaceS) (s u : Int) : Bool :=
  decide (0 ≤ S.count ∧ S.count ≤ 100) && drainN S 0 == s && ((drainS S 0).tab.cnt 1 : Int) == 0 && decide (0 ≤ (drainS S 0).count ∧ (drainS S 0).count ≤ 100) && drainN (drainS S 0) 0 == 0 && ((drainS (drainS S 0) 0).pool.free : Int) == 60 - u
theorem endOk_of {s u : Int} {S : SpaceS} (h : endOk S s u = true) : EndOk S s u := by
  unfold endOk at h
  simp only [Bool.and_eq_true, beq_iff_eq, decide_eq_true_eq] at h
  obtain ⟨⟨⟨⟨⟨h1, h2⟩, h3⟩, h4⟩, h5⟩, h6⟩ := h
  exact ⟨h1, h2, h3, h4, h5, h6⟩
def stepsOk (cache frags : Int) : Nat → SpaceS → Int → Int → Bool
  | 0, S, s, u => endOk S s u
  | n + 1, S, s, u => decide (0 ≤ s ∧ s ≤ 100) && stepOk cache frags S s (u + frags) && stepsOk cache frags n (ask S 0 frags 0 true).2 (stockN cache frags S s) (u + frags)
theorem stepsOk_next {cache frags s u : Int} {n : Nat} {S : SpaceS} (h : stepsOk cache frags (n + 1) S s u = true) : (0 ≤ s ∧ s ≤ 100) ∧ StepOk cache frags S s (u + frags) ∧ stepsOk cache frags n (ask S 0 frags 0 true).2 (stockN cache frags S s) (u + frags) = true := by
  unfold stepsOk at h
  simp only [Bool.and_eq_true, decide_eq_true_eq] at h
  exact ⟨h.1.1, stepOk_of h.1.2, h.2⟩
def s60 (cache : Int) (A : Option Addr) : SpaceS := SpaceS.fresh (cS 60 0 cache A) (TabS.fresh 60)
theorem s60_all : (fun A => (List.range 9).all fun c => (List.range 5).all fun f => stepsOk c (f + 1) 8 (s60 c A) 0 0) = (fun A => true) := by kernel_rfl
theorem s60_ok (cache frags : Int) (A : Option Addr) (h1 : 0 ≤ cache ∧ cache ≤ 8) (h2 : 1 ≤ frags ∧ frags ≤ 5) : stepsOk cache frags 8 (s60 cache A) 0 0 = true := by
  have h := congrFun s60_all A
  simp only [List.all_eq_true, List.mem_range] at h
  have := h cache.toNat (by omega) (frags - 1).toNat (by omega)
  rw [show ((cache.toNat : Nat) : Int) = cache by omega, show (((frags - 1).toNat : Nat) : Int) + 1 = frags by omega] at this
  exact this
end Go.Proofs.Ytlddahifhefjiaa
