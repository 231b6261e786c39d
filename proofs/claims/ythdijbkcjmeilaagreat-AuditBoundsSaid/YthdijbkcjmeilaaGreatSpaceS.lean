/-
  space: its state as plain data, and in memory.
-/
import Derived.Test.YthdijbkcjmeilaaGreatTint
import Derived.Test.YthdijbkcjmeilaaGreatCoil
import Derived.Test.YthdijbkcjmeilaaGreatPool2
import Derived.Test.YthdijbkcjmeilaaGreatStock
import Derived.Test.YthdijbkcjmeilaaGreatLine
import Derived.Test.YthdijbkcjmeilaaGreatCopy
import Derived.Test.YthdijbkcjmeilaaGreatArea2
import Derived.Test.YthdijbkcjmeilaaGreatSide
namespace Go
open Go.RowKit
set_option linter.unusedVariables false
structure SpaceS where
  tab : TabS
  stocks : List StockS
  forced : Bool
  count : Int
  c : Cnf
  pool : PoolS
  coil : CoilS
  line : List Ent
theorem Cnf.Same.bad {c d : Cnf} (h : c.Same d) : badIn c.shapes = badIn d.shapes := by
  have e : ∀ l : List Shp, badIn l = (l.map Shp.data).any fun p => !decide (p.2.length ≤ 40 ∧ (p.1 = true → p.2.length = 1)) := fun l => by
    unfold badIn
    rw [List.any_map]
    rfl
  rw [e, e, h.shapes]
theorem Cnf.Same.check {c d : Cnf} (h : c.Same d) : c.check = d.check := by
  have hl : c.shapes.length = d.shapes.length := by have := congrArg List.length h.shapes; simpa using this
  have hb := h.bad
  obtain ⟨h1, h2, h3, h4, h5, h6, h7, h8, _⟩ := h
  unfold Cnf.check Cnf.rangedTo Cnf.ranges
  rw [h1, h2, h3, h4, h5, h6, h7, h8, hl, hb]
theorem Cnf.Same.refl (c : Cnf) : c.Same c := ⟨rfl, rfl, rfl, rfl, rfl, rfl, rfl, rfl, rfl⟩
/-- An object's numbers. -/
def inst (B : Nat) (x : Nat) : Prop := B ≤ x ∧ x < B + 60
end Go
namespace Go.Proofs.YthdijbkcjmeilaaGreat
open Go Go.RowKit
set_option linter.unusedVariables false
theorem Cnf.Same.cAt {c d : Cnf} (h : c.Same d) (r : Nat) (k : Int) : cAt c r k = cAt d r k := by
  have hc := h.check
  obtain ⟨h1, h2, h3, h4, h5, h6, h7, h8, _⟩ := h
  unfold Go.Proofs.YthdijbkcjmeilaaGreat.cAt cSize cAhead
  rw [hc, h1, h2, h3]

structure SpaceIn (g : GW) (B b bt : Nat) (S : SpaceS) (bp bk bl : Nat) (A : Option Addr) (cs : Nat) (cm : Cnf) (bs : List Nat) : Prop where
  blk : Blk g B b 52 [.pointer (some ⟨bt, 0, none⟩), .slice A S.stocks.length cs, .bool S.forced, .int .i64 S.count, .int .i64 cm.frags, .int .i64 cm.spine, .int .i64 cm.globals, .int .i64 cm.threads, .int .i64 cm.locals, .int .i64 cm.cache, .int .i64 cm.stack, .int .i64 cm.low, .slice cm.A cm.shapes.length cm.cap, .pointer (some ⟨bp, 0, none⟩), .pointer (some ⟨bk, 0, none⟩), .pointer (some ⟨bl, 0, none⟩)]
  row : Row g B 108 1 (.slice A S.stocks.length cs) S.stocks.length (bs.map fun x => Value.pointer (some ⟨x, 0, none⟩))
  tab : TabAt g (B + 50) bt S.tab
  pool : PoolAt g (B + 1) bp S.pool
  coil : CoilAt g (B + 2) bk S.coil
  line : LineAt g (B + 3) bl S.line
  cnf : CnfAt g (B + 5) cm
  same : cm.Same S.c
  blen : bs.length = S.stocks.length
  stock : ∀ j x s, bs[j]? = some x → S.stocks[j]? = some s → StockAt g (B + 10 + j) x s
  check : S.c.check = 0
  few : S.stocks.length ≤ 16
def SpaceAt (g : GW) (B b bt : Nat) (S : SpaceS) : Prop := ∃ bp bk bl A cs cm bs, SpaceIn g B b bt S bp bk bl A cs cm bs
namespace SpaceIn
variable {g g' : GW} {B b bt bp bk bl cs : Nat} {S : SpaceS} {A : Option Addr} {cm : Cnf} {bs : List Nat}
theorem keep {T : Nat → Prop} (h : SpaceIn g B b bt S bp bk bl A cs cm bs) (m : Mod T g g') (hT : ∀ x, T x → x < B ∨ B + 60 ≤ x) : SpaceIn g' B b bt S bp bk bl A cs cm bs := by
  have q : ∀ k, k < 60 → ¬ T (B + k) := fun k hk ht => by have := hT _ ht; omega
  refine ⟨h.blk.keep m (q 0 (by omega)), h.row.keep m (q 0 (by omega)), h.tab.keep m (q 50 (by omega)), h.pool.keep m (q 1 (by omega)), h.coil.keep m (q 2 (by omega)), h.line.keep m (q 3 (by omega)) (q 4 (by omega)), h.cnf.keep m (q 5 (by omega)), h.same, h.blen, fun j x s hx hs => (h.stock j x s hx hs).keep m (fun e => ?_), h.check, h.few⟩
  have := (List.getElem?_eq_some_iff.1 hs).1
  have := h.few
  exact q (10 + j) (by omega) (by rw [← Nat.add_assoc]; exact e)
theorem withTab (h : SpaceIn g B b bt S bp bk bl A cs cm bs) {T : TabS} (m : Mod (fun x => x = B + 50) g g') (ht : TabAt g' (B + 50) bt T) : SpaceIn g' B b bt { S with tab := T } bp bk bl A cs cm bs :=
  ⟨h.blk.keep m (by omega), h.row.keep m (by omega), ht, h.pool.keep m (by omega), h.coil.keep m (by omega), h.line.keep m (by omega) (by omega), h.cnf.keep m (by omega), h.same, h.blen, fun j x s hx hs => (h.stock j x s hx hs).keep m (by have h1 : j < S.stocks.length := (List.getElem?_eq_some_iff.1 hs).1; have := h.few; omega), h.check, h.few⟩
theorem withPool (h : SpaceIn g B b bt S bp bk bl A cs cm bs) {T : PoolS} (m : Mod (fun x => x = B + 1) g g') (ht : PoolAt g' (B + 1) bp T) : SpaceIn g' B b bt { S with pool := T } bp bk bl A cs cm bs :=
  ⟨h.blk.keep m (by omega), h.row.keep m (by omega), h.tab.keep m (by omega), ht, h.coil.keep m (by omega), h.line.keep m (by omega) (by omega), h.cnf.keep m (by omega), h.same, h.blen, fun j x s hx hs => (h.stock j x s hx hs).keep m (by omega), h.check, h.few⟩
theorem withCoil (h : SpaceIn g B b bt S bp bk bl A cs cm bs) {T : CoilS} (m : Mod (fun x => x = B + 2) g g') (ht : CoilAt g' (B + 2) bk T) : SpaceIn g' B b bt { S with coil := T } bp bk bl A cs cm bs :=
  ⟨h.blk.keep m (by omega), h.row.keep m (by omega), h.tab.keep m (by omega), h.pool.keep m (by omega), ht, h.line.keep m (by omega) (by omega), h.cnf.keep m (by omega), h.same, h.blen, fun j x s hx hs => (h.stock j x s hx hs).keep m (by omega), h.check, h.few⟩
theorem withLine (h : SpaceIn g B b bt S bp bk bl A cs cm bs) {T : List Ent} (m : Mod (fun x => x = B + 3 ∨ x = B + 4) g g') (ht : LineAt g' (B + 3) bl T) : SpaceIn g' B b bt { S with line := T } bp bk bl A cs cm bs :=
  ⟨h.blk.keep m (by omega), h.row.keep m (by omega), h.tab.keep m (by omega), h.pool.keep m (by omega), h.coil.keep m (by omega), ht, h.cnf.keep m (by omega), h.same, h.blen, fun j x s hx hs => (h.stock j x s hx hs).keep m (by omega), h.check, h.few⟩
theorem withStock (h : SpaceIn g B b bt S bp bk bl A cs cm bs) {k y : Nat} {s' : StockS} (hk : k < S.stocks.length) (hy : bs[k]? = some y) (m : Mod (fun x => x = B + 10 + k) g g') (ht : StockAt g' (B + 10 + k) y s') : SpaceIn g' B b bt { S with stocks := S.stocks.set k s' } bp bk bl A cs cm bs := by
  have hf := h.few
  refine ⟨?_, ?_, h.tab.keep m (by omega), h.pool.keep m (by omega), h.coil.keep m (by omega), h.line.keep m (by omega) (by omega), h.cnf.keep m (by omega), h.same, by simpa using h.blen, fun j x s hx hs => ?_, h.check, by simpa using h.few⟩
  · simp only [List.length_set]; exact h.blk.keep m (by omega)
  · simp only [List.length_set]; exact h.row.keep m (by omega)
  · by_cases hj : k = j
    · subst hj
      rw [hy] at hx
      injection hx with hx
      simp only at hs
      rw [List.getElem?_set_self hk] at hs
      injection hs with hs
      rw [← hx, ← hs]
      exact ht
    · simp only at hs
      rw [List.getElem?_set_ne hj] at hs
      exact (h.stock j x s hx hs).keep m (by omega)
theorem tick (h : SpaceIn g B b bt S bp bk bl A cs cm bs) : SpaceIn ⟨g.own, g.w.setCell ⟨b, 3, none⟩ (.int .i64 (S.count + 1))⟩ B b bt { S with count := S.count + 1 } bp bk bl A cs cm bs := by
  have m : Mod (fun x => x = B) g ⟨g.own, g.w.setCell ⟨b, 3, none⟩ (.int .i64 (S.count + 1))⟩ := Mod.set h.blk.own
  exact ⟨h.blk.set 3 _, h.row.setOther 3 _ (fun x hx => h.row.ne_type h.blk (by decide) hx), h.tab.keep m (by omega), h.pool.keep m (by omega), h.coil.keep m (by omega), h.line.keep m (by omega) (by omega), h.cnf.keep m (by omega), h.same, h.blen, fun j x s hx hs => (h.stock j x s hx hs).keep m (by omega), h.check, h.few⟩
end SpaceIn
end Go.Proofs.YthdijbkcjmeilaaGreat
