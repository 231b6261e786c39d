import Derived.Test.YtnebimabokgofaaGreatArea
import Derived.Test.YtnebimabokgofaaGreatMgShape2
import Derived.Test.YtnebimabokgofaaGreatMgMem
import Derived.Test.YtnebimabokgofaaGreatTint
import Derived.Test.YtnebimabokgofaaGreatCoil
import Derived.Test.YtnebimabokgofaaGreatPool2
import Derived.Test.YtnebimabokgofaaGreatMgLineS
import Derived.Test.YtnebimabokgofaaGreatLine
import Derived.Test.YtnebimabokgofaaGreatCopy
/-
  area: Words, Spine, Global.
-/
namespace Go.Proofs.YtnebimabokgofaaGreat
open Go Go.RowKit
set_option linter.unusedVariables false
set_option maxHeartbeats 2000000
theorem index4b (x0 x1 x2 x3 : Value) (w : World) :
    (Instr.index 145 (.agg #[x0, x1, x2, x3]) (.int .i64 0)).run Tryz.prog w = .ok x0 w ∧
    (Instr.index 145 (.agg #[x0, x1, x2, x3]) (.int .i64 1)).run Tryz.prog w = .ok x1 w ∧
    (Instr.index 145 (.agg #[x0, x1, x2, x3]) (.int .i64 2)).run Tryz.prog w = .ok x2 w ∧
    (Instr.index 145 (.agg #[x0, x1, x2, x3]) (.int .i64 3)).run Tryz.prog w = .ok x3 w :=
  ⟨by kernel_rfl, by kernel_rfl, by kernel_rfl, by kernel_rfl⟩
def cWords (c : Cnf) : Int := if c.check = 0 then c.frags * 8 + c.spine + c.spine + c.globals else 0
theorem words_any (c : Cnf) (w : World) (hc : c.Ok w) : Calls Tryz.prog 55 #[c.val] w (Gives (.int .i64 (cWords c)) w) := by
  have HC := Lib.hid (fun w' (he : Ext w w') => sizes_any c w' (hc.ext he))
  obtain ⟨a0, a1, a2, a3, hS, hz, h0, h1, h2, h3⟩ : ∃ a0 a1 a2 a3 : Int, cSizes c = .agg #[.int .i64 a0, .int .i64 a1, .int .i64 a2, .int .i64 a3] ∧ cWords c = a0 + a1 + a2 + a3 ∧ (0 ≤ a0 ∧ a0 ≤ 8192) ∧ (0 ≤ a1 ∧ a1 ≤ 2048) ∧ (0 ≤ a2 ∧ a2 ≤ 2048) ∧ (0 ≤ a3 ∧ a3 ≤ 8) := by
    by_cases h0 : c.check = 0
    · obtain ⟨⟨_, _⟩, ⟨_, _⟩, ⟨_, _⟩, _⟩ := Cnf.ranged (Cnf.check_zero h0).1
      exact ⟨_, _, _, _, by unfold cSizes; rw [if_pos h0], by unfold cWords; rw [if_pos h0], by omega, by omega, by omega, by omega⟩
    · exact ⟨0, 0, 0, 0, by unfold cSizes; rw [if_neg h0], by unfold cWords; rw [if_neg h0]; rfl, by omega, by omega, by omega, by omega⟩
  rw [hS] at HC
  have HZ := Lib.hid hz
  clear hS hz
  have q0 := fun w => (index4b (.int .i64 a0) (.int .i64 a1) (.int .i64 a2) (.int .i64 a3) w).1
  have q1 := fun w => (index4b (.int .i64 a0) (.int .i64 a1) (.int .i64 a2) (.int .i64 a3) w).2.1
  have q2 := fun w => (index4b (.int .i64 a0) (.int .i64 a1) (.int .i64 a2) (.int .i64 a3) w).2.2.1
  have q3 := fun w => (index4b (.int .i64 a0) (.int .i64 a1) (.int .i64 a2) (.int .i64 a3) w).2.2.2
  unfold Cnf.val at HC ⊢
  go_enter Tryz.func55, Tryz.ntmps55
  go_wp2_with fail
  refine (HC.out _ (by (repeat (first | (with_reducible assumption) | (with_reducible exact Ext.refl _) | (with_reducible exact Ext.more _ _ _ _) | apply Ext.alloc | refine Ext.setCell ?_ (by first | exact Nat.le_refl _ | exact Nat.le_add_right _ _ | assumption) _ | apply Ext.patch | apply Ext.drew | apply Ext.drewN)))).mono ?_
  rintro e w1 ⟨rfl, X1, rfl⟩
  go_wp2_with fail
  refine wp_loop_rounds 5 ?_
  rw [rounds_succ]
  go_wp2_with fail
  rw [rounds_succ]
  go_wp2_with fail
  rw [rounds_succ]
  go_wp2_with fail
  rw [rounds_succ]
  go_wp2_with fail
  rw [rounds_succ]
  go_wp2_with fail
  go_ret
  exact Gives.int (by rw [HZ.out]; try simp) (by (repeat (first | (with_reducible assumption) | (with_reducible exact Ext.refl _) | (with_reducible exact Ext.more _ _ _ _) | apply Ext.alloc | refine Ext.setCell ?_ (by first | exact Nat.le_refl _ | exact Nat.le_add_right _ _ | assumption) _ | apply Ext.patch | apply Ext.drew | apply Ext.drewN)))
theorem global_any (c : Cnf) (k : Int) (w : World) (hc : c.Ok w) : Calls Tryz.prog 59 #[c.val, .int .i64 k] w (Gives (cAt c 3 k) w) := by
  have HC := Lib.hid (fun w' (he : Ext w w') => at_any c 3 k w' (hc.ext he) (by omega))
  have HV : ∃ x y : Int, cAt c 3 k = .tuple #[.int .i64 x, .int .i64 y] := by unfold cAt; split <;> exact ⟨_, _, rfl⟩
  obtain ⟨x, y, hv⟩ := HV
  rw [hv] at HC ⊢
  clear hv
  unfold Cnf.val at HC ⊢
  go_enter Tryz.func59, Tryz.ntmps59
  go_wp2_with fail
  refine (HC.out _ (by (repeat (first | (with_reducible assumption) | (with_reducible exact Ext.refl _) | (with_reducible exact Ext.more _ _ _ _) | apply Ext.alloc | refine Ext.setCell ?_ (by first | exact Nat.le_refl _ | exact Nat.le_add_right _ _ | assumption) _ | apply Ext.patch | apply Ext.drew | apply Ext.drewN)))).mono ?_
  rintro e w1 ⟨rfl, X1, rfl⟩
  go_wp2_with fail
  go_ret2
  exact Gives.ii rfl rfl (by (repeat (first | (with_reducible assumption) | (with_reducible exact Ext.refl _) | (with_reducible exact Ext.more _ _ _ _) | apply Ext.alloc | refine Ext.setCell ?_ (by first | exact Nat.le_refl _ | exact Nat.le_add_right _ _ | assumption) _ | apply Ext.patch | apply Ext.drew | apply Ext.drewN)))
theorem spine_any (c : Cnf) (s : Nat) (k : Int) (w : World) (hc : c.Ok w) (hs : s < 2) : Calls Tryz.prog 211 #[c.val, .int .i64 s, .int .i64 k] w (Gives (cAt c (s + 1) k) w) := by
  have HC := Lib.hid (fun w' (he : Ext w w') => at_any c (s + 1) k w' (hc.ext he) (by omega))
  have HV : ∃ x y : Int, cAt c (s + 1) k = .tuple #[.int .i64 x, .int .i64 y] := by unfold cAt; split <;> exact ⟨_, _, rfl⟩
  obtain ⟨x, y, hv⟩ := HV
  rw [hv] at HC ⊢
  clear hv
  unfold Cnf.val at HC ⊢
  rcases (show s = 0 ∨ s = 1 by omega) with rfl | rfl
  · go_enter Tryz.func211, Tryz.ntmps211
    go_wp2_with fail
    refine (HC.out _ (by (repeat (first | (with_reducible assumption) | (with_reducible exact Ext.refl _) | (with_reducible exact Ext.more _ _ _ _) | apply Ext.alloc | refine Ext.setCell ?_ (by first | exact Nat.le_refl _ | exact Nat.le_add_right _ _ | assumption) _ | apply Ext.patch | apply Ext.drew | apply Ext.drewN)))).mono ?_
    rintro e w1 ⟨rfl, X1, rfl⟩
    go_wp2_with fail
    go_ret2
    exact Gives.ii rfl rfl (by (repeat (first | (with_reducible assumption) | (with_reducible exact Ext.refl _) | (with_reducible exact Ext.more _ _ _ _) | apply Ext.alloc | refine Ext.setCell ?_ (by first | exact Nat.le_refl _ | exact Nat.le_add_right _ _ | assumption) _ | apply Ext.patch | apply Ext.drew | apply Ext.drewN)))
  · go_enter Tryz.func211, Tryz.ntmps211
    go_wp2_with fail
    refine (HC.out _ (by (repeat (first | (with_reducible assumption) | (with_reducible exact Ext.refl _) | (with_reducible exact Ext.more _ _ _ _) | apply Ext.alloc | refine Ext.setCell ?_ (by first | exact Nat.le_refl _ | exact Nat.le_add_right _ _ | assumption) _ | apply Ext.patch | apply Ext.drew | apply Ext.drewN)))).mono ?_
    rintro e w1 ⟨rfl, X1, rfl⟩
    go_wp2_with fail
    go_ret2
    exact Gives.ii rfl rfl (by (repeat (first | (with_reducible assumption) | (with_reducible exact Ext.refl _) | (with_reducible exact Ext.more _ _ _ _) | apply Ext.alloc | refine Ext.setCell ?_ (by first | exact Nat.le_refl _ | exact Nat.le_add_right _ _ | assumption) _ | apply Ext.patch | apply Ext.drew | apply Ext.drewN)))
end Go.Proofs.YtnebimabokgofaaGreat

/-
  stock.Side, sporef6.Side, spolaw4.Few.
-/
namespace Go
/-- Each is one more than the one ahead. -/
def sideTo (l : List Int) (k : Nat) : Bool := (List.range k).all fun i => decide (l.getD i 0 ≠ 9223372036854775807 ∧ l.getD (i + 1) 0 = l.getD i 0 + 1)
def isSide (l : List Int) : Bool := sideTo l (l.length - 1)
theorem sideTo_succ (l : List Int) (k : Nat) : sideTo l (k + 1) = (sideTo l k && decide (l.getD k 0 ≠ 9223372036854775807 ∧ l.getD (k + 1) 0 = l.getD k 0 + 1)) := by
  simp [sideTo, List.range_succ, List.all_append]
theorem isSide_no {l : List Int} {k : Nat} (hk : k + 1 < l.length) (h : ¬ (l.getD k 0 ≠ 9223372036854775807 ∧ l.getD (k + 1) 0 = l.getD k 0 + 1)) : isSide l = false := by
  unfold isSide sideTo
  rw [List.all_eq_false]
  exact ⟨k, List.mem_range.2 (by omega), by simpa using h⟩
end Go
namespace Go.Proofs.YtnebimabokgofaaGreat
open Go Go.RowKit

theorem ints_at {w : World} {A : Option Addr} {l : List Int} (h : CellsAt w A (l.map (Value.int .i64))) {k : Nat} (hk : k < l.length) : ∃ b o, A = some ⟨b, o, none⟩ ∧ b < w.heap.size ∧ ∀ j, j < l.length → w.cell? ⟨b, o + j, none⟩ = some (.int .i64 (l.getD j 0)) := by
  obtain ⟨b, o, hA, hb, hc⟩ := h.cases (by simp; omega)
  refine ⟨b, o, hA, hb, fun j hj => hc j _ ?_⟩
  rw [List.getElem?_map, List.getElem?_eq_getElem hj]
  simp [List.getD, List.getElem?_eq_getElem hj]

set_option maxHeartbeats 1000000 in
theorem side_any (A : Option Addr) (cap : Nat) (l : List Int) (w : World) (hc : CellsAt w A (l.map (Value.int .i64))) (hl : l.length ≤ 140737488355328) (hw : ∀ x ∈ l, -9223372036854775808 ≤ x ∧ x ≤ 9223372036854775807) :
    Calls Tryz.prog 209 #[.slice A l.length cap] w (Gives (.bool (isSide l)) w) := by
  go_enter Tryz.func209, Tryz.ntmps209
  go_wp2_with fail
  go_loopw [3] (fun i wr => ∃ k : Nat, (k + 1 ≤ l.length ∨ k = 0) ∧ i = .int .i64 (k + 1 : Nat) ∧ sideTo l k = true ∧ Ext w wr) (fun i _ => l.length + 1 - (intOf i).toNat)
  case atStart => exact ⟨0, .inr rfl, rfl, rfl, Ext.refl _⟩
  case round =>
    obtain ⟨k, hk, rfl, hs, X, rfl⟩ := hrel
    have HS := Lib.hid hs
    clear hs
    by_cases hlt : k + 1 < l.length
    · obtain ⟨b, o, rfl, hb, hcell⟩ := ints_at hc hlt
      have g0 := hcell k (by omega)
      have g1 := hcell (k + 1) hlt
      have w0 := hw (l.getD k 0) (by simp [List.getD, List.getElem?_eq_getElem (show k < l.length by omega)])
      have HT := Lib.hid (sideTo_succ l k)
      have HN := Lib.hid (fun h => isSide_no (l := l) hlt h)
      clear hcell hc hw
      generalize l.getD k 0 = x at *
      generalize l.getD (k + 1) 0 = y at *
      have hk' : ((k + 1 : Nat) : Int) = (k : Int) + 1 := rfl
      rw [hk']
      clear hk'
      go_wp2_with fail
      have hk2 : k < l.length := by omega
      have hi1 : IntKind.i64.wrap ((k : Int) + 1 - 1) = k := by rw [IntWalk.i64_in _ (by omega)]; omega
      obtain ⟨w0a, w0b⟩ := w0
      cases hb : (x == 9223372036854775807)
      · have hx : x ≤ 9223372036854775806 := by have := beq_eq_false_iff_ne.1 hb; omega
        clear w0b
        go_quiet (fail)
        cases hy : (y != x + 1)
        · have HY := Lib.hid (HT.out.trans (by rw [HS.out, decide_eq_true (⟨by omega, by simpa using hy⟩ : x ≠ 9223372036854775807 ∧ y = x + 1)]))
          go_wp2_with fail
          go_roundw
          case rel => exact ⟨k + 1, by omega, by go_num, HY.out, by (repeat (first | (with_reducible assumption) | (with_reducible exact Ext.refl _) | (with_reducible exact Ext.more _ _ _ _) | apply Ext.alloc | refine Ext.setCell ?_ (by first | exact Nat.le_refl _ | exact Nat.le_add_right _ _ | assumption) _ | apply Ext.patch | apply Ext.drew | apply Ext.drewN))⟩
          case measure => simp [intOf]; omega
        · have HF := Lib.hid (HN.out (fun h => by rw [bne_iff_ne] at hy; exact hy h.2))
          go_wp2_with fail
          go_ret
          exact Gives.bool HF.out.symm (by (repeat (first | (with_reducible assumption) | (with_reducible exact Ext.refl _) | (with_reducible exact Ext.more _ _ _ _) | apply Ext.alloc | refine Ext.setCell ?_ (by first | exact Nat.le_refl _ | exact Nat.le_add_right _ _ | assumption) _ | apply Ext.patch | apply Ext.drew | apply Ext.drewN)))
      · have HF := Lib.hid (HN.out (fun h => h.1 (beq_iff_eq.1 hb)))
        clear HN
        go_quiet (fail)
        go_wp2_with fail
        go_ret
        exact Gives.bool HF.out.symm (by (repeat (first | (with_reducible assumption) | (with_reducible exact Ext.refl _) | (with_reducible exact Ext.more _ _ _ _) | apply Ext.alloc | refine Ext.setCell ?_ (by first | exact Nat.le_refl _ | exact Nat.le_add_right _ _ | assumption) _ | apply Ext.patch | apply Ext.drew | apply Ext.drewN)))
    · have HV := Lib.hid (show isSide l = true by unfold isSide; rw [show l.length - 1 = k by omega]; exact HS.out)
      go_wp2_with fail
      go_ret
      exact Gives.bool HV.out.symm (by (repeat (first | (with_reducible assumption) | (with_reducible exact Ext.refl _) | (with_reducible exact Ext.more _ _ _ _) | apply Ext.alloc | refine Ext.setCell ?_ (by first | exact Nat.le_refl _ | exact Nat.le_add_right _ _ | assumption) _ | apply Ext.patch | apply Ext.drew | apply Ext.drewN)))
end Go.Proofs.YtnebimabokgofaaGreat

/-
  space: its state as plain data, and in memory.
-/
namespace Go
open Go.RowKit
set_option linter.unusedVariables false
structure SpaceS where
  tab : TabS
  stocks : List StockS
  forced : Bool
  count : Int
  c : Cnf
  pool : PoolS
  coil : CoilS
  line : List Ent
theorem Cnf.Same.bad {c d : Cnf} (h : c.Same d) : badIn c.shapes = badIn d.shapes := by
  have e : ∀ l : List Shp, badIn l = (l.map Shp.data).any fun p => !decide (p.2.length ≤ 40 ∧ (p.1 = true → p.2.length = 1)) := fun l => by
    unfold badIn
    rw [List.any_map]
    rfl
  rw [e, e, h.shapes]
theorem Cnf.Same.check {c d : Cnf} (h : c.Same d) : c.check = d.check := by
  have hl : c.shapes.length = d.shapes.length := by have := congrArg List.length h.shapes; simpa using this
  have hb := h.bad
  obtain ⟨h1, h2, h3, h4, h5, h6, h7, h8, _⟩ := h
  unfold Cnf.check Cnf.rangedTo Cnf.ranges
  rw [h1, h2, h3, h4, h5, h6, h7, h8, hl, hb]
theorem Cnf.Same.refl (c : Cnf) : c.Same c := ⟨rfl, rfl, rfl, rfl, rfl, rfl, rfl, rfl, rfl⟩
/-- An object's numbers. -/
def inst (B : Nat) (x : Nat) : Prop := B ≤ x ∧ x < B + 60
end Go
namespace Go.Proofs.YtnebimabokgofaaGreat
open Go Go.RowKit
set_option linter.unusedVariables false
theorem Cnf.Same.cAt {c d : Cnf} (h : c.Same d) (r : Nat) (k : Int) : cAt c r k = cAt d r k := by
  have hc := h.check
  obtain ⟨h1, h2, h3, h4, h5, h6, h7, h8, _⟩ := h
  unfold Go.Proofs.YtnebimabokgofaaGreat.cAt cSize cAhead
  rw [hc, h1, h2, h3]

structure SpaceIn (g : GW) (B b bt : Nat) (S : SpaceS) (bp bk bl : Nat) (A : Option Addr) (cs : Nat) (cm : Cnf) (bs : List Nat) : Prop where
  blk : Blk g B b 51 [.pointer (some ⟨bt, 0, none⟩), .slice A S.stocks.length cs, .bool S.forced, .int .i64 S.count, .int .i64 cm.frags, .int .i64 cm.spine, .int .i64 cm.globals, .int .i64 cm.threads, .int .i64 cm.locals, .int .i64 cm.cache, .int .i64 cm.stack, .int .i64 cm.low, .slice cm.A cm.shapes.length cm.cap, .pointer (some ⟨bp, 0, none⟩), .pointer (some ⟨bk, 0, none⟩), .pointer (some ⟨bl, 0, none⟩)]
  row : Row g B 156 1 (.slice A S.stocks.length cs) S.stocks.length (bs.map fun x => Value.pointer (some ⟨x, 0, none⟩))
  tab : TabAt g (B + 50) bt S.tab
  pool : PoolAt g (B + 1) bp S.pool
  coil : CoilAt g (B + 2) bk S.coil
  line : LineAt g (B + 3) bl S.line
  cnf : CnfAt g (B + 5) cm
  same : cm.Same S.c
  blen : bs.length = S.stocks.length
  stock : ∀ j x s, bs[j]? = some x → S.stocks[j]? = some s → StockAt g (B + 10 + j) x s
  check : S.c.check = 0
  few : S.stocks.length ≤ 16
def SpaceAt (g : GW) (B b bt : Nat) (S : SpaceS) : Prop := ∃ bp bk bl A cs cm bs, SpaceIn g B b bt S bp bk bl A cs cm bs
namespace SpaceIn
variable {g g' : GW} {B b bt bp bk bl cs : Nat} {S : SpaceS} {A : Option Addr} {cm : Cnf} {bs : List Nat}
theorem keep {T : Nat → Prop} (h : SpaceIn g B b bt S bp bk bl A cs cm bs) (m : Mod T g g') (hT : ∀ x, T x → x < B ∨ B + 60 ≤ x) : SpaceIn g' B b bt S bp bk bl A cs cm bs := by
  have q : ∀ k, k < 60 → ¬ T (B + k) := fun k hk ht => by have := hT _ ht; omega
  refine ⟨h.blk.keep m (q 0 (by omega)), h.row.keep m (q 0 (by omega)), h.tab.keep m (q 50 (by omega)), h.pool.keep m (q 1 (by omega)), h.coil.keep m (q 2 (by omega)), h.line.keep m (q 3 (by omega)) (q 4 (by omega)), h.cnf.keep m (q 5 (by omega)), h.same, h.blen, fun j x s hx hs => (h.stock j x s hx hs).keep m (fun e => ?_), h.check, h.few⟩
  have := (List.getElem?_eq_some_iff.1 hs).1
  have := h.few
  exact q (10 + j) (by omega) (by rw [← Nat.add_assoc]; exact e)
theorem withTab (h : SpaceIn g B b bt S bp bk bl A cs cm bs) {T : TabS} (m : Mod (fun x => x = B + 50) g g') (ht : TabAt g' (B + 50) bt T) : SpaceIn g' B b bt { S with tab := T } bp bk bl A cs cm bs :=
  ⟨h.blk.keep m (by omega), h.row.keep m (by omega), ht, h.pool.keep m (by omega), h.coil.keep m (by omega), h.line.keep m (by omega) (by omega), h.cnf.keep m (by omega), h.same, h.blen, fun j x s hx hs => (h.stock j x s hx hs).keep m (by have h1 : j < S.stocks.length := (List.getElem?_eq_some_iff.1 hs).1; have := h.few; omega), h.check, h.few⟩
theorem withPool (h : SpaceIn g B b bt S bp bk bl A cs cm bs) {T : PoolS} (m : Mod (fun x => x = B + 1) g g') (ht : PoolAt g' (B + 1) bp T) : SpaceIn g' B b bt { S with pool := T } bp bk bl A cs cm bs :=
  ⟨h.blk.keep m (by omega), h.row.keep m (by omega), h.tab.keep m (by omega), ht, h.coil.keep m (by omega), h.line.keep m (by omega) (by omega), h.cnf.keep m (by omega), h.same, h.blen, fun j x s hx hs => (h.stock j x s hx hs).keep m (by omega), h.check, h.few⟩
theorem withCoil (h : SpaceIn g B b bt S bp bk bl A cs cm bs) {T : CoilS} (m : Mod (fun x => x = B + 2) g g') (ht : CoilAt g' (B + 2) bk T) : SpaceIn g' B b bt { S with coil := T } bp bk bl A cs cm bs :=
  ⟨h.blk.keep m (by omega), h.row.keep m (by omega), h.tab.keep m (by omega), h.pool.keep m (by omega), ht, h.line.keep m (by omega) (by omega), h.cnf.keep m (by omega), h.same, h.blen, fun j x s hx hs => (h.stock j x s hx hs).keep m (by omega), h.check, h.few⟩
theorem withLine (h : SpaceIn g B b bt S bp bk bl A cs cm bs) {T : List Ent} (m : Mod (fun x => x = B + 3 ∨ x = B + 4) g g') (ht : LineAt g' (B + 3) bl T) : SpaceIn g' B b bt { S with line := T } bp bk bl A cs cm bs :=
  ⟨h.blk.keep m (by omega), h.row.keep m (by omega), h.tab.keep m (by omega), h.pool.keep m (by omega), h.coil.keep m (by omega), ht, h.cnf.keep m (by omega), h.same, h.blen, fun j x s hx hs => (h.stock j x s hx hs).keep m (by omega), h.check, h.few⟩
theorem withStock (h : SpaceIn g B b bt S bp bk bl A cs cm bs) {k y : Nat} {s' : StockS} (hk : k < S.stocks.length) (hy : bs[k]? = some y) (m : Mod (fun x => x = B + 10 + k) g g') (ht : StockAt g' (B + 10 + k) y s') : SpaceIn g' B b bt { S with stocks := S.stocks.set k s' } bp bk bl A cs cm bs := by
  have hf := h.few
  refine ⟨?_, ?_, h.tab.keep m (by omega), h.pool.keep m (by omega), h.coil.keep m (by omega), h.line.keep m (by omega) (by omega), h.cnf.keep m (by omega), h.same, by simpa using h.blen, fun j x s hx hs => ?_, h.check, by simpa using h.few⟩
  · simp only [List.length_set]; exact h.blk.keep m (by omega)
  · simp only [List.length_set]; exact h.row.keep m (by omega)
  · by_cases hj : k = j
    · subst hj
      rw [hy] at hx
      injection hx with hx
      simp only at hs
      rw [List.getElem?_set_self hk] at hs
      injection hs with hs
      rw [← hx, ← hs]
      exact ht
    · simp only at hs
      rw [List.getElem?_set_ne hj] at hs
      exact (h.stock j x s hx hs).keep m (by omega)
theorem tick (h : SpaceIn g B b bt S bp bk bl A cs cm bs) : SpaceIn ⟨g.own, g.w.setCell ⟨b, 3, none⟩ (.int .i64 (S.count + 1))⟩ B b bt { S with count := S.count + 1 } bp bk bl A cs cm bs := by
  have m : Mod (fun x => x = B) g ⟨g.own, g.w.setCell ⟨b, 3, none⟩ (.int .i64 (S.count + 1))⟩ := Mod.set h.blk.own
  exact ⟨h.blk.set 3 _, h.row.setOther 3 _ (fun x hx => h.row.ne_type h.blk (by decide) hx), h.tab.keep m (by omega), h.pool.keep m (by omega), h.coil.keep m (by omega), h.line.keep m (by omega) (by omega), h.cnf.keep m (by omega), h.same, h.blen, fun j x s hx hs => (h.stock j x s hx hs).keep m (by omega), h.check, h.few⟩
end SpaceIn
end Go.Proofs.YtnebimabokgofaaGreat

