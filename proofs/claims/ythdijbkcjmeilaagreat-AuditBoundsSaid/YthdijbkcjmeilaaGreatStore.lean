/-
  Stores into a block that is known as a whole. No program here.
-/
import Derived.Test.YthdijbkcjmeilaaGreatRow
import Derived.Laws.Tables
namespace Go
open Go.RowKit

theorem setRow_putBlk {w : World} {b : Nat} {t : TypeId} {old cells : Array Value} (h : w.heap[b]? = some (.cells old t)) : w.setRow b cells = w.putBlk b (.cells cells t) := by
  simp only [World.putBlk, World.setRow, World.mk.injEq, and_true]
  apply Array.ext_getElem?
  intro j
  have hb := (Array.getElem?_eq_some_iff.1 h).1
  by_cases hj : b = j
  · subst hj
    rw [Array.getElem?_modify, h]
    simp [hb]
  · rw [Array.getElem?_modify]
    simp [hj]

theorem wpList_store_blk {P : Program} {ops : Array Oper} {rest : List Oper} {op : Oper} {a : Act} {w : World} {X : Extra} {Q : Exit → Act → World → Prop} (hgd : op.guard = none) (ty : TypeId) (x y : Operand) (ho : op.op = .store ty x y)
    (g : Nat) (news : List Value) (hx : a.eval x = .pointer (some ⟨g, 0, none⟩)) (hy : a.eval y = .agg news.toArray)
    (t : TypeId) (old : List Value) (hg : w.heap[g]? = some (.cells old.toArray t)) (hi : (P.info? ty).map (·.size) = some news.length) (hl : old.length = news.length) (h1 : ∀ v ∈ news, v.oneCell' = true)
    (h : wpList P ops Q rest (a.put op.dst undef) ((w.putBlk g (.cells news.toArray t)).patch X)) : wpList P ops Q (op :: rest) a (w.patch X) := by
  have hb := (Array.getElem?_eq_some_iff.1 hg).1
  have hg' : (w.patch X).heap[g]? = some (.cells old.toArray t) := by rw [World.heap_patch _ _ _ hb, hg]
  refine wpList_store_row hgd ty x y ho g news.toArray hx hy t old.toArray hg' (by rw [hi]; simp) (by simpa using hl) (by simpa using h1) ?_
  rw [setRow_putBlk hg', World.putBlk_patch _ hb]
  exact h

/-- One word of the block. -/
theorem wpList_store_one {P : Program} {ops : Array Oper} {rest : List Oper} {op : Oper} {a : Act} {w : World} {X : Extra} {Q : Exit → Act → World → Prop} (hgd : op.guard = none) (ty : TypeId) (x y : Operand) (ho : op.op = .store ty x y)
    (g i : Nat) (v : Value) (hx : a.eval x = .pointer (some ⟨g, i, none⟩)) (hy : a.eval y = v)
    (t : TypeId) (old : List Value) (hg : w.heap[g]? = some (.cells old.toArray t)) (hi : (P.info? ty).map (·.size) = some 1) (hl : i < old.length) (h1 : ∃ p q, v = .complex .f64 p q)
    (h : wpList P ops Q rest (a.put op.dst undef) ((w.putBlk g (.cells (old.set i v).toArray t)).patch X)) : wpList P ops Q (op :: rest) a (w.patch X) := by
  have hb := (Array.getElem?_eq_some_iff.1 hg).1
  have hc : (w.patch X).cell? ⟨g, i, none⟩ = some old[i] := by rw [World.cell?_patch _ _ _ _ hb]; exact row_cell hg (List.getElem?_eq_getElem hl)
  have hf : (w.patch X).frozen? ⟨g, i, none⟩ = false := by rw [World.frozen?_patch _ _ _ _ hb]; exact row_live hg
  obtain ⟨p, q, rfl⟩ := h1
  refine wpList_plain hgd fun K hK => ?_
  unfold Oper.wp execOp
  have hs : (storeVar ty ⟨g, i, none⟩ (.complex .f64 p q)).run P (w.patch X) = .ok () ((w.putBlk g (.cells (old.set i (.complex .f64 p q)).toArray t)).patch X) := by
    cases hq : P.info? ty with
    | none => simp [hq] at hi
    | some inf =>
      have hs : inf.size = 1 := by simp [hq] at hi; omega
      have hr := run_store P (w.patch X) ⟨g, i, none⟩ (.complex .f64 p q) .plain rfl
      rw [hc, hf] at hr
      have hw : (w.patch X).setCell ⟨g, i, none⟩ (.complex .f64 p q) = (w.putBlk g (.cells (old.set i (.complex .f64 p q)).toArray t)).patch X := by
        rw [World.setCell_patch _ _ _ _ _ hb, World.setCell_row _ hg, List.setIfInBounds_toArray]
      simp [storeVar, sizeOf, typeInfo, hq, Value.cells, hs, storeCells]
      rw [show (⟨g, i, none⟩ : Addr).add 0 = ⟨g, i, none⟩ by simp [Addr.add], hr, ← hw]
      rfl
  simp only [ho, hx, hy, Instr.storeAt, Instr.sureAddr, Sem.run_bind, Sem.run_pure, Result.andThen_ok, hs]
  exact hK _ _ h
end Go
