import Derived.Test.YtnebimabokgofaaGreatMgScope
import Derived.Laws.Tables
/-
  A whole block that is written anew; the cells of an array of words. No program here.
-/
namespace Go
open Go.RowKit

def World.putBlk (w : World) (b : Nat) (o : Obj) : World := { w with heap := w.heap.setIfInBounds b o }
section
variable (w : World) {b : Nat} {o p : Obj}
@[simp] theorem World.size_putBlk : (w.putBlk b o).heap.size = w.heap.size := by simp [World.putBlk]
theorem World.row_put (h : b < w.heap.size) : (w.putBlk b o).heap[b]? = some o := by
  simp [World.putBlk, h]
theorem World.row_put_other {k : Nat} (h : b ≠ k) : (w.putBlk b o).heap[k]? = w.heap[k]? := by
  simp [World.putBlk, h]
theorem World.putBlk_self (h : w.heap[b]? = some o) : w.putBlk b o = w := by
  have e : w.heap.setIfInBounds b o = w.heap := by
    apply Array.ext_getElem?
    intro i
    by_cases hi : b = i
    · subst hi
      rw [h]
      simp [(Array.getElem?_eq_some_iff.1 h).1]
    · simp [hi]
  simp only [World.putBlk, e]
theorem World.putBlk_putBlk : (w.putBlk b o).putBlk b p = w.putBlk b p := by
  simp [World.putBlk]
theorem World.putBlk_patch {X : Extra} (h : b < w.heap.size) : (w.patch X).putBlk b o = (w.putBlk b o).patch X := by
  simp only [World.putBlk, World.patch, World.mk.injEq, and_true]
  apply Array.ext_getElem?
  intro i
  by_cases hi : i < w.heap.size <;> by_cases hb : b = i
  · subst hb; simp [h, Array.getElem?_append]
  · simp [hb, hi, Array.getElem?_append]
  · omega
  · simp [hb, hi, Array.getElem?_append]
theorem World.putBlk_alloc (h : b < w.heap.size) : (w.alloc p).putBlk b o = (w.putBlk b o).alloc p := by
  simp only [World.putBlk, World.alloc, World.mk.injEq, and_true]
  apply Array.ext_getElem?
  intro i
  by_cases hi : i < w.heap.size <;> by_cases hb : b = i
  · subst hb
    have hn : b ≠ w.heap.size := by omega
    have hs : b < (w.heap.push p).size := by simp; omega
    rw [Array.getElem?_setIfInBounds_self, if_pos hs, Array.getElem?_push, if_neg (by rw [Array.size_setIfInBounds]; exact hn), Array.getElem?_setIfInBounds_self, if_pos h]
  · simp [hb, Array.getElem?_push]
  · omega
  · simp [hb, Array.getElem?_push]
theorem World.putBlk_alloc_new {n : Nat} (h : n = w.heap.size) : (w.alloc p).putBlk n o = w.alloc o := by
  subst h
  simp only [World.putBlk, World.alloc, World.mk.injEq, and_true]
  apply Array.ext_getElem?
  intro i
  by_cases hb : w.heap.size = i
  · subst hb; simp
  · have hn : i ≠ w.heap.size := fun e => hb e.symm
    simp [hb, hn, Array.getElem?_push]
theorem World.row_alloc_new : (w.alloc o).heap[w.heap.size]? = some o := by
  show (w.heap.push o)[w.heap.size]? = some o
  simp
theorem World.row_alloc_past {k : Nat} (h : k < w.heap.size) : (w.alloc o).heap[k]? = w.heap[k]? := by
  show (w.heap.push o)[k]? = w.heap[k]?
  rw [Array.getElem?_push, if_neg (by omega)]
theorem World.setCell_row {c : Array Value} {t : TypeId} {f : Nat × Nat} {i : Nat} {v : Value} (h : w.heap[b]? = some (.cells c t f)) : w.setCell ⟨b, i, none⟩ v = w.putBlk b (.cells (c.setIfInBounds i v) t f) := by
  simp only [World.putBlk, World.setCell, World.mk.injEq, and_true]
  apply Array.ext_getElem?
  intro j
  have hb := (Array.getElem?_eq_some_iff.1 h).1
  by_cases hj : b = j
  · subst hj
    rw [Array.getElem?_modify, h]
    simp [hb]
  · rw [Array.getElem?_modify]
    simp [hj]
end
theorem CellsAt.putBlk {w : World} {A : Option Addr} {vs : List Value} {b : Nat} {o : Obj} (h : CellsAt w A vs) (hp : ∀ a, A = some a → 0 < vs.length → b ≠ a.block) : CellsAt (w.putBlk b o) A vs := fun i u hi => by
  have hv : 0 < vs.length := by have := (List.getElem?_eq_some_iff.1 hi).1; omega
  obtain ⟨k, q, hA, hb, hc⟩ := h i u hi
  refine ⟨k, q, hA, by rw [World.size_putBlk]; exact hb, ?_⟩
  rw [← hc]
  exact World.cell?_of_block (World.row_put_other _ (show b ≠ k from hp _ hA hv))
theorem Shp.Ok.putBlk {w : World} {s : Shp} {b : Nat} {o : Obj} (h : s.Ok w) (hp : ∀ a, s.A = some a → 0 < s.refs.length → b ≠ a.block) : s.Ok (w.putBlk b o) :=
  ⟨h.refs.putBlk (fun a ha hl => hp a ha (by simpa using hl)), h.len, h.max⟩
theorem row_cell {w : World} {b i : Nat} {l : List Value} {t : TypeId} {v : Value} (h : w.heap[b]? = some (.cells l.toArray t)) (hi : l[i]? = some v) : w.cell? ⟨b, i, none⟩ = some v := by
  simp only [World.cell?, h]
  simpa using hi
theorem row_live {w : World} {b i : Nat} {l : List Value} {t : TypeId} (h : w.heap[b]? = some (.cells l.toArray t)) : w.frozen? ⟨b, i, none⟩ = false := by
  simp [World.frozen?, h]


/-- The fields ahead of the k-th, laid into the words of a fragment. -/
def putFields (s : Shp) (frag : Int) (vs : List Value) : Nat → List Value
  | 0 => vs
  | k + 1 => if s.hasField k = true ∧ Shp.placeF k = frag then (putFields s frag vs k).set (Shp.placeW k).toNat (wBlank (s.refs.getD k false)) else putFields s frag vs k
theorem putFields_length (s : Shp) (frag : Int) (vs : List Value) : ∀ k, (putFields s frag vs k).length = vs.length
  | 0 => rfl
  | k + 1 => by
    have := putFields_length s frag vs k
    unfold putFields
    split
    · rw [List.length_set, this]
    · exact this
theorem putFields_no {s : Shp} {frag : Int} {vs : List Value} {k : Nat} (h : ¬ (s.hasField k = true ∧ Shp.placeF k = frag)) : putFields s frag vs (k + 1) = putFields s frag vs k := if_neg h
theorem putFields_yes {s : Shp} {frag : Int} {vs : List Value} {k : Nat} (h : s.hasField k = true ∧ Shp.placeF k = frag) : putFields s frag vs (k + 1) = (putFields s frag vs k).set (Shp.placeW k).toNat (wBlank (s.refs.getD k false)) := if_pos h
/-- The eight words of a fragment, and what is written of the first k. -/
def cx (p : Nat × Nat) : Value := .complex .f64 p.1 p.2
def cxs (f : Nat → Nat × Nat) : List Value := (List.range 8).map fun j => cx (f j)
def writes (i : Int) (f : Nat → Nat × Nat) : Nat → List Value
  | 0 => []
  | k + 1 => writes i f k ++ [.int .i64 (i * 8 + k), cx (f k)]
theorem writes_length (i : Int) (f : Nat → Nat × Nat) : ∀ k, (writes i f k).length = k * 2
  | 0 => rfl
  | k + 1 => by rw [writes, List.length_append, writes_length i f k]; simp; omega
theorem Shp.placeW_bd (k : Int) (h : 0 ≤ k) : 1 ≤ placeW k ∧ placeW k ≤ 7 := by
  unfold placeW
  split <;> omega
end Go

/-
  Stores into a block that is known as a whole. No program here.
-/
namespace Go
open Go.RowKit

theorem setRow_putBlk {w : World} {b : Nat} {t : TypeId} {old cells : Array Value} (h : w.heap[b]? = some (.cells old t)) : w.setRow b cells = w.putBlk b (.cells cells t) := by
  simp only [World.putBlk, World.setRow, World.mk.injEq, and_true]
  apply Array.ext_getElem?
  intro j
  have hb := (Array.getElem?_eq_some_iff.1 h).1
  by_cases hj : b = j
  · subst hj
    rw [Array.getElem?_modify, h]
    simp [hb]
  · rw [Array.getElem?_modify]
    simp [hj]

theorem wpList_store_blk {P : Program} {ops : Array Oper} {rest : List Oper} {op : Oper} {a : Act} {w : World} {X : Extra} {Q : Exit → Act → World → Prop} (hgd : op.guard = none) (ty : TypeId) (x y : Operand) (ho : op.op = .store ty x y)
    (g : Nat) (news : List Value) (hx : a.eval x = .pointer (some ⟨g, 0, none⟩)) (hy : a.eval y = .agg news.toArray)
    (t : TypeId) (old : List Value) (hg : w.heap[g]? = some (.cells old.toArray t)) (hi : (P.info? ty).map (·.size) = some news.length) (hl : old.length = news.length) (h1 : ∀ v ∈ news, v.oneCell' = true)
    (h : wpList P ops Q rest (a.put op.dst undef) ((w.putBlk g (.cells news.toArray t)).patch X)) : wpList P ops Q (op :: rest) a (w.patch X) := by
  have hb := (Array.getElem?_eq_some_iff.1 hg).1
  have hg' : (w.patch X).heap[g]? = some (.cells old.toArray t) := by rw [World.heap_patch _ _ _ hb, hg]
  refine wpList_store_row hgd ty x y ho g news.toArray hx hy t old.toArray hg' (by rw [hi]; simp) (by simpa using hl) (by simpa using h1) ?_
  rw [setRow_putBlk hg', World.putBlk_patch _ hb]
  exact h

/-- One word of the block. -/
theorem wpList_store_one {P : Program} {ops : Array Oper} {rest : List Oper} {op : Oper} {a : Act} {w : World} {X : Extra} {Q : Exit → Act → World → Prop} (hgd : op.guard = none) (ty : TypeId) (x y : Operand) (ho : op.op = .store ty x y)
    (g i : Nat) (v : Value) (hx : a.eval x = .pointer (some ⟨g, i, none⟩)) (hy : a.eval y = v)
    (t : TypeId) (old : List Value) (hg : w.heap[g]? = some (.cells old.toArray t)) (hi : (P.info? ty).map (·.size) = some 1) (hl : i < old.length) (h1 : ∃ p q, v = .complex .f64 p q)
    (h : wpList P ops Q rest (a.put op.dst undef) ((w.putBlk g (.cells (old.set i v).toArray t)).patch X)) : wpList P ops Q (op :: rest) a (w.patch X) := by
  have hb := (Array.getElem?_eq_some_iff.1 hg).1
  have hc : (w.patch X).cell? ⟨g, i, none⟩ = some old[i] := by rw [World.cell?_patch _ _ _ _ hb]; exact row_cell hg (List.getElem?_eq_getElem hl)
  have hf : (w.patch X).frozen? ⟨g, i, none⟩ = false := by rw [World.frozen?_patch _ _ _ _ hb]; exact row_live hg
  obtain ⟨p, q, rfl⟩ := h1
  refine wpList_plain hgd fun K hK => ?_
  unfold Oper.wp execOp
  have hs : (storeVar ty ⟨g, i, none⟩ (.complex .f64 p q)).run P (w.patch X) = .ok () ((w.putBlk g (.cells (old.set i (.complex .f64 p q)).toArray t)).patch X) := by
    cases hq : P.info? ty with
    | none => simp [hq] at hi
    | some inf =>
      have hs : inf.size = 1 := by simp [hq] at hi; omega
      have hr := run_store P (w.patch X) ⟨g, i, none⟩ (.complex .f64 p q) .plain rfl
      rw [hc, hf] at hr
      have hw : (w.patch X).setCell ⟨g, i, none⟩ (.complex .f64 p q) = (w.putBlk g (.cells (old.set i (.complex .f64 p q)).toArray t)).patch X := by
        rw [World.setCell_patch _ _ _ _ _ hb, World.setCell_row _ hg, List.setIfInBounds_toArray]
      simp [storeVar, sizeOf, typeInfo, hq, Value.cells, hs, storeCells]
      rw [show (⟨g, i, none⟩ : Addr).add 0 = ⟨g, i, none⟩ by simp [Addr.add], hr, ← hw]
      rfl
  simp only [ho, hx, hy, Instr.storeAt, Instr.sureAddr, Sem.run_bind, Sem.run_pure, Result.andThen_ok, hs]
  exact hK _ _ h
end Go

/-
  A world without what stands behind a block. No program here.
-/
namespace Go
open Go.RowKit
def World.upTo (w : World) (n : Nat) : World := { w with heap := w.heap.extract 0 n }
theorem World.size_upTo (w : World) {n : Nat} (h : n ≤ w.heap.size) : (w.upTo n).heap.size = n := by
  simp [World.upTo]; omega
theorem World.heap_upTo (w : World) {n k : Nat} (hk : k < n) : (w.upTo n).heap[k]? = w.heap[k]? := by
  simp only [World.upTo, Array.getElem?_extract]
  simp
  omega
theorem World.cell_upTo (w : World) {n k o : Nat} (hk : k < n) : (w.upTo n).cell? ⟨k, o, none⟩ = w.cell? ⟨k, o, none⟩ := by
  simp only [World.cell?, World.heap_upTo w hk]
theorem ext_upTo (w : World) {n : Nat} (h : n ≤ w.heap.size) : Ext (w.upTo n) w :=
  ext_of_below ⟨rfl, rfl, rfl, by rw [World.size_upTo w h]; exact h, fun k hk => by rw [World.size_upTo w h] at hk; rw [World.heap_upTo w hk]⟩
theorem Ext.upTo {a w : World} (he : Ext a w) {n : Nat} (hn : a.heap.size ≤ n) (h : n ≤ w.heap.size) : Ext a (w.upTo n) := by
  obtain ⟨b1, b2, b3, b4, b5⟩ := he.below
  exact ext_of_below ⟨b1, b2, b3, by rw [World.size_upTo w h]; exact hn, fun k hk => by rw [World.heap_upTo w (by omega)]; exact b5 k hk⟩
theorem CellsAt.upTo {w : World} {A : Option Addr} {vs : List Value} (hc : CellsAt w A vs) {n : Nat} (h : n ≤ w.heap.size) (ha : ∀ a, A = some a → 0 < vs.length → a.block < n) : CellsAt (w.upTo n) A vs := by
  intro i v hi
  obtain ⟨b, o, rfl, hb, hv⟩ := hc i v hi
  have hn := ha _ rfl (by have := (List.getElem?_eq_some_iff.1 hi).1; omega)
  exact ⟨b, o, rfl, by rw [World.size_upTo w h]; exact hn, by rw [World.cell_upTo w hn]; exact hv⟩
theorem Shp.Ok.upTo {w : World} {s : Shp} (hs : s.Ok w) {n : Nat} (h : n ≤ w.heap.size) (ha : ∀ a, s.A = some a → 0 < s.refs.length → a.block < n) : s.Ok (w.upTo n) :=
  ⟨hs.refs.upTo h (fun a h1 h2 => ha a h1 (by simpa using h2)), hs.len, hs.max⟩
theorem own_lower {w : World} {b b' : Nat} {T : TypeId} {size : Nat} {v : Value} {n : Nat} {xs : List Value} (h : w.ownsRow b T size v n xs) (hb : b' ≤ b) : w.ownsRow b' T size v n xs := by
  obtain ⟨o1, o2⟩ := h
  refine ⟨o1, ?_⟩
  rcases o2 with ⟨hv, hn⟩ | ⟨g, cap, cur, hv, hbg, r⟩
  · exact Or.inl ⟨hv, hn⟩
  · exact Or.inr ⟨g, cap, cur, hv, Nat.le_trans hb hbg, r⟩
end Go

