/-
  What the data look like in memory: lists of values behind a slice's address; shapes; configurations. No program here.
-/
import Derived.Test.YthdijbkcjmeilaaGreatBase
namespace Go
open Go.RowKit

/-- The values vs stand one behind the other from the slice's address on. -/
def CellsAt (w : World) (A : Option Addr) (vs : List Value) : Prop :=
  ∀ i v, vs[i]? = some v → ∃ b o, A = some ⟨b, o, none⟩ ∧ b < w.heap.size ∧ w.cell? ⟨b, o + i, none⟩ = some v

theorem CellsAt.nil (w : World) (A : Option Addr) : CellsAt w A [] := fun i v h => by simp at h
theorem CellsAt.at_ {w : World} {A : Option Addr} {vs : List Value} (h : CellsAt w A vs) {i : Nat} (hi : i < vs.length) :
    ∃ b o, A = some ⟨b, o, none⟩ ∧ b < w.heap.size ∧ w.cell? ⟨b, o + i, none⟩ = some vs[i] := h i _ (List.getElem?_eq_getElem hi)
theorem CellsAt.cases {w : World} {A : Option Addr} {vs : List Value} (h : CellsAt w A vs) (hv : 0 < vs.length) :
    ∃ b o, A = some ⟨b, o, none⟩ ∧ b < w.heap.size ∧ ∀ i v, vs[i]? = some v → w.cell? ⟨b, o + i, none⟩ = some v := by
  obtain ⟨b, o, hA, hb, _⟩ := h.at_ hv
  refine ⟨b, o, hA, hb, fun i v hi => ?_⟩
  obtain ⟨b', o', hA', _, hc⟩ := h i v hi
  rw [hA] at hA'
  simp only [Option.some.injEq, Addr.mk.injEq, and_true] at hA'
  obtain ⟨rfl, rfl⟩ := hA'
  exact hc
theorem CellsAt.mk {w : World} {b o : Nat} {vs : List Value} (hb : b < w.heap.size) (h : ∀ i v, vs[i]? = some v → w.cell? ⟨b, o + i, none⟩ = some v) : CellsAt w (some ⟨b, o, none⟩) vs :=
  fun i v hi => ⟨b, o, rfl, hb, h i v hi⟩
theorem CellsAt.ext {w w' : World} {A : Option Addr} {vs : List Value} (h : CellsAt w A vs) (he : Ext w w') : CellsAt w' A vs := fun i v hi => by
  obtain ⟨b, o, hA, hb, hc⟩ := h i v hi
  obtain ⟨X, rfl⟩ := he
  exact ⟨b, o, hA, by rw [World.size_patch]; omega, by rw [World.cell?_patch _ _ _ _ hb]; exact hc⟩
theorem CellsAt.patch {w : World} {A : Option Addr} {vs : List Value} (h : CellsAt w A vs) (X : Extra) : CellsAt (w.patch X) A vs := h.ext ⟨X, rfl⟩
theorem CellsAt.alloc {w : World} {A : Option Addr} {vs : List Value} (h : CellsAt w A vs) (o : Obj) : CellsAt (w.alloc o) A vs := h.ext ((Ext.refl _).alloc o)
theorem CellsAt.drew {w : World} {A : Option Addr} {vs : List Value} (h : CellsAt w A vs) : CellsAt w.drew A vs := h.ext (Ext.refl _).drew
/-- A cut of the slice. -/
theorem CellsAt.sub {w : World} {A : Option Addr} {vs : List Value} (h : CellsAt w A vs) (k : Nat) : CellsAt w (A.map (·.add k)) (vs.drop k) := fun i v hi => by
  rw [List.getElem?_drop] at hi
  obtain ⟨b, o, rfl, hb, hc⟩ := h _ v hi
  refine ⟨b, o + k, ?_, hb, by rw [Nat.add_assoc]; exact hc⟩
  simp only [Option.map, Addr.add]
  split
  · rename_i h0; subst h0; rfl
  · rfl
theorem CellsAt.take {w : World} {A : Option Addr} {vs : List Value} (h : CellsAt w A vs) (k : Nat) : CellsAt w A (vs.take k) := fun i v hi => by
  rw [List.getElem?_take] at hi
  split at hi
  · exact h i v hi
  · cases hi

/-- A shape as it stands in memory. -/
structure Shp where
  arr : Bool
  A : Option Addr
  cap : Nat
  refs : List Bool
namespace Shp
def cells (s : Shp) : List Value := [.bool s.arr, .slice s.A s.refs.length s.cap]
def val (s : Shp) : Value := .agg #[.bool s.arr, .slice s.A s.refs.length s.cap]
structure Ok (w : World) (s : Shp) : Prop where
  refs : CellsAt w s.A (s.refs.map Value.bool)
  len : s.refs.length ≤ s.cap
  max : s.refs.length ≤ 140737488355328
theorem Ok.ext {w w' : World} {s : Shp} (h : s.Ok w) (he : Ext w w') : s.Ok w' := ⟨h.refs.ext he, h.len, h.max⟩
/-- P3.1 -/
def may (s : Shp) : Bool := decide (s.refs.length ≤ 40 ∧ (s.arr = true → s.refs.length = 1))
end Shp

/-- A configuration as it stands in memory. -/
structure Cnf where
  frags : Int
  spine : Int
  globals : Int
  threads : Int
  locals : Int
  cache : Int
  stack : Int
  low : Int
  A : Option Addr
  cap : Nat
  shapes : List Shp
namespace Cnf
def val (c : Cnf) : Value := .agg #[.int .i64 c.frags, .int .i64 c.spine, .int .i64 c.globals, .int .i64 c.threads, .int .i64 c.locals, .int .i64 c.cache, .int .i64 c.stack, .int .i64 c.low, .slice c.A c.shapes.length c.cap]
structure Ok (w : World) (c : Cnf) : Prop where
  cells : CellsAt w c.A (c.shapes.flatMap Shp.cells)
  shapes : ∀ s ∈ c.shapes, s.Ok w
  len : c.shapes.length ≤ c.cap
  max : c.shapes.length ≤ 140737488355328
theorem Ok.ext {w w' : World} {c : Cnf} (h : c.Ok w) (he : Ext w w') : c.Ok w' := ⟨h.cells.ext he, fun s hs => (h.shapes s hs).ext he, h.len, h.max⟩
end Cnf

theorem flat_cells (l : List Shp) (k : Nat) (s : Shp) (h : l[k]? = some s) : (l.flatMap Shp.cells)[k * 2]? = some (.bool s.arr) ∧ (l.flatMap Shp.cells)[k * 2 + 1]? = some (.slice s.A s.refs.length s.cap) := by
  induction l generalizing k with
  | nil => simp at h
  | cons x l ih =>
    cases k with
    | zero => simp at h; subst h; exact ⟨rfl, rfl⟩
    | succ k =>
      have := ih k (by simpa using h)
      rw [show (k + 1) * 2 = k * 2 + 1 + 1 from by omega]
      simpa [List.flatMap_cons, Shp.cells] using this
/-- The shapes behind a slice's address: each one's two cells. -/
theorem shapes_at {w : World} {A : Option Addr} {l : List Shp} (h : CellsAt w A (l.flatMap Shp.cells)) {k : Nat} (hk : k < l.length) :
    ∃ b o, A = some ⟨b, o, none⟩ ∧ b < w.heap.size ∧ w.cell? ⟨b, o + k * 2, none⟩ = some (.bool l[k].arr) ∧ w.cell? ⟨b, o + k * 2 + 1, none⟩ = some (.slice l[k].A l[k].refs.length l[k].cap) := by
  obtain ⟨f0, f1⟩ := flat_cells l k l[k] (List.getElem?_eq_getElem hk)
  obtain ⟨b, o, rfl, hb, hc⟩ := h.cases (by have := (List.getElem?_eq_some_iff.1 f0).1; omega)
  exact ⟨b, o, rfl, hb, hc _ _ f0, by rw [Nat.add_assoc]; exact hc _ _ f1⟩
theorem flat_len (l : List Shp) : (l.flatMap Shp.cells).length = 2 * l.length := by
  induction l with
  | nil => rfl
  | cons x l ih => simp [List.flatMap_cons, Shp.cells, ih]; omega

theorem beq_cast (n k : Nat) : ((n : Int) == (k : Int)) = decide (n = k) := by rw [Bool.eq_iff_iff]; simp; omega

def within (a b c : Int) : Bool := decide (b ≤ a ∧ a ≤ c)
/-- some shape may not be -/
def badIn (l : List Shp) : Bool := l.any fun s => !s.may
theorem badIn_yes {l : List Shp} {k : Nat} {s : Shp} (hk : l[k]? = some s) (h : s.may = false) : badIn l = true := by
  unfold badIn
  rw [List.any_eq_true]
  exact ⟨s, List.mem_of_getElem? hk, by simp [h]⟩
theorem badIn_no {l : List Shp} (h : ∀ s ∈ l, s.may = true) : badIn l = false := by
  unfold badIn
  rw [List.any_eq_false]
  intro s hs
  simp [h s hs]
theorem take_all {α : Type} {p : α → Prop} {l : List α} {k : Nat} {x : α} (hk : l[k]? = some x) (h : ∀ y ∈ l.take k, p y) (hx : p x) : ∀ y ∈ l.take (k + 1), p y := by
  intro y hy
  rw [List.take_add_one, hk] at hy
  rcases List.mem_append.1 hy with hy | hy
  · exact h y hy
  · simp at hy; subst hy; exact hx
/-- P4.1 -/
def Cnf.ranges (c : Cnf) : List Bool := [within c.frags 4 1024, within c.spine 0 2048, within c.globals 0 8, within c.threads 1 16, within c.locals 1 8, within c.cache 0 8, within c.stack 1 256, within c.low 0 c.frags]
def Cnf.rangedTo (c : Cnf) (k : Nat) : Bool := (c.ranges.take k).all id
theorem Cnf.rangedTo_succ {c : Cnf} {k : Nat} {b : Bool} (h : c.rangedTo k = true) (hk : c.ranges[k]? = some b) (hb : b = true) : c.rangedTo (k + 1) = true := by
  unfold Cnf.rangedTo at *
  rw [List.take_add_one, hk, List.all_append, h, hb]
  rfl
def Cnf.check (c : Cnf) : Int := if c.rangedTo 8 && decide (c.threads * c.cache ≤ c.frags) then (if within c.shapes.length 1 8 && !badIn c.shapes then 0 else 4) else 1
theorem Cnf.check_out {c : Cnf} {k : Nat} (hk : c.ranges[k]? = some false) : c.check = 1 := by
  have : c.rangedTo 8 = false := by
    unfold Cnf.rangedTo
    rw [List.take_of_length_le (by simp [Cnf.ranges]), List.all_eq_false]
    exact ⟨false, List.mem_of_getElem? hk, by simp⟩
  simp [Cnf.check, this]
/-- What the ranges say. -/
theorem Cnf.ranged {c : Cnf} (h : c.rangedTo 8 = true) : (4 ≤ c.frags ∧ c.frags ≤ 1024) ∧ (0 ≤ c.spine ∧ c.spine ≤ 2048) ∧ (0 ≤ c.globals ∧ c.globals ≤ 8) ∧ (1 ≤ c.threads ∧ c.threads ≤ 16) ∧ (1 ≤ c.locals ∧ c.locals ≤ 8) ∧ (0 ≤ c.cache ∧ c.cache ≤ 8) ∧ (1 ≤ c.stack ∧ c.stack ≤ 256) ∧ (0 ≤ c.low ∧ c.low ≤ c.frags) := by
  simpa [Cnf.rangedTo, Cnf.ranges, within] using h
end Go
