import Derived.Test.YtnebimabokgofaaGreatBase
import Derived.Maps.AppendAt
/-
  What the data look like in memory: lists of values behind a slice's address; shapes; configurations. No program here.
-/
namespace Go
open Go.RowKit

/-- The values vs stand one behind the other from the slice's address on. -/
def CellsAt (w : World) (A : Option Addr) (vs : List Value) : Prop :=
  ∀ i v, vs[i]? = some v → ∃ b o, A = some ⟨b, o, none⟩ ∧ b < w.heap.size ∧ w.cell? ⟨b, o + i, none⟩ = some v

theorem CellsAt.nil (w : World) (A : Option Addr) : CellsAt w A [] := fun i v h => by simp at h
theorem CellsAt.at_ {w : World} {A : Option Addr} {vs : List Value} (h : CellsAt w A vs) {i : Nat} (hi : i < vs.length) :
    ∃ b o, A = some ⟨b, o, none⟩ ∧ b < w.heap.size ∧ w.cell? ⟨b, o + i, none⟩ = some vs[i] := h i _ (List.getElem?_eq_getElem hi)
theorem CellsAt.cases {w : World} {A : Option Addr} {vs : List Value} (h : CellsAt w A vs) (hv : 0 < vs.length) :
    ∃ b o, A = some ⟨b, o, none⟩ ∧ b < w.heap.size ∧ ∀ i v, vs[i]? = some v → w.cell? ⟨b, o + i, none⟩ = some v := by
  obtain ⟨b, o, hA, hb, _⟩ := h.at_ hv
  refine ⟨b, o, hA, hb, fun i v hi => ?_⟩
  obtain ⟨b', o', hA', _, hc⟩ := h i v hi
  rw [hA] at hA'
  simp only [Option.some.injEq, Addr.mk.injEq, and_true] at hA'
  obtain ⟨rfl, rfl⟩ := hA'
  exact hc
theorem CellsAt.mk {w : World} {b o : Nat} {vs : List Value} (hb : b < w.heap.size) (h : ∀ i v, vs[i]? = some v → w.cell? ⟨b, o + i, none⟩ = some v) : CellsAt w (some ⟨b, o, none⟩) vs :=
  fun i v hi => ⟨b, o, rfl, hb, h i v hi⟩
theorem CellsAt.ext {w w' : World} {A : Option Addr} {vs : List Value} (h : CellsAt w A vs) (he : Ext w w') : CellsAt w' A vs := fun i v hi => by
  obtain ⟨b, o, hA, hb, hc⟩ := h i v hi
  obtain ⟨X, rfl⟩ := he
  exact ⟨b, o, hA, by rw [World.size_patch]; omega, by rw [World.cell?_patch _ _ _ _ hb]; exact hc⟩
theorem CellsAt.patch {w : World} {A : Option Addr} {vs : List Value} (h : CellsAt w A vs) (X : Extra) : CellsAt (w.patch X) A vs := h.ext ⟨X, rfl⟩
theorem CellsAt.alloc {w : World} {A : Option Addr} {vs : List Value} (h : CellsAt w A vs) (o : Obj) : CellsAt (w.alloc o) A vs := h.ext ((Ext.refl _).alloc o)
theorem CellsAt.drew {w : World} {A : Option Addr} {vs : List Value} (h : CellsAt w A vs) : CellsAt w.drew A vs := h.ext (Ext.refl _).drew
/-- A cut of the slice. -/
theorem CellsAt.sub {w : World} {A : Option Addr} {vs : List Value} (h : CellsAt w A vs) (k : Nat) : CellsAt w (A.map (·.add k)) (vs.drop k) := fun i v hi => by
  rw [List.getElem?_drop] at hi
  obtain ⟨b, o, rfl, hb, hc⟩ := h _ v hi
  refine ⟨b, o + k, ?_, hb, by rw [Nat.add_assoc]; exact hc⟩
  simp only [Option.map, Addr.add]
  split
  · rename_i h0; subst h0; rfl
  · rfl
theorem CellsAt.take {w : World} {A : Option Addr} {vs : List Value} (h : CellsAt w A vs) (k : Nat) : CellsAt w A (vs.take k) := fun i v hi => by
  rw [List.getElem?_take] at hi
  split at hi
  · exact h i v hi
  · cases hi

/-- A shape as it stands in memory. -/
structure Shp where
  arr : Bool
  A : Option Addr
  cap : Nat
  refs : List Bool
namespace Shp
def cells (s : Shp) : List Value := [.bool s.arr, .slice s.A s.refs.length s.cap]
def val (s : Shp) : Value := .agg #[.bool s.arr, .slice s.A s.refs.length s.cap]
structure Ok (w : World) (s : Shp) : Prop where
  refs : CellsAt w s.A (s.refs.map Value.bool)
  len : s.refs.length ≤ s.cap
  max : s.refs.length ≤ 140737488355328
theorem Ok.ext {w w' : World} {s : Shp} (h : s.Ok w) (he : Ext w w') : s.Ok w' := ⟨h.refs.ext he, h.len, h.max⟩
/-- P3.1 -/
def may (s : Shp) : Bool := decide (s.refs.length ≤ 40 ∧ (s.arr = true → s.refs.length = 1))
end Shp

/-- A configuration as it stands in memory. -/
structure Cnf where
  frags : Int
  spine : Int
  globals : Int
  threads : Int
  locals : Int
  cache : Int
  stack : Int
  low : Int
  A : Option Addr
  cap : Nat
  shapes : List Shp
namespace Cnf
def val (c : Cnf) : Value := .agg #[.int .i64 c.frags, .int .i64 c.spine, .int .i64 c.globals, .int .i64 c.threads, .int .i64 c.locals, .int .i64 c.cache, .int .i64 c.stack, .int .i64 c.low, .slice c.A c.shapes.length c.cap]
structure Ok (w : World) (c : Cnf) : Prop where
  cells : CellsAt w c.A (c.shapes.flatMap Shp.cells)
  shapes : ∀ s ∈ c.shapes, s.Ok w
  len : c.shapes.length ≤ c.cap
  max : c.shapes.length ≤ 140737488355328
theorem Ok.ext {w w' : World} {c : Cnf} (h : c.Ok w) (he : Ext w w') : c.Ok w' := ⟨h.cells.ext he, fun s hs => (h.shapes s hs).ext he, h.len, h.max⟩
end Cnf

theorem flat_cells (l : List Shp) (k : Nat) (s : Shp) (h : l[k]? = some s) : (l.flatMap Shp.cells)[k * 2]? = some (.bool s.arr) ∧ (l.flatMap Shp.cells)[k * 2 + 1]? = some (.slice s.A s.refs.length s.cap) := by
  induction l generalizing k with
  | nil => simp at h
  | cons x l ih =>
    cases k with
    | zero => simp at h; subst h; exact ⟨rfl, rfl⟩
    | succ k =>
      have := ih k (by simpa using h)
      rw [show (k + 1) * 2 = k * 2 + 1 + 1 from by omega]
      simpa [List.flatMap_cons, Shp.cells] using this
/-- The shapes behind a slice's address: each one's two cells. -/
theorem shapes_at {w : World} {A : Option Addr} {l : List Shp} (h : CellsAt w A (l.flatMap Shp.cells)) {k : Nat} (hk : k < l.length) :
    ∃ b o, A = some ⟨b, o, none⟩ ∧ b < w.heap.size ∧ w.cell? ⟨b, o + k * 2, none⟩ = some (.bool l[k].arr) ∧ w.cell? ⟨b, o + k * 2 + 1, none⟩ = some (.slice l[k].A l[k].refs.length l[k].cap) := by
  obtain ⟨f0, f1⟩ := flat_cells l k l[k] (List.getElem?_eq_getElem hk)
  obtain ⟨b, o, rfl, hb, hc⟩ := h.cases (by have := (List.getElem?_eq_some_iff.1 f0).1; omega)
  exact ⟨b, o, rfl, hb, hc _ _ f0, by rw [Nat.add_assoc]; exact hc _ _ f1⟩
theorem flat_len (l : List Shp) : (l.flatMap Shp.cells).length = 2 * l.length := by
  induction l with
  | nil => rfl
  | cons x l ih => simp [List.flatMap_cons, Shp.cells, ih]; omega

theorem beq_cast (n k : Nat) : ((n : Int) == (k : Int)) = decide (n = k) := by rw [Bool.eq_iff_iff]; simp; omega

def within (a b c : Int) : Bool := decide (b ≤ a ∧ a ≤ c)
/-- some shape may not be -/
def badIn (l : List Shp) : Bool := l.any fun s => !s.may
theorem badIn_yes {l : List Shp} {k : Nat} {s : Shp} (hk : l[k]? = some s) (h : s.may = false) : badIn l = true := by
  unfold badIn
  rw [List.any_eq_true]
  exact ⟨s, List.mem_of_getElem? hk, by simp [h]⟩
theorem badIn_no {l : List Shp} (h : ∀ s ∈ l, s.may = true) : badIn l = false := by
  unfold badIn
  rw [List.any_eq_false]
  intro s hs
  simp [h s hs]
theorem take_all {α : Type} {p : α → Prop} {l : List α} {k : Nat} {x : α} (hk : l[k]? = some x) (h : ∀ y ∈ l.take k, p y) (hx : p x) : ∀ y ∈ l.take (k + 1), p y := by
  intro y hy
  rw [List.take_add_one, hk] at hy
  rcases List.mem_append.1 hy with hy | hy
  · exact h y hy
  · simp at hy; subst hy; exact hx
/-- P4.1 -/
def Cnf.ranges (c : Cnf) : List Bool := [within c.frags 4 1024, within c.spine 0 2048, within c.globals 0 8, within c.threads 1 16, within c.locals 1 8, within c.cache 0 8, within c.stack 1 256, within c.low 0 c.frags]
def Cnf.rangedTo (c : Cnf) (k : Nat) : Bool := (c.ranges.take k).all id
theorem Cnf.rangedTo_succ {c : Cnf} {k : Nat} {b : Bool} (h : c.rangedTo k = true) (hk : c.ranges[k]? = some b) (hb : b = true) : c.rangedTo (k + 1) = true := by
  unfold Cnf.rangedTo at *
  rw [List.take_add_one, hk, List.all_append, h, hb]
  rfl
def Cnf.check (c : Cnf) : Int := if c.rangedTo 8 && decide (c.threads * c.cache ≤ c.frags) then (if within c.shapes.length 1 8 && !badIn c.shapes then 0 else 4) else 1
theorem Cnf.check_out {c : Cnf} {k : Nat} (hk : c.ranges[k]? = some false) : c.check = 1 := by
  have : c.rangedTo 8 = false := by
    unfold Cnf.rangedTo
    rw [List.take_of_length_le (by simp [Cnf.ranges]), List.all_eq_false]
    exact ⟨false, List.mem_of_getElem? hk, by simp⟩
  simp [Cnf.check, this]
/-- What the ranges say. -/
theorem Cnf.ranged {c : Cnf} (h : c.rangedTo 8 = true) : (4 ≤ c.frags ∧ c.frags ≤ 1024) ∧ (0 ≤ c.spine ∧ c.spine ≤ 2048) ∧ (0 ≤ c.globals ∧ c.globals ≤ 8) ∧ (1 ≤ c.threads ∧ c.threads ≤ 16) ∧ (1 ≤ c.locals ∧ c.locals ≤ 8) ∧ (0 ≤ c.cache ∧ c.cache ≤ 8) ∧ (1 ≤ c.stack ∧ c.stack ≤ 256) ∧ (0 ≤ c.low ∧ c.low ≤ c.frags) := by
  simpa [Cnf.rangedTo, Cnf.ranges, within] using h
end Go

/-
  Sizes, places and words as plain functions. No program here.
-/
namespace Go
open Go.RowKit
/-! ### shapes: sizes and places (chapter 3) -/
def sData (n : Int) : Int := if n < 1 ∨ 512 < n then 0 else (n + 7) / 8
theorem sData_bd (n : Int) : 0 ≤ sData n ∧ sData n ≤ 64 := by unfold sData; split <;> omega
namespace Shp
def len (s : Shp) : Int := s.refs.length
def size (s : Shp) (n : Int) : Int :=
  if s.may = false ∨ n < 0 ∨ 512 < n ∨ (s.arr = false ∧ 0 < n) then -1
  else if s.arr = true then 1 + sData n else if s.len ≤ 6 then 1 else 1 + s.len / 7
def spine (s : Shp) (n : Int) : Int := if s.may = false ∨ s.arr = false ∨ sData n ≤ 4 then 0 else sData n + 2
def hasField (s : Shp) (k : Int) : Bool := s.may && !s.arr && decide (0 ≤ k ∧ k < s.len)
def placeF (k : Int) : Int := if k < 6 then 0 else 1 + (k - 6) / 7
def placeW (k : Int) : Int := if k < 6 then 2 + k else 1 + (k - 6) % 7
def place (s : Shp) (k : Int) : Value := if s.hasField k then .tuple #[.int .i64 (placeF k), .int .i64 (placeW k), .bool true] else .tuple #[.int .i64 0, .int .i64 0, .bool false]
end Shp

/-! ### words (chapters 1, 2) -/
def cxInt (a b : Int) : Value := .complex .f64 (floatOfInt .f64 a) (floatOfInt .f64 b)
def wNone : Value := .complex .f64 0 4607182418800017408
def wZero : Value := .complex .f64 0 0
def wRef (i : Int) : Value := if i < 0 ∨ 1099511627776 < i then wNone else .complex .f64 (floatOfInt .f64 (i + 1)) 4607182418800017408
def wHead (k m : Int) : Value := if k < 0 ∨ 1099511627776 < k ∨ m < 0 ∨ 1099511627776 < m then wZero else .complex .f64 (floatOfInt .f64 k) (floatOfInt .f64 m)
def wWhole (n : Int) : Value := if n < -9007199254740992 ∨ 9007199254740992 < n then wZero else .complex .f64 (floatOfInt .f64 n) 0
theorem floatOf_zero : floatOfInt .f64 0 = 0 := by decide +kernel
theorem floatOf_one : floatOfInt .f64 1 = 4607182418800017408 := by decide +kernel
theorem wWhole_zero : wWhole 0 = wZero := by unfold wWhole wZero; rw [if_neg (by omega), floatOf_zero]
def wBlank (b : Bool) : Value := if b then wNone else wZero

/-- A shape by its number: its two parts. -/
def Cnf.shapeAt (c : Cnf) (k : Int) : Option (Bool × List Bool) := if k < 0 then none else (c.shapes[k.toNat]?).map fun s => (s.arr, s.refs)
theorem Cnf.shapeAt_neg {c : Cnf} {k : Int} (h : k < 0) : c.shapeAt k = none := if_pos h
theorem Cnf.shapeAt_big {c : Cnf} {k : Int} (h : (c.shapes.length : Int) ≤ k) : c.shapeAt k = none := by
  unfold Cnf.shapeAt
  rw [if_neg (by omega), List.getElem?_eq_none (by omega)]
  rfl
theorem Cnf.shapeAt_in {c : Cnf} {n : Nat} {s : Shp} (h : c.shapes[n]? = some s) : c.shapeAt n = some (s.arr, s.refs) := by
  unfold Cnf.shapeAt
  rw [if_neg (by omega), Int.toNat_natCast, h]
  rfl
end Go

/-
  Rows of the call's own (append, make) in worlds that only grow. No program here.
-/
namespace Go
open Go.RowKit

theorem grown_of_ext {w w' : World} (h : Ext w w') : w.grownBy w' none := by
  obtain ⟨X, rfl⟩ := h
  exact ⟨rfl, rfl, rfl, by rw [World.size_patch]; omega, fun k hk _ => World.heap_patch _ _ _ hk⟩
theorem own_ext {w w' : World} {base e size n : Nat} {v : Value} {xs : List Value} (h : w.ownsRow base e size v n xs) (he : Ext w w') : w'.ownsRow base e size v n xs :=
  h.kept (grown_of_ext he) (by cases v.ownBlock <;> simp)
/-- What was there before the row's base is as it was, behind an append to the row. -/
theorem ext_grown {w w1 w2 : World} {row : Option Nat} (h : Ext w w1) (hg : w1.grownBy w2 row) (hr : ∀ k, row = some k → w.heap.size ≤ k) : Ext w w2 :=
  ext_of_below (h.below.grown hg h.size hr)
theorem cellsAt_of_own {w : World} {base e size n c : Nat} {A : Option Addr} {xs : List Value} (h : w.ownsRow base e size (.slice A n c) n xs) : CellsAt w A xs := fun i v hi => by
  obtain ⟨h1, h2⟩ := h
  rcases h2 with ⟨hv, hn⟩ | ⟨g, cap, cur, hv, hb, hh, hn, hc, hs, ht⟩
  · subst hn
    simp only [Nat.zero_mul] at h1
    rw [List.length_eq_zero_iff] at h1
    subst h1
    simp at hi
  · injection hv with hA _ _
    subst hA
    refine ⟨g, 0, rfl, (Array.getElem?_eq_some_iff.1 hh).1, ?_⟩
    have hl : i < n * size := by
      have := (List.getElem?_eq_some_iff.1 hi).1
      omega
    simp only [World.cell?, hh, Nat.zero_add]
    rw [← ht, List.getElem?_take_of_lt hl] at hi
    simpa using hi
theorem own_form {w : World} {base e size n : Nat} {v : Value} {xs : List Value} (h : w.ownsRow base e size v n xs) : ∃ A c, v = .slice A n c := by
  rcases h.2 with ⟨hv, hn⟩ | ⟨g, cap, cur, hv, _⟩
  · subst hn; exact ⟨none, 0, hv⟩
  · exact ⟨_, _, hv⟩
theorem own_fresh {w : World} {base e size n c : Nat} {A : Option Addr} {xs : List Value} (h : w.ownsRow base e size (.slice A n c) n xs) : ∀ a, A = some a → base ≤ a.block := fun a ha => by
  subst ha
  exact (h.lt a.block rfl).1
/-- What lies in the new blocks does not hang on the old ones. -/
theorem CellsAt.rebase {U U' : World} {X Z : Extra} {A : Option Addr} {vs : List Value} (h : CellsAt (U.patch X) A vs) (hf : ∀ a, A = some a → U.heap.size ≤ a.block) (hs : U'.heap.size = U.heap.size) (hz : ∃ Y, Z.blocks = X.blocks ++ Y) : CellsAt (U'.patch Z) A vs := fun i v hi => by
  obtain ⟨b, o, hA, hb, hc⟩ := h i v hi
  have hbu := hf _ hA
  simp only at hbu
  obtain ⟨Y, hY⟩ := hz
  have s1 := World.size_patch U X
  have s2 := World.size_patch U' Z
  have s3 : Z.blocks.size = X.blocks.size + Y.size := by rw [hY, Array.size_append]
  have e : (U'.patch Z).heap[b]? = (U.patch X).heap[b]? := by
    show (U'.heap ++ Z.blocks)[b]? = (U.heap ++ X.blocks)[b]?
    have g1 : (U'.heap ++ (X.blocks ++ Y))[b]? = (X.blocks ++ Y)[b - U'.heap.size]? := Array.getElem?_append_right (by omega)
    have g2 : (U.heap ++ X.blocks)[b]? = X.blocks[b - U.heap.size]? := Array.getElem?_append_right (by omega)
    have g3 : (X.blocks ++ Y)[b - U.heap.size]? = X.blocks[b - U.heap.size]? := Array.getElem?_append_left (by omega)
    rw [hY, g1, g2, hs, g3]
  refine ⟨b, o, hA, by omega, ?_⟩
  rw [← hc]
  exact World.cell?_of_block e
theorem Shp.Ok.rebase {U U' : World} {X Z : Extra} {s : Shp} (h : s.Ok (U.patch X)) (hf : ∀ a, s.A = some a → U.heap.size ≤ a.block) (hs : U'.heap.size = U.heap.size) (hz : ∃ Y, Z.blocks = X.blocks ++ Y) : s.Ok (U'.patch Z) :=
  ⟨h.refs.rebase hf hs hz, h.len, h.max⟩
theorem own_len {w : World} {base e size n c : Nat} {A : Option Addr} {xs : List Value} (h : w.ownsRow base e size (.slice A n c) n xs) : n ≤ c ∧ c ≤ 9223372036854775807 := by
  obtain ⟨_, h2⟩ := h
  rcases h2 with ⟨hv, hn⟩ | ⟨g, cap, cur, hv, hb, hh, hn, hc, _⟩
  · injection hv with _ h1 h2
    omega
  · injection hv with _ h1 h2
    unfold maxLen at hc
    omega
/-- The new block, as the source of an append. -/
theorem news_new (w : World) (cs : List Value) (t : TypeId) : ∀ j u, cs[j]? = some u → (w.alloc (.cells cs.toArray t)).cell? ((⟨w.heap.size, 0, none⟩ : Addr).add j) = some u := fun j u hj => by
  have : ((⟨w.heap.size, 0, none⟩ : Addr).add j) = ⟨w.heap.size, j, none⟩ := by
    unfold Addr.add
    split
    · rename_i h; subst h; rfl
    · simp
  rw [this, World.cell?_alloc_new]
  simpa using hj
theorem cells_add {w : World} {ad : Addr} {vs : List Value} (h : CellsAt w (some ad) vs) : ∀ j u, vs[j]? = some u → w.cell? (ad.add j) = some u := fun j u hj => by
  obtain ⟨b, o, hA, _, hc⟩ := h j u hj
  injection hA with hA
  subst hA
  have : ((⟨b, o, none⟩ : Addr).add j) = ⟨b, o + j, none⟩ := by
    unfold Addr.add
    split
    · rename_i h; subst h; rfl
    · rfl
  rw [this]
  exact hc
end Go

