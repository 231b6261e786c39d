/-
  The states of the objects, as plain data: memory, table, pool, pile, coil, hand. No program here.
-/
import Derived.Test.YthdijbkcjmeilaaGreatGhost
namespace Go
open Go.RowKit
set_option linter.unusedVariables false

/-- A number within a row. -/
def inB (i : Int) (n : Nat) : Bool := decide (0 ≤ i ∧ i < n)
theorem inB_true {i : Int} {n : Nat} (h : inB i n = true) : ∃ k : Nat, i = k ∧ k < n := by
  unfold inB at h
  simp only [decide_eq_true_eq] at h
  exact ⟨i.toNat, by omega, by omega⟩
theorem inB_cast {k n : Nat} (h : k < n) : inB (k : Int) n = true := by unfold inB; simp; omega
theorem inB_false {i : Int} {n : Nat} (h : inB i n = false) : i < 0 ∨ (n : Int) ≤ i := by
  unfold inB at h
  simp only [decide_eq_false_iff_not] at h
  omega
theorem inB_neg {i : Int} {n : Nat} (h : i < 0) : inB i n = false := by unfold inB; simp; omega
theorem inB_big {i : Int} {n : Nat} (h : (n : Int) ≤ i) : inB i n = false := by unfold inB; simp; omega

/-! ### rows of structs, laid flat -/
theorem flat_size {α : Type} {f : α → List Value} {s : Nat} (l : List α) (hf : ∀ x, (f x).length = s) : (l.flatMap f).length = l.length * s := by
  induction l with
  | nil => simp
  | cons x l ih => rw [List.flatMap_cons, List.length_append, hf, ih, List.length_cons, Nat.succ_mul]; omega
theorem flat_at {α : Type} {f : α → List Value} {s : Nat} (hf : ∀ x, (f x).length = s) (l : List α) (k j : Nat) (x : α) (h : l[k]? = some x) (hj : j < s) : (l.flatMap f)[k * s + j]? = (f x)[j]? := by
  induction l generalizing k with
  | nil => simp at h
  | cons y l ih =>
    rw [List.flatMap_cons]
    cases k with
    | zero =>
      simp at h
      subst h
      rw [Nat.zero_mul, Nat.zero_add, List.getElem?_append_left (by rw [hf]; exact hj)]
    | succ k =>
      have := ih k (by simpa using h)
      rw [List.getElem?_append_right (by rw [hf, Nat.succ_mul]; omega), hf, ← this]
      congr 1
      rw [Nat.succ_mul]
      omega
theorem flat_set {α : Type} {f : α → List Value} {s : Nat} (hf : ∀ x, (f x).length = s) (l : List α) (k : Nat) (y : α) : ∀ j v, k < l.length → j < s → (f y)[j]? = some v → (∀ x, l[k]? = some x → f y = (f x).set j v) → (l.set k y).flatMap f = (l.flatMap f).set (k * s + j) v := by
  induction l generalizing k with
  | nil => intro j v h; simp at h
  | cons x l ih =>
    intro j v hk hj hv hx
    cases k with
    | zero =>
      rw [List.set_cons_zero, List.flatMap_cons, List.flatMap_cons, hx x rfl, List.set_append_left _ _ (by rw [hf]; omega)]
      simp
    | succ k =>
      rw [List.set_cons_succ, List.flatMap_cons, List.flatMap_cons, ih k j v (by simpa using hk) hj hv (fun z hz => hx z (by simpa using hz)), List.set_append_right _ _ (by rw [hf, Nat.succ_mul]; omega)]
      congr 2
      rw [hf, Nat.succ_mul]
      omega

/-! ### tint -/
structure One where
  state : Nat
  head : Bool
  sense : Bool
  deriving DecidableEq
def One.cells (o : One) : List Value := [.int .i64 o.state, .bool o.head, .bool o.sense]
theorem One.cells_len (o : One) : o.cells.length = 3 := rfl
structure TabS where
  l : List One
namespace TabS
def at_ (t : TabS) (i : Int) : Option One := if inB i t.l.length then t.l[i.toNat]? else none
def state (t : TabS) (i : Int) : Nat := ((t.at_ i).map One.state).getD 0
def head (t : TabS) (i : Int) : Bool := ((t.at_ i).map One.head).getD false
def sense (t : TabS) (i : Int) : Bool := ((t.at_ i).map One.sense).getD false
def black (t : TabS) (i : Int) (s : Bool) : Bool := t.state i == 2 && t.sense i == s
def cnt (t : TabS) (s : Nat) : Nat := t.l.countP (fun o => o.state == s)
def may (t : TabS) (i s : Int) : Bool := inB i t.l.length && decide (0 ≤ s ∧ s ≤ 2)
def set (t : TabS) (i s : Int) (head sense : Bool) : TabS := if t.may i s then ⟨t.l.set i.toNat ⟨s.toNat, head && s.toNat == 2, sense⟩⟩ else t
def mark (t : TabS) (i : Int) (s : Bool) : TabS := if t.state i == 2 && !t.black i s then ⟨t.l.modify i.toNat fun o => { o with sense := s }⟩ else t
def born (t : TabS) (i : Int) : TabS := if t.state i == 2 && !t.head i then ⟨t.l.modify i.toNat fun o => { o with head := true }⟩ else t
theorem at_in {t : TabS} {k : Nat} {o : One} (h : t.l[k]? = some o) : t.at_ k = some o := by
  unfold at_
  rw [if_pos (inB_cast (List.getElem?_eq_some_iff.1 h).1), Int.toNat_natCast, h]
theorem at_out {t : TabS} {i : Int} (h : inB i t.l.length = false) : t.at_ i = none := by unfold at_; rw [h]; rfl
end TabS

/-! ### mem -/
structure MemS where
  l : List (Nat × Nat)
  count : Int
namespace MemS
def peek (m : MemS) (a : Int) : Nat × Nat := if inB a m.l.length then m.l.getD a.toNat (0, 0) else (0, 0)
def tick (m : MemS) : MemS := { m with count := m.count + 1 }
def lay (m : MemS) (a : Int) (x : Nat × Nat) : MemS := if inB a m.l.length then { m with l := m.l.set a.toNat x } else m
end MemS

/-! ### coil -/
structure CoilS where
  size : Int
  cur : Nat
  u0 : Int
  u1 : Int
  kept : Int
namespace CoilS
def used (c : CoilS) (s : Nat) : Int := if s = 0 then c.u0 else c.u1
def room (c : CoilS) : Int := c.size - c.used c.cur - c.kept
def lays (c : CoilS) (n : Int) : CoilS := if c.cur = 0 then { c with u0 := c.u0 + n } else { c with u1 := c.u1 + n }
/-- What always holds of one. -/
structure Ok (c : CoilS) : Prop where
  cur : c.cur < 2
  s0 : 0 ≤ c.size ∧ c.size ≤ 2048
  b0 : 0 ≤ c.u0 ∧ c.u0 ≤ 2048
  b1 : 0 ≤ c.u1 ∧ c.u1 ≤ 2048
  bk : 0 ≤ c.kept ∧ c.kept ≤ 2048
  fit : c.used c.cur + c.kept ≤ c.size
def takeable (c : CoilS) (n : Int) : Bool := decide (1 ≤ n ∧ n ≤ c.room)
def take (c : CoilS) (n : Int) : CoilS := if c.takeable n then c.lays n else c
def takenAt (c : CoilS) (n : Int) : Int := if c.takeable n then c.used c.cur else 0
def turnable (c : CoilS) : Bool := decide (c.used (1 - c.cur) ≤ 0)
def turn (c : CoilS) : CoilS := if c.turnable then { c with kept := c.used c.cur, cur := 1 - c.cur } else c
def skippable (c : CoilS) (n : Int) : Bool := decide (1 ≤ n ∧ n ≤ c.kept)
def skip (c : CoilS) (n : Int) : CoilS := if c.skippable n then { c with kept := c.kept - n } else c
def copy (c : CoilS) (n : Int) : CoilS := if c.skippable n then (c.skip n).lays n else c
def copiedAt (c : CoilS) (n : Int) : Int := if c.skippable n then c.used c.cur else 0
def doneable (c : CoilS) : Bool := decide (c.kept ≤ 0)
def done (c : CoilS) : CoilS := if c.doneable then (if c.cur = 0 then { c with u1 := 0 } else { c with u0 := 0 }) else c
end CoilS

/-! ### pool -/
structure PoolS where
  l : List Bool
namespace PoolS
def free (p : PoolS) : Nat := p.l.countP id
/-- Where the highest run of k free ones begins: from place i down, n free ones behind it. -/
def runGo (l : List Bool) (k : Nat) : Nat → Nat → Option Nat
  | 0, _ => none
  | i + 1, n => if l.getD i false then (if n + 1 = k then some i else runGo l k i (n + 1)) else runGo l k i 0
def run (p : PoolS) (k : Int) : Option Nat := if k < 1 then none else runGo p.l k.toNat p.l.length 0
/-- The lowest k free ones, from place i on. -/
def lowGo (l : List Bool) (k : Nat) : Nat → Nat → List Int
  | 0, _ => []
  | f + 1, i => if k = 0 then [] else if l.getD i false then (i : Int) :: lowGo l (k - 1) f (i + 1) else lowGo l k f (i + 1)
def lowOnes (p : PoolS) (k : Int) : List Int := lowGo p.l k.toNat p.l.length 0
def takes (p : PoolS) (got : List Int) : PoolS := ⟨got.foldl (fun l i => l.set i.toNat false) p.l⟩
def taken (p : PoolS) (k : Int) : Option (List Int) := if k < 1 ∨ (p.free : Int) < k then none else match p.run k with
  | some a => some ((List.range k.toNat).map fun j => ((a + j : Nat) : Int))
  | none => some (p.lowOnes k)
def give (p : PoolS) (i : Int) : PoolS := if inB i p.l.length then ⟨p.l.set i.toNat true⟩ else p
end PoolS

/-! ### pile, hand -/
structure PileS where
  l : List Int
  most : Int
  lost : Bool
structure HandS where
  status : Int
  sense : Bool
  l : List Int
  count : Int
namespace HandS
def own (h : HandS) (t : Int) : Int := if inB t h.l.length then h.l.getD t.toNat 0 else -1
def tick (h : HandS) : HandS := { h with count := h.count + 1 }
end HandS
end Go
