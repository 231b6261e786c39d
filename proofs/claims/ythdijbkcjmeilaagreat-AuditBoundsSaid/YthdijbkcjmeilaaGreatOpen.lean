/-
  A configuration that came in, opened.
-/
import Derived.Test.YthdijbkcjmeilaaGreatConf
import Derived.WalkKit
import Derived.ProofKit
import Derived.OpenShut
import Derived.Deep.Slices
import Derived.SizedLaws
namespace Go
open Go.RowKit
theorem cellsAt_open {k : IntKind} {w : World} {x : Addr} {zs : List Int} (len : Nat) (hcell : ∀ i, i < zs.length → w.cell? (x.add i) = some (.int k (zs.getD i 0))) : CellsAt w (some x) ((zs.take len).map (Value.int k)) := by
  intro i v hi
  obtain ⟨b, off, spot⟩ := x
  have hil := (List.getElem?_eq_some_iff.1 hi).1
  simp only [List.length_map, List.length_take] at hil
  have hc := hcell i (by omega)
  have hspot : spot = none := by
    have h0 := hcell 0 (by omega)
    simpa [Addr.add] using World.cell?_spot h0
  subst hspot
  have e : (⟨b, off, none⟩ : Addr).add i = ⟨b, off + i, none⟩ := by
    unfold Addr.add
    split
    · rename_i h; subst h; rfl
    · rfl
  rw [e] at hc
  refine ⟨b, off, rfl, ?_, ?_⟩
  · have h2 := hc
    unfold World.cell? at h2
    cases hb : w.heap[b]? with
    | none => simp [hb] at h2
    | some o => exact (Array.getElem?_eq_some_iff.1 hb).1
  · rw [hc, ← hi]
    simp only [List.getElem?_map, List.getElem?_take_of_lt (show i < len by omega), List.getElem?_eq_getElem (show i < zs.length by omega), Option.map, List.getD_eq_getElem?_getD, Option.getD]
theorem addr_plain {w : World} {a : Addr} {v : Value} (h : w.cell? (a.add 0) = some v) : ∃ b o, a = ⟨b, o, none⟩ := by
  obtain ⟨b, off, spot⟩ := a
  have hspot : spot = none := by simpa [Addr.add] using World.cell?_spot h
  subst hspot
  exact ⟨b, off, rfl⟩
theorem addr_add (b o i : Nat) : (⟨b, o, none⟩ : Addr).add i = ⟨b, o + i, none⟩ := by
  unfold Addr.add
  split
  · rename_i h; subst h; rfl
  · rfl
theorem cell_lt {w : World} {b o : Nat} {v : Value} (h : w.cell? ⟨b, o, none⟩ = some v) : b < w.heap.size := by
  have h2 := h
  unfold World.cell? at h2
  cases hb : w.heap[b]? with
  | none => simp [hb] at h2
  | some o => exact (Array.getElem?_eq_some_iff.1 hb).1
theorem cellsAt_of {w : World} {a : Addr} {vs : List Value} (h : ∀ i v, vs[i]? = some v → w.cell? (a.add i) = some v) : CellsAt w (some a) vs := fun i v hi => by
  have hil := (List.getElem?_eq_some_iff.1 hi).1
  obtain ⟨b, o, rfl⟩ := addr_plain (h 0 _ (List.getElem?_eq_getElem (by omega)))
  have := h i v hi
  rw [addr_add] at this
  exact ⟨b, o, rfl, cell_lt this, this⟩
theorem add_zero' (a : Addr) : a.add 0 = a := by unfold Addr.add; simp
theorem weightsAll_mem {H : Type} {P : Program} {e : TypeId} {d : DataW H} {l : List (DataW H)} (h : d ∈ l) {k : Nat} (hk : k ∈ d.weights P e) : k ∈ DataW.weightsAll P e l := by
  induction l with
  | nil => simp at h
  | cons y l ih =>
    simp only [DataW.weightsAll, List.mem_append]
    rcases List.mem_cons.1 h with rfl | h
    · exact Or.inl hk
    · exact Or.inr (ih h)
theorem shps_length (l : List Shp) : (l.flatMap Shp.cells).length = l.length * 2 := by
  induction l with
  | nil => rfl
  | cons s l ih => rw [List.flatMap_cons, List.length_append, ih]; simp [Shp.cells]; omega
def boolOf : Value → Bool
  | .bool b => b
  | _ => false
end Go
namespace Go.Proofs.YthdijbkcjmeilaaGreat
open Go Go.RowKit Go.ChangeShapes Go.WideShapes Go.Deep
set_option linter.unusedVariables false
variable {H : Type} {enc : TypeId × Value → H} {w : World} {base : Nat} {spare : Nat → Bool} {held : Bool}

set_option maxRecDepth 100000 in
theorem open_boolsAt {fuel : Nat} {cs : List Value} {x : DataW H × List MemPlace} (h : DataW.trod enc Tryz.prog w base spare held fuel 75 cs = some x) (hz : ∀ n ∈ x.1.weights Tryz.prog 75, n ≤ reachBytes) :
    ∃ (A : Option Addr) (cap : Nat) (l : List Bool), cs = [.slice A l.length cap] ∧ CellsAt w A (l.map Value.bool) ∧ l.length ≤ cap ∧ l.length ≤ 140737488355328 := by
  rcases open_slice1 Tryz.underlying75 (by kernel_rfl) h with ⟨rfl, _⟩ | ⟨a, len, cap, m, n, V, D, Pl, rfl, hb, hl, hm, hmm, rfl, hx⟩
  · exact ⟨none, 0, [], rfl, CellsAt.nil _ _, Nat.le_refl _, by decide⟩
  · have hlm : len ≤ m := by subst hmm; split <;> omega
    refine ⟨some a, cap, (List.range len).map fun i => boolOf (V i), by simp, cellsAt_of (fun i v hi => ?_), by simpa using hl, ?_⟩
    · have hil : i < len := by have := (List.getElem?_eq_some_iff.1 hi).1; simpa using this
      obtain ⟨h1, h2⟩ := hx i (by omega)
      obtain ⟨b, h3, _⟩ := DataW.trod_bool Tryz.underlying4 h2
      have h4 : V i = .bool b := by simpa using h3
      simp only [List.map_map, List.getElem?_map, List.getElem?_range hil, Option.map_some, Option.some.injEq, Function.comp] at hi
      rw [h1, ← hi, h4]
      rfl
    · have := hz ((len + (m - len)) * Tryz.prog.bytesOf 4) (by simp [DataW.weights, Tryz.underlying75])
      rw [show Tryz.prog.bytesOf 4 = 1 by kernel_rfl] at this
      have hr := reachBytes_lt
      simp only [List.length_map, List.length_range]
      omega

set_option maxRecDepth 100000 in
theorem open_bools {r : Reach} {b0 : Nat} {v : Value} {d : DataW H} {p : List MemPlace} (hv : Value.okWide Tryz.prog w r b0 75 v) (h : DataW.Trod enc Tryz.prog w base spare held 75 v d p) (hz : ∀ n ∈ d.weights Tryz.prog 75, n ≤ reachBytes) :
    ∃ (A : Option Addr) (cap : Nat) (l : List Bool), v = .slice A l.length cap ∧ CellsAt w A (l.map Value.bool) ∧ l.length ≤ cap ∧ l.length ≤ 140737488355328 := by
  obtain ⟨A, len, cap, rfl⟩ := okWide_slice Tryz.underlying75 hv
  obtain ⟨fuel, h⟩ := h
  simp only [Value.cells] at h
  obtain ⟨A', cap', l, hc, h1, h2, h3⟩ := open_boolsAt (x := (d, p)) h hz
  simp only [List.cons.injEq, Value.slice.injEq, and_true] at hc
  obtain ⟨rfl, rfl, rfl⟩ := hc
  exact ⟨_, _, l, rfl, h1, h2, h3⟩

theorem open_shape {fuel : Nat} {cs : List Value} {x : DataW H × List MemPlace} (h : DataW.trod enc Tryz.prog w base spare held fuel 77 cs = some x) (hz : ∀ n ∈ x.1.weights Tryz.prog 77, n ≤ reachBytes) :
    ∃ s : Shp, cs = s.cells ∧ s.Ok w := by
  obtain ⟨xs, n, rfl, rfl, hl, hxl, hf⟩ := DataW.trod_struct Tryz.underlying77 h
  rw [show Tryz.prog.cellsOf 77 = 2 by kernel_rfl] at hl
  obtain _ | ⟨v0, _ | ⟨v1, _ | ⟨_, _⟩⟩⟩ := cs <;> simp at hl
  obtain _ | ⟨x0, _ | ⟨x1, _ | ⟨_, _⟩⟩⟩ := xs <;> simp at hxl
  have h0 := hf 0 ⟨"Array", 4, 0, false, "", "", 0⟩ rfl
  have h1 := hf 1 ⟨"Refs", 75, 1, false, "", "", 8⟩ rfl
  dsimp only at h0 h1
  rw [show Tryz.prog.cellsOf 4 = 1 by kernel_rfl] at h0
  rw [show Tryz.prog.cellsOf 75 = 1 by kernel_rfl] at h1
  obtain ⟨b, hb, _⟩ := DataW.trod_bool (x := x0) Tryz.underlying4 h0
  obtain ⟨A, cap, l, hc, hcell, hle, hmax⟩ := open_boolsAt (x := x1) h1 (fun k hk => hz k (by simp [DataW.weights, DataW.weightsEach, Tryz.underlying77, hk]))
  simp at hb hc
  subst hb hc
  exact ⟨⟨b, A, cap, l⟩, rfl, hcell, hle, hmax⟩

theorem open_shapes {fuel : Nat} {cs : List Value} {x : DataW H × List MemPlace} (h : DataW.trod enc Tryz.prog w base spare held fuel 22 cs = some x) (hz : ∀ n ∈ x.1.weights Tryz.prog 22, n ≤ reachBytes) :
    ∃ (A : Option Addr) (cap : Nat) (l : List Shp), cs = [.slice A l.length cap] ∧ CellsAt w A (l.flatMap Shp.cells) ∧ (∀ s ∈ l, s.Ok w) ∧ l.length ≤ cap ∧ l.length ≤ 140737488355328 := by
  rcases open_slice Tryz.underlying22 h with ⟨rfl, _⟩ | ⟨a, len, cap, m, n, D, Pl, rfl, hb, hl, hm, hmm, rfl, hx⟩
  · exact ⟨none, 0, [], rfl, CellsAt.nil _ _, by simp, Nat.le_refl _, by decide⟩
  · have hlm : len ≤ m := by subst hmm; split <;> omega
    rw [show Tryz.prog.cellsOf 77 = 2 by kernel_rfl] at hx
    have hS : ∀ i, ∃ s : Shp, i < len → s.Ok w ∧ w.cell? (a.add (i * 2)) = some (.bool s.arr) ∧ w.cell? ((a.add (i * 2)).add 1) = some (.slice s.A s.refs.length s.cap) := fun i => by
      by_cases hi : i < len
      · obtain ⟨cs', hc, ht⟩ := hx i (by omega)
        obtain ⟨s, rfl, hok⟩ := open_shape ht (fun k hk => hz k (by
          simp only [DataW.weights, Tryz.underlying22, List.mem_cons, List.mem_append]
          exact Or.inr (Or.inl (weightsAll_mem (List.mem_map.2 ⟨i, List.mem_range.2 hi, rfl⟩) hk))))
        obtain ⟨_, _, hat⟩ := World.cells?_some hc
        refine ⟨s, fun _ => ⟨hok, ?_, hat 1 (by decide)⟩⟩
        have := hat 0 (by decide)
        rw [add_zero'] at this
        exact this
      · exact ⟨⟨false, none, 0, []⟩, fun h => absurd h hi⟩
    obtain ⟨S, hS⟩ := Classical.axiomOfChoice hS
    refine ⟨some a, cap, (List.range len).map S, by simp, ?_, fun s hs => ?_, by simpa using hl, ?_⟩
    · refine cellsAt_of (fun j v hj => ?_)
      have hjl := (List.getElem?_eq_some_iff.1 hj).1
      rw [shps_length] at hjl
      simp only [List.length_map, List.length_range] at hjl
      have hi : j / 2 < len := by omega
      have hg : ((List.range len).map S)[j / 2]? = some (S (j / 2)) := by simp [hi]
      obtain ⟨f0, f1⟩ := flat_cells _ _ _ hg
      obtain ⟨_, q0, q1⟩ := hS (j / 2) hi
      rcases (show j = j / 2 * 2 ∨ j = j / 2 * 2 + 1 by omega) with hj2 | hj2
      · rw [hj2] at hj ⊢
        have e := hj.symm.trans f0
        injection e with e
        rw [q0, e]
      · rw [hj2] at hj ⊢
        have e := hj.symm.trans f1
        injection e with e
        rw [← Go.Deep.add_add, q1, e]
    · obtain ⟨i, hi, rfl⟩ := List.mem_map.1 hs
      exact (hS i (List.mem_range.1 hi)).1
    · have := hz ((len + (m - len)) * Tryz.prog.bytesOf 77) (by simp [DataW.weights, Tryz.underlying22])
      rw [show Tryz.prog.bytesOf 77 = 32 by kernel_rfl] at this
      have hr := reachBytes_lt
      simp only [List.length_map, List.length_range]
      omega

set_option maxRecDepth 100000 in
set_option maxHeartbeats 1000000 in
theorem open_conf {r : Reach} {b0 : Nat} {v : Value} {d : DataW H} {p : List MemPlace} (hv : Value.okWide Tryz.prog w r b0 24 v) (h : DataW.Trod enc Tryz.prog w base spare held 24 v d p) (hz : ∀ n ∈ d.weights Tryz.prog 24, n ≤ reachBytes) :
    ∃ c : Cnf, v = c.val ∧ c.Ok w := by
  obtain ⟨cs, rfl, hsz⟩ := okWide_struct Tryz.underlying24 hv
  obtain ⟨fuel, h⟩ := h
  obtain ⟨xs, n, rfl, hx, hl, hxl, hf⟩ := DataW.trod_struct Tryz.underlying24 h
  simp only [Prod.mk.injEq] at hx
  obtain ⟨rfl, rfl⟩ := hx
  obtain ⟨cs⟩ := cs
  simp only [Value.cells] at hl hf
  rw [show Tryz.prog.cellsOf 24 = 9 by kernel_rfl] at hl
  obtain _ | ⟨c0, _ | ⟨c1, _ | ⟨c2, _ | ⟨c3, _ | ⟨c4, _ | ⟨c5, _ | ⟨c6, _ | ⟨c7, _ | ⟨c8, _ | ⟨_, _⟩⟩⟩⟩⟩⟩⟩⟩⟩⟩ := cs <;> simp at hl
  obtain _ | ⟨x0, _ | ⟨x1, _ | ⟨x2, _ | ⟨x3, _ | ⟨x4, _ | ⟨x5, _ | ⟨x6, _ | ⟨x7, _ | ⟨x8, _ | ⟨_, _⟩⟩⟩⟩⟩⟩⟩⟩⟩⟩ := xs <;> simp at hxl
  have h0 := hf 0 ⟨"Frags", 3, 0, false, "", "", 0⟩ rfl
  dsimp only at h0
  rw [show Tryz.prog.cellsOf 3 = 1 by kernel_rfl] at h0
  obtain ⟨n0, e0, -, -⟩ := DataW.trod_int (x := x0) Tryz.underlying3 h0
  simp at e0
  subst e0
  have h1 := hf 1 ⟨"Spine", 3, 1, false, "", "", 8⟩ rfl
  dsimp only at h1
  rw [show Tryz.prog.cellsOf 3 = 1 by kernel_rfl] at h1
  obtain ⟨n1, e1, -, -⟩ := DataW.trod_int (x := x1) Tryz.underlying3 h1
  simp at e1
  subst e1
  have h2 := hf 2 ⟨"Globals", 3, 2, false, "", "", 16⟩ rfl
  dsimp only at h2
  rw [show Tryz.prog.cellsOf 3 = 1 by kernel_rfl] at h2
  obtain ⟨n2, e2, -, -⟩ := DataW.trod_int (x := x2) Tryz.underlying3 h2
  simp at e2
  subst e2
  have h3 := hf 3 ⟨"Threads", 3, 3, false, "", "", 24⟩ rfl
  dsimp only at h3
  rw [show Tryz.prog.cellsOf 3 = 1 by kernel_rfl] at h3
  obtain ⟨n3, e3, -, -⟩ := DataW.trod_int (x := x3) Tryz.underlying3 h3
  simp at e3
  subst e3
  have h4 := hf 4 ⟨"Locals", 3, 4, false, "", "", 32⟩ rfl
  dsimp only at h4
  rw [show Tryz.prog.cellsOf 3 = 1 by kernel_rfl] at h4
  obtain ⟨n4, e4, -, -⟩ := DataW.trod_int (x := x4) Tryz.underlying3 h4
  simp at e4
  subst e4
  have h5 := hf 5 ⟨"Cache", 3, 5, false, "", "", 40⟩ rfl
  dsimp only at h5
  rw [show Tryz.prog.cellsOf 3 = 1 by kernel_rfl] at h5
  obtain ⟨n5, e5, -, -⟩ := DataW.trod_int (x := x5) Tryz.underlying3 h5
  simp at e5
  subst e5
  have h6 := hf 6 ⟨"Stack", 3, 6, false, "", "", 48⟩ rfl
  dsimp only at h6
  rw [show Tryz.prog.cellsOf 3 = 1 by kernel_rfl] at h6
  obtain ⟨n6, e6, -, -⟩ := DataW.trod_int (x := x6) Tryz.underlying3 h6
  simp at e6
  subst e6
  have h7 := hf 7 ⟨"Low", 3, 7, false, "", "", 56⟩ rfl
  dsimp only at h7
  rw [show Tryz.prog.cellsOf 3 = 1 by kernel_rfl] at h7
  obtain ⟨n7, e7, -, -⟩ := DataW.trod_int (x := x7) Tryz.underlying3 h7
  simp at e7
  subst e7
  have h8 := hf 8 ⟨"Shapes", 22, 8, false, "", "", 64⟩ rfl
  dsimp only at h8
  rw [show Tryz.prog.cellsOf 22 = 1 by kernel_rfl] at h8
  obtain ⟨A, cap, l, hc, hcell, hok, hle, hmax⟩ := open_shapes (x := x8) h8 (fun k hk => hz k (by simp [DataW.weights, DataW.weightsEach, Tryz.underlying24, hk]))
  simp at hc
  subst hc
  exact ⟨⟨n0, n1, n2, n3, n4, n5, n6, n7, A, cap, l⟩, rfl, hcell, hok, hle, hmax⟩
end Go.Proofs.YthdijbkcjmeilaaGreat
