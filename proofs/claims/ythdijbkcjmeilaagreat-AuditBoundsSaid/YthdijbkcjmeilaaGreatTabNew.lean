/-
  tint.New.
-/
import Derived.Test.YthdijbkcjmeilaaGreatTint
import Derived.Test.YthdijbkcjmeilaaGreatConf
namespace Go
open Go.RowKit
def One.zero : One := ⟨0, false, false⟩
theorem made_three (n : Nat) : madeCells #[.int .i64 0, .bool false, .bool false] (n * 3) = ((List.replicate n One.zero).flatMap One.cells).toArray := by
  apply Array.ext_getElem?
  intro j
  conv => rhs; rw [List.getElem?_toArray]
  by_cases hj : j < n * 3
  · have e := flat_at One.cells_len (List.replicate n One.zero) (j / 3) (j % 3) One.zero (by rw [List.getElem?_replicate, if_pos (by omega)]) (by omega)
    rw [show j / 3 * 3 + j % 3 = j by omega] at e
    rw [e]
    simp only [madeCells, Array.getElem?_map, Array.getElem?_range, if_pos hj, Option.map_some]
    have : j % 3 = 0 ∨ j % 3 = 1 ∨ j % 3 = 2 := by omega
    rcases this with h | h | h <;> simp [h, One.cells, One.zero]
  · rw [Array.getElem?_eq_none (by rw [size_madeCells]; omega), List.getElem?_eq_none (by rw [flat_size _ One.cells_len]; simp; omega)]
def TabS.fresh (n : Nat) : TabS := ⟨List.replicate n One.zero⟩
end Go
namespace Go.Proofs.YthdijbkcjmeilaaGreat
open Go Go.RowKit
set_option linter.unusedVariables false
set_option linter.unnecessarySimpa false
set_option linter.unusedSimpArgs false
set_option maxHeartbeats 4000000
theorem infoOne : (Tryz.prog.info? 124).map (fun i => (i.zero, i.size, i.bytes)) = some (some (.agg #[.int .i64 0, .bool false, .bool false]), 3, 16) := by kernel_rfl

set_option maxRecDepth 100000 in
theorem tab_new (n : Nat) (t : Nat) (g : GW) (hn : n ≤ 1024) : Calls Tryz.prog 10 #[.int .i64 n] g.w (fun e w' => ∃ own' b, e = .returned (.tuple #[.pointer (some ⟨b, 0, none⟩), .int .i64 0]) ∧ Mod (fun _ => False) g ⟨own', w'⟩ ∧ TabAt ⟨own', w'⟩ t b (TabS.fresh n)) := by
  obtain ⟨i0, hi, hz0, hz1, hz2⟩ := info_parts infoOne
  have hmk := run_made (P := Tryz.prog) 96 124 i0 _ 3 16 Tryz.underlying96 hi hz0 hz1 hz2 n (by omega) (by omega)
  simp only [Value.cells, made_three] at hmk
  obtain ⟨arr, harr⟩ : ∃ arr : Array Value, ((List.replicate n One.zero).flatMap One.cells).toArray = arr := ⟨_, rfl⟩
  rw [harr] at hmk
  have HA := Lib.hid harr
  have HN := Lib.hid hn
  clear harr
  go_enter Tryz.func10, Tryz.ntmps10
  go_wp2_with fail
  go_ret2
  obtain ⟨q1, q2⟩ := two_blocks g.w (.cells arr 124) (.cells #[.slice (some ⟨g.w.heap.size, 0, none⟩) n n, .int .i64 n, .int .i64 0, .int .i64 0] 99)
  refine ⟨_, _, rfl, Mod.ext (show Ext g.w _ by (repeat (first | (with_reducible assumption) | (with_reducible exact Ext.refl _) | (with_reducible exact Ext.more _ _ _ _) | apply Ext.alloc | refine Ext.setCell ?_ (by first | exact Nat.le_refl _ | exact Nat.le_add_right _ _ | assumption) _ | apply Ext.patch | apply Ext.drew | apply Ext.drewN))) t, ⟨⟨some ⟨g.w.heap.size, 0, none⟩, n, ?_, ?_⟩, by simpa [TabS.fresh] using HN.out, fun o ho => ?_⟩⟩
  · have := Blk.made (g := g) (t := t) (vs := [.slice (some ⟨g.w.heap.size, 0, none⟩) n n, .int .i64 n, .int .i64 0, .int .i64 0]) q2 (by omega)
    have e0 : TabS.cnt (TabS.fresh n) 0 = n := by simp [TabS.cnt, TabS.fresh, List.countP_replicate, One.zero]
    have e1 : TabS.cnt (TabS.fresh n) 1 = 0 := by simp [TabS.cnt, TabS.fresh, List.countP_replicate, One.zero]
    have e2 : TabS.cnt (TabS.fresh n) 2 = 0 := by simp [TabS.cnt, TabS.fresh, List.countP_replicate, One.zero]
    rw [e0, e1, e2, show (TabS.fresh n).l.length = n by simp [TabS.fresh]]
    exact this
  · rw [show (TabS.fresh n).l.length = n by simp [TabS.fresh]]
    exact Row.made (HA.out ▸ q1) (Nat.le_refl _) (by rw [flat_size _ One.cells_len]; simp [TabS.fresh]) (by have := HN.out; omega)
  · rw [(List.mem_replicate.1 ho).2]
    decide
end Go.Proofs.YthdijbkcjmeilaaGreat
