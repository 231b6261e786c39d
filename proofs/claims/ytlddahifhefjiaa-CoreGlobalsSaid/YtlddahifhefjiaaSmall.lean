/-
  tale.Small: a small configuration.
-/
import Derived.Test.YtlddahifhefjiaaConf
import Derived.Test.YtlddahifhefjiaaTale
namespace Go
theorem cellsAt_new (w : World) (cs : List Value) (t : TypeId) (n : Nat) (h : n = w.heap.size) : CellsAt (w.alloc (.cells cs.toArray t)) (some ⟨n, 0, none⟩) cs := by
  subst h
  refine CellsAt.mk (by simp) (fun i v hi => ?_)
  rw [Nat.zero_add, World.cell?_alloc_new]
  simpa using hi
/-- A number's part; 0 below 0. -/
def partOf (n by_ : Int) : Int := if n < 0 then 0 else n % by_
theorem partOf_bd (n : Int) {b : Int} (h : 0 < b) : 0 ≤ partOf n b ∧ partOf n b < b := by
  unfold partOf
  split
  · omega
  · exact ⟨Int.emod_nonneg _ (by omega), Int.emod_lt_of_pos _ h⟩
/-- The nine, the first k of them written. -/
def nineTo (k : Nat) : List Bool := (List.range 9).map fun j => decide (j < k) && decide (j % 3 ≠ 2)
/-- What a configuration says, without where it stands. -/
def Cnf.sig (c : Cnf) : List Int × List (Bool × List Bool) := ([c.frags, c.spine, c.globals, c.threads, c.locals, c.cache, c.stack, c.low], c.shapes.map fun s => (s.arr, s.refs))
def smallSig (n : Int) : List Int × List (Bool × List Bool) := ([16 + partOf n 32, 24 + partOf n 40, 2, 3, 3, partOf n 3, 1 + partOf n 4, partOf n 4],
  [(false, [true, true, false]), (false, [true, true, false, true, true, false, true, true, false]), (true, [true]), (true, [false]), (false, [])])
def SmallGot (n : Int) (w : World) (e : Ending) (w' : World) : Prop := ∃ c : Cnf, e = .returned c.val ∧ c.sig = smallSig n ∧ c.Ok w' ∧ Ext w w'
end Go
namespace Go.Proofs.Ytlddahifhefjiaa
open Go Go.RowKit
set_option linter.unusedVariables false

theorem part_any (n b : Int) (w : World) (hb : 0 < b) (hb' : b ≤ 1000) (h0 : -9223372036854775808 ≤ n) (h1 : n ≤ 9223372036854775807) :
    Calls Try.prog 85 #[.int .i64 n, .int .i64 b] w fun e w' => e = .returned (.int .i64 (partOf n b)) ∧ w = w' := by
  by_cases hn : n < 0
  · have HV := Lib.hid (show partOf n b = 0 by simp [partOf, hn])
    go_enter Try.func85, Try.ntmps85
    go_wp2
    go_ret
    exact ⟨by rw [HV.out]; rfl, rfl⟩
  · have HV := Lib.hid (show partOf n b = n % b by simp [partOf, hn])
    have hn' : 0 ≤ n := by omega
    go_enter Try.func85, Try.ntmps85
    go_wp2
    go_ret
    exact ⟨by rw [HV.out]; rfl, rfl⟩

def nineC (k : Nat) : Obj := .cells ((nineTo k).map Value.bool).toArray 4

set_option maxRecDepth 100000 in
set_option maxHeartbeats 400000 in
theorem small_any (n : Int) (w : World) (h0 : -9223372036854775808 ≤ n) (h1 : n ≤ 9223372036854775807) :
    Calls Try.prog 24 #[.int .i64 n] w (SmallGot n w) := by
  have hmk : ∀ w, (Instr.makeSlice 41 (.int .i64 9) (.int .i64 9)).run Try.prog w = .ok (.slice (some ⟨w.heap.size, 0, none⟩) 9 9) (w.alloc (.cells #[.bool false, .bool false, .bool false, .bool false, .bool false, .bool false, .bool false, .bool false, .bool false] 4)) := fun _ => by kernel_rfl
  have HC := Lib.hid (fun b w' hb hb' => part_any n b w' hb hb' h0 h1)
  have q32 := partOf_bd n (b := 32) (by decide)
  have q40 := partOf_bd n (b := 40) (by decide)
  have q3 := partOf_bd n (b := 3) (by decide)
  have q4 := partOf_bd n (b := 4) (by decide)
  have HS := Lib.hid (show smallSig n = ([16 + partOf n 32, 24 + partOf n 40, 2, 3, 3, partOf n 3, 1 + partOf n 4, partOf n 4], [(false, [true, true, false]), (false, [true, true, false, true, true, false, true, true, false]), (true, [true]), (true, [false]), (false, [])]) from rfl)
  have C32 := Lib.hid (fun w' => HC.out 32 w' (by decide) (by decide))
  have C40 := Lib.hid (fun w' => HC.out 40 w' (by decide) (by decide))
  have C3 := Lib.hid (fun w' => HC.out 3 w' (by decide) (by decide))
  have C4 := Lib.hid (fun w' => HC.out 4 w' (by decide) (by decide))
  generalize partOf n 32 = p32 at *
  generalize partOf n 40 = p40 at *
  generalize partOf n 3 = p3 at *
  generalize partOf n 4 = p4 at *
  clear HC
  go_enter Try.func24, Try.ntmps24
  go_wp2
  go_loopw [8] (fun i wr => ∃ k : Nat, k ≤ 9 ∧ i = .int .i64 k ∧ wr = (w.alloc (.cells #[.int .i64 0, .int .i64 0, .int .i64 0, .int .i64 0, .int .i64 0, .int .i64 0, .int .i64 0, .int .i64 0, .slice none 0 0] 37)).alloc (nineC k)) (fun i _ => 9 - (intOf i).toNat)
  case atStart => exact ⟨0, by omega, rfl, rfl⟩
  case round =>
    obtain ⟨k, hk, rfl, rfl⟩ := hrel
    by_cases hlt : k < 9
    · rcases (show k = 0 ∨ k = 1 ∨ k = 2 ∨ k = 3 ∨ k = 4 ∨ k = 5 ∨ k = 6 ∨ k = 7 ∨ k = 8 by omega) with rfl | rfl | rfl | rfl | rfl | rfl | rfl | rfl | rfl
      all_goals
        clear hk hlt
        simp only [nineC, nineTo, List.range, List.range.loop, List.map]
        go_wp2
        go_roundw
        case rel => exact ⟨_ + 1, by omega, rfl, rfl⟩
        case measure => simp [intOf]
    · obtain rfl : k = 9 := by omega
      clear hk hlt
      simp only [nineC, nineTo, List.range, List.range.loop, List.map]
      go_wp2_with fail
      refine (C32.out _).mono ?_
      rintro e w1 ⟨rfl, rfl⟩
      go_wp2_with fail
      refine (C40.out _).mono ?_
      rintro e w1 ⟨rfl, rfl⟩
      go_wp2_with fail
      refine (C3.out _).mono ?_
      rintro e w1 ⟨rfl, rfl⟩
      go_wp2_with fail
      refine (C4.out _).mono ?_
      rintro e w1 ⟨rfl, rfl⟩
      go_wp2_with fail
      refine (C4.out _).mono ?_
      rintro e w1 ⟨rfl, rfl⟩
      go_wp2_with fail
      refine bodyPost_ret (v := .agg #[.int .i64 (16 + p32), .int .i64 (24 + p40), .int .i64 2, .int .i64 3, .int .i64 3, .int .i64 p3, .int .i64 (1 + p4), .int .i64 p4, .slice (some ⟨w.heap.size + 1 + 1 + 1 + 1 + 1, 0, none⟩) 5 5]) (by simp [results, Try.results24, go_sem]) rfl ?_
      refine ⟨⟨16 + p32, 24 + p40, 2, 3, 3, p3, 1 + p4, p4, some ⟨w.heap.size + 1 + 1 + 1 + 1 + 1, 0, none⟩, 5, [⟨false, some ⟨w.heap.size + 1 + 1, 0, none⟩, 3, [true, true, false]⟩, ⟨false, some ⟨w.heap.size + 1, 0, none⟩, 9, [true, true, false, true, true, false, true, true, false]⟩, ⟨true, some ⟨w.heap.size + 1 + 1 + 1, 0, none⟩, 1, [true]⟩, ⟨true, some ⟨w.heap.size + 1 + 1 + 1 + 1, 0, none⟩, 1, [false]⟩, ⟨false, none, 0, []⟩]⟩, rfl, HS.out.symm, ?_, by (repeat (first | (with_reducible assumption) | (with_reducible exact Ext.refl _) | (with_reducible exact Ext.more _ _ _ _) | apply Ext.alloc | refine Ext.setCell ?_ (by first | exact Nat.le_refl _ | exact Nat.le_add_right _ _ | assumption) _ | apply Ext.patch | apply Ext.drew | apply Ext.drewN))⟩
      refine ⟨cellsAt_new _ _ _ _ (by simp), ?_, by simp, by simp⟩
      intro s hs
      simp only [List.mem_cons, List.not_mem_nil, or_false] at hs
      rcases hs with rfl | rfl | rfl | rfl | rfl
      · exact ⟨(((cellsAt_new _ [.bool true, .bool true, .bool false] _ _ (by simp)).alloc _).alloc _).alloc _, by simp, by simp⟩
      · exact ⟨((((cellsAt_new _ [.bool true, .bool true, .bool false, .bool true, .bool true, .bool false, .bool true, .bool true, .bool false] _ _ (by simp)).alloc _).alloc _).alloc _).alloc _, by simp, by simp⟩
      · exact ⟨((cellsAt_new _ [.bool true] _ _ (by simp)).alloc _).alloc _, by simp, by simp⟩
      · exact ⟨(cellsAt_new _ [.bool false] _ _ (by simp)).alloc _, by simp, by simp⟩
      · exact ⟨CellsAt.nil _ _, by simp, by simp⟩
end Go.Proofs.Ytlddahifhefjiaa
