/-
  slices.Chunk at []byte by fours: the closure's contract.
-/
import Derived.RangeFuncBox
import Derived.RangeFuncBound
import Derived.RangeFuncCalls
import Derived.RangeFuncLeaves
import Derived.Shelf.Abstract
import Derived.Shelf.RegionOpen
import Derived.WalkKit
import Derived.OwnWalkIn
import Derived.TacticsInMore
import Derived.LoopNIn
import Derived.LoopIn
import Derived.Maps.AppendAt
import Derived.Sort.QuietIn
import Derived.Test.YtlddahifhefjiaaChecked
import Derived.Test.YtlddahifhefjiaaTale
namespace Go.Proofs.Ytlddahifhefjiaa
open Go Go.RowKit Go.Shelf
set_option linter.unusedVariables false
attribute [local go_sem] Oper.semAt_some

/-- The x-th chunk. -/
def chunkLen (len x : Nat) : Nat := min 4 (len - 4 * x)
def chunkOf (b off len x : Nat) : Value := .slice (some ⟨b, off + 4 * x, none⟩) (chunkLen len x) (chunkLen len x)
/-- What a round keeps. -/
def ChunkKeeps (n₀ Bs Bn : Nat) (s : Value) (W W' : World) : Prop := Below n₀ W W' ∧ (Boxed W Bs 22 s → Boxed W' Bs 22 s) ∧ (Boxed W Bn 3 (.int .i64 4) → Boxed W' Bn 3 (.int .i64 4))
theorem ChunkKeeps.trans {n₀ Bs Bn : Nat} {s : Value} {A B C : World} (h : ChunkKeeps n₀ Bs Bn s A B) (k : ChunkKeeps n₀ Bs Bn s B C) : ChunkKeeps n₀ Bs Bn s A C :=
  ⟨h.1.trans k.1, fun x => k.2.1 (h.2.1 x), fun x => k.2.2 (h.2.2 x)⟩
theorem ChunkKeeps.put {n₀ Bs Bn : Nat} {s : Value} {w : World} (hn : n₀ ≤ w.heap.size) (hs : Bs < w.heap.size) (hb : Bn < w.heap.size) (W : World) (l : Nat) (o o' : Obj) (hl : w.heap.size ≤ l) (h : W.heap[l]? = some o) (h1 : o.isCells = false) (h2 : o.isWalk = false) : ChunkKeeps n₀ Bs Bn s W (W.putObj l o') :=
  ⟨belowK_b hn W l o o' hl h h1 h2, fun x => (World.putObj_heap_other (by omega)).trans x, fun x => (World.putObj_heap_other (by omega)).trans x⟩

set_option maxRecDepth 100000 in
set_option maxHeartbeats 2000000 in
theorem chunk1_in (n : Nat) (hn : 1 ≤ n) (l Bs Bn n₀ b off len cap : Nat) (A : Option Addr) (hA : 0 < len → A = some ⟨b, off, none⟩) (hcap : len ≤ cap) (hmax : cap ≤ 9223372036854775807) (hlen : len ≤ 140737488355328) (J Jx : List Nat → World → Prop) (hJ : ∀ s U k, J s U → J s (U.drewN k))
    (hY : ∀ pre x W, J pre W → pre.length < (len + 3) / 4 → YieldAt Fence.wide (n - 1) Try.prog l #[chunkOf b off len x] W fun e W' =>
      (e = .returned (.bool true) ∧ J (pre ++ [x]) W' ∧ ChunkKeeps n₀ Bs Bn (.slice A len cap) W W') ∨ (e = .returned (.bool false) ∧ Jx (pre ++ [x]) W'))
    (W : World) (hBs : Boxed W Bs 22 (.slice A len cap)) (hBn : Boxed W Bn 3 (.int .i64 4)) (h0 : J [] W) :
    CallsIn Fence.wide n Try.prog 163 #[.func (.yield l) #[] #[], .pointer (some ⟨Bs, 0, none⟩), .pointer (some ⟨Bn, 0, none⟩)] W fun e W' => (∃ v, e = .returned v) ∧
      ((∃ ys, ys = List.range ((len + 3) / 4) ∧ J ys W') ∨ (∃ pre, (∃ k, k ≤ (len + 3) / 4 ∧ pre = List.range k) ∧ Jx pre W')) := by
  refine callsIn_of_wp Try.func163 rfl trivial ?_ rfl
  simp only [Try.ntmps163, List.size_toArray, List.length_cons, List.length_nil, Nat.reduceAdd, Nat.reduceSub, Array.replicate_succ, Array.replicate_zero, List.push_toArray, List.append_toArray, List.nil_append, List.cons_append]
  gi_wp2
  gi_loopw [4] (fun i wr => ∃ k : Nat, k ≤ (len + 3) / 4 ∧ i = .int .i64 (4 * k : Nat) ∧ J (List.range k) wr ∧ Boxed wr Bs 22 (.slice A len cap) ∧ Boxed wr Bn 3 (.int .i64 4))
    (fun i _ => len + 4 - (intOf i).toNat)
  case atStart => exact ⟨0, Nat.zero_le _, rfl, h0, hBs, hBn⟩
  case round =>
    obtain ⟨k, hk, rfl, hJs, hs, hb⟩ := hrel
    have hcs := hs.cell
    have hcn := hb.cell
    by_cases hlt : 4 * k < len
    · have hA' := hA (by omega)
      subst hA'
      have hcut : ¬ cap = 4 * k := by omega
      have HY := Lib.hid (fun nq => hY (List.range k) k (wr.drewN nq) (hJ _ _ _ hJs) (by simp; omega))
      have HJ := Lib.hid hJs
      clear hY hJ hJs hA hBs hBn h0 hk
      by_cases h4 : len - 4 * k < 4
      · have e : chunkOf b off len k = .slice (some ⟨b, off + 4 * k, none⟩) (len - 4 * k) (len - 4 * k) := by
          have : chunkLen len k = len - 4 * k := by unfold chunkLen; omega
          rw [chunkOf, this]
        rw [e] at HY
        clear e
        gi_wp2
        gi_quiet (fail)
        obtain ⟨fn, tmps, assign, body, hy, hR⟩ := HY.out nq
        clear HY
        gi_wp2
        clear hy
        refine hR.mono ?_
        rintro e W3 (⟨rfl, hJ3, hk3⟩ | ⟨rfl, hJx3⟩)
        · have hs3 := hk3.2.1 hs
          have hb3 := hk3.2.2 hb
          have hcs3 := hs3.cell
          have hcn3 := hb3.cell
          have HJ3 := Lib.hid hJ3
          clear hJ3 hk3 hR hcs hcn
          gi_wp2
          go_roundw
          case rel => exact ⟨k + 1, by omega, by go_num, by rw [List.range_succ]; exact HJ3.out, hs3, hb3⟩
          case measure => simp [intOf]; omega
        · have HJ3 := Lib.hid hJx3
          clear hJx3 hR
          gi_wp2
          refine bodyPost_ret (results_none rfl _ _ _) rfl ?_
          exact ⟨⟨_, rfl⟩, .inr ⟨_, ⟨k + 1, by omega, (List.range_succ).symm⟩, HJ3.out⟩⟩
      · have e : chunkOf b off len k = .slice (some ⟨b, off + 4 * k, none⟩) (4) (4) := by
          have : chunkLen len k = 4 := by unfold chunkLen; omega
          rw [chunkOf, this]
        rw [e] at HY
        clear e
        gi_wp2
        gi_quiet (fail)
        obtain ⟨fn, tmps, assign, body, hy, hR⟩ := HY.out nq
        clear HY
        gi_wp2
        clear hy
        refine hR.mono ?_
        rintro e W3 (⟨rfl, hJ3, hk3⟩ | ⟨rfl, hJx3⟩)
        · have hs3 := hk3.2.1 hs
          have hb3 := hk3.2.2 hb
          have hcs3 := hs3.cell
          have hcn3 := hb3.cell
          have HJ3 := Lib.hid hJ3
          clear hJ3 hk3 hR hcs hcn
          gi_wp2
          go_roundw
          case rel => exact ⟨k + 1, by omega, by go_num, by rw [List.range_succ]; exact HJ3.out, hs3, hb3⟩
          case measure => simp [intOf]; omega
        · have HJ3 := Lib.hid hJx3
          clear hJx3 hR
          gi_wp2
          refine bodyPost_ret (results_none rfl _ _ _) rfl ?_
          exact ⟨⟨_, rfl⟩, .inr ⟨_, ⟨k + 1, by omega, (List.range_succ).symm⟩, HJ3.out⟩⟩
    · have hk' : k = (len + 3) / 4 := by omega
      have HJ := Lib.hid hJs
      clear hJs hY h0
      gi_wp2
      go_end0
      exact ⟨⟨_, rfl⟩, .inl ⟨_, by rw [hk'], HJ.out⟩⟩

/-- The closure, as an iterator over the chunks' numbers. -/
theorem chunk_stops (n : Nat) (hn : 1 ≤ n) (Bs Bn n₀ b off len cap : Nat) (A : Option Addr) (hA : 0 < len → A = some ⟨b, off, none⟩) (hcap : len ≤ cap) (hmax : cap ≤ 9223372036854775807) (hlen : len ≤ 140737488355328) (w : World)
    (hBs : Boxed w Bs 22 (.slice A len cap)) (hBn : Boxed w Bn 3 (.int .i64 4)) :
    SeqStopsK Fence.wide n Try.prog 163 #[.pointer (some ⟨Bs, 0, none⟩), .pointer (some ⟨Bn, 0, none⟩)] (fun x : Nat => #[chunkOf b off len x]) (ChunkKeeps n₀ Bs Bn (.slice A len cap)) (fun ys => ys = List.range ((len + 3) / 4)) (fun pre => ∃ k, k ≤ (len + 3) / 4 ∧ pre = List.range k) ((len + 3) / 4) w := fun l J Jx W hW hJ _ hY h0 =>
  chunk1_in n hn l Bs Bn n₀ b off len cap A hA hcap hmax hlen J Jx (fun s U k hs => hJ s U _ none hs (grown_of_ext ((Ext.refl U).drewN k)) (fun r e => by cases e)) hY W (((ext_of_below hW).heap _ hBs.lt).trans hBs) (((ext_of_below hW).heap _ hBn.lt).trans hBn) h0

set_option maxHeartbeats 1000000 in
/-- slices.Chunk(b, 4). -/
theorem chunk_any (A : Option Addr) (len cap : Nat) (w : World) :
    Calls Try.prog 77 #[.slice A len cap, .int .i64 4] w fun e w' => e = .returned (.func (.func 163) #[] #[.pointer (some ⟨w.heap.size, 0, none⟩), .pointer (some ⟨w.heap.size + 1, 0, none⟩)]) ∧ (w.alloc (.cells #[.slice A len cap] 22)).alloc (.cells #[.int .i64 4] 3) = w' := by
  go_enter Try.func77, Try.ntmps77
  go_wp2
  go_ret
  exact ⟨rfl, rfl⟩
end Go.Proofs.Ytlddahifhefjiaa
