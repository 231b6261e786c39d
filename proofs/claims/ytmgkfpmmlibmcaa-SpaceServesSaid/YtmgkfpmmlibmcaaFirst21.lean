/-
  space: Sweep; spolaw21.first.
-/
import Derived.Test.YtmgkfpmmlibmcaaEval
import Derived.Test.YtmgkfpmmlibmcaaInts
namespace Go
theorem Mod.none {T : Nat → Prop} {g g' : GW} (h : Mod T g g') (hn : ∀ k, k < g.w.heap.size → ¬ T (g.own k)) : Mod (fun _ => False) g g' := ⟨h.os, h.tape, h.output, h.size, h.own, fun k hk _ => h.block k hk (hn k hk)⟩
end Go
namespace Go.Proofs.Ytmgkfpmmlibmcaa
open Go Go.RowKit
set_option linter.unusedVariables false
set_option linter.unnecessarySimpa false
set_option linter.unusedSimpArgs false
set_option maxHeartbeats 4000000
def sweeps (S : SpaceS) (i : Int) (sense : Bool) : Bool := S.tab.state i == 2 && !S.tab.black i sense
def sweepS (S : SpaceS) (i : Int) (sense : Bool) : SpaceS := if sweeps S i sense then { S.tick with tab := S.tab.set i 0 false false, pool := S.pool.give i } else S.tick
theorem space_sweep (i : Int) (sense : Bool) (g : GW) (B b bt : Nat) (S : SpaceS) (h : SpaceAt g B b bt S) (hB : 100 ≤ B) (hc : 0 ≤ S.count ∧ S.count ≤ 1099511627776) :
    Calls Try.prog 62 #[.pointer (some ⟨b, 0, none⟩), .int .i64 i, .bool sense] g.w (Does (.bool (sweeps S i sense)) g (inst B) (fun g' => SpaceAt g' B b bt (sweepS S i sense))) := by
  obtain ⟨bp, bk, bl, A, cs, cm, bs, h⟩ := h
  obtain ⟨hc0, hc1⟩ := hc
  have H := Lib.hid h
  have M0 := Lib.hid (show Mod (inst B) g ⟨g.own, g.w.setCell ⟨b, 3, none⟩ (.int .i64 (S.count + 1))⟩ from Mod.set (by rw [h.blk.own]; exact ⟨by omega, by omega⟩))
  have H0 := Lib.hid h.tick
  have a0 := h.blk.cell (i := 0) rfl
  have a1 := h.blk.cell (i := 1) rfl
  have a2 := h.blk.cell (i := 2) rfl
  have a3 := h.blk.cell (i := 3) rfl
  have a4 := h.blk.cell (i := 4) rfl
  have a5 := h.blk.cell (i := 5) rfl
  have a6 := h.blk.cell (i := 6) rfl
  have a7 := h.blk.cell (i := 7) rfl
  have a8 := h.blk.cell (i := 8) rfl
  have a9 := h.blk.cell (i := 9) rfl
  have a10 := h.blk.cell (i := 10) rfl
  have a11 := h.blk.cell (i := 11) rfl
  have a12 := h.blk.cell (i := 12) rfl
  have a13 := h.blk.cell (i := 13) rfl
  have a14 := h.blk.cell (i := 14) rfl
  have a15 := h.blk.cell (i := 15) rfl
  have af3 := h.blk.live 3
  have al := h.blk.lt
  (try simp only [GW.to] at a0 a1 a2 a3 a4 a5 a6 a7 a8 a9 a10 a11 a12 a13 a14 a15 af3 al)
  have k0 := (h.tick.blk.cell (i := 0) rfl)
  have k13 := (h.tick.blk.cell (i := 13) rfl)
  simp only at k0 k13
  have HST := Lib.hid (tab_state ⟨g.own, g.w.setCell ⟨b, 3, none⟩ (.int .i64 (S.count + 1))⟩ (B + 50) bt i S.tab h.tick.tab)
  have HBL := Lib.hid (tab_black ⟨g.own, g.w.setCell ⟨b, 3, none⟩ (.int .i64 (S.count + 1))⟩ (B + 50) bt i sense S.tab h.tick.tab)
  have HFR := Lib.hid (space_frees i h.tick hB)
  clear h
  cases hst : (S.tab.state i == 2)
  · have HV := Lib.hid (show sweeps S i sense = false by unfold sweeps; rw [hst]; rfl)
    have HW := Lib.hid (show sweepS S i sense = S.tick by unfold sweepS; rw [HV.out]; rfl)
    have hz : ((S.tab.state i : Int) != 2) = true := by rw [bne, show (2 : Int) = ((2 : Nat) : Int) from rfl, beq_cast]; simpa using hst
    generalize S.tab.state i = x at *
    clear hst
    go_enter Try.func62, Try.ntmps62
    go_wp2_with fail
    refine HST.out.mono ?_
    rintro e w1 ⟨rfl, rfl⟩
    go_wp2_with fail
    go_ret
    exact Does.of ⟨g.own, _⟩ rfl (by rw [HV.out]; try rfl) M0.out (by rw [HW.out]; exact ⟨_, _, _, _, _, _, _, H0.out⟩)
  · have hz : ((S.tab.state i : Int) != 2) = false := by rw [bne, show (2 : Int) = ((2 : Nat) : Int) from rfl, beq_cast]; simpa using hst
    cases hbl : S.tab.black i sense
    · have HV := Lib.hid (show sweeps S i sense = true by unfold sweeps; rw [hst, hbl]; rfl)
      have HW := Lib.hid (show sweepS S i sense = { S.tick with tab := S.tab.set i 0 false false, pool := S.pool.give i } by unfold sweepS; rw [HV.out]; rfl)
      rw [hbl] at HBL
      generalize S.tab.state i = x at *
      clear hst hbl
      go_enter Try.func62, Try.ntmps62
      go_wp2_with fail
      refine HST.out.mono ?_
      rintro e w1 ⟨rfl, rfl⟩
      go_wp2_with fail
      refine HBL.out.mono ?_
      rintro e w1 ⟨rfl, rfl⟩
      go_wp2_with fail
      refine HFR.out.mono ?_
      rintro e w1 ⟨rfl, own1, m1, h1⟩
      have M1 := Lib.hid (M0.out.trans (m1.mono (fun y (hy : y = B + 50 ∨ y = B + 1) => (⟨by omega, by omega⟩ : inst B y))))
      have H1 := Lib.hid h1
      clear m1 h1
      go_wp2_with fail
      go_ret
      exact Does.of ⟨own1, _⟩ rfl (by rw [HV.out]; try rfl) M1.out (by rw [HW.out]; exact ⟨_, _, _, _, _, _, _, H1.out⟩)
    · have HV := Lib.hid (show sweeps S i sense = false by unfold sweeps; rw [hst, hbl]; rfl)
      have HW := Lib.hid (show sweepS S i sense = S.tick by unfold sweepS; rw [HV.out]; rfl)
      rw [hbl] at HBL
      generalize S.tab.state i = x at *
      clear hst hbl
      go_enter Try.func62, Try.ntmps62
      go_wp2_with fail
      refine HST.out.mono ?_
      rintro e w1 ⟨rfl, rfl⟩
      go_wp2_with fail
      refine HBL.out.mono ?_
      rintro e w1 ⟨rfl, rfl⟩
      go_wp2_with fail
      go_ret
      exact Does.of ⟨g.own, _⟩ rfl (by rw [HV.out]; try rfl) M0.out (by rw [HW.out]; exact ⟨_, _, _, _, _, _, _, H0.out⟩)

set_option maxRecDepth 100000 in
theorem first21_any (w : World) : Calls Try.prog 56 #[] w (Gives (.bool true) w) := by
  obtain ⟨q1, q2⟩ := two_blocks w (.cells #[.bool false, .slice none 0 0] 29) (.cells #[.int .i64 4, .int .i64 0, .int .i64 0, .int .i64 1, .int .i64 1, .int .i64 0, .int .i64 1, .int .i64 0, .slice (some ⟨w.heap.size, 0, none⟩) 1 1] 24)
  have hok : (c4 (some ⟨w.heap.size, 0, none⟩)).Ok ((w.alloc (.cells #[.bool false, .slice none 0 0] 29)).alloc (.cells #[.int .i64 4, .int .i64 0, .int .i64 0, .int .i64 1, .int .i64 1, .int .i64 0, .int .i64 1, .int .i64 0, .slice (some ⟨w.heap.size, 0, none⟩) 1 1] 24)) :=
    ⟨CellsAt.mk (Array.getElem?_eq_some_iff.1 q1).1 (fun i v hi => by rw [Nat.zero_add]; exact row_cell (l := [.bool false, .slice none 0 0]) q1 hi), fun s hs => by rw [List.mem_singleton.1 hs]; exact ⟨CellsAt.nil _ _, by simp, by simp⟩, Nat.le_refl _, (show 1 ≤ 140737488355328 by decide)⟩
  have HM := Lib.hid (made_any (c4 (some ⟨w.heap.size, 0, none⟩)) 100 ⟨fun _ => 0, _⟩ hok (c4_check _) (by omega))
  have HE := Lib.hid (show Ext w ((w.alloc (.cells #[.bool false, .slice none 0 0] 29)).alloc (.cells #[.int .i64 4, .int .i64 0, .int .i64 0, .int .i64 1, .int .i64 1, .int .i64 0, .int .i64 1, .int .i64 0, .slice (some ⟨w.heap.size, 0, none⟩) 1 1] 24)) by (repeat (first | (with_reducible assumption) | (with_reducible exact Ext.refl _) | (with_reducible exact Ext.more _ _ _ _) | apply Ext.alloc | refine Ext.setCell ?_ (by first | exact Nat.le_refl _ | exact Nat.le_add_right _ _ | assumption) _ | apply Ext.patch | apply Ext.drew | apply Ext.drewN)))
  clear q1 q2 hok
  go_enter Try.func56, Try.ntmps56
  go_wp2_with fail
  refine HM.out.mono ?_
  rintro e w1 ⟨own1, b, bt, rfl, m1, h1⟩
  have M1 := Lib.hid m1
  have H1 := Lib.hid (show SpaceAt ⟨own1, w1⟩ 100 b bt (s4 (some ⟨w.heap.size, 0, none⟩)) from h1)
  clear m1 h1
  go_wp2_with fail
  refine (space_ask 0 1 0 true ⟨own1, w1⟩ 100 b bt _ H1.out (by omega) ⟨(show (0 : Int) ≤ 0 by decide), (show (0 : Int) ≤ 1099511627776 by decide)⟩ (show 0 < 1000000 by decide) (by omega) (by omega)).mono ?_
  rintro e w2 ⟨v, own2, rfl, m2, g2, h2⟩
  rw [s4_ask] at g2
  obtain ⟨A2, c2, rfl, r2⟩ := g2
  have M2 := Lib.hid ((M1.out.mono (fun x hx => hx.elim)).trans m2)
  have H2 := Lib.hid h2
  have R2 := Lib.hid (show Row ⟨own2, w2⟩ 0 3 1 (.slice A2 1 c2) 1 [.int .i64 3] from r2)
  clear m2 h2 r2
  simp only [List.length_singleton]
  go_wp2_with fail
  have hE3 : Ext w2 ((w2.alloc (.cells #[.int .i64 1, .slice A2 1 c2, .int .i64 (-1)] 90)).alloc (.cells #[.int .i64 3] 3)) := by (repeat (first | (with_reducible assumption) | (with_reducible exact Ext.refl _) | (with_reducible exact Ext.more _ _ _ _) | apply Ext.alloc | refine Ext.setCell ?_ (by first | exact Nat.le_refl _ | exact Nat.le_add_right _ _ | assumption) _ | apply Ext.patch | apply Ext.drew | apply Ext.drewN))
  have HI := Lib.hid (show Calls Try.prog 115 #[.slice A2 1 c2, .slice (some ⟨w2.heap.size + 1, 0, none⟩) 1 1] ((w2.alloc (.cells #[.int .i64 1, .slice A2 1 c2, .int .i64 (-1)] 90)).alloc (.cells #[.int .i64 3] 3)) (Gives (.bool true) _) from
    ints_any A2 (some ⟨w2.heap.size + 1, 0, none⟩) c2 1 [3] [3] _ (R2.out.cells.ext hE3) (CellsAt.mk (by simp) (fun i v hi => by
      rw [Nat.zero_add]
      exact row_cell (l := [.int .i64 3]) (two_blocks w2 (.cells #[.int .i64 1, .slice A2 1 c2, .int .i64 (-1)] 90) (.cells #[.int .i64 3] 3)).2 hi)) (by decide) (by decide))
  refine HI.out.mono ?_
  rintro e w3 ⟨rfl, hX⟩
  obtain ⟨own3, m3⟩ := Mod.ofExt (hE3.trans (show Ext _ w3 from hX)) own2
  have HG := Lib.hid (show Ext ((w2.alloc (.cells #[.int .i64 1, .slice A2 1 c2, .int .i64 (-1)] 90)).alloc (.cells #[.int .i64 3] 3)) w3 from hX)
  have g2 := (HG.out.cell (k := w2.heap.size) (o := 2) (by rw [World.size_alloc, World.size_alloc]; omega)).trans (row_cell (l := [.int .i64 1, .slice A2 1 c2, .int .i64 (-1)]) (two_blocks w2 (.cells #[.int .i64 1, .slice A2 1 c2, .int .i64 (-1)] 90) (.cells #[.int .i64 3] 3)).1 (i := 2) rfl)
  have gl : w2.heap.size < w3.heap.size := Nat.lt_of_lt_of_le (by rw [World.size_alloc, World.size_alloc]; omega) HG.out.size
  have M3 := Lib.hid (M2.out.trans (m3.mono (fun x hx => hx.elim)))
  obtain ⟨bp, bk, bl, A, cs, cm, bs, h2⟩ := H2.out
  have H3 := Lib.hid (h2.keep m3 (fun x hx => hx.elim))
  clear m3 hX h2 hE3
  go_wp2_with fail
  have HC := Lib.hid (show Calls Try.prog 116 #[.pointer (some ⟨b, 0, none⟩)] w3 (fun e w' => e = .returned (.int .i64 1) ∧ w3 = w') from space_count ⟨own3, w3⟩ 100 b bt _ ⟨_, _, _, _, _, _, _, H3.out⟩)
  refine HC.out.mono ?_
  rintro e w' ⟨rfl, rfl⟩
  go_wp2_with fail
  have HS := Lib.hid (show Calls Try.prog 69 #[.pointer (some ⟨bt, 0, none⟩), .int .i64 3] w3 (fun e w' => e = .returned (.int .i64 2) ∧ w3 = w') from tab_state ⟨own3, w3⟩ (100 + 50) bt 3 _ H3.out.tab)
  refine HS.out.mono ?_
  rintro e w' ⟨rfl, rfl⟩
  go_wp2_with fail
  have HH := Lib.hid (show Calls Try.prog 84 #[.pointer (some ⟨bt, 0, none⟩), .int .i64 3] w3 (fun e w' => e = .returned (.bool false) ∧ w3 = w') from tab_head ⟨own3, w3⟩ (100 + 50) bt 3 _ H3.out.tab)
  refine HH.out.mono ?_
  rintro e w' ⟨rfl, rfl⟩
  go_wp2_with fail
  go_ret
  exact Gives.bool rfl (HE.out.trans (M3.out.none (fun k _ hk => by simp [inst] at hk)).toExt)
end Go.Proofs.Ytmgkfpmmlibmcaa
