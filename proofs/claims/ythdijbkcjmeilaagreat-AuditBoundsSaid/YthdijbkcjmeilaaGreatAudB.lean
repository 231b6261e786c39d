/-
  spolaw26.first; AuditBounds: the walk.
-/
import Derived.Test.YthdijbkcjmeilaaGreatAudW
import Derived.Test.YthdijbkcjmeilaaGreatBnd
namespace Go.Proofs.YthdijbkcjmeilaaGreat
open Go Go.RowKit
set_option linter.unusedVariables false
set_option linter.unnecessarySimpa false
set_option linter.unusedSimpArgs false
set_option maxHeartbeats 1000000
set_option maxRecDepth 100000
def cOne26 (A : Option Addr) : Cnf := ⟨4, 0, 0, 1, 1, 0, 1, 0, A, 1, [⟨false, none, 0, []⟩]⟩
theorem cOne26_check (A : Option Addr) : (cOne26 A).check = 0 := by rfl
theorem cOne26_bound (A : Option Addr) : cBound (cOne26 A) = 1735 := by
  unfold cBound
  rw [if_pos (cOne26_check A)]
  rfl
theorem first26_any (w : World) : Calls Tryz.prog 5 #[] w (Gives (.bool true) w) := by
  have q1 := World.row_alloc_new w (o := .cells #[.bool false, .slice none 0 0] 77)
  have hok : (cOne26 (some ⟨w.heap.size, 0, none⟩)).Ok (w.alloc (.cells #[.bool false, .slice none 0 0] 77)) :=
    ⟨CellsAt.mk (Array.getElem?_eq_some_iff.1 q1).1 (fun i v hi => by rw [Nat.zero_add]; exact row_cell (l := [.bool false, .slice none 0 0]) q1 hi), fun s hs => by rw [List.mem_singleton.1 hs]; exact ⟨CellsAt.nil _ _, by simp, by simp⟩, Nat.le_refl _, (show 1 ≤ 140737488355328 by decide)⟩
  have HM := Lib.hid (fun w' (he : Ext (w.alloc (.cells #[.bool false, .slice none 0 0] 77)) w') => heap_new (cOne26 (some ⟨w.heap.size, 0, none⟩)) w' (cOne26_check _) (hok.ext he))
  have HB := Lib.hid (fun w' (he : Ext (w.alloc (.cells #[.bool false, .slice none 0 0] 77)) w') => (show Calls Tryz.prog 6 #[(cOne26 (some ⟨w.heap.size, 0, none⟩)).val] w' (Gives (.int .i64 1735) w') from cOne26_bound (some ⟨w.heap.size, 0, none⟩) ▸ bound_any _ w' (hok.ext he)))
  have hsz : (w.alloc (.cells #[.bool false, .slice none 0 0] 77)).heap.size = w.heap.size + 1 := World.size_alloc _ _
  obtain ⟨own0, b0⟩ : ∃ own0, Blk ⟨own0, ((w.alloc (.cells #[.bool false, .slice none 0 0] 77)).alloc (.cells #[.int .i64 4, .int .i64 0, .int .i64 0, .int .i64 1, .int .i64 1, .int .i64 0, .int .i64 1, .int .i64 0, .slice (some ⟨w.heap.size, 0, none⟩) 1 1] 24))⟩ 9 (w.heap.size + 1) 24 [.int .i64 4, .int .i64 0, .int .i64 0, .int .i64 1, .int .i64 1, .int .i64 0, .int .i64 1, .int .i64 0, .slice (some ⟨w.heap.size, 0, none⟩) 1 1] := ⟨_, hsz ▸ Blk.new ⟨fun _ => 0, _⟩ 9 24 [.int .i64 4, .int .i64 0, .int .i64 0, .int .i64 1, .int .i64 1, .int .i64 0, .int .i64 1, .int .i64 0, .slice (some ⟨w.heap.size, 0, none⟩) 1 1]⟩
  have B0 := Lib.hid b0
  have E0 := Lib.hid (show Ext w ((w.alloc (.cells #[.bool false, .slice none 0 0] 77)).alloc (.cells #[.int .i64 4, .int .i64 0, .int .i64 0, .int .i64 1, .int .i64 1, .int .i64 0, .int .i64 1, .int .i64 0, .slice (some ⟨w.heap.size, 0, none⟩) 1 1] 24)) by (repeat (first | (with_reducible assumption) | (with_reducible exact Ext.refl _) | (with_reducible exact Ext.more _ _ _ _) | apply Ext.alloc | refine Ext.setCell ?_ (by first | exact Nat.le_refl _ | exact Nat.le_add_right _ _ | assumption) _ | apply Ext.patch | apply Ext.drew | apply Ext.drewN)))
  have E00 := Lib.hid (show Ext (w.alloc (.cells #[.bool false, .slice none 0 0] 77)) ((w.alloc (.cells #[.bool false, .slice none 0 0] 77)).alloc (.cells #[.int .i64 4, .int .i64 0, .int .i64 0, .int .i64 1, .int .i64 1, .int .i64 0, .int .i64 1, .int .i64 0, .slice (some ⟨w.heap.size, 0, none⟩) 1 1] 24)) by (repeat (first | (with_reducible assumption) | (with_reducible exact Ext.refl _) | (with_reducible exact Ext.more _ _ _ _) | apply Ext.alloc | refine Ext.setCell ?_ (by first | exact Nat.le_refl _ | exact Nat.le_add_right _ _ | assumption) _ | apply Ext.patch | apply Ext.drew | apply Ext.drewN)))
  clear q1 hok b0 hsz
  go_enter Tryz.func5, Tryz.ntmps5
  go_wp2_with fail
  refine (HM.out _ E00.out).mono ?_
  rintro e w1 ⟨h, rfl, hX, hp⟩
  have E1 := Lib.hid (show Ext ((w.alloc (.cells #[.bool false, .slice none 0 0] 77)).alloc (.cells #[.int .i64 4, .int .i64 0, .int .i64 0, .int .i64 1, .int .i64 1, .int .i64 0, .int .i64 1, .int .i64 0, .slice (some ⟨w.heap.size, 0, none⟩) 1 1] 24)) w1 from hX)
  have HP := Lib.hid hp
  clear hX hp
  go_wp2_with fail
  refine (look_no HP.out).mono ?_
  rintro e w2 ⟨rfl, hX⟩
  have E2 := Lib.hid (show Ext w1 w2 from hX)
  clear hX
  unfold thingZ
  go_wp2_with fail
  have E2b := E2.out
  have F2 := Lib.hid (show Ext w1 (w2.alloc (.cells #[.int .i64 0, .int .i64 0, .int .i64 0, .slice none 0 0, .int .i64 0, .int .i64 0] 82)) by (repeat (first | (with_reducible assumption) | (with_reducible exact Ext.refl _) | (with_reducible exact Ext.more _ _ _ _) | apply Ext.alloc | refine Ext.setCell ?_ (by first | exact Nat.le_refl _ | exact Nat.le_add_right _ _ | assumption) _ | apply Ext.patch | apply Ext.drew | apply Ext.drewN)))
  clear E2b
  generalize (w2.alloc (.cells #[.int .i64 0, .int .i64 0, .int .i64 0, .slice none 0 0, .int .i64 0, .int .i64 0] 82)) = w2' at *
  refine (reach_none (cOne26_check _) rfl (HP.out.ext F2.out)).mono ?_
  rintro e w3 ⟨rfl, hX⟩
  have E3 := Lib.hid (F2.out.trans (show Ext w2' w3 from hX))
  clear hX
  go_wp2_with fail
  refine (sound_ok (cOne26_check _) rfl (HP.out.ext E3.out)).mono ?_
  rintro e w4 ⟨rfl, hX⟩
  have E4 := Lib.hid (E1.out.trans (E3.out.trans (show Ext w3 w4 from hX)))
  clear hX
  obtain ⟨own4, m4⟩ := Mod.ofExt E4.out own0
  have B4 := Lib.hid (B0.out.keep m4 id)
  clear m4
  have b0 := B4.out.cell (i := 0) rfl
  have b1 := B4.out.cell (i := 1) rfl
  have b2 := B4.out.cell (i := 2) rfl
  have b3 := B4.out.cell (i := 3) rfl
  have b4 := B4.out.cell (i := 4) rfl
  have b5 := B4.out.cell (i := 5) rfl
  have b6 := B4.out.cell (i := 6) rfl
  have b7 := B4.out.cell (i := 7) rfl
  have b8 := B4.out.cell (i := 8) rfl
  have bl := B4.out.lt
  (try simp only [GW.to] at b0 b1 b2 b3 b4 b5 b6 b7 b8 bl)
  go_wp2_with fail
  refine (HB.out _ (E00.out.trans E4.out)).mono ?_
  rintro e w5 ⟨rfl, hX⟩
  have E5 := Lib.hid (E0.out.trans (E4.out.trans (show Ext w4 w5 from hX)))
  clear hX
  go_wp2_with fail
  go_ret
  exact Gives.bool rfl E5.out
end Go.Proofs.YthdijbkcjmeilaaGreat
