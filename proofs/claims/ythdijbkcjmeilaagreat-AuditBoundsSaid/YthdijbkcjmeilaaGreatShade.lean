/-
  shade: New, Len, Table.
-/
import Derived.Test.YthdijbkcjmeilaaGreatHand
import Derived.Test.YthdijbkcjmeilaaGreatTabNew
namespace Go.Proofs.YthdijbkcjmeilaaGreat
open Go Go.RowKit
set_option linter.unusedVariables false
set_option linter.unnecessarySimpa false
set_option linter.unusedSimpArgs false
set_option maxHeartbeats 4000000
theorem shade_new (n : Nat) (most : Int) (t tt tp : Nat) (g : GW) (hn : n ≤ 1024) (hm : 1 ≤ most ∧ most ≤ 256) : Calls Tryz.prog 149 #[.int .i64 n, .int .i64 most] g.w (fun e w' => ∃ own' b bt bp, e = .returned (.tuple #[.pointer (some ⟨b, 0, none⟩), .int .i64 0]) ∧ Mod (fun _ => False) g ⟨own', w'⟩ ∧ Blk ⟨own', w'⟩ t b 199 [.pointer (some ⟨bt, 0, none⟩), .pointer (some ⟨bp, 0, none⟩), .int .i64 0] ∧ TabAt ⟨own', w'⟩ tt bt (TabS.fresh n) ∧ PileAt ⟨own', w'⟩ tp bp ⟨[], most, false⟩) := by
  have HT := Lib.hid (tab_new n tt g hn)
  have HP := Lib.hid (fun g' => (pile_new most tp g').mono fun e w' hh => by
    unfold PileMade at hh
    rw [if_pos hm] at hh
    exact hh)
  clear hn
  go_enter Tryz.func149, Tryz.ntmps149
  go_wp2_with fail
  refine HT.out.mono ?_
  rintro e w1 ⟨own1, bt, rfl, m1, t1⟩
  have M1 := Lib.hid m1
  have T1 := Lib.hid t1
  clear m1 t1 HT
  go_wp2_with fail
  refine (HP.out ⟨own1, w1⟩).mono ?_
  rintro e w2 ⟨bp, rfl, he, p2⟩
  have m2 := Mod.ext (T := fun _ => False) (g := ⟨own1, w1⟩) he tp
  have M2 := Lib.hid (M1.out.trans m2)
  have T2 := Lib.hid (T1.out.keep m2 id)
  have P2 := Lib.hid p2
  clear m2 p2 he HP
  go_wp2_with fail
  go_ret2
  have m3 := Mod.ext (T := fun _ => False) (g := (⟨own1, w1⟩ : GW).to tp w2) (show Ext w2 (w2.alloc (.cells #[.pointer (some ⟨bt, 0, none⟩), .pointer (some ⟨bp, 0, none⟩), .int .i64 0] 199)) by (repeat (first | (with_reducible assumption) | (with_reducible exact Ext.refl _) | (with_reducible exact Ext.more _ _ _ _) | apply Ext.alloc | refine Ext.setCell ?_ (by first | exact Nat.le_refl _ | exact Nat.le_add_right _ _ | assumption) _ | apply Ext.patch | apply Ext.drew | apply Ext.drewN))) t
  exact ⟨_, _, _, _, rfl, M2.out.trans m3, Blk.made (World.row_alloc_new _) (Nat.le_refl _), T2.out.keep m3 id, P2.out.keep m3 id⟩
theorem shade_table (bt : Nat) (w : World) : Calls Tryz.prog 150 #[.agg #[.pointer (some ⟨bt, 0, none⟩)]] w (Gives (.pointer (some ⟨bt, 0, none⟩)) w) := by
  go_enter Tryz.func150, Tryz.ntmps150
  go_wp2_with fail
  go_ret
  exact Gives.of_ext (by (repeat (first | (with_reducible assumption) | (with_reducible exact Ext.refl _) | (with_reducible exact Ext.more _ _ _ _) | apply Ext.alloc | refine Ext.setCell ?_ (by first | exact Nat.le_refl _ | exact Nat.le_add_right _ _ | assumption) _ | apply Ext.patch | apply Ext.drew | apply Ext.drewN)))
end Go.Proofs.YthdijbkcjmeilaaGreat
