/-
  pile (New, Len), hand (New, Look, Status, Count).
-/
import Derived.Test.YthdijbkcjmeilaaClone2
import Derived.Test.YthdijbkcjmeilaaSt
namespace Go.Proofs.Ythdijbkcjmeilaa
open Go Go.RowKit
set_option linter.unusedVariables false
set_option linter.unnecessarySimpa false
set_option linter.unusedSimpArgs false
set_option maxHeartbeats 2000000

structure PileAt (g : GW) (t b : Nat) (p : PileS) : Prop where
  ex : ∃ A c, Blk g t b 126 [.slice A p.l.length c, .int .i64 p.most, .bool p.lost] ∧ Row g t 3 1 (.slice A p.l.length c) p.l.length (p.l.map (Value.int .i64))
  most : 1 ≤ p.most ∧ p.most ≤ 256
  len : (p.l.length : Int) ≤ p.most
theorem PileAt.keep {S : Nat → Prop} {g g' : GW} {t b : Nat} {p : PileS} (h : PileAt g t b p) (d : Mod S g g') (hs : ¬ S t) : PileAt g' t b p := by
  obtain ⟨A, c, h1, h2⟩ := h.ex
  exact ⟨⟨A, c, h1.keep d hs, h2.keep d hs⟩, h.most, h.len⟩
theorem pile_len (g : GW) (t b : Nat) (p : PileS) (h : PileAt g t b p) :
    Calls Try.prog 71 #[.pointer (some ⟨b, 0, none⟩)] g.w (fun e w' => e = .returned (.int .i64 p.l.length) ∧ g.w = w') := by
  obtain ⟨A, c, hb, hr⟩ := h.ex
  have c0 := hb.cell (i := 0) rfl
  clear hb hr h
  go_enter Try.func71, Try.ntmps71
  go_wp2_with fail
  go_ret
  exact ⟨rfl, rfl⟩
def PileMade (n : Int) (t : Nat) (g : GW) (e : Ending) (w' : World) : Prop :=
  if 1 ≤ n ∧ n ≤ 256 then ∃ b, e = .returned (.tuple #[.pointer (some ⟨b, 0, none⟩), .int .i64 0]) ∧ Ext g.w w' ∧ PileAt (g.to t w') t b ⟨[], n, false⟩
  else e = .returned (.tuple #[.pointer none, .int .i64 1]) ∧ Ext g.w w'
theorem pile_new (n : Int) (t : Nat) (g : GW) : Calls Try.prog 64 #[.int .i64 n] g.w (PileMade n t g) := by
  by_cases h0 : n < 1
  · have HV := Lib.hid (show ¬ (1 ≤ n ∧ n ≤ 256) by omega)
    go_enter Try.func64, Try.ntmps64
    go_wp2_with fail
    go_ret2
    unfold PileMade
    rw [if_neg HV.out]
    exact ⟨rfl, Ext.refl _⟩
  by_cases h1 : 256 < n
  · have HV := Lib.hid (show ¬ (1 ≤ n ∧ n ≤ 256) by omega)
    go_enter Try.func64, Try.ntmps64
    go_wp2_with fail
    go_ret2
    unfold PileMade
    rw [if_neg HV.out]
    exact ⟨rfl, Ext.refl _⟩
  have HV := Lib.hid (show (1 : Int) ≤ n ∧ n ≤ 256 by omega)
  go_enter Try.func64, Try.ntmps64
  go_wp2_with fail
  go_ret2
  unfold PileMade
  rw [if_pos HV.out]
  exact ⟨_, rfl, by (repeat (first | (with_reducible assumption) | (with_reducible exact Ext.refl _) | (with_reducible exact Ext.more _ _ _ _) | apply Ext.alloc | refine Ext.setCell ?_ (by first | exact Nat.le_refl _ | exact Nat.le_add_right _ _ | assumption) _ | apply Ext.patch | apply Ext.drew | apply Ext.drewN)), ⟨none, 0, Blk.made (World.row_alloc_new _) (Nat.le_refl _), Row.nil _ _ _ _⟩, HV.out, by have := HV.out.1; show (0 : Int) ≤ n; omega⟩

theorem fill_int {n k : Nat} (h : k < n) : (List.replicate k (-1 : Int) ++ List.replicate (n - k) 0).set k (-1) = List.replicate (k + 1) (-1) ++ List.replicate (n - (k + 1)) 0 := by
  rw [show n - k = (n - (k + 1)) + 1 by omega, List.replicate_succ, List.set_append_right _ _ (by simp), List.length_replicate, Nat.sub_self, List.set_cons_zero, List.replicate_succ', List.append_assoc]
  rfl
end Go.Proofs.Ythdijbkcjmeilaa
