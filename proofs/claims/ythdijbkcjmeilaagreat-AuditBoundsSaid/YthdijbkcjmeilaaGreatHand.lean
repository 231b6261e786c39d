/-
  pile (New, Len), hand (New, Look, Status, Count).
-/
import Derived.Test.YthdijbkcjmeilaaGreatClone2
import Derived.Test.YthdijbkcjmeilaaGreatSt
namespace Go.Proofs.YthdijbkcjmeilaaGreat
open Go Go.RowKit
set_option linter.unusedVariables false
set_option linter.unnecessarySimpa false
set_option linter.unusedSimpArgs false
set_option maxHeartbeats 2000000

structure PileAt (g : GW) (t b : Nat) (p : PileS) : Prop where
  ex : ∃ A c, Blk g t b 276 [.slice A p.l.length c, .int .i64 p.most, .bool p.lost] ∧ Row g t 3 1 (.slice A p.l.length c) p.l.length (p.l.map (Value.int .i64))
  most : 1 ≤ p.most ∧ p.most ≤ 256
  len : (p.l.length : Int) ≤ p.most
theorem PileAt.keep {S : Nat → Prop} {g g' : GW} {t b : Nat} {p : PileS} (h : PileAt g t b p) (d : Mod S g g') (hs : ¬ S t) : PileAt g' t b p := by
  obtain ⟨A, c, h1, h2⟩ := h.ex
  exact ⟨⟨A, c, h1.keep d hs, h2.keep d hs⟩, h.most, h.len⟩
def PileMade (n : Int) (t : Nat) (g : GW) (e : Ending) (w' : World) : Prop :=
  if 1 ≤ n ∧ n ≤ 256 then ∃ b, e = .returned (.tuple #[.pointer (some ⟨b, 0, none⟩), .int .i64 0]) ∧ Ext g.w w' ∧ PileAt (g.to t w') t b ⟨[], n, false⟩
  else e = .returned (.tuple #[.pointer none, .int .i64 1]) ∧ Ext g.w w'
theorem pile_new (n : Int) (t : Nat) (g : GW) : Calls Tryz.prog 193 #[.int .i64 n] g.w (PileMade n t g) := by
  by_cases h0 : n < 1
  · have HV := Lib.hid (show ¬ (1 ≤ n ∧ n ≤ 256) by omega)
    go_enter Tryz.func193, Tryz.ntmps193
    go_wp2_with fail
    go_ret2
    unfold PileMade
    rw [if_neg HV.out]
    exact ⟨rfl, Ext.refl _⟩
  by_cases h1 : 256 < n
  · have HV := Lib.hid (show ¬ (1 ≤ n ∧ n ≤ 256) by omega)
    go_enter Tryz.func193, Tryz.ntmps193
    go_wp2_with fail
    go_ret2
    unfold PileMade
    rw [if_neg HV.out]
    exact ⟨rfl, Ext.refl _⟩
  have HV := Lib.hid (show (1 : Int) ≤ n ∧ n ≤ 256 by omega)
  go_enter Tryz.func193, Tryz.ntmps193
  go_wp2_with fail
  go_ret2
  unfold PileMade
  rw [if_pos HV.out]
  exact ⟨_, rfl, by (repeat (first | (with_reducible assumption) | (with_reducible exact Ext.refl _) | (with_reducible exact Ext.more _ _ _ _) | apply Ext.alloc | refine Ext.setCell ?_ (by first | exact Nat.le_refl _ | exact Nat.le_add_right _ _ | assumption) _ | apply Ext.patch | apply Ext.drew | apply Ext.drewN)), ⟨none, 0, Blk.made (World.row_alloc_new _) (Nat.le_refl _), Row.nil _ _ _ _⟩, HV.out, by have := HV.out.1; show (0 : Int) ≤ n; omega⟩

structure HandAt (g : GW) (t b : Nat) (h : HandS) : Prop where
  ex : ∃ A c, Blk g t b 253 [.int .i64 h.status, .bool h.sense, .slice A h.l.length c, .int .i64 h.count] ∧ Row g t 3 1 (.slice A h.l.length c) h.l.length (h.l.map (Value.int .i64))
  len : h.l.length ≤ 16
theorem HandAt.keep {S : Nat → Prop} {g g' : GW} {t b : Nat} {h : HandS} (H : HandAt g t b h) (d : Mod S g g') (hs : ¬ S t) : HandAt g' t b h := by
  obtain ⟨A, c, h1, h2⟩ := H.ex
  exact ⟨⟨A, c, h1.keep d hs, h2.keep d hs⟩, H.len⟩
def HandMade (n : Int) (t : Nat) (g : GW) (e : Ending) (w' : World) : Prop :=
  if 1 ≤ n ∧ n ≤ 16 then ∃ own' b, e = .returned (.tuple #[.pointer (some ⟨b, 0, none⟩), .int .i64 0]) ∧ Mod (fun _ => False) g ⟨own', w'⟩ ∧ HandAt ⟨own', w'⟩ t b ⟨0, false, List.replicate n.toNat (-1), 0⟩
  else e = .returned (.tuple #[.pointer none, .int .i64 1]) ∧ Ext g.w w'
theorem fill_int {n k : Nat} (h : k < n) : (List.replicate k (-1 : Int) ++ List.replicate (n - k) 0).set k (-1) = List.replicate (k + 1) (-1) ++ List.replicate (n - (k + 1)) 0 := by
  rw [show n - k = (n - (k + 1)) + 1 by omega, List.replicate_succ, List.set_append_right _ _ (by simp), List.length_replicate, Nat.sub_self, List.set_cons_zero, List.replicate_succ', List.append_assoc]
  rfl
theorem hand_new (n : Int) (t : Nat) (g : GW) : Calls Tryz.prog 151 #[.int .i64 n] g.w (HandMade n t g) := by
  obtain ⟨i0, hi, hz0, hz1, hz2⟩ := info_parts infoInt
  by_cases h0 : n < 1
  · have HV := Lib.hid (show ¬ (1 ≤ n ∧ n ≤ 16) by omega)
    go_enter Tryz.func151, Tryz.ntmps151
    go_wp2_with fail
    go_ret2
    unfold HandMade
    rw [if_neg HV.out]
    exact ⟨rfl, Ext.refl _⟩
  by_cases h1 : 16 < n
  · have HV := Lib.hid (show ¬ (1 ≤ n ∧ n ≤ 16) by omega)
    go_enter Tryz.func151, Tryz.ntmps151
    go_wp2_with fail
    go_ret2
    unfold HandMade
    rw [if_neg HV.out]
    exact ⟨rfl, Ext.refl _⟩
  obtain ⟨k, rfl⟩ := Int.eq_ofNat_of_zero_le (show 0 ≤ n by omega)
  have HV := Lib.hid (show (1 : Int) ≤ k ∧ (k : Int) ≤ 16 by omega)
  have hmk := run_made (P := Tryz.prog) 65 3 i0 _ 1 8 Tryz.underlying65 hi hz0 hz1 hz2 k (by omega) (by omega)
  simp only [Value.cells, made_one] at hmk
  have hk : k ≤ 16 := by omega
  go_enter Tryz.func151, Tryz.ntmps151
  go_wp2_with fail
  obtain ⟨q1, q2⟩ := two_blocks g.w (.cells (List.replicate k (Value.int .i64 0)).toArray 3) (.cells #[.int .i64 0, .bool false, .slice (some ⟨g.w.heap.size, 0, none⟩) k k, .int .i64 0] 253)
  have HB := Lib.hid (Blk.made (g := g) (t := t) q2 (by omega))
  have HR := Lib.hid (Row.made (g := g) (t := t) (n := k) (size := 1) q1 (Nat.le_refl _) (by simp) (by omega))
  have HE := Lib.hid (Mod.ext (T := fun _ => False) (show Ext g.w ((g.w.alloc (.cells (List.replicate k (Value.int .i64 0)).toArray 3)).alloc (.cells #[.int .i64 0, .bool false, .slice (some ⟨g.w.heap.size, 0, none⟩) k k, .int .i64 0] 253)) by (repeat (first | (with_reducible assumption) | (with_reducible exact Ext.refl _) | (with_reducible exact Ext.more _ _ _ _) | apply Ext.alloc | refine Ext.setCell ?_ (by first | exact Nat.le_refl _ | exact Nat.le_add_right _ _ | assumption) _ | apply Ext.patch | apply Ext.drew | apply Ext.drewN))) t)
  clear q1 q2
  have c0 := HB.out.cell (i := 2) rfl
  simp only [GW.to] at c0
  go_loopw [21] (fun i wr => ∃ (j : Nat) (own : Nat → Nat), j ≤ k ∧ i = .int .i64 j ∧ Hid (Mod (fun _ => False) g ⟨own, wr⟩) ∧ Hid (Blk ⟨own, wr⟩ t (g.w.heap.size + 1) 253 [.int .i64 0, .bool false, .slice (some ⟨g.w.heap.size, 0, none⟩) k k, .int .i64 0]) ∧ Hid (Row ⟨own, wr⟩ t 3 1 (.slice (some ⟨g.w.heap.size, 0, none⟩) k k) k ((List.replicate j (-1) ++ List.replicate (k - j) 0).map (Value.int .i64)))) (fun i _ => k - (intOf i).toNat)
  case atStart => exact ⟨0, _, Nat.zero_le _, rfl, HE, HB, Lib.hid (HR.out.weak rfl (by simp))⟩
  case round =>
    obtain ⟨j, own, hj, rfl, M, B, R⟩ := hrel
    clear c0 HE HB HR
    by_cases hlt : j < k
    · obtain ⟨r, hr, hrl, ho, hcell, hfr⟩ := R.out.block (by omega)
      simp only [Option.some.injEq, Addr.mk.injEq, and_true] at hr
      obtain rfl := hr
      have k0 := hcell j (.int .i64 0) (by rw [List.getElem?_map, List.getElem?_append_right (by simp), List.length_replicate, Nat.sub_self, List.getElem?_replicate, if_pos (by omega)]; rfl)
      have kf := hfr j
      simp only at k0 kf hrl
      have c0 := B.out.cell (i := 2) rfl
      simp only at c0
      clear hcell hfr ho
      go_wp2_with fail
      go_roundw
      case rel => exact ⟨j + 1, own, by omega, by go_num, Lib.hid (Mod.stn M.out (Nat.le_refl _)), Lib.hid (B.out.setOther j _ (by omega)), Lib.hid ((R.out.store j (.int .i64 (-1))).weak rfl (by rw [← fill_int hlt, List.map_set]))⟩
      case measure => simp [intOf]; omega
    · obtain rfl : j = k := by omega
      go_wp2_with fail
      go_ret2
      unfold HandMade
      rw [if_pos HV.out]
      refine ⟨own, _, rfl, M.out, ⟨⟨some ⟨g.w.heap.size, 0, none⟩, j, ?_, ?_⟩, by simpa using hk⟩⟩
      · have := B.out
        simpa using this
      · have := R.out
        simpa using this
end Go.Proofs.YthdijbkcjmeilaaGreat
