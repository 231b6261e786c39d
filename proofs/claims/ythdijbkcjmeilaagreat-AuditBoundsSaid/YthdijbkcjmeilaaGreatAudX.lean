/-
  audit: looks, Look, roots of a fresh heap.
-/
import Derived.Test.YthdijbkcjmeilaaGreatAudY
namespace Go.Proofs.YthdijbkcjmeilaaGreat
open Go Go.RowKit
set_option linter.unusedVariables false
set_option linter.unnecessarySimpa false
set_option linter.unusedSimpArgs false
set_option maxHeartbeats 400000
set_option maxRecDepth 100000
def LooksNo (w : World) (e : Ending) (w' : World) : Prop := ∃ b, e = .returned (.tuple #[.pointer (some ⟨b, 0, none⟩), .bool false]) ∧ Ext w w'
section
variable {w : World} {h : Nat} {c : Cnf}
theorem looks_no (H : HpAt w h c) : Calls Tryz.prog 89 #[.pointer (some ⟨h, 0, none⟩), .int .i64 0] w (LooksNo w) := by
  have HH := Lib.hid H
  clear H
  go_enter Tryz.func89, Tryz.ntmps89
  go_wp2_with fail
  refine (heap_conf HH.out).mono ?_
  rintro e w1 ⟨c', rfl, hs, hX⟩
  unfold Cnf.val
  go_wp2_with fail
  have E1 := Lib.hid (show Ext w w1 from hX)
  have E1b := E1.out
  refine (heap_head (HH.out.ext (by (repeat (first | (with_reducible assumption) | (with_reducible exact Ext.refl _) | (with_reducible exact Ext.more _ _ _ _) | apply Ext.alloc | refine Ext.setCell ?_ (by first | exact Nat.le_refl _ | exact Nat.le_add_right _ _ | assumption) _ | apply Ext.patch | apply Ext.drew | apply Ext.drewN))))).mono ?_
  rintro e w2 ⟨rfl, hX2⟩
  have E2 := Lib.hid (show Ext _ w2 from hX2)
  clear hX hX2 hs
  go_wp2_with fail
  go_ret2
  exact ⟨_, rfl, E1.out.trans (Ext.trans (by (repeat (first | (with_reducible assumption) | (with_reducible exact Ext.refl _) | (with_reducible exact Ext.more _ _ _ _) | apply Ext.alloc | refine Ext.setCell ?_ (by first | exact Nat.le_refl _ | exact Nat.le_add_right _ _ | assumption) _ | apply Ext.patch | apply Ext.drew | apply Ext.drewN))) E2.out)⟩
def thingZ : Value := .agg #[.int .i64 0, .int .i64 0, .int .i64 0, .slice none 0 0, .int .i64 0, .int .i64 0]
theorem look_no (H : HpAt w h c) : Calls Tryz.prog 34 #[.pointer (some ⟨h, 0, none⟩), .int .i64 0] w (Gives (.tuple #[thingZ, .bool false]) w) := by
  have HH := Lib.hid H
  clear H
  go_enter Tryz.func34, Tryz.ntmps34
  go_wp2_with fail
  refine (looks_no (HH.out.ext (by (repeat (first | (with_reducible assumption) | (with_reducible exact Ext.refl _) | (with_reducible exact Ext.more _ _ _ _) | apply Ext.alloc | refine Ext.setCell ?_ (by first | exact Nat.le_refl _ | exact Nat.le_add_right _ _ | assumption) _ | apply Ext.patch | apply Ext.drew | apply Ext.drewN))))).mono ?_
  rintro e w1 ⟨b, rfl, hX⟩
  obtain ⟨ownb, b0⟩ : ∃ ownb, Blk ⟨ownb, w.alloc (.cells #[.int .i64 0, .int .i64 0, .int .i64 0, .slice none 0 0, .int .i64 0, .int .i64 0] 82)⟩ 9 w.heap.size 82 [.int .i64 0, .int .i64 0, .int .i64 0, .slice none 0 0, .int .i64 0, .int .i64 0] := ⟨_, Blk.new ⟨fun _ => 0, w⟩ 9 82 [.int .i64 0, .int .i64 0, .int .i64 0, .slice none 0 0, .int .i64 0, .int .i64 0]⟩
  obtain ⟨own1, m1⟩ := Mod.ofExt (show Ext (w.alloc (.cells #[.int .i64 0, .int .i64 0, .int .i64 0, .slice none 0 0, .int .i64 0, .int .i64 0] 82)) w1 from hX) ownb
  have B1 := Lib.hid (b0.keep m1 id)
  have E1 := Lib.hid ((show Ext w (w.alloc (.cells #[.int .i64 0, .int .i64 0, .int .i64 0, .slice none 0 0, .int .i64 0, .int .i64 0] 82)) by (repeat (first | (with_reducible assumption) | (with_reducible exact Ext.refl _) | (with_reducible exact Ext.more _ _ _ _) | apply Ext.alloc | refine Ext.setCell ?_ (by first | exact Nat.le_refl _ | exact Nat.le_add_right _ _ | assumption) _ | apply Ext.patch | apply Ext.drew | apply Ext.drewN))).trans (show Ext _ w1 from hX))
  clear m1 b0 hX
  have d0 := B1.out.cell (i := 0) rfl
  have d1 := B1.out.cell (i := 1) rfl
  have d2 := B1.out.cell (i := 2) rfl
  have d3 := B1.out.cell (i := 3) rfl
  have d4 := B1.out.cell (i := 4) rfl
  have d5 := B1.out.cell (i := 5) rfl
  have df0 := B1.out.live 0
  have df1 := B1.out.live 1
  have df2 := B1.out.live 2
  have df3 := B1.out.live 3
  have df4 := B1.out.live 4
  have df5 := B1.out.live 5
  have dl := B1.out.lt
  (try simp only [GW.to] at d0 d1 d2 d3 d4 d5 df0 df1 df2 df3 df4 df5 dl)
  go_wp2_with fail
  refine bodyPost_ret (v := .tuple #[thingZ, .bool false]) (by unfold thingZ; simp [results, Tryz.results34, go_sem, d0, d1, d2, d3, d4, d5]) rfl ?_
  refine Gives.mk rfl ?_
  (repeat (with_reducible refine Ext.setCell ?_ (Nat.le_refl _) _))
  with_reducible exact E1.out
theorem roots_none (hck : c.check = 0) (hg : c.globals = 0) (H : HpAt w h c) : Calls Tryz.prog 90 #[.pointer (some ⟨h, 0, none⟩)] w (Gives (.slice none 0 0) w) := by
  obtain ⟨-, -, -, ⟨r6, r7⟩, -⟩ := Cnf.ranged (Cnf.check_zero hck).1
  have HH := Lib.hid H
  clear H hck
  go_enter Tryz.func90, Tryz.ntmps90
  go_wp2_with fail
  refine (heap_conf HH.out).mono ?_
  rintro e w1 ⟨c', rfl, hs, hX⟩
  have hth : c'.threads = c.threads := hs.threads
  have hgl : c'.globals = 0 := hs.globals.trans hg
  have E1 := Lib.hid (show Ext w w1 from hX)
  clear hX hs hg
  unfold Cnf.val
  rw [hth, hgl]
  clear hth hgl
  go_wp2_with fail
  obtain ⟨n, hn⟩ := Int.eq_ofNat_of_zero_le (show 0 ≤ c.threads by omega)
  rw [hn] at r6 r7 ⊢
  obtain ⟨own0, b0⟩ : ∃ own0, Blk ⟨own0, w1.alloc (.cells #[.int .i64 c'.frags, .int .i64 c'.spine, .int .i64 0, .int .i64 (n : Int), .int .i64 c'.locals, .int .i64 c'.cache, .int .i64 c'.stack, .int .i64 c'.low, .slice c'.A c'.shapes.length c'.cap] 24)⟩ 9 w1.heap.size 24 [.int .i64 c'.frags, .int .i64 c'.spine, .int .i64 0, .int .i64 (n : Int), .int .i64 c'.locals, .int .i64 c'.cache, .int .i64 c'.stack, .int .i64 c'.low, .slice c'.A c'.shapes.length c'.cap] := ⟨_, Blk.new ⟨fun _ => 0, w1⟩ 9 24 [.int .i64 c'.frags, .int .i64 c'.spine, .int .i64 0, .int .i64 (n : Int), .int .i64 c'.locals, .int .i64 c'.cache, .int .i64 c'.stack, .int .i64 c'.low, .slice c'.A c'.shapes.length c'.cap]⟩
  have B0 := Lib.hid b0
  have E2 := Lib.hid (E1.out.trans (show Ext w1 (w1.alloc (.cells #[.int .i64 c'.frags, .int .i64 c'.spine, .int .i64 0, .int .i64 (n : Int), .int .i64 c'.locals, .int .i64 c'.cache, .int .i64 c'.stack, .int .i64 c'.low, .slice c'.A c'.shapes.length c'.cap] 24)) by (repeat (first | (with_reducible assumption) | (with_reducible exact Ext.refl _) | (with_reducible exact Ext.more _ _ _ _) | apply Ext.alloc | refine Ext.setCell ?_ (by first | exact Nat.le_refl _ | exact Nat.le_add_right _ _ | assumption) _ | apply Ext.patch | apply Ext.drew | apply Ext.drewN))))
  clear b0 hn
  go_loopw [3, 22] (fun l i wr => ∃ (k : Nat) (own : Nat → Nat), k ≤ n ∧ l = .slice none 0 0 ∧ i = .int .i64 k ∧ Hid (Blk ⟨own, wr⟩ 9 w1.heap.size 24 [.int .i64 c'.frags, .int .i64 c'.spine, .int .i64 0, .int .i64 (n : Int), .int .i64 c'.locals, .int .i64 c'.cache, .int .i64 c'.stack, .int .i64 c'.low, .slice c'.A c'.shapes.length c'.cap]) ∧ Hid (Ext w wr)) (fun _ i _ => n - (intOf i).toNat)
  case atStart => exact ⟨0, own0, Nat.zero_le _, rfl, rfl, B0, E2⟩
  case round =>
    obtain ⟨k, own1, hk, rfl, rfl, B1, E3⟩ := hrel
    obtain ⟨w3, rfl⟩ : ∃ w3 : World, w3 = wr := ⟨_, rfl⟩
    by_cases hlt : k < n
    · have hlt' : (k : Int) < (n : Int) := by omega
      go_wp2_with fail
      refine (heap_thread k (by omega) (HH.out.ext E3.out)).mono ?_
      rintro e w4 ⟨rfl, hX⟩
      obtain ⟨own4, m4⟩ := Mod.ofExt (show Ext w3 w4 from hX) own1
      have B4 := Lib.hid (B1.out.keep m4 id)
      have E4 := Lib.hid (E3.out.trans (show Ext w3 w4 from hX))
      clear m4 hX
      go_wp2_with fail
      go_loopw [3, 40] (fun l i wr => l = .slice none 0 0 ∧ i = .int .i64 0 ∧ wr = w4) (fun _ _ _ => 0)
      case atStart => exact ⟨rfl, rfl, rfl⟩
      case round =>
        obtain ⟨rfl, rfl, rfl⟩ := hrel
        go_wp2_with fail
        go_roundw
        case rel => exact ⟨k + 1, own4, by omega, rfl, by go_num, B4, E4⟩
        case measure => simp [intOf]; omega
    · obtain rfl : k = n := by omega
      have b0 := B1.out.cell (i := 0) rfl
      have b1 := B1.out.cell (i := 1) rfl
      have b2 := B1.out.cell (i := 2) rfl
      have b3 := B1.out.cell (i := 3) rfl
      have b4 := B1.out.cell (i := 4) rfl
      have b5 := B1.out.cell (i := 5) rfl
      have b6 := B1.out.cell (i := 6) rfl
      have b7 := B1.out.cell (i := 7) rfl
      have b8 := B1.out.cell (i := 8) rfl
      have bl := B1.out.lt
      (try simp only [GW.to] at b0 b1 b2 b3 b4 b5 b6 b7 b8 bl)
      go_wp2_with fail
      go_loopw [3, 63] (fun l i wr => l = .slice none 0 0 ∧ i = .int .i64 0 ∧ wr = w3) (fun _ _ _ => 0)
      case atStart => exact ⟨rfl, rfl, rfl⟩
      case round =>
        obtain ⟨rfl, rfl, rfl⟩ := hrel
        go_wp2_with fail
        go_ret
        exact Gives.mk rfl E3.out
end
end Go.Proofs.YthdijbkcjmeilaaGreat
