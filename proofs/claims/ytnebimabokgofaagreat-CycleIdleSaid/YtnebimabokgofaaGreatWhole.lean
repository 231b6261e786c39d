import Derived.Test.YtnebimabokgofaaGreatMgPlan1
import Derived.Test.YtnebimabokgofaaGreatMgCut
/-
  plan.whole.
-/
namespace Go.Proofs.YtnebimabokgofaaGreat
open Go Go.RowKit

theorem infoWrite : (Tryz.prog.info? 218).map (fun i => (i.zero, i.size, i.bytes)) = some (some (.agg #[.int .i64 0, .complex .f64 0 0]), 2, 24) := by kernel_rfl

set_option maxRecDepth 100000 in
theorem index8_lit (x0 x1 x2 x3 x4 x5 x6 x7 : Value) (w : World) :
    (Instr.index 261 (.agg #[x0, x1, x2, x3, x4, x5, x6, x7]) (.int .i64 ((0 : Nat) : Int))).run Tryz.prog w = .ok x0 w ∧
    (Instr.index 261 (.agg #[x0, x1, x2, x3, x4, x5, x6, x7]) (.int .i64 ((1 : Nat) : Int))).run Tryz.prog w = .ok x1 w ∧
    (Instr.index 261 (.agg #[x0, x1, x2, x3, x4, x5, x6, x7]) (.int .i64 ((2 : Nat) : Int))).run Tryz.prog w = .ok x2 w ∧
    (Instr.index 261 (.agg #[x0, x1, x2, x3, x4, x5, x6, x7]) (.int .i64 ((3 : Nat) : Int))).run Tryz.prog w = .ok x3 w ∧
    (Instr.index 261 (.agg #[x0, x1, x2, x3, x4, x5, x6, x7]) (.int .i64 ((4 : Nat) : Int))).run Tryz.prog w = .ok x4 w ∧
    (Instr.index 261 (.agg #[x0, x1, x2, x3, x4, x5, x6, x7]) (.int .i64 ((5 : Nat) : Int))).run Tryz.prog w = .ok x5 w ∧
    (Instr.index 261 (.agg #[x0, x1, x2, x3, x4, x5, x6, x7]) (.int .i64 ((6 : Nat) : Int))).run Tryz.prog w = .ok x6 w ∧
    (Instr.index 261 (.agg #[x0, x1, x2, x3, x4, x5, x6, x7]) (.int .i64 ((7 : Nat) : Int))).run Tryz.prog w = .ok x7 w :=
  ⟨by kernel_rfl, by kernel_rfl, by kernel_rfl, by kernel_rfl, by kernel_rfl, by kernel_rfl, by kernel_rfl, by kernel_rfl⟩
theorem index8 (f : Nat → Nat × Nat) (k : Nat) (hk : k < 8) (w : World) : (Instr.index 261 (.agg #[cx (f 0), cx (f 1), cx (f 2), cx (f 3), cx (f 4), cx (f 5), cx (f 6), cx (f 7)]) (.int .i64 k)).run Tryz.prog w = .ok (cx (f k)) w := by
  obtain ⟨h0, h1, h2, h3, h4, h5, h6, h7⟩ := index8_lit (cx (f 0)) (cx (f 1)) (cx (f 2)) (cx (f 3)) (cx (f 4)) (cx (f 5)) (cx (f 6)) (cx (f 7)) w
  rcases (show k = 0 ∨ k = 1 ∨ k = 2 ∨ k = 3 ∨ k = 4 ∨ k = 5 ∨ k = 6 ∨ k = 7 by omega) with rfl | rfl | rfl | rfl | rfl | rfl | rfl | rfl
  · exact h0
  · exact h1
  · exact h2
  · exact h3
  · exact h4
  · exact h5
  · exact h6
  · exact h7

theorem row_round {w0 wr w1 w3 : World} {l v' : Value} {base m bb : Nat} {T : TypeId} {size : Nat} {xs : List Value} {o : Obj} (HR : wr.ownsRow base T size l m xs) (HX : Ext w0 wr) (HB : wr.heap[bb]? = some o) (HD : l.ownBlock ≠ some bb) (hg : w1.grownBy w3 l.ownBlock) (he : Ext wr w1) (hb0 : w0.heap.size ≤ base) (hblk : v'.ownBlock = l.ownBlock ∨ v'.ownBlock = some w1.heap.size) :
    Ext w0 w3 ∧ w3.heap[bb]? = some o ∧ v'.ownBlock ≠ some bb ∧ wr.heap.size ≤ w3.heap.size := by
  have h1 := he.size
  have hb : bb < wr.heap.size := (Array.getElem?_eq_some_iff.1 HB).1
  refine ⟨ext_grown (HX.trans he) hg (fun k hk => Nat.le_trans hb0 (HR.lt k hk).1), ?_, ?_, Nat.le_trans h1 hg.size⟩
  · rw [hg.block bb (by omega) (fun e => HD e.symm), he.heap bb hb, HB]
  · rcases hblk with h | h
    · rw [h]; exact HD
    · rw [h]; intro e; injection e with e; omega

/-- The eight words of a fragment, appended to a row of the caller's. -/
def WholeGot (w0 : World) (base : Nat) (n : Nat) (xs : List Value) (i : Int) (f : Nat → Nat × Nat) (w : World) (e : Ending) (w' : World) : Prop :=
  ∃ v', e = .returned v' ∧ w'.ownsRow base 218 2 v' (n + 8) (xs ++ writes i f 8) ∧ Ext w0 w' ∧ w.heap.size ≤ w'.heap.size

set_option maxHeartbeats 4000000 in
set_option maxRecDepth 20000 in
theorem lay_any (c : Cnf) (v : Value) (n : Nat) (xs : List Value) (i : Int) (f : Nat → Nat × Nat) (w w0 : World) (base : Nat) (hc : c.Ok w0) (hi : fragOk c i = true) (he : Ext w0 w) (hb0 : w0.heap.size ≤ base) (hbase : base ≤ w.heap.size) (hown : w.ownsRow base 218 2 v n xs) (hn : n ≤ 1000000) (hf : c.frags ≤ 1099511627776) :
    Calls Tryz.prog 240 #[c.val, v, .int .i64 i, .agg (cxs f).toArray] w (WholeGot w0 base n xs i f w) := by
  obtain ⟨i0, hi0, hz0, hz1, hz2⟩ := info_parts infoWrite
  have hi' : c.check = 0 ∧ 0 ≤ i ∧ i < c.frags := by simpa [fragOk] using hi
  have HF := Lib.hid (fun (k : Nat) (hk : k < 8) w' (he' : Ext w0 w') => show Calls Tryz.prog 234 #[c.val, .int .i64 i, .int .i64 k] w' (Gives (.tuple #[.int .i64 (i * 8 + k), .int .i64 0]) w') from (show cFrag c i k = Value.tuple #[.int .i64 (i * 8 + k), .int .i64 0] by unfold cFrag; rw [if_pos ⟨hi'.1, hi'.2.1, hi'.2.2, by omega, by omega⟩]) ▸ frag_any c i k w' (hc.ext he'))
  have HE := Lib.hid he
  have HO := Lib.hid hown
  have hi1 := hi'.2.1
  have hi2 : i ≤ 1099511627776 := by omega
  clear hi hi' hown he hc hf
  unfold Cnf.val at HF ⊢
  rw [show (cxs f).toArray = #[cx (f 0), cx (f 1), cx (f 2), cx (f 3), cx (f 4), cx (f 5), cx (f 6), cx (f 7)] from rfl]
  unfold cx
  go_enter Tryz.func240, Tryz.ntmps240
  go_wp2_with fail
  go_loopw [1, 14] (fun l j wr => ∃ k : Nat, k ≤ 8 ∧ j = .int .i64 k ∧ wr.ownsRow base 218 2 l (n + k) (xs ++ writes i f k) ∧ Ext w0 wr ∧ wr.heap[w.heap.size]? = some (.cells #[.int .i64 c.frags, .int .i64 c.spine, .int .i64 c.globals, .int .i64 c.threads, .int .i64 c.locals, .int .i64 c.cache, .int .i64 c.stack, .int .i64 c.low, .slice c.A c.shapes.length c.cap] 24) ∧ l.ownBlock ≠ some w.heap.size ∧ w.heap.size ≤ wr.heap.size) (fun _ i _ => 8 - (intOf i).toNat)
  case atStart => exact ⟨0, Nat.zero_le _, rfl, by simpa [writes] using own_ext HO.out (show Ext w _ by (repeat (first | (with_reducible assumption) | (with_reducible exact Ext.refl _) | (with_reducible exact Ext.more _ _ _ _) | apply Ext.alloc | refine Ext.setCell ?_ (by first | exact Nat.le_refl _ | exact Nat.le_add_right _ _ | assumption) _ | apply Ext.patch | apply Ext.drew | apply Ext.drewN))), HE.out.trans (by (repeat (first | (with_reducible assumption) | (with_reducible exact Ext.refl _) | (with_reducible exact Ext.more _ _ _ _) | apply Ext.alloc | refine Ext.setCell ?_ (by first | exact Nat.le_refl _ | exact Nat.le_add_right _ _ | assumption) _ | apply Ext.patch | apply Ext.drew | apply Ext.drewN))), by rw [World.row_alloc_past _ (by rw [World.size_alloc]; omega)]; exact World.row_alloc_new _, fun h => by have := (HO.out.lt _ h).2; omega, Ext.size (by (repeat (first | (with_reducible assumption) | (with_reducible exact Ext.refl _) | (with_reducible exact Ext.more _ _ _ _) | apply Ext.alloc | refine Ext.setCell ?_ (by first | exact Nat.le_refl _ | exact Nat.le_add_right _ _ | assumption) _ | apply Ext.patch | apply Ext.drew | apply Ext.drewN)))⟩
  case round =>
    obtain ⟨k, hk, rfl, hrow, hext, hbox, hdis, hsz⟩ := hrel
    have HR := Lib.hid hrow
    have HX := Lib.hid hext
    have HB := Lib.hid hbox
    have HD := Lib.hid hdis
    by_cases hlt : k < 8
    · have hbb : w.heap.size < wr.heap.size := (Array.getElem?_eq_some_iff.1 hbox).1
      have g0 : wr.cell? ⟨w.heap.size, 0, none⟩ = some (.int .i64 c.frags) := by simp only [World.cell?, hbox]; rfl
      have g1 : wr.cell? ⟨w.heap.size, 1, none⟩ = some (.int .i64 c.spine) := by simp only [World.cell?, hbox]; rfl
      have g2 : wr.cell? ⟨w.heap.size, 2, none⟩ = some (.int .i64 c.globals) := by simp only [World.cell?, hbox]; rfl
      have g3 : wr.cell? ⟨w.heap.size, 3, none⟩ = some (.int .i64 c.threads) := by simp only [World.cell?, hbox]; rfl
      have g4 : wr.cell? ⟨w.heap.size, 4, none⟩ = some (.int .i64 c.locals) := by simp only [World.cell?, hbox]; rfl
      have g5 : wr.cell? ⟨w.heap.size, 5, none⟩ = some (.int .i64 c.cache) := by simp only [World.cell?, hbox]; rfl
      have g6 : wr.cell? ⟨w.heap.size, 6, none⟩ = some (.int .i64 c.stack) := by simp only [World.cell?, hbox]; rfl
      have g7 : wr.cell? ⟨w.heap.size, 7, none⟩ = some (.int .i64 c.low) := by simp only [World.cell?, hbox]; rfl
      have g8 : wr.cell? ⟨w.heap.size, 8, none⟩ = some (.slice c.A c.shapes.length c.cap) := by simp only [World.cell?, hbox]; rfl
      have HS := Lib.hid hsz
      have HBA := Lib.hid (Nat.le_trans hbase hsz)
      clear hbase
      clear hrow hext hbox hdis hsz
      generalize w.heap.size = bb at *
      have hx := fun w => index8 f k hlt w
      unfold cx at hx
      generalize hfk : f k = fk at hx
      have HK := Lib.hid hfk
      clear hfk
      go_wp2_with fail
      refine (HF.out k hlt _ HX.out).mono ?_
      rintro e w1 ⟨rfl, X1, rfl⟩
      go_wp2_with (at_builtin; refine wpList_append_own_at _ rfl (.tmp 25) (.tmp 29) 121 rfl base 218 i0 (.agg #[.int .i64 0, .complex .f64 0 0]) 2 24 Tryz.underlying121 hi0 hz0 hz1 hz2 rfl (by decide) _ (n + k) _ rfl (own_ext HR.out (show Ext wr _ by (repeat (first | (with_reducible assumption) | (with_reducible exact Ext.refl _) | (with_reducible exact Ext.more _ _ _ _) | apply Ext.alloc | refine Ext.setCell ?_ (by first | exact Nat.le_refl _ | exact Nat.le_add_right _ _ | assumption) _ | apply Ext.patch | apply Ext.drew | apply Ext.drewN)))) _ 1 1 [.int .i64 (i * 8 + k), .complex .f64 fk.1 fk.2] rfl rfl (news_new _ _ _) (by intro u hu; simp at hu; rcases hu with rfl | rfl <;> rfl) (by unfold maxLen; omega) (by omega) (Nat.le_trans (HBA.out) (Ext.size (show Ext wr _ by (repeat (first | (with_reducible assumption) | (with_reducible exact Ext.refl _) | (with_reducible exact Ext.more _ _ _ _) | apply Ext.alloc | refine Ext.setCell ?_ (by first | exact Nat.le_refl _ | exact Nat.le_add_right _ _ | assumption) _ | apply Ext.patch | apply Ext.drew | apply Ext.drewN))))) ?_; intro v' w3 hown3 hgrow3 _ hblk3)
      obtain ⟨r1, r2, r3, r4⟩ := row_round HR.out HX.out HB.out HD.out hgrow3 (show Ext wr _ by (repeat (first | (with_reducible assumption) | (with_reducible exact Ext.refl _) | (with_reducible exact Ext.more _ _ _ _) | apply Ext.alloc | refine Ext.setCell ?_ (by first | exact Nat.le_refl _ | exact Nat.le_add_right _ _ | assumption) _ | apply Ext.patch | apply Ext.drew | apply Ext.drewN))) hb0 hblk3
      refine ⟨⟨k + 1, by omega, by go_num, ?_, r1, r2, r3, Nat.le_trans HS.out r4⟩, by simp [intOf]; omega⟩
      rw [writes, HK.out, ← List.append_assoc]
      exact hown3
    · obtain rfl : k = 8 := by omega
      go_wp2_with fail
      go_ret
      exact ⟨_, rfl, HR.out, HX.out, hsz⟩
end Go.Proofs.YtnebimabokgofaaGreat

