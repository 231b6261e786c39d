/-
  op.words, op.Check of small operations. (The walks are printed by a program.)
-/
import Derived.Test.YtlddahifhefjiaaClone
import Derived.Test.YtlddahifhefjiaaOpSize
namespace Go.Proofs.Ytlddahifhefjiaa
open Go Go.RowKit
set_option linter.unusedVariables false
theorem ext_cell {a b : World} (h : Ext a b) {k o : Nat} (hk : k < a.heap.size) : b.cell? ⟨k, o, none⟩ = a.cell? ⟨k, o, none⟩ := by
  obtain ⟨X, rfl⟩ := h
  exact World.cell?_patch _ _ _ _ hk
theorem iter_size (w : World) s (p : Nat) : (w.iter s p).heap.size = w.heap.size + 1 := by
  unfold World.iter; simp

set_option maxRecDepth 100000 in
set_option maxHeartbeats 1000000 in
theorem words_1 (w : World) : Calls Try.prog 99 #[.int .i64 1] w (Gives (.tuple #[.string ⟨#[110, 101, 119]⟩, .string ⟨#[97, 107]⟩]) w) := by
  go_enter Try.func99, Try.ntmps99
  go_wp2
  go_quiet (fail)
  go_wp2
  go_ret2
  exact Gives.mk rfl (by (repeat (first | (with_reducible assumption) | (with_reducible exact Ext.refl _) | (with_reducible exact Ext.more _ _ _ _) | (with_reducible apply Ext.alloc) | (with_reducible apply Ext.patch) | (with_reducible apply Ext.drew) | (with_reducible apply Ext.drewN) | (with_reducible refine Ext.setCell ?_ (by first | assumption | exact Nat.le_refl _ | exact Nat.le_add_right _ _) _))))

set_option maxRecDepth 100000 in
set_option maxHeartbeats 1000000 in
theorem opCheck_1 (c : Cnf) (a b d n : Int) (x y : Nat) (w : World) (hc : c.Ok w) (h0 : c.check = 0) (ha : 0 ≤ a ∧ a < c.locals) (refs : List Bool) (hS : c.shapeAt b = some (false, refs)) (sz sp : Int) (hz : Shp.size ⟨false, none, 0, refs⟩ 0 = sz) (hp : Shp.spine ⟨false, none, 0, refs⟩ n = sp) (hz0 : 0 ≤ sz) (hz1 : sz ≤ c.frags) (hp1 : sp ≤ c.spine) :
    Calls Try.prog 32 #[c.val, .agg #[.int .i64 1, .int .i64 a, .int .i64 b, .int .i64 d, .int .i64 n, .complex .f64 x y]] w (Gives (.int .i64 0) w) := by
  have HC := Lib.hid (fun w' (he : Ext w w') => check_any c w' (hc.ext he))
  have H0 := Lib.hid h0
  have HS := Lib.hid (fun w' (he : Ext w w') => shape_any c b w' (hc.ext he))
  have HQ := Lib.hid hS
  have HZ := Lib.hid hz
  have HP := Lib.hid hp
  clear hS hz hp
  obtain ⟨ha0, ha1⟩ := ha
  clear h0 hc
  unfold Cnf.val at HC HS ⊢
  go_enter Try.func32, Try.ntmps32
  go_wp2_with fail
  refine (words_1 _).mono ?_
  rintro e w1 ⟨rfl, X1, rfl⟩
  go_wp2_with fail
  refine (HC.out _ (by (repeat (first | (with_reducible assumption) | (with_reducible exact Ext.refl _) | (with_reducible exact Ext.more _ _ _ _) | (with_reducible apply Ext.alloc) | (with_reducible apply Ext.patch) | (with_reducible apply Ext.drew) | (with_reducible apply Ext.drewN) | (with_reducible refine Ext.setCell ?_ (by first | assumption | exact Nat.le_refl _ | exact Nat.le_add_right _ _) _))))).mono ?_
  rw [H0.out]
  rintro e w1 ⟨rfl, X2, rfl⟩
  obtain ⟨w2, hW⟩ : ∃ w2, (((w.alloc (.cells #[.int .i64 c.frags, .int .i64 c.spine, .int .i64 c.globals, .int .i64 c.threads, .int .i64 c.locals, .int .i64 c.cache, .int .i64 c.stack, .int .i64 c.low, .slice c.A c.shapes.length c.cap] 37)).alloc (.cells #[.int .i64 1, .int .i64 a, .int .i64 b, .int .i64 d, .int .i64 n, .complex .f64 x y] 28)).patch X1).patch X2 = w2 := ⟨_, rfl⟩
  rw [hW]
  have g0 : w2.cell? ⟨w.heap.size, 0, none⟩ = some (.int .i64 c.frags) := by rw [← hW]; clear hW; go_simp
  have g1 : w2.cell? ⟨w.heap.size, 1, none⟩ = some (.int .i64 c.spine) := by rw [← hW]; clear hW; go_simp
  have g2 : w2.cell? ⟨w.heap.size, 2, none⟩ = some (.int .i64 c.globals) := by rw [← hW]; clear hW; go_simp
  have g3 : w2.cell? ⟨w.heap.size, 3, none⟩ = some (.int .i64 c.threads) := by rw [← hW]; clear hW; go_simp
  have g4 : w2.cell? ⟨w.heap.size, 4, none⟩ = some (.int .i64 c.locals) := by rw [← hW]; clear hW; go_simp
  have g5 : w2.cell? ⟨w.heap.size, 5, none⟩ = some (.int .i64 c.cache) := by rw [← hW]; clear hW; go_simp
  have g6 : w2.cell? ⟨w.heap.size, 6, none⟩ = some (.int .i64 c.stack) := by rw [← hW]; clear hW; go_simp
  have g7 : w2.cell? ⟨w.heap.size, 7, none⟩ = some (.int .i64 c.low) := by rw [← hW]; clear hW; go_simp
  have g8 : w2.cell? ⟨w.heap.size, 8, none⟩ = some (.slice c.A c.shapes.length c.cap) := by rw [← hW]; clear hW; go_simp
  have k0 : w2.cell? ⟨w.heap.size + 1, 0, none⟩ = some (.int .i64 1) := by rw [← hW]; clear hW; go_simp
  have k1 : w2.cell? ⟨w.heap.size + 1, 1, none⟩ = some (.int .i64 a) := by rw [← hW]; clear hW; go_simp
  have k2 : w2.cell? ⟨w.heap.size + 1, 2, none⟩ = some (.int .i64 b) := by rw [← hW]; clear hW; go_simp
  have k3 : w2.cell? ⟨w.heap.size + 1, 3, none⟩ = some (.int .i64 d) := by rw [← hW]; clear hW; go_simp
  have k4 : w2.cell? ⟨w.heap.size + 1, 4, none⟩ = some (.int .i64 n) := by rw [← hW]; clear hW; go_simp
  have k5 : w2.cell? ⟨w.heap.size + 1, 5, none⟩ = some (.complex .f64 x y) := by rw [← hW]; clear hW; go_simp
  have hs1 : w.heap.size + 1 < w2.heap.size := by rw [← hW]; clear hW; go_simp
  have hs0 : w.heap.size < w2.heap.size := by omega
  have HEw := Lib.hid (show Ext w w2 by rw [← hW]; clear hW; (repeat (first | (with_reducible assumption) | (with_reducible exact Ext.refl _) | (with_reducible exact Ext.more _ _ _ _) | (with_reducible apply Ext.alloc) | (with_reducible apply Ext.patch) | (with_reducible apply Ext.drew) | (with_reducible apply Ext.drewN) | (with_reducible refine Ext.setCell ?_ (by first | assumption | exact Nat.le_refl _ | exact Nat.le_add_right _ _) _))))
  clear hW
  have q0 : ∀ ty, (Instr.next (.pointer (some ⟨w2.heap.size, 0, none⟩)) true ty).run Try.prog (w2.iter ⟨#[97, 107]⟩ 0) = .ok (.tuple #[.bool true, .int .i64 0, .int .i32 97]) (w2.iter ⟨#[97, 107]⟩ 1) := fun ty => run_next_ascii (P := Try.prog) w2 ⟨#[97, 107]⟩ 0 ty (by decide) (by decide)
  have q1 : ∀ ty, (Instr.next (.pointer (some ⟨w2.heap.size, 0, none⟩)) true ty).run Try.prog (w2.iter ⟨#[97, 107]⟩ 1) = .ok (.tuple #[.bool true, .int .i64 1, .int .i32 107]) (w2.iter ⟨#[97, 107]⟩ 2) := fun ty => run_next_ascii (P := Try.prog) w2 ⟨#[97, 107]⟩ 1 ty (by decide) (by decide)
  have q2 := fun ty => run_next_end (P := Try.prog) w2 ⟨#[97, 107]⟩ 2 ty (by decide)
  have ig0 : ∀ pos, (w2.iter ⟨#[97, 107]⟩ pos).cell? ⟨w.heap.size, 0, none⟩ = some (.int .i64 c.frags) := fun pos => by unfold World.iter; exact (World.cell?_alloc_lt _ _ _ (show _ < w2.heap.size by first | exact hs1 | exact hs0)).trans g0
  have ig1 : ∀ pos, (w2.iter ⟨#[97, 107]⟩ pos).cell? ⟨w.heap.size, 1, none⟩ = some (.int .i64 c.spine) := fun pos => by unfold World.iter; exact (World.cell?_alloc_lt _ _ _ (show _ < w2.heap.size by first | exact hs1 | exact hs0)).trans g1
  have ig2 : ∀ pos, (w2.iter ⟨#[97, 107]⟩ pos).cell? ⟨w.heap.size, 2, none⟩ = some (.int .i64 c.globals) := fun pos => by unfold World.iter; exact (World.cell?_alloc_lt _ _ _ (show _ < w2.heap.size by first | exact hs1 | exact hs0)).trans g2
  have ig3 : ∀ pos, (w2.iter ⟨#[97, 107]⟩ pos).cell? ⟨w.heap.size, 3, none⟩ = some (.int .i64 c.threads) := fun pos => by unfold World.iter; exact (World.cell?_alloc_lt _ _ _ (show _ < w2.heap.size by first | exact hs1 | exact hs0)).trans g3
  have ig4 : ∀ pos, (w2.iter ⟨#[97, 107]⟩ pos).cell? ⟨w.heap.size, 4, none⟩ = some (.int .i64 c.locals) := fun pos => by unfold World.iter; exact (World.cell?_alloc_lt _ _ _ (show _ < w2.heap.size by first | exact hs1 | exact hs0)).trans g4
  have ig5 : ∀ pos, (w2.iter ⟨#[97, 107]⟩ pos).cell? ⟨w.heap.size, 5, none⟩ = some (.int .i64 c.cache) := fun pos => by unfold World.iter; exact (World.cell?_alloc_lt _ _ _ (show _ < w2.heap.size by first | exact hs1 | exact hs0)).trans g5
  have ig6 : ∀ pos, (w2.iter ⟨#[97, 107]⟩ pos).cell? ⟨w.heap.size, 6, none⟩ = some (.int .i64 c.stack) := fun pos => by unfold World.iter; exact (World.cell?_alloc_lt _ _ _ (show _ < w2.heap.size by first | exact hs1 | exact hs0)).trans g6
  have ig7 : ∀ pos, (w2.iter ⟨#[97, 107]⟩ pos).cell? ⟨w.heap.size, 7, none⟩ = some (.int .i64 c.low) := fun pos => by unfold World.iter; exact (World.cell?_alloc_lt _ _ _ (show _ < w2.heap.size by first | exact hs1 | exact hs0)).trans g7
  have ig8 : ∀ pos, (w2.iter ⟨#[97, 107]⟩ pos).cell? ⟨w.heap.size, 8, none⟩ = some (.slice c.A c.shapes.length c.cap) := fun pos => by unfold World.iter; exact (World.cell?_alloc_lt _ _ _ (show _ < w2.heap.size by first | exact hs1 | exact hs0)).trans g8
  have ik0 : ∀ pos, (w2.iter ⟨#[97, 107]⟩ pos).cell? ⟨w.heap.size + 1, 0, none⟩ = some (.int .i64 1) := fun pos => by unfold World.iter; exact (World.cell?_alloc_lt _ _ _ (show _ < w2.heap.size by first | exact hs1 | exact hs0)).trans k0
  have ik1 : ∀ pos, (w2.iter ⟨#[97, 107]⟩ pos).cell? ⟨w.heap.size + 1, 1, none⟩ = some (.int .i64 a) := fun pos => by unfold World.iter; exact (World.cell?_alloc_lt _ _ _ (show _ < w2.heap.size by first | exact hs1 | exact hs0)).trans k1
  have ik2 : ∀ pos, (w2.iter ⟨#[97, 107]⟩ pos).cell? ⟨w.heap.size + 1, 2, none⟩ = some (.int .i64 b) := fun pos => by unfold World.iter; exact (World.cell?_alloc_lt _ _ _ (show _ < w2.heap.size by first | exact hs1 | exact hs0)).trans k2
  have ik3 : ∀ pos, (w2.iter ⟨#[97, 107]⟩ pos).cell? ⟨w.heap.size + 1, 3, none⟩ = some (.int .i64 d) := fun pos => by unfold World.iter; exact (World.cell?_alloc_lt _ _ _ (show _ < w2.heap.size by first | exact hs1 | exact hs0)).trans k3
  have ik4 : ∀ pos, (w2.iter ⟨#[97, 107]⟩ pos).cell? ⟨w.heap.size + 1, 4, none⟩ = some (.int .i64 n) := fun pos => by unfold World.iter; exact (World.cell?_alloc_lt _ _ _ (show _ < w2.heap.size by first | exact hs1 | exact hs0)).trans k4
  have ik5 : ∀ pos, (w2.iter ⟨#[97, 107]⟩ pos).cell? ⟨w.heap.size + 1, 5, none⟩ = some (.complex .f64 x y) := fun pos => by unfold World.iter; exact (World.cell?_alloc_lt _ _ _ (show _ < w2.heap.size by first | exact hs1 | exact hs0)).trans k5
  go_wp2_with fail
  refine wp_loop_rounds 3 ?_
  rw [rounds_succ]
  go_wp2
  rw [rounds_succ]
  go_wp2
  rw [rounds_succ]
  go_wp2_with fail
  refine (HS.out _ (by unfold World.iter; exact HEw.out.alloc _)).mono ?_
  rintro e w4 ⟨s', rfl, heq, hfr, hok, hE⟩
  have HE4 := Lib.hid hE
  rw [HQ.out, Option.getD_some] at heq
  obtain ⟨arr', A', cap', refs'⟩ := s'
  simp only [Prod.mk.injEq] at heq
  obtain ⟨rfl, rfl⟩ := heq
  have mg0 : w4.cell? ⟨w.heap.size, 0, none⟩ = some (.int .i64 c.frags) := (ext_cell HE4.out (by rw [iter_size]; omega)).trans (ig0 _)
  have mg1 : w4.cell? ⟨w.heap.size, 1, none⟩ = some (.int .i64 c.spine) := (ext_cell HE4.out (by rw [iter_size]; omega)).trans (ig1 _)
  have mk0 : w4.cell? ⟨w.heap.size + 1, 0, none⟩ = some (.int .i64 1) := (ext_cell HE4.out (by rw [iter_size]; omega)).trans (ik0 _)
  have mk1 : w4.cell? ⟨w.heap.size + 1, 1, none⟩ = some (.int .i64 a) := (ext_cell HE4.out (by rw [iter_size]; omega)).trans (ik1 _)
  have mk2 : w4.cell? ⟨w.heap.size + 1, 2, none⟩ = some (.int .i64 b) := (ext_cell HE4.out (by rw [iter_size]; omega)).trans (ik2 _)
  have mk3 : w4.cell? ⟨w.heap.size + 1, 3, none⟩ = some (.int .i64 d) := (ext_cell HE4.out (by rw [iter_size]; omega)).trans (ik3 _)
  have mk4 : w4.cell? ⟨w.heap.size + 1, 4, none⟩ = some (.int .i64 n) := (ext_cell HE4.out (by rw [iter_size]; omega)).trans (ik4 _)
  have mk5 : w4.cell? ⟨w.heap.size + 1, 5, none⟩ = some (.complex .f64 x y) := (ext_cell HE4.out (by rw [iter_size]; omega)).trans (ik5 _)
  have hm1 : w.heap.size + 1 < w4.heap.size := Nat.lt_of_lt_of_le (by rw [iter_size]; omega) HE4.out.size
  have hm0 : w.heap.size < w4.heap.size := by omega
  have HEE4 := Lib.hid (show Ext w w4 from (show Ext w _ by unfold World.iter; exact HEw.out.alloc _).trans HE4.out)
  clear hE hfr
  have HF1 := Lib.hid (fun w' (he : Ext w4 w') => opSize_1 _ a b d n x y w' (hok.ext he))
  have HF2 := Lib.hid (fun w' (he : Ext w4 w') => spine_any _ n w' (hok.ext he))
  clear hok
  rw [show Shp.size ⟨false, A', cap', refs'⟩ 0 = sz from HZ.out] at HF1
  rw [show Shp.spine ⟨false, A', cap', refs'⟩ n = sp from HP.out] at HF2
  rw [HQ.out]
  unfold Shp.val at HF1 HF2 ⊢
  have hd1 : decide (c.frags < sz) = false := decide_eq_false (by omega)
  have hd2 : decide (c.spine < sp) = false := decide_eq_false (by omega)
  have hd3 : decide (sz < 0) = false := decide_eq_false (by omega)
  go_wp2_with (go_at_call 101; refine (HF1.out _ (by (repeat (first | (with_reducible assumption) | (with_reducible exact Ext.refl _) | (with_reducible exact Ext.more _ _ _ _) | (with_reducible apply Ext.alloc) | (with_reducible apply Ext.patch) | (with_reducible apply Ext.drew) | (with_reducible apply Ext.drewN) | (with_reducible refine Ext.setCell ?_ (by first | assumption | exact Nat.le_refl _ | exact Nat.le_add_right _ _) _))))).mono ?_; rintro e w5 ⟨rfl, X5, rfl⟩)
  obtain ⟨w6, hW6⟩ : ∃ w6, ((w4.alloc (.cells #[.bool false, .slice A' refs'.length cap'] 43)).patch X5) = w6 := ⟨_, rfl⟩
  rw [hW6]
  have HE6 := Lib.hid (show Ext w4 w6 by rw [← hW6]; clear hW6; (repeat (first | (with_reducible assumption) | (with_reducible exact Ext.refl _) | (with_reducible exact Ext.more _ _ _ _) | (with_reducible apply Ext.alloc) | (with_reducible apply Ext.patch) | (with_reducible apply Ext.drew) | (with_reducible apply Ext.drewN) | (with_reducible refine Ext.setCell ?_ (by first | assumption | exact Nat.le_refl _ | exact Nat.le_add_right _ _) _))))
  have ng0 : w6.cell? ⟨w.heap.size, 0, none⟩ = some (.int .i64 c.frags) := (ext_cell HE6.out (by first | exact hm0 | exact hm1)).trans mg0
  have ng1 : w6.cell? ⟨w.heap.size, 1, none⟩ = some (.int .i64 c.spine) := (ext_cell HE6.out (by first | exact hm0 | exact hm1)).trans mg1
  have nk0 : w6.cell? ⟨w.heap.size + 1, 0, none⟩ = some (.int .i64 1) := (ext_cell HE6.out (by first | exact hm0 | exact hm1)).trans mk0
  have nk1 : w6.cell? ⟨w.heap.size + 1, 1, none⟩ = some (.int .i64 a) := (ext_cell HE6.out (by first | exact hm0 | exact hm1)).trans mk1
  have nk2 : w6.cell? ⟨w.heap.size + 1, 2, none⟩ = some (.int .i64 b) := (ext_cell HE6.out (by first | exact hm0 | exact hm1)).trans mk2
  have nk3 : w6.cell? ⟨w.heap.size + 1, 3, none⟩ = some (.int .i64 d) := (ext_cell HE6.out (by first | exact hm0 | exact hm1)).trans mk3
  have nk4 : w6.cell? ⟨w.heap.size + 1, 4, none⟩ = some (.int .i64 n) := (ext_cell HE6.out (by first | exact hm0 | exact hm1)).trans mk4
  have nk5 : w6.cell? ⟨w.heap.size + 1, 5, none⟩ = some (.complex .f64 x y) := (ext_cell HE6.out (by first | exact hm0 | exact hm1)).trans mk5
  have ns0 : w6.cell? ⟨w4.heap.size, 0, none⟩ = some (.bool false) := by rw [← hW6]; clear hW6; go_simp
  have ns1 : w6.cell? ⟨w4.heap.size, 1, none⟩ = some (.slice A' refs'.length cap') := by rw [← hW6]; clear hW6; go_simp
  have hn2 : w4.heap.size < w6.heap.size := by rw [← hW6]; clear hW6; go_simp
  have hn1 : w.heap.size + 1 < w6.heap.size := by omega
  have hn0 : w.heap.size < w6.heap.size := by omega
  have HEE := Lib.hid (show Ext w w6 from HEE4.out.trans HE6.out)
  clear hW6
  refine wp_region_mixed [true, true, true, true, true, true, true, true, true, true, true, true, true, true, true, true] 0 16 (by kernel_rfl) (by kernel_rfl) (by kernel_rfl) ?_ (by decide) (by decide) (by decide) (by kernel_rfl) ?_
  · intro c a d v w h; cases d <;> exact h
  intro X00
  simp only [pickOps]
  repeat (go_big_quiet_step (first | (go_at_call 101; exact Calls.added (HF1.out _ (HE6.out.patch _))) | (go_at_call 48; exact Calls.added (HF2.out _ (HE6.out.patch _)))))
  refine wpQuiet_nil (fun X0 => ?_)
  clear X00
  refine wpAnyM_done (by kernel_rfl) (fun X0' => ?_) _
  go_wp2_with fail
  go_ret
  exact Gives.mk rfl (HEE.out.trans (by (repeat (first | (with_reducible assumption) | (with_reducible exact Ext.refl _) | (with_reducible exact Ext.more _ _ _ _) | (with_reducible apply Ext.alloc) | (with_reducible apply Ext.patch) | (with_reducible apply Ext.drew) | (with_reducible apply Ext.drewN) | (with_reducible refine Ext.setCell ?_ (by first | assumption | exact Nat.le_refl _ | exact Nat.le_add_right _ _) _)))))

set_option maxRecDepth 100000 in
set_option maxHeartbeats 1000000 in
theorem words_2 (w : World) : Calls Try.prog 99 #[.int .i64 2] w (Gives (.tuple #[.string ⟨#[97, 114, 114, 97, 121]⟩, .string ⟨#[97, 107, 110]⟩]) w) := by
  go_enter Try.func99, Try.ntmps99
  go_wp2
  go_quiet (fail)
  go_wp2
  go_ret2
  exact Gives.mk rfl (by (repeat (first | (with_reducible assumption) | (with_reducible exact Ext.refl _) | (with_reducible exact Ext.more _ _ _ _) | (with_reducible apply Ext.alloc) | (with_reducible apply Ext.patch) | (with_reducible apply Ext.drew) | (with_reducible apply Ext.drewN) | (with_reducible refine Ext.setCell ?_ (by first | assumption | exact Nat.le_refl _ | exact Nat.le_add_right _ _) _))))

set_option maxRecDepth 100000 in
set_option maxHeartbeats 1000000 in
theorem opCheck_2 (c : Cnf) (a b d n : Int) (x y : Nat) (w : World) (hc : c.Ok w) (h0 : c.check = 0) (ha : 0 ≤ a ∧ a < c.locals) (refs : List Bool) (hS : c.shapeAt b = some (true, refs)) (sz sp : Int) (hz : Shp.size ⟨true, none, 0, refs⟩ n = sz) (hp : Shp.spine ⟨true, none, 0, refs⟩ n = sp) (hz0 : 0 ≤ sz) (hz1 : sz ≤ c.frags) (hp1 : sp ≤ c.spine) :
    Calls Try.prog 32 #[c.val, .agg #[.int .i64 2, .int .i64 a, .int .i64 b, .int .i64 d, .int .i64 n, .complex .f64 x y]] w (Gives (.int .i64 0) w) := by
  have HC := Lib.hid (fun w' (he : Ext w w') => check_any c w' (hc.ext he))
  have H0 := Lib.hid h0
  have HS := Lib.hid (fun w' (he : Ext w w') => shape_any c b w' (hc.ext he))
  have HQ := Lib.hid hS
  have HZ := Lib.hid hz
  have HP := Lib.hid hp
  clear hS hz hp
  obtain ⟨ha0, ha1⟩ := ha
  clear h0 hc
  unfold Cnf.val at HC HS ⊢
  go_enter Try.func32, Try.ntmps32
  go_wp2_with fail
  refine (words_2 _).mono ?_
  rintro e w1 ⟨rfl, X1, rfl⟩
  go_wp2_with fail
  refine (HC.out _ (by (repeat (first | (with_reducible assumption) | (with_reducible exact Ext.refl _) | (with_reducible exact Ext.more _ _ _ _) | (with_reducible apply Ext.alloc) | (with_reducible apply Ext.patch) | (with_reducible apply Ext.drew) | (with_reducible apply Ext.drewN) | (with_reducible refine Ext.setCell ?_ (by first | assumption | exact Nat.le_refl _ | exact Nat.le_add_right _ _) _))))).mono ?_
  rw [H0.out]
  rintro e w1 ⟨rfl, X2, rfl⟩
  obtain ⟨w2, hW⟩ : ∃ w2, (((w.alloc (.cells #[.int .i64 c.frags, .int .i64 c.spine, .int .i64 c.globals, .int .i64 c.threads, .int .i64 c.locals, .int .i64 c.cache, .int .i64 c.stack, .int .i64 c.low, .slice c.A c.shapes.length c.cap] 37)).alloc (.cells #[.int .i64 2, .int .i64 a, .int .i64 b, .int .i64 d, .int .i64 n, .complex .f64 x y] 28)).patch X1).patch X2 = w2 := ⟨_, rfl⟩
  rw [hW]
  have g0 : w2.cell? ⟨w.heap.size, 0, none⟩ = some (.int .i64 c.frags) := by rw [← hW]; clear hW; go_simp
  have g1 : w2.cell? ⟨w.heap.size, 1, none⟩ = some (.int .i64 c.spine) := by rw [← hW]; clear hW; go_simp
  have g2 : w2.cell? ⟨w.heap.size, 2, none⟩ = some (.int .i64 c.globals) := by rw [← hW]; clear hW; go_simp
  have g3 : w2.cell? ⟨w.heap.size, 3, none⟩ = some (.int .i64 c.threads) := by rw [← hW]; clear hW; go_simp
  have g4 : w2.cell? ⟨w.heap.size, 4, none⟩ = some (.int .i64 c.locals) := by rw [← hW]; clear hW; go_simp
  have g5 : w2.cell? ⟨w.heap.size, 5, none⟩ = some (.int .i64 c.cache) := by rw [← hW]; clear hW; go_simp
  have g6 : w2.cell? ⟨w.heap.size, 6, none⟩ = some (.int .i64 c.stack) := by rw [← hW]; clear hW; go_simp
  have g7 : w2.cell? ⟨w.heap.size, 7, none⟩ = some (.int .i64 c.low) := by rw [← hW]; clear hW; go_simp
  have g8 : w2.cell? ⟨w.heap.size, 8, none⟩ = some (.slice c.A c.shapes.length c.cap) := by rw [← hW]; clear hW; go_simp
  have k0 : w2.cell? ⟨w.heap.size + 1, 0, none⟩ = some (.int .i64 2) := by rw [← hW]; clear hW; go_simp
  have k1 : w2.cell? ⟨w.heap.size + 1, 1, none⟩ = some (.int .i64 a) := by rw [← hW]; clear hW; go_simp
  have k2 : w2.cell? ⟨w.heap.size + 1, 2, none⟩ = some (.int .i64 b) := by rw [← hW]; clear hW; go_simp
  have k3 : w2.cell? ⟨w.heap.size + 1, 3, none⟩ = some (.int .i64 d) := by rw [← hW]; clear hW; go_simp
  have k4 : w2.cell? ⟨w.heap.size + 1, 4, none⟩ = some (.int .i64 n) := by rw [← hW]; clear hW; go_simp
  have k5 : w2.cell? ⟨w.heap.size + 1, 5, none⟩ = some (.complex .f64 x y) := by rw [← hW]; clear hW; go_simp
  have hs1 : w.heap.size + 1 < w2.heap.size := by rw [← hW]; clear hW; go_simp
  have hs0 : w.heap.size < w2.heap.size := by omega
  have HEw := Lib.hid (show Ext w w2 by rw [← hW]; clear hW; (repeat (first | (with_reducible assumption) | (with_reducible exact Ext.refl _) | (with_reducible exact Ext.more _ _ _ _) | (with_reducible apply Ext.alloc) | (with_reducible apply Ext.patch) | (with_reducible apply Ext.drew) | (with_reducible apply Ext.drewN) | (with_reducible refine Ext.setCell ?_ (by first | assumption | exact Nat.le_refl _ | exact Nat.le_add_right _ _) _))))
  clear hW
  have q0 : ∀ ty, (Instr.next (.pointer (some ⟨w2.heap.size, 0, none⟩)) true ty).run Try.prog (w2.iter ⟨#[97, 107, 110]⟩ 0) = .ok (.tuple #[.bool true, .int .i64 0, .int .i32 97]) (w2.iter ⟨#[97, 107, 110]⟩ 1) := fun ty => run_next_ascii (P := Try.prog) w2 ⟨#[97, 107, 110]⟩ 0 ty (by decide) (by decide)
  have q1 : ∀ ty, (Instr.next (.pointer (some ⟨w2.heap.size, 0, none⟩)) true ty).run Try.prog (w2.iter ⟨#[97, 107, 110]⟩ 1) = .ok (.tuple #[.bool true, .int .i64 1, .int .i32 107]) (w2.iter ⟨#[97, 107, 110]⟩ 2) := fun ty => run_next_ascii (P := Try.prog) w2 ⟨#[97, 107, 110]⟩ 1 ty (by decide) (by decide)
  have q2 : ∀ ty, (Instr.next (.pointer (some ⟨w2.heap.size, 0, none⟩)) true ty).run Try.prog (w2.iter ⟨#[97, 107, 110]⟩ 2) = .ok (.tuple #[.bool true, .int .i64 2, .int .i32 110]) (w2.iter ⟨#[97, 107, 110]⟩ 3) := fun ty => run_next_ascii (P := Try.prog) w2 ⟨#[97, 107, 110]⟩ 2 ty (by decide) (by decide)
  have q3 := fun ty => run_next_end (P := Try.prog) w2 ⟨#[97, 107, 110]⟩ 3 ty (by decide)
  have ig0 : ∀ pos, (w2.iter ⟨#[97, 107, 110]⟩ pos).cell? ⟨w.heap.size, 0, none⟩ = some (.int .i64 c.frags) := fun pos => by unfold World.iter; exact (World.cell?_alloc_lt _ _ _ (show _ < w2.heap.size by first | exact hs1 | exact hs0)).trans g0
  have ig1 : ∀ pos, (w2.iter ⟨#[97, 107, 110]⟩ pos).cell? ⟨w.heap.size, 1, none⟩ = some (.int .i64 c.spine) := fun pos => by unfold World.iter; exact (World.cell?_alloc_lt _ _ _ (show _ < w2.heap.size by first | exact hs1 | exact hs0)).trans g1
  have ig2 : ∀ pos, (w2.iter ⟨#[97, 107, 110]⟩ pos).cell? ⟨w.heap.size, 2, none⟩ = some (.int .i64 c.globals) := fun pos => by unfold World.iter; exact (World.cell?_alloc_lt _ _ _ (show _ < w2.heap.size by first | exact hs1 | exact hs0)).trans g2
  have ig3 : ∀ pos, (w2.iter ⟨#[97, 107, 110]⟩ pos).cell? ⟨w.heap.size, 3, none⟩ = some (.int .i64 c.threads) := fun pos => by unfold World.iter; exact (World.cell?_alloc_lt _ _ _ (show _ < w2.heap.size by first | exact hs1 | exact hs0)).trans g3
  have ig4 : ∀ pos, (w2.iter ⟨#[97, 107, 110]⟩ pos).cell? ⟨w.heap.size, 4, none⟩ = some (.int .i64 c.locals) := fun pos => by unfold World.iter; exact (World.cell?_alloc_lt _ _ _ (show _ < w2.heap.size by first | exact hs1 | exact hs0)).trans g4
  have ig5 : ∀ pos, (w2.iter ⟨#[97, 107, 110]⟩ pos).cell? ⟨w.heap.size, 5, none⟩ = some (.int .i64 c.cache) := fun pos => by unfold World.iter; exact (World.cell?_alloc_lt _ _ _ (show _ < w2.heap.size by first | exact hs1 | exact hs0)).trans g5
  have ig6 : ∀ pos, (w2.iter ⟨#[97, 107, 110]⟩ pos).cell? ⟨w.heap.size, 6, none⟩ = some (.int .i64 c.stack) := fun pos => by unfold World.iter; exact (World.cell?_alloc_lt _ _ _ (show _ < w2.heap.size by first | exact hs1 | exact hs0)).trans g6
  have ig7 : ∀ pos, (w2.iter ⟨#[97, 107, 110]⟩ pos).cell? ⟨w.heap.size, 7, none⟩ = some (.int .i64 c.low) := fun pos => by unfold World.iter; exact (World.cell?_alloc_lt _ _ _ (show _ < w2.heap.size by first | exact hs1 | exact hs0)).trans g7
  have ig8 : ∀ pos, (w2.iter ⟨#[97, 107, 110]⟩ pos).cell? ⟨w.heap.size, 8, none⟩ = some (.slice c.A c.shapes.length c.cap) := fun pos => by unfold World.iter; exact (World.cell?_alloc_lt _ _ _ (show _ < w2.heap.size by first | exact hs1 | exact hs0)).trans g8
  have ik0 : ∀ pos, (w2.iter ⟨#[97, 107, 110]⟩ pos).cell? ⟨w.heap.size + 1, 0, none⟩ = some (.int .i64 2) := fun pos => by unfold World.iter; exact (World.cell?_alloc_lt _ _ _ (show _ < w2.heap.size by first | exact hs1 | exact hs0)).trans k0
  have ik1 : ∀ pos, (w2.iter ⟨#[97, 107, 110]⟩ pos).cell? ⟨w.heap.size + 1, 1, none⟩ = some (.int .i64 a) := fun pos => by unfold World.iter; exact (World.cell?_alloc_lt _ _ _ (show _ < w2.heap.size by first | exact hs1 | exact hs0)).trans k1
  have ik2 : ∀ pos, (w2.iter ⟨#[97, 107, 110]⟩ pos).cell? ⟨w.heap.size + 1, 2, none⟩ = some (.int .i64 b) := fun pos => by unfold World.iter; exact (World.cell?_alloc_lt _ _ _ (show _ < w2.heap.size by first | exact hs1 | exact hs0)).trans k2
  have ik3 : ∀ pos, (w2.iter ⟨#[97, 107, 110]⟩ pos).cell? ⟨w.heap.size + 1, 3, none⟩ = some (.int .i64 d) := fun pos => by unfold World.iter; exact (World.cell?_alloc_lt _ _ _ (show _ < w2.heap.size by first | exact hs1 | exact hs0)).trans k3
  have ik4 : ∀ pos, (w2.iter ⟨#[97, 107, 110]⟩ pos).cell? ⟨w.heap.size + 1, 4, none⟩ = some (.int .i64 n) := fun pos => by unfold World.iter; exact (World.cell?_alloc_lt _ _ _ (show _ < w2.heap.size by first | exact hs1 | exact hs0)).trans k4
  have ik5 : ∀ pos, (w2.iter ⟨#[97, 107, 110]⟩ pos).cell? ⟨w.heap.size + 1, 5, none⟩ = some (.complex .f64 x y) := fun pos => by unfold World.iter; exact (World.cell?_alloc_lt _ _ _ (show _ < w2.heap.size by first | exact hs1 | exact hs0)).trans k5
  go_wp2_with fail
  refine wp_loop_rounds 4 ?_
  rw [rounds_succ]
  go_wp2
  rw [rounds_succ]
  go_wp2
  rw [rounds_succ]
  go_wp2
  rw [rounds_succ]
  go_wp2_with fail
  refine (HS.out _ (by unfold World.iter; exact HEw.out.alloc _)).mono ?_
  rintro e w4 ⟨s', rfl, heq, hfr, hok, hE⟩
  have HE4 := Lib.hid hE
  rw [HQ.out, Option.getD_some] at heq
  obtain ⟨arr', A', cap', refs'⟩ := s'
  simp only [Prod.mk.injEq] at heq
  obtain ⟨rfl, rfl⟩ := heq
  have mg0 : w4.cell? ⟨w.heap.size, 0, none⟩ = some (.int .i64 c.frags) := (ext_cell HE4.out (by rw [iter_size]; omega)).trans (ig0 _)
  have mg1 : w4.cell? ⟨w.heap.size, 1, none⟩ = some (.int .i64 c.spine) := (ext_cell HE4.out (by rw [iter_size]; omega)).trans (ig1 _)
  have mk0 : w4.cell? ⟨w.heap.size + 1, 0, none⟩ = some (.int .i64 2) := (ext_cell HE4.out (by rw [iter_size]; omega)).trans (ik0 _)
  have mk1 : w4.cell? ⟨w.heap.size + 1, 1, none⟩ = some (.int .i64 a) := (ext_cell HE4.out (by rw [iter_size]; omega)).trans (ik1 _)
  have mk2 : w4.cell? ⟨w.heap.size + 1, 2, none⟩ = some (.int .i64 b) := (ext_cell HE4.out (by rw [iter_size]; omega)).trans (ik2 _)
  have mk3 : w4.cell? ⟨w.heap.size + 1, 3, none⟩ = some (.int .i64 d) := (ext_cell HE4.out (by rw [iter_size]; omega)).trans (ik3 _)
  have mk4 : w4.cell? ⟨w.heap.size + 1, 4, none⟩ = some (.int .i64 n) := (ext_cell HE4.out (by rw [iter_size]; omega)).trans (ik4 _)
  have mk5 : w4.cell? ⟨w.heap.size + 1, 5, none⟩ = some (.complex .f64 x y) := (ext_cell HE4.out (by rw [iter_size]; omega)).trans (ik5 _)
  have hm1 : w.heap.size + 1 < w4.heap.size := Nat.lt_of_lt_of_le (by rw [iter_size]; omega) HE4.out.size
  have hm0 : w.heap.size < w4.heap.size := by omega
  have HEE4 := Lib.hid (show Ext w w4 from (show Ext w _ by unfold World.iter; exact HEw.out.alloc _).trans HE4.out)
  clear hE hfr
  have HF1 := Lib.hid (fun w' (he : Ext w4 w') => opSize_2 _ a b d n x y w' (hok.ext he))
  have HF2 := Lib.hid (fun w' (he : Ext w4 w') => spine_any _ n w' (hok.ext he))
  clear hok
  rw [show Shp.size ⟨true, A', cap', refs'⟩ n = sz from HZ.out] at HF1
  rw [show Shp.spine ⟨true, A', cap', refs'⟩ n = sp from HP.out] at HF2
  rw [HQ.out]
  unfold Shp.val at HF1 HF2 ⊢
  have hd1 : decide (c.frags < sz) = false := decide_eq_false (by omega)
  have hd2 : decide (c.spine < sp) = false := decide_eq_false (by omega)
  have hd3 : decide (sz < 0) = false := decide_eq_false (by omega)
  go_wp2_with (go_at_call 101; refine (HF1.out _ (by (repeat (first | (with_reducible assumption) | (with_reducible exact Ext.refl _) | (with_reducible exact Ext.more _ _ _ _) | (with_reducible apply Ext.alloc) | (with_reducible apply Ext.patch) | (with_reducible apply Ext.drew) | (with_reducible apply Ext.drewN) | (with_reducible refine Ext.setCell ?_ (by first | assumption | exact Nat.le_refl _ | exact Nat.le_add_right _ _) _))))).mono ?_; rintro e w5 ⟨rfl, X5, rfl⟩)
  obtain ⟨w6, hW6⟩ : ∃ w6, ((w4.alloc (.cells #[.bool true, .slice A' refs'.length cap'] 43)).patch X5) = w6 := ⟨_, rfl⟩
  rw [hW6]
  have HE6 := Lib.hid (show Ext w4 w6 by rw [← hW6]; clear hW6; (repeat (first | (with_reducible assumption) | (with_reducible exact Ext.refl _) | (with_reducible exact Ext.more _ _ _ _) | (with_reducible apply Ext.alloc) | (with_reducible apply Ext.patch) | (with_reducible apply Ext.drew) | (with_reducible apply Ext.drewN) | (with_reducible refine Ext.setCell ?_ (by first | assumption | exact Nat.le_refl _ | exact Nat.le_add_right _ _) _))))
  have ng0 : w6.cell? ⟨w.heap.size, 0, none⟩ = some (.int .i64 c.frags) := (ext_cell HE6.out (by first | exact hm0 | exact hm1)).trans mg0
  have ng1 : w6.cell? ⟨w.heap.size, 1, none⟩ = some (.int .i64 c.spine) := (ext_cell HE6.out (by first | exact hm0 | exact hm1)).trans mg1
  have nk0 : w6.cell? ⟨w.heap.size + 1, 0, none⟩ = some (.int .i64 2) := (ext_cell HE6.out (by first | exact hm0 | exact hm1)).trans mk0
  have nk1 : w6.cell? ⟨w.heap.size + 1, 1, none⟩ = some (.int .i64 a) := (ext_cell HE6.out (by first | exact hm0 | exact hm1)).trans mk1
  have nk2 : w6.cell? ⟨w.heap.size + 1, 2, none⟩ = some (.int .i64 b) := (ext_cell HE6.out (by first | exact hm0 | exact hm1)).trans mk2
  have nk3 : w6.cell? ⟨w.heap.size + 1, 3, none⟩ = some (.int .i64 d) := (ext_cell HE6.out (by first | exact hm0 | exact hm1)).trans mk3
  have nk4 : w6.cell? ⟨w.heap.size + 1, 4, none⟩ = some (.int .i64 n) := (ext_cell HE6.out (by first | exact hm0 | exact hm1)).trans mk4
  have nk5 : w6.cell? ⟨w.heap.size + 1, 5, none⟩ = some (.complex .f64 x y) := (ext_cell HE6.out (by first | exact hm0 | exact hm1)).trans mk5
  have ns0 : w6.cell? ⟨w4.heap.size, 0, none⟩ = some (.bool true) := by rw [← hW6]; clear hW6; go_simp
  have ns1 : w6.cell? ⟨w4.heap.size, 1, none⟩ = some (.slice A' refs'.length cap') := by rw [← hW6]; clear hW6; go_simp
  have hn2 : w4.heap.size < w6.heap.size := by rw [← hW6]; clear hW6; go_simp
  have hn1 : w.heap.size + 1 < w6.heap.size := by omega
  have hn0 : w.heap.size < w6.heap.size := by omega
  have HEE := Lib.hid (show Ext w w6 from HEE4.out.trans HE6.out)
  clear hW6
  refine wp_region_mixed [true, true, true, true, true, true, true, true, true, true, true, true, true, true, true, true] 0 16 (by kernel_rfl) (by kernel_rfl) (by kernel_rfl) ?_ (by decide) (by decide) (by decide) (by kernel_rfl) ?_
  · intro c a d v w h; cases d <;> exact h
  intro X00
  simp only [pickOps]
  repeat (go_big_quiet_step (first | (go_at_call 101; exact Calls.added (HF1.out _ (HE6.out.patch _))) | (go_at_call 48; exact Calls.added (HF2.out _ (HE6.out.patch _)))))
  refine wpQuiet_nil (fun X0 => ?_)
  clear X00
  refine wpAnyM_done (by kernel_rfl) (fun X0' => ?_) _
  go_wp2_with fail
  go_ret
  exact Gives.mk rfl (HEE.out.trans (by (repeat (first | (with_reducible assumption) | (with_reducible exact Ext.refl _) | (with_reducible exact Ext.more _ _ _ _) | (with_reducible apply Ext.alloc) | (with_reducible apply Ext.patch) | (with_reducible apply Ext.drew) | (with_reducible apply Ext.drewN) | (with_reducible refine Ext.setCell ?_ (by first | assumption | exact Nat.le_refl _ | exact Nat.le_add_right _ _) _)))))

set_option maxRecDepth 100000 in
set_option maxHeartbeats 1000000 in
theorem words_3 (w : World) : Calls Try.prog 99 #[.int .i64 3] w (Gives (.tuple #[.string ⟨#[108, 111, 97, 100]⟩, .string ⟨#[97, 98, 110]⟩]) w) := by
  go_enter Try.func99, Try.ntmps99
  go_wp2
  go_quiet (fail)
  go_wp2
  go_ret2
  exact Gives.mk rfl (by (repeat (first | (with_reducible assumption) | (with_reducible exact Ext.refl _) | (with_reducible exact Ext.more _ _ _ _) | (with_reducible apply Ext.alloc) | (with_reducible apply Ext.patch) | (with_reducible apply Ext.drew) | (with_reducible apply Ext.drewN) | (with_reducible refine Ext.setCell ?_ (by first | assumption | exact Nat.le_refl _ | exact Nat.le_add_right _ _) _))))

set_option maxRecDepth 100000 in
set_option maxHeartbeats 1000000 in
theorem opCheck_3 (c : Cnf) (a b d n : Int) (x y : Nat) (w : World) (hc : c.Ok w) (h0 : c.check = 0) (ha : 0 ≤ a ∧ a < c.locals) (hb : 0 ≤ b ∧ b < c.locals) :
    Calls Try.prog 32 #[c.val, .agg #[.int .i64 3, .int .i64 a, .int .i64 b, .int .i64 d, .int .i64 n, .complex .f64 x y]] w (Gives (.int .i64 0) w) := by
  have HC := Lib.hid (fun w' (he : Ext w w') => check_any c w' (hc.ext he))
  have H0 := Lib.hid h0
  obtain ⟨ha0, ha1⟩ := ha
  obtain ⟨hb0, hb1⟩ := hb
  clear h0 hc
  unfold Cnf.val at HC ⊢
  go_enter Try.func32, Try.ntmps32
  go_wp2_with fail
  refine (words_3 _).mono ?_
  rintro e w1 ⟨rfl, X1, rfl⟩
  go_wp2_with fail
  refine (HC.out _ (by (repeat (first | (with_reducible assumption) | (with_reducible exact Ext.refl _) | (with_reducible exact Ext.more _ _ _ _) | (with_reducible apply Ext.alloc) | (with_reducible apply Ext.patch) | (with_reducible apply Ext.drew) | (with_reducible apply Ext.drewN) | (with_reducible refine Ext.setCell ?_ (by first | assumption | exact Nat.le_refl _ | exact Nat.le_add_right _ _) _))))).mono ?_
  rw [H0.out]
  rintro e w1 ⟨rfl, X2, rfl⟩
  obtain ⟨w2, hW⟩ : ∃ w2, (((w.alloc (.cells #[.int .i64 c.frags, .int .i64 c.spine, .int .i64 c.globals, .int .i64 c.threads, .int .i64 c.locals, .int .i64 c.cache, .int .i64 c.stack, .int .i64 c.low, .slice c.A c.shapes.length c.cap] 37)).alloc (.cells #[.int .i64 3, .int .i64 a, .int .i64 b, .int .i64 d, .int .i64 n, .complex .f64 x y] 28)).patch X1).patch X2 = w2 := ⟨_, rfl⟩
  rw [hW]
  have g2 : w2.cell? ⟨w.heap.size, 2, none⟩ = some (.int .i64 c.globals) := by rw [← hW]; clear hW; go_simp
  have g4 : w2.cell? ⟨w.heap.size, 4, none⟩ = some (.int .i64 c.locals) := by rw [← hW]; clear hW; go_simp
  have k0 : w2.cell? ⟨w.heap.size + 1, 0, none⟩ = some (.int .i64 3) := by rw [← hW]; clear hW; go_simp
  have k1 : w2.cell? ⟨w.heap.size + 1, 1, none⟩ = some (.int .i64 a) := by rw [← hW]; clear hW; go_simp
  have k2 : w2.cell? ⟨w.heap.size + 1, 2, none⟩ = some (.int .i64 b) := by rw [← hW]; clear hW; go_simp
  have k3 : w2.cell? ⟨w.heap.size + 1, 3, none⟩ = some (.int .i64 d) := by rw [← hW]; clear hW; go_simp
  have k4 : w2.cell? ⟨w.heap.size + 1, 4, none⟩ = some (.int .i64 n) := by rw [← hW]; clear hW; go_simp
  have hs1 : w.heap.size + 1 < w2.heap.size := by rw [← hW]; clear hW; go_simp
  have hs0 : w.heap.size < w2.heap.size := by omega
  have HEw := Lib.hid (show Ext w w2 by rw [← hW]; clear hW; (repeat (first | (with_reducible assumption) | (with_reducible exact Ext.refl _) | (with_reducible exact Ext.more _ _ _ _) | (with_reducible apply Ext.alloc) | (with_reducible apply Ext.patch) | (with_reducible apply Ext.drew) | (with_reducible apply Ext.drewN) | (with_reducible refine Ext.setCell ?_ (by first | assumption | exact Nat.le_refl _ | exact Nat.le_add_right _ _) _))))
  clear hW
  have q0 : ∀ ty, (Instr.next (.pointer (some ⟨w2.heap.size, 0, none⟩)) true ty).run Try.prog (w2.iter ⟨#[97, 98, 110]⟩ 0) = .ok (.tuple #[.bool true, .int .i64 0, .int .i32 97]) (w2.iter ⟨#[97, 98, 110]⟩ 1) := fun ty => run_next_ascii (P := Try.prog) w2 ⟨#[97, 98, 110]⟩ 0 ty (by decide) (by decide)
  have q1 : ∀ ty, (Instr.next (.pointer (some ⟨w2.heap.size, 0, none⟩)) true ty).run Try.prog (w2.iter ⟨#[97, 98, 110]⟩ 1) = .ok (.tuple #[.bool true, .int .i64 1, .int .i32 98]) (w2.iter ⟨#[97, 98, 110]⟩ 2) := fun ty => run_next_ascii (P := Try.prog) w2 ⟨#[97, 98, 110]⟩ 1 ty (by decide) (by decide)
  have q2 : ∀ ty, (Instr.next (.pointer (some ⟨w2.heap.size, 0, none⟩)) true ty).run Try.prog (w2.iter ⟨#[97, 98, 110]⟩ 2) = .ok (.tuple #[.bool true, .int .i64 2, .int .i32 110]) (w2.iter ⟨#[97, 98, 110]⟩ 3) := fun ty => run_next_ascii (P := Try.prog) w2 ⟨#[97, 98, 110]⟩ 2 ty (by decide) (by decide)
  have q3 := fun ty => run_next_end (P := Try.prog) w2 ⟨#[97, 98, 110]⟩ 3 ty (by decide)
  have ik1 : ∀ pos, (w2.iter ⟨#[97, 98, 110]⟩ pos).cell? ⟨w.heap.size + 1, 1, none⟩ = some (.int .i64 a) := fun pos => by unfold World.iter; exact (World.cell?_alloc_lt _ _ _ (show _ < w2.heap.size by first | exact hs1 | exact hs0)).trans k1
  have ik2 : ∀ pos, (w2.iter ⟨#[97, 98, 110]⟩ pos).cell? ⟨w.heap.size + 1, 2, none⟩ = some (.int .i64 b) := fun pos => by unfold World.iter; exact (World.cell?_alloc_lt _ _ _ (show _ < w2.heap.size by first | exact hs1 | exact hs0)).trans k2
  have ik0 : ∀ pos, (w2.iter ⟨#[97, 98, 110]⟩ pos).cell? ⟨w.heap.size + 1, 0, none⟩ = some (.int .i64 3) := fun pos => by unfold World.iter; exact (World.cell?_alloc_lt _ _ _ (show _ < w2.heap.size by first | exact hs1 | exact hs0)).trans k0
  have ig4 : ∀ pos, (w2.iter ⟨#[97, 98, 110]⟩ pos).cell? ⟨w.heap.size, 4, none⟩ = some (.int .i64 c.locals) := fun pos => by unfold World.iter; exact (World.cell?_alloc_lt _ _ _ (show _ < w2.heap.size by first | exact hs1 | exact hs0)).trans g4
  go_wp2_with fail
  refine wp_loop_rounds 4 ?_
  rw [rounds_succ]
  go_wp2
  rw [rounds_succ]
  go_wp2
  rw [rounds_succ]
  go_wp2
  rw [rounds_succ]
  go_wp2
  go_ret
  exact Gives.mk rfl (by unfold World.iter; exact HEw.out.alloc _)

set_option maxRecDepth 100000 in
set_option maxHeartbeats 1000000 in
theorem words_4 (w : World) : Calls Try.prog 99 #[.int .i64 4] w (Gives (.tuple #[.string ⟨#[115, 116, 111, 114, 101]⟩, .string ⟨#[97, 110, 98]⟩]) w) := by
  go_enter Try.func99, Try.ntmps99
  go_wp2
  go_quiet (fail)
  go_wp2
  go_ret2
  exact Gives.mk rfl (by (repeat (first | (with_reducible assumption) | (with_reducible exact Ext.refl _) | (with_reducible exact Ext.more _ _ _ _) | (with_reducible apply Ext.alloc) | (with_reducible apply Ext.patch) | (with_reducible apply Ext.drew) | (with_reducible apply Ext.drewN) | (with_reducible refine Ext.setCell ?_ (by first | assumption | exact Nat.le_refl _ | exact Nat.le_add_right _ _) _))))

set_option maxRecDepth 100000 in
set_option maxHeartbeats 1000000 in
theorem opCheck_4 (c : Cnf) (a b d n : Int) (x y : Nat) (w : World) (hc : c.Ok w) (h0 : c.check = 0) (ha : 0 ≤ a ∧ a < c.locals) (hb : 0 ≤ b ∧ b < c.locals) :
    Calls Try.prog 32 #[c.val, .agg #[.int .i64 4, .int .i64 a, .int .i64 b, .int .i64 d, .int .i64 n, .complex .f64 x y]] w (Gives (.int .i64 0) w) := by
  have HC := Lib.hid (fun w' (he : Ext w w') => check_any c w' (hc.ext he))
  have H0 := Lib.hid h0
  obtain ⟨ha0, ha1⟩ := ha
  obtain ⟨hb0, hb1⟩ := hb
  clear h0 hc
  unfold Cnf.val at HC ⊢
  go_enter Try.func32, Try.ntmps32
  go_wp2_with fail
  refine (words_4 _).mono ?_
  rintro e w1 ⟨rfl, X1, rfl⟩
  go_wp2_with fail
  refine (HC.out _ (by (repeat (first | (with_reducible assumption) | (with_reducible exact Ext.refl _) | (with_reducible exact Ext.more _ _ _ _) | (with_reducible apply Ext.alloc) | (with_reducible apply Ext.patch) | (with_reducible apply Ext.drew) | (with_reducible apply Ext.drewN) | (with_reducible refine Ext.setCell ?_ (by first | assumption | exact Nat.le_refl _ | exact Nat.le_add_right _ _) _))))).mono ?_
  rw [H0.out]
  rintro e w1 ⟨rfl, X2, rfl⟩
  obtain ⟨w2, hW⟩ : ∃ w2, (((w.alloc (.cells #[.int .i64 c.frags, .int .i64 c.spine, .int .i64 c.globals, .int .i64 c.threads, .int .i64 c.locals, .int .i64 c.cache, .int .i64 c.stack, .int .i64 c.low, .slice c.A c.shapes.length c.cap] 37)).alloc (.cells #[.int .i64 4, .int .i64 a, .int .i64 b, .int .i64 d, .int .i64 n, .complex .f64 x y] 28)).patch X1).patch X2 = w2 := ⟨_, rfl⟩
  rw [hW]
  have g2 : w2.cell? ⟨w.heap.size, 2, none⟩ = some (.int .i64 c.globals) := by rw [← hW]; clear hW; go_simp
  have g4 : w2.cell? ⟨w.heap.size, 4, none⟩ = some (.int .i64 c.locals) := by rw [← hW]; clear hW; go_simp
  have k0 : w2.cell? ⟨w.heap.size + 1, 0, none⟩ = some (.int .i64 4) := by rw [← hW]; clear hW; go_simp
  have k1 : w2.cell? ⟨w.heap.size + 1, 1, none⟩ = some (.int .i64 a) := by rw [← hW]; clear hW; go_simp
  have k2 : w2.cell? ⟨w.heap.size + 1, 2, none⟩ = some (.int .i64 b) := by rw [← hW]; clear hW; go_simp
  have k3 : w2.cell? ⟨w.heap.size + 1, 3, none⟩ = some (.int .i64 d) := by rw [← hW]; clear hW; go_simp
  have k4 : w2.cell? ⟨w.heap.size + 1, 4, none⟩ = some (.int .i64 n) := by rw [← hW]; clear hW; go_simp
  have hs1 : w.heap.size + 1 < w2.heap.size := by rw [← hW]; clear hW; go_simp
  have hs0 : w.heap.size < w2.heap.size := by omega
  have HEw := Lib.hid (show Ext w w2 by rw [← hW]; clear hW; (repeat (first | (with_reducible assumption) | (with_reducible exact Ext.refl _) | (with_reducible exact Ext.more _ _ _ _) | (with_reducible apply Ext.alloc) | (with_reducible apply Ext.patch) | (with_reducible apply Ext.drew) | (with_reducible apply Ext.drewN) | (with_reducible refine Ext.setCell ?_ (by first | assumption | exact Nat.le_refl _ | exact Nat.le_add_right _ _) _))))
  clear hW
  have q0 : ∀ ty, (Instr.next (.pointer (some ⟨w2.heap.size, 0, none⟩)) true ty).run Try.prog (w2.iter ⟨#[97, 110, 98]⟩ 0) = .ok (.tuple #[.bool true, .int .i64 0, .int .i32 97]) (w2.iter ⟨#[97, 110, 98]⟩ 1) := fun ty => run_next_ascii (P := Try.prog) w2 ⟨#[97, 110, 98]⟩ 0 ty (by decide) (by decide)
  have q1 : ∀ ty, (Instr.next (.pointer (some ⟨w2.heap.size, 0, none⟩)) true ty).run Try.prog (w2.iter ⟨#[97, 110, 98]⟩ 1) = .ok (.tuple #[.bool true, .int .i64 1, .int .i32 110]) (w2.iter ⟨#[97, 110, 98]⟩ 2) := fun ty => run_next_ascii (P := Try.prog) w2 ⟨#[97, 110, 98]⟩ 1 ty (by decide) (by decide)
  have q2 : ∀ ty, (Instr.next (.pointer (some ⟨w2.heap.size, 0, none⟩)) true ty).run Try.prog (w2.iter ⟨#[97, 110, 98]⟩ 2) = .ok (.tuple #[.bool true, .int .i64 2, .int .i32 98]) (w2.iter ⟨#[97, 110, 98]⟩ 3) := fun ty => run_next_ascii (P := Try.prog) w2 ⟨#[97, 110, 98]⟩ 2 ty (by decide) (by decide)
  have q3 := fun ty => run_next_end (P := Try.prog) w2 ⟨#[97, 110, 98]⟩ 3 ty (by decide)
  have ik1 : ∀ pos, (w2.iter ⟨#[97, 110, 98]⟩ pos).cell? ⟨w.heap.size + 1, 1, none⟩ = some (.int .i64 a) := fun pos => by unfold World.iter; exact (World.cell?_alloc_lt _ _ _ (show _ < w2.heap.size by first | exact hs1 | exact hs0)).trans k1
  have ik2 : ∀ pos, (w2.iter ⟨#[97, 110, 98]⟩ pos).cell? ⟨w.heap.size + 1, 2, none⟩ = some (.int .i64 b) := fun pos => by unfold World.iter; exact (World.cell?_alloc_lt _ _ _ (show _ < w2.heap.size by first | exact hs1 | exact hs0)).trans k2
  have ik0 : ∀ pos, (w2.iter ⟨#[97, 110, 98]⟩ pos).cell? ⟨w.heap.size + 1, 0, none⟩ = some (.int .i64 4) := fun pos => by unfold World.iter; exact (World.cell?_alloc_lt _ _ _ (show _ < w2.heap.size by first | exact hs1 | exact hs0)).trans k0
  have ig4 : ∀ pos, (w2.iter ⟨#[97, 110, 98]⟩ pos).cell? ⟨w.heap.size, 4, none⟩ = some (.int .i64 c.locals) := fun pos => by unfold World.iter; exact (World.cell?_alloc_lt _ _ _ (show _ < w2.heap.size by first | exact hs1 | exact hs0)).trans g4
  go_wp2_with fail
  refine wp_loop_rounds 4 ?_
  rw [rounds_succ]
  go_wp2
  rw [rounds_succ]
  go_wp2
  rw [rounds_succ]
  go_wp2
  rw [rounds_succ]
  go_wp2
  go_ret
  exact Gives.mk rfl (by unfold World.iter; exact HEw.out.alloc _)

set_option maxRecDepth 100000 in
set_option maxHeartbeats 1000000 in
theorem words_5 (w : World) : Calls Try.prog 99 #[.int .i64 5] w (Gives (.tuple #[.string ⟨#[103, 101, 116]⟩, .string ⟨#[97, 98, 110]⟩]) w) := by
  go_enter Try.func99, Try.ntmps99
  go_wp2
  go_quiet (fail)
  go_wp2
  go_ret2
  exact Gives.mk rfl (by (repeat (first | (with_reducible assumption) | (with_reducible exact Ext.refl _) | (with_reducible exact Ext.more _ _ _ _) | (with_reducible apply Ext.alloc) | (with_reducible apply Ext.patch) | (with_reducible apply Ext.drew) | (with_reducible apply Ext.drewN) | (with_reducible refine Ext.setCell ?_ (by first | assumption | exact Nat.le_refl _ | exact Nat.le_add_right _ _) _))))

set_option maxRecDepth 100000 in
set_option maxHeartbeats 1000000 in
theorem opCheck_5 (c : Cnf) (a b d n : Int) (x y : Nat) (w : World) (hc : c.Ok w) (h0 : c.check = 0) (ha : 0 ≤ a ∧ a < c.locals) (hb : 0 ≤ b ∧ b < c.locals) :
    Calls Try.prog 32 #[c.val, .agg #[.int .i64 5, .int .i64 a, .int .i64 b, .int .i64 d, .int .i64 n, .complex .f64 x y]] w (Gives (.int .i64 0) w) := by
  have HC := Lib.hid (fun w' (he : Ext w w') => check_any c w' (hc.ext he))
  have H0 := Lib.hid h0
  obtain ⟨ha0, ha1⟩ := ha
  obtain ⟨hb0, hb1⟩ := hb
  clear h0 hc
  unfold Cnf.val at HC ⊢
  go_enter Try.func32, Try.ntmps32
  go_wp2_with fail
  refine (words_5 _).mono ?_
  rintro e w1 ⟨rfl, X1, rfl⟩
  go_wp2_with fail
  refine (HC.out _ (by (repeat (first | (with_reducible assumption) | (with_reducible exact Ext.refl _) | (with_reducible exact Ext.more _ _ _ _) | (with_reducible apply Ext.alloc) | (with_reducible apply Ext.patch) | (with_reducible apply Ext.drew) | (with_reducible apply Ext.drewN) | (with_reducible refine Ext.setCell ?_ (by first | assumption | exact Nat.le_refl _ | exact Nat.le_add_right _ _) _))))).mono ?_
  rw [H0.out]
  rintro e w1 ⟨rfl, X2, rfl⟩
  obtain ⟨w2, hW⟩ : ∃ w2, (((w.alloc (.cells #[.int .i64 c.frags, .int .i64 c.spine, .int .i64 c.globals, .int .i64 c.threads, .int .i64 c.locals, .int .i64 c.cache, .int .i64 c.stack, .int .i64 c.low, .slice c.A c.shapes.length c.cap] 37)).alloc (.cells #[.int .i64 5, .int .i64 a, .int .i64 b, .int .i64 d, .int .i64 n, .complex .f64 x y] 28)).patch X1).patch X2 = w2 := ⟨_, rfl⟩
  rw [hW]
  have g2 : w2.cell? ⟨w.heap.size, 2, none⟩ = some (.int .i64 c.globals) := by rw [← hW]; clear hW; go_simp
  have g4 : w2.cell? ⟨w.heap.size, 4, none⟩ = some (.int .i64 c.locals) := by rw [← hW]; clear hW; go_simp
  have k0 : w2.cell? ⟨w.heap.size + 1, 0, none⟩ = some (.int .i64 5) := by rw [← hW]; clear hW; go_simp
  have k1 : w2.cell? ⟨w.heap.size + 1, 1, none⟩ = some (.int .i64 a) := by rw [← hW]; clear hW; go_simp
  have k2 : w2.cell? ⟨w.heap.size + 1, 2, none⟩ = some (.int .i64 b) := by rw [← hW]; clear hW; go_simp
  have k3 : w2.cell? ⟨w.heap.size + 1, 3, none⟩ = some (.int .i64 d) := by rw [← hW]; clear hW; go_simp
  have k4 : w2.cell? ⟨w.heap.size + 1, 4, none⟩ = some (.int .i64 n) := by rw [← hW]; clear hW; go_simp
  have hs1 : w.heap.size + 1 < w2.heap.size := by rw [← hW]; clear hW; go_simp
  have hs0 : w.heap.size < w2.heap.size := by omega
  have HEw := Lib.hid (show Ext w w2 by rw [← hW]; clear hW; (repeat (first | (with_reducible assumption) | (with_reducible exact Ext.refl _) | (with_reducible exact Ext.more _ _ _ _) | (with_reducible apply Ext.alloc) | (with_reducible apply Ext.patch) | (with_reducible apply Ext.drew) | (with_reducible apply Ext.drewN) | (with_reducible refine Ext.setCell ?_ (by first | assumption | exact Nat.le_refl _ | exact Nat.le_add_right _ _) _))))
  clear hW
  have q0 : ∀ ty, (Instr.next (.pointer (some ⟨w2.heap.size, 0, none⟩)) true ty).run Try.prog (w2.iter ⟨#[97, 98, 110]⟩ 0) = .ok (.tuple #[.bool true, .int .i64 0, .int .i32 97]) (w2.iter ⟨#[97, 98, 110]⟩ 1) := fun ty => run_next_ascii (P := Try.prog) w2 ⟨#[97, 98, 110]⟩ 0 ty (by decide) (by decide)
  have q1 : ∀ ty, (Instr.next (.pointer (some ⟨w2.heap.size, 0, none⟩)) true ty).run Try.prog (w2.iter ⟨#[97, 98, 110]⟩ 1) = .ok (.tuple #[.bool true, .int .i64 1, .int .i32 98]) (w2.iter ⟨#[97, 98, 110]⟩ 2) := fun ty => run_next_ascii (P := Try.prog) w2 ⟨#[97, 98, 110]⟩ 1 ty (by decide) (by decide)
  have q2 : ∀ ty, (Instr.next (.pointer (some ⟨w2.heap.size, 0, none⟩)) true ty).run Try.prog (w2.iter ⟨#[97, 98, 110]⟩ 2) = .ok (.tuple #[.bool true, .int .i64 2, .int .i32 110]) (w2.iter ⟨#[97, 98, 110]⟩ 3) := fun ty => run_next_ascii (P := Try.prog) w2 ⟨#[97, 98, 110]⟩ 2 ty (by decide) (by decide)
  have q3 := fun ty => run_next_end (P := Try.prog) w2 ⟨#[97, 98, 110]⟩ 3 ty (by decide)
  have ik1 : ∀ pos, (w2.iter ⟨#[97, 98, 110]⟩ pos).cell? ⟨w.heap.size + 1, 1, none⟩ = some (.int .i64 a) := fun pos => by unfold World.iter; exact (World.cell?_alloc_lt _ _ _ (show _ < w2.heap.size by first | exact hs1 | exact hs0)).trans k1
  have ik2 : ∀ pos, (w2.iter ⟨#[97, 98, 110]⟩ pos).cell? ⟨w.heap.size + 1, 2, none⟩ = some (.int .i64 b) := fun pos => by unfold World.iter; exact (World.cell?_alloc_lt _ _ _ (show _ < w2.heap.size by first | exact hs1 | exact hs0)).trans k2
  have ik0 : ∀ pos, (w2.iter ⟨#[97, 98, 110]⟩ pos).cell? ⟨w.heap.size + 1, 0, none⟩ = some (.int .i64 5) := fun pos => by unfold World.iter; exact (World.cell?_alloc_lt _ _ _ (show _ < w2.heap.size by first | exact hs1 | exact hs0)).trans k0
  have ig4 : ∀ pos, (w2.iter ⟨#[97, 98, 110]⟩ pos).cell? ⟨w.heap.size, 4, none⟩ = some (.int .i64 c.locals) := fun pos => by unfold World.iter; exact (World.cell?_alloc_lt _ _ _ (show _ < w2.heap.size by first | exact hs1 | exact hs0)).trans g4
  go_wp2_with fail
  refine wp_loop_rounds 4 ?_
  rw [rounds_succ]
  go_wp2
  rw [rounds_succ]
  go_wp2
  rw [rounds_succ]
  go_wp2
  rw [rounds_succ]
  go_wp2
  go_ret
  exact Gives.mk rfl (by unfold World.iter; exact HEw.out.alloc _)

set_option maxRecDepth 100000 in
set_option maxHeartbeats 1000000 in
theorem words_6 (w : World) : Calls Try.prog 99 #[.int .i64 6] w (Gives (.tuple #[.string ⟨#[112, 117, 116]⟩, .string ⟨#[97, 110, 98]⟩]) w) := by
  go_enter Try.func99, Try.ntmps99
  go_wp2
  go_quiet (fail)
  go_wp2
  go_ret2
  exact Gives.mk rfl (by (repeat (first | (with_reducible assumption) | (with_reducible exact Ext.refl _) | (with_reducible exact Ext.more _ _ _ _) | (with_reducible apply Ext.alloc) | (with_reducible apply Ext.patch) | (with_reducible apply Ext.drew) | (with_reducible apply Ext.drewN) | (with_reducible refine Ext.setCell ?_ (by first | assumption | exact Nat.le_refl _ | exact Nat.le_add_right _ _) _))))

set_option maxRecDepth 100000 in
set_option maxHeartbeats 1000000 in
theorem opCheck_6 (c : Cnf) (a b d n : Int) (x y : Nat) (w : World) (hc : c.Ok w) (h0 : c.check = 0) (ha : 0 ≤ a ∧ a < c.locals) (hb : 0 ≤ b ∧ b < c.locals) :
    Calls Try.prog 32 #[c.val, .agg #[.int .i64 6, .int .i64 a, .int .i64 b, .int .i64 d, .int .i64 n, .complex .f64 x y]] w (Gives (.int .i64 0) w) := by
  have HC := Lib.hid (fun w' (he : Ext w w') => check_any c w' (hc.ext he))
  have H0 := Lib.hid h0
  obtain ⟨ha0, ha1⟩ := ha
  obtain ⟨hb0, hb1⟩ := hb
  clear h0 hc
  unfold Cnf.val at HC ⊢
  go_enter Try.func32, Try.ntmps32
  go_wp2_with fail
  refine (words_6 _).mono ?_
  rintro e w1 ⟨rfl, X1, rfl⟩
  go_wp2_with fail
  refine (HC.out _ (by (repeat (first | (with_reducible assumption) | (with_reducible exact Ext.refl _) | (with_reducible exact Ext.more _ _ _ _) | (with_reducible apply Ext.alloc) | (with_reducible apply Ext.patch) | (with_reducible apply Ext.drew) | (with_reducible apply Ext.drewN) | (with_reducible refine Ext.setCell ?_ (by first | assumption | exact Nat.le_refl _ | exact Nat.le_add_right _ _) _))))).mono ?_
  rw [H0.out]
  rintro e w1 ⟨rfl, X2, rfl⟩
  obtain ⟨w2, hW⟩ : ∃ w2, (((w.alloc (.cells #[.int .i64 c.frags, .int .i64 c.spine, .int .i64 c.globals, .int .i64 c.threads, .int .i64 c.locals, .int .i64 c.cache, .int .i64 c.stack, .int .i64 c.low, .slice c.A c.shapes.length c.cap] 37)).alloc (.cells #[.int .i64 6, .int .i64 a, .int .i64 b, .int .i64 d, .int .i64 n, .complex .f64 x y] 28)).patch X1).patch X2 = w2 := ⟨_, rfl⟩
  rw [hW]
  have g2 : w2.cell? ⟨w.heap.size, 2, none⟩ = some (.int .i64 c.globals) := by rw [← hW]; clear hW; go_simp
  have g4 : w2.cell? ⟨w.heap.size, 4, none⟩ = some (.int .i64 c.locals) := by rw [← hW]; clear hW; go_simp
  have k0 : w2.cell? ⟨w.heap.size + 1, 0, none⟩ = some (.int .i64 6) := by rw [← hW]; clear hW; go_simp
  have k1 : w2.cell? ⟨w.heap.size + 1, 1, none⟩ = some (.int .i64 a) := by rw [← hW]; clear hW; go_simp
  have k2 : w2.cell? ⟨w.heap.size + 1, 2, none⟩ = some (.int .i64 b) := by rw [← hW]; clear hW; go_simp
  have k3 : w2.cell? ⟨w.heap.size + 1, 3, none⟩ = some (.int .i64 d) := by rw [← hW]; clear hW; go_simp
  have k4 : w2.cell? ⟨w.heap.size + 1, 4, none⟩ = some (.int .i64 n) := by rw [← hW]; clear hW; go_simp
  have hs1 : w.heap.size + 1 < w2.heap.size := by rw [← hW]; clear hW; go_simp
  have hs0 : w.heap.size < w2.heap.size := by omega
  have HEw := Lib.hid (show Ext w w2 by rw [← hW]; clear hW; (repeat (first | (with_reducible assumption) | (with_reducible exact Ext.refl _) | (with_reducible exact Ext.more _ _ _ _) | (with_reducible apply Ext.alloc) | (with_reducible apply Ext.patch) | (with_reducible apply Ext.drew) | (with_reducible apply Ext.drewN) | (with_reducible refine Ext.setCell ?_ (by first | assumption | exact Nat.le_refl _ | exact Nat.le_add_right _ _) _))))
  clear hW
  have q0 : ∀ ty, (Instr.next (.pointer (some ⟨w2.heap.size, 0, none⟩)) true ty).run Try.prog (w2.iter ⟨#[97, 110, 98]⟩ 0) = .ok (.tuple #[.bool true, .int .i64 0, .int .i32 97]) (w2.iter ⟨#[97, 110, 98]⟩ 1) := fun ty => run_next_ascii (P := Try.prog) w2 ⟨#[97, 110, 98]⟩ 0 ty (by decide) (by decide)
  have q1 : ∀ ty, (Instr.next (.pointer (some ⟨w2.heap.size, 0, none⟩)) true ty).run Try.prog (w2.iter ⟨#[97, 110, 98]⟩ 1) = .ok (.tuple #[.bool true, .int .i64 1, .int .i32 110]) (w2.iter ⟨#[97, 110, 98]⟩ 2) := fun ty => run_next_ascii (P := Try.prog) w2 ⟨#[97, 110, 98]⟩ 1 ty (by decide) (by decide)
  have q2 : ∀ ty, (Instr.next (.pointer (some ⟨w2.heap.size, 0, none⟩)) true ty).run Try.prog (w2.iter ⟨#[97, 110, 98]⟩ 2) = .ok (.tuple #[.bool true, .int .i64 2, .int .i32 98]) (w2.iter ⟨#[97, 110, 98]⟩ 3) := fun ty => run_next_ascii (P := Try.prog) w2 ⟨#[97, 110, 98]⟩ 2 ty (by decide) (by decide)
  have q3 := fun ty => run_next_end (P := Try.prog) w2 ⟨#[97, 110, 98]⟩ 3 ty (by decide)
  have ik1 : ∀ pos, (w2.iter ⟨#[97, 110, 98]⟩ pos).cell? ⟨w.heap.size + 1, 1, none⟩ = some (.int .i64 a) := fun pos => by unfold World.iter; exact (World.cell?_alloc_lt _ _ _ (show _ < w2.heap.size by first | exact hs1 | exact hs0)).trans k1
  have ik2 : ∀ pos, (w2.iter ⟨#[97, 110, 98]⟩ pos).cell? ⟨w.heap.size + 1, 2, none⟩ = some (.int .i64 b) := fun pos => by unfold World.iter; exact (World.cell?_alloc_lt _ _ _ (show _ < w2.heap.size by first | exact hs1 | exact hs0)).trans k2
  have ik0 : ∀ pos, (w2.iter ⟨#[97, 110, 98]⟩ pos).cell? ⟨w.heap.size + 1, 0, none⟩ = some (.int .i64 6) := fun pos => by unfold World.iter; exact (World.cell?_alloc_lt _ _ _ (show _ < w2.heap.size by first | exact hs1 | exact hs0)).trans k0
  have ig4 : ∀ pos, (w2.iter ⟨#[97, 110, 98]⟩ pos).cell? ⟨w.heap.size, 4, none⟩ = some (.int .i64 c.locals) := fun pos => by unfold World.iter; exact (World.cell?_alloc_lt _ _ _ (show _ < w2.heap.size by first | exact hs1 | exact hs0)).trans g4
  go_wp2_with fail
  refine wp_loop_rounds 4 ?_
  rw [rounds_succ]
  go_wp2
  rw [rounds_succ]
  go_wp2
  rw [rounds_succ]
  go_wp2
  rw [rounds_succ]
  go_wp2
  go_ret
  exact Gives.mk rfl (by unfold World.iter; exact HEw.out.alloc _)

end Go.Proofs.Ytlddahifhefjiaa
