/-
  op.words, op.Check of small operations. (The walks are printed by a program.)
-/
import Derived.Test.YtlddahifhefjiaaClone
import Derived.Test.YtlddahifhefjiaaOpSize
namespace Go.Proofs.Ytlddahifhefjiaa
open Go Go.RowKit
set_option linter.unusedVariables false
set_option maxRecDepth 100000 in
set_option maxHeartbeats 1000000 in
theorem words_7 (w : World) : Calls Try.prog 99 #[.int .i64 7] w (Gives (.tuple #[.string ⟨#[108, 111, 111, 107]⟩, .string ⟨#[97, 103]⟩]) w) := by
  go_enter Try.func99, Try.ntmps99
  go_wp2
  go_quiet (fail)
  go_wp2
  go_ret2
  exact Gives.mk rfl (by (repeat (first | (with_reducible assumption) | (with_reducible exact Ext.refl _) | (with_reducible exact Ext.more _ _ _ _) | (with_reducible apply Ext.alloc) | (with_reducible apply Ext.patch) | (with_reducible apply Ext.drew) | (with_reducible apply Ext.drewN) | (with_reducible refine Ext.setCell ?_ (by first | assumption | exact Nat.le_refl _ | exact Nat.le_add_right _ _) _))))

set_option maxRecDepth 100000 in
set_option maxHeartbeats 1000000 in
theorem opCheck_7 (c : Cnf) (a b d n : Int) (x y : Nat) (w : World) (hc : c.Ok w) (h0 : c.check = 0) (ha : 0 ≤ a ∧ a < c.locals) (hn : 0 ≤ n ∧ n < c.globals) :
    Calls Try.prog 32 #[c.val, .agg #[.int .i64 7, .int .i64 a, .int .i64 b, .int .i64 d, .int .i64 n, .complex .f64 x y]] w (Gives (.int .i64 0) w) := by
  have HC := Lib.hid (fun w' (he : Ext w w') => check_any c w' (hc.ext he))
  have H0 := Lib.hid h0
  obtain ⟨ha0, ha1⟩ := ha
  obtain ⟨hn0, hn1⟩ := hn
  clear h0 hc
  unfold Cnf.val at HC ⊢
  go_enter Try.func32, Try.ntmps32
  go_wp2_with fail
  refine (words_7 _).mono ?_
  rintro e w1 ⟨rfl, X1, rfl⟩
  go_wp2_with fail
  refine (HC.out _ (by (repeat (first | (with_reducible assumption) | (with_reducible exact Ext.refl _) | (with_reducible exact Ext.more _ _ _ _) | (with_reducible apply Ext.alloc) | (with_reducible apply Ext.patch) | (with_reducible apply Ext.drew) | (with_reducible apply Ext.drewN) | (with_reducible refine Ext.setCell ?_ (by first | assumption | exact Nat.le_refl _ | exact Nat.le_add_right _ _) _))))).mono ?_
  rw [H0.out]
  rintro e w1 ⟨rfl, X2, rfl⟩
  obtain ⟨w2, hW⟩ : ∃ w2, (((w.alloc (.cells #[.int .i64 c.frags, .int .i64 c.spine, .int .i64 c.globals, .int .i64 c.threads, .int .i64 c.locals, .int .i64 c.cache, .int .i64 c.stack, .int .i64 c.low, .slice c.A c.shapes.length c.cap] 37)).alloc (.cells #[.int .i64 7, .int .i64 a, .int .i64 b, .int .i64 d, .int .i64 n, .complex .f64 x y] 28)).patch X1).patch X2 = w2 := ⟨_, rfl⟩
  rw [hW]
  have g2 : w2.cell? ⟨w.heap.size, 2, none⟩ = some (.int .i64 c.globals) := by rw [← hW]; clear hW; go_simp
  have g4 : w2.cell? ⟨w.heap.size, 4, none⟩ = some (.int .i64 c.locals) := by rw [← hW]; clear hW; go_simp
  have k0 : w2.cell? ⟨w.heap.size + 1, 0, none⟩ = some (.int .i64 7) := by rw [← hW]; clear hW; go_simp
  have k1 : w2.cell? ⟨w.heap.size + 1, 1, none⟩ = some (.int .i64 a) := by rw [← hW]; clear hW; go_simp
  have k2 : w2.cell? ⟨w.heap.size + 1, 2, none⟩ = some (.int .i64 b) := by rw [← hW]; clear hW; go_simp
  have k3 : w2.cell? ⟨w.heap.size + 1, 3, none⟩ = some (.int .i64 d) := by rw [← hW]; clear hW; go_simp
  have k4 : w2.cell? ⟨w.heap.size + 1, 4, none⟩ = some (.int .i64 n) := by rw [← hW]; clear hW; go_simp
  have hs1 : w.heap.size + 1 < w2.heap.size := by rw [← hW]; clear hW; go_simp
  have hs0 : w.heap.size < w2.heap.size := by omega
  have HEw := Lib.hid (show Ext w w2 by rw [← hW]; clear hW; (repeat (first | (with_reducible assumption) | (with_reducible exact Ext.refl _) | (with_reducible exact Ext.more _ _ _ _) | (with_reducible apply Ext.alloc) | (with_reducible apply Ext.patch) | (with_reducible apply Ext.drew) | (with_reducible apply Ext.drewN) | (with_reducible refine Ext.setCell ?_ (by first | assumption | exact Nat.le_refl _ | exact Nat.le_add_right _ _) _))))
  clear hW
  have q0 : ∀ ty, (Instr.next (.pointer (some ⟨w2.heap.size, 0, none⟩)) true ty).run Try.prog (w2.iter ⟨#[97, 103]⟩ 0) = .ok (.tuple #[.bool true, .int .i64 0, .int .i32 97]) (w2.iter ⟨#[97, 103]⟩ 1) := fun ty => run_next_ascii (P := Try.prog) w2 ⟨#[97, 103]⟩ 0 ty (by decide) (by decide)
  have q1 : ∀ ty, (Instr.next (.pointer (some ⟨w2.heap.size, 0, none⟩)) true ty).run Try.prog (w2.iter ⟨#[97, 103]⟩ 1) = .ok (.tuple #[.bool true, .int .i64 1, .int .i32 103]) (w2.iter ⟨#[97, 103]⟩ 2) := fun ty => run_next_ascii (P := Try.prog) w2 ⟨#[97, 103]⟩ 1 ty (by decide) (by decide)
  have q2 := fun ty => run_next_end (P := Try.prog) w2 ⟨#[97, 103]⟩ 2 ty (by decide)
  have ik1 : ∀ pos, (w2.iter ⟨#[97, 103]⟩ pos).cell? ⟨w.heap.size + 1, 1, none⟩ = some (.int .i64 a) := fun pos => by unfold World.iter; exact (World.cell?_alloc_lt _ _ _ (show _ < w2.heap.size by first | exact hs1 | exact hs0)).trans k1
  have ik4 : ∀ pos, (w2.iter ⟨#[97, 103]⟩ pos).cell? ⟨w.heap.size + 1, 4, none⟩ = some (.int .i64 n) := fun pos => by unfold World.iter; exact (World.cell?_alloc_lt _ _ _ (show _ < w2.heap.size by first | exact hs1 | exact hs0)).trans k4
  have ig2 : ∀ pos, (w2.iter ⟨#[97, 103]⟩ pos).cell? ⟨w.heap.size, 2, none⟩ = some (.int .i64 c.globals) := fun pos => by unfold World.iter; exact (World.cell?_alloc_lt _ _ _ (show _ < w2.heap.size by first | exact hs1 | exact hs0)).trans g2
  have ik0 : ∀ pos, (w2.iter ⟨#[97, 103]⟩ pos).cell? ⟨w.heap.size + 1, 0, none⟩ = some (.int .i64 7) := fun pos => by unfold World.iter; exact (World.cell?_alloc_lt _ _ _ (show _ < w2.heap.size by first | exact hs1 | exact hs0)).trans k0
  have ig4 : ∀ pos, (w2.iter ⟨#[97, 103]⟩ pos).cell? ⟨w.heap.size, 4, none⟩ = some (.int .i64 c.locals) := fun pos => by unfold World.iter; exact (World.cell?_alloc_lt _ _ _ (show _ < w2.heap.size by first | exact hs1 | exact hs0)).trans g4
  go_wp2_with fail
  refine wp_loop_rounds 3 ?_
  rw [rounds_succ]
  go_wp2
  rw [rounds_succ]
  go_wp2
  rw [rounds_succ]
  go_wp2
  go_ret
  exact Gives.mk rfl (by unfold World.iter; exact HEw.out.alloc _)

set_option maxRecDepth 100000 in
set_option maxHeartbeats 1000000 in
theorem words_8 (w : World) : Calls Try.prog 99 #[.int .i64 8] w (Gives (.tuple #[.string ⟨#[115, 101, 116]⟩, .string ⟨#[103, 98]⟩]) w) := by
  go_enter Try.func99, Try.ntmps99
  go_wp2
  go_quiet (fail)
  go_wp2
  go_ret2
  exact Gives.mk rfl (by (repeat (first | (with_reducible assumption) | (with_reducible exact Ext.refl _) | (with_reducible exact Ext.more _ _ _ _) | (with_reducible apply Ext.alloc) | (with_reducible apply Ext.patch) | (with_reducible apply Ext.drew) | (with_reducible apply Ext.drewN) | (with_reducible refine Ext.setCell ?_ (by first | assumption | exact Nat.le_refl _ | exact Nat.le_add_right _ _) _))))

set_option maxRecDepth 100000 in
set_option maxHeartbeats 1000000 in
theorem opCheck_8 (c : Cnf) (a b d n : Int) (x y : Nat) (w : World) (hc : c.Ok w) (h0 : c.check = 0) (hb : 0 ≤ b ∧ b < c.locals) (hn : 0 ≤ n ∧ n < c.globals) :
    Calls Try.prog 32 #[c.val, .agg #[.int .i64 8, .int .i64 a, .int .i64 b, .int .i64 d, .int .i64 n, .complex .f64 x y]] w (Gives (.int .i64 0) w) := by
  have HC := Lib.hid (fun w' (he : Ext w w') => check_any c w' (hc.ext he))
  have H0 := Lib.hid h0
  obtain ⟨hb0, hb1⟩ := hb
  obtain ⟨hn0, hn1⟩ := hn
  clear h0 hc
  unfold Cnf.val at HC ⊢
  go_enter Try.func32, Try.ntmps32
  go_wp2_with fail
  refine (words_8 _).mono ?_
  rintro e w1 ⟨rfl, X1, rfl⟩
  go_wp2_with fail
  refine (HC.out _ (by (repeat (first | (with_reducible assumption) | (with_reducible exact Ext.refl _) | (with_reducible exact Ext.more _ _ _ _) | (with_reducible apply Ext.alloc) | (with_reducible apply Ext.patch) | (with_reducible apply Ext.drew) | (with_reducible apply Ext.drewN) | (with_reducible refine Ext.setCell ?_ (by first | assumption | exact Nat.le_refl _ | exact Nat.le_add_right _ _) _))))).mono ?_
  rw [H0.out]
  rintro e w1 ⟨rfl, X2, rfl⟩
  obtain ⟨w2, hW⟩ : ∃ w2, (((w.alloc (.cells #[.int .i64 c.frags, .int .i64 c.spine, .int .i64 c.globals, .int .i64 c.threads, .int .i64 c.locals, .int .i64 c.cache, .int .i64 c.stack, .int .i64 c.low, .slice c.A c.shapes.length c.cap] 37)).alloc (.cells #[.int .i64 8, .int .i64 a, .int .i64 b, .int .i64 d, .int .i64 n, .complex .f64 x y] 28)).patch X1).patch X2 = w2 := ⟨_, rfl⟩
  rw [hW]
  have g2 : w2.cell? ⟨w.heap.size, 2, none⟩ = some (.int .i64 c.globals) := by rw [← hW]; clear hW; go_simp
  have g4 : w2.cell? ⟨w.heap.size, 4, none⟩ = some (.int .i64 c.locals) := by rw [← hW]; clear hW; go_simp
  have k0 : w2.cell? ⟨w.heap.size + 1, 0, none⟩ = some (.int .i64 8) := by rw [← hW]; clear hW; go_simp
  have k1 : w2.cell? ⟨w.heap.size + 1, 1, none⟩ = some (.int .i64 a) := by rw [← hW]; clear hW; go_simp
  have k2 : w2.cell? ⟨w.heap.size + 1, 2, none⟩ = some (.int .i64 b) := by rw [← hW]; clear hW; go_simp
  have k3 : w2.cell? ⟨w.heap.size + 1, 3, none⟩ = some (.int .i64 d) := by rw [← hW]; clear hW; go_simp
  have k4 : w2.cell? ⟨w.heap.size + 1, 4, none⟩ = some (.int .i64 n) := by rw [← hW]; clear hW; go_simp
  have hs1 : w.heap.size + 1 < w2.heap.size := by rw [← hW]; clear hW; go_simp
  have hs0 : w.heap.size < w2.heap.size := by omega
  have HEw := Lib.hid (show Ext w w2 by rw [← hW]; clear hW; (repeat (first | (with_reducible assumption) | (with_reducible exact Ext.refl _) | (with_reducible exact Ext.more _ _ _ _) | (with_reducible apply Ext.alloc) | (with_reducible apply Ext.patch) | (with_reducible apply Ext.drew) | (with_reducible apply Ext.drewN) | (with_reducible refine Ext.setCell ?_ (by first | assumption | exact Nat.le_refl _ | exact Nat.le_add_right _ _) _))))
  clear hW
  have q0 : ∀ ty, (Instr.next (.pointer (some ⟨w2.heap.size, 0, none⟩)) true ty).run Try.prog (w2.iter ⟨#[103, 98]⟩ 0) = .ok (.tuple #[.bool true, .int .i64 0, .int .i32 103]) (w2.iter ⟨#[103, 98]⟩ 1) := fun ty => run_next_ascii (P := Try.prog) w2 ⟨#[103, 98]⟩ 0 ty (by decide) (by decide)
  have q1 : ∀ ty, (Instr.next (.pointer (some ⟨w2.heap.size, 0, none⟩)) true ty).run Try.prog (w2.iter ⟨#[103, 98]⟩ 1) = .ok (.tuple #[.bool true, .int .i64 1, .int .i32 98]) (w2.iter ⟨#[103, 98]⟩ 2) := fun ty => run_next_ascii (P := Try.prog) w2 ⟨#[103, 98]⟩ 1 ty (by decide) (by decide)
  have q2 := fun ty => run_next_end (P := Try.prog) w2 ⟨#[103, 98]⟩ 2 ty (by decide)
  have ik2 : ∀ pos, (w2.iter ⟨#[103, 98]⟩ pos).cell? ⟨w.heap.size + 1, 2, none⟩ = some (.int .i64 b) := fun pos => by unfold World.iter; exact (World.cell?_alloc_lt _ _ _ (show _ < w2.heap.size by first | exact hs1 | exact hs0)).trans k2
  have ik4 : ∀ pos, (w2.iter ⟨#[103, 98]⟩ pos).cell? ⟨w.heap.size + 1, 4, none⟩ = some (.int .i64 n) := fun pos => by unfold World.iter; exact (World.cell?_alloc_lt _ _ _ (show _ < w2.heap.size by first | exact hs1 | exact hs0)).trans k4
  have ig2 : ∀ pos, (w2.iter ⟨#[103, 98]⟩ pos).cell? ⟨w.heap.size, 2, none⟩ = some (.int .i64 c.globals) := fun pos => by unfold World.iter; exact (World.cell?_alloc_lt _ _ _ (show _ < w2.heap.size by first | exact hs1 | exact hs0)).trans g2
  have ik0 : ∀ pos, (w2.iter ⟨#[103, 98]⟩ pos).cell? ⟨w.heap.size + 1, 0, none⟩ = some (.int .i64 8) := fun pos => by unfold World.iter; exact (World.cell?_alloc_lt _ _ _ (show _ < w2.heap.size by first | exact hs1 | exact hs0)).trans k0
  have ig4 : ∀ pos, (w2.iter ⟨#[103, 98]⟩ pos).cell? ⟨w.heap.size, 4, none⟩ = some (.int .i64 c.locals) := fun pos => by unfold World.iter; exact (World.cell?_alloc_lt _ _ _ (show _ < w2.heap.size by first | exact hs1 | exact hs0)).trans g4
  go_wp2_with fail
  refine wp_loop_rounds 3 ?_
  rw [rounds_succ]
  go_wp2
  rw [rounds_succ]
  go_wp2
  rw [rounds_succ]
  go_wp2
  go_ret
  exact Gives.mk rfl (by unfold World.iter; exact HEw.out.alloc _)

set_option maxRecDepth 100000 in
set_option maxHeartbeats 1000000 in
theorem words_9 (w : World) : Calls Try.prog 99 #[.int .i64 9] w (Gives (.tuple #[.string ⟨#[115, 97, 109, 101]⟩, .string ⟨#[97, 98, 99]⟩]) w) := by
  go_enter Try.func99, Try.ntmps99
  go_wp2
  go_quiet (fail)
  go_wp2
  go_ret2
  exact Gives.mk rfl (by (repeat (first | (with_reducible assumption) | (with_reducible exact Ext.refl _) | (with_reducible exact Ext.more _ _ _ _) | (with_reducible apply Ext.alloc) | (with_reducible apply Ext.patch) | (with_reducible apply Ext.drew) | (with_reducible apply Ext.drewN) | (with_reducible refine Ext.setCell ?_ (by first | assumption | exact Nat.le_refl _ | exact Nat.le_add_right _ _) _))))

set_option maxRecDepth 100000 in
set_option maxHeartbeats 1000000 in
theorem opCheck_9 (c : Cnf) (a b d n : Int) (x y : Nat) (w : World) (hc : c.Ok w) (h0 : c.check = 0) (ha : 0 ≤ a ∧ a < c.locals) (hb : 0 ≤ b ∧ b < c.locals) (hd : 0 ≤ d ∧ d < c.locals) :
    Calls Try.prog 32 #[c.val, .agg #[.int .i64 9, .int .i64 a, .int .i64 b, .int .i64 d, .int .i64 n, .complex .f64 x y]] w (Gives (.int .i64 0) w) := by
  have HC := Lib.hid (fun w' (he : Ext w w') => check_any c w' (hc.ext he))
  have H0 := Lib.hid h0
  obtain ⟨ha0, ha1⟩ := ha
  obtain ⟨hb0, hb1⟩ := hb
  obtain ⟨hd0, hd1⟩ := hd
  clear h0 hc
  unfold Cnf.val at HC ⊢
  go_enter Try.func32, Try.ntmps32
  go_wp2_with fail
  refine (words_9 _).mono ?_
  rintro e w1 ⟨rfl, X1, rfl⟩
  go_wp2_with fail
  refine (HC.out _ (by (repeat (first | (with_reducible assumption) | (with_reducible exact Ext.refl _) | (with_reducible exact Ext.more _ _ _ _) | (with_reducible apply Ext.alloc) | (with_reducible apply Ext.patch) | (with_reducible apply Ext.drew) | (with_reducible apply Ext.drewN) | (with_reducible refine Ext.setCell ?_ (by first | assumption | exact Nat.le_refl _ | exact Nat.le_add_right _ _) _))))).mono ?_
  rw [H0.out]
  rintro e w1 ⟨rfl, X2, rfl⟩
  obtain ⟨w2, hW⟩ : ∃ w2, (((w.alloc (.cells #[.int .i64 c.frags, .int .i64 c.spine, .int .i64 c.globals, .int .i64 c.threads, .int .i64 c.locals, .int .i64 c.cache, .int .i64 c.stack, .int .i64 c.low, .slice c.A c.shapes.length c.cap] 37)).alloc (.cells #[.int .i64 9, .int .i64 a, .int .i64 b, .int .i64 d, .int .i64 n, .complex .f64 x y] 28)).patch X1).patch X2 = w2 := ⟨_, rfl⟩
  rw [hW]
  have g2 : w2.cell? ⟨w.heap.size, 2, none⟩ = some (.int .i64 c.globals) := by rw [← hW]; clear hW; go_simp
  have g4 : w2.cell? ⟨w.heap.size, 4, none⟩ = some (.int .i64 c.locals) := by rw [← hW]; clear hW; go_simp
  have k0 : w2.cell? ⟨w.heap.size + 1, 0, none⟩ = some (.int .i64 9) := by rw [← hW]; clear hW; go_simp
  have k1 : w2.cell? ⟨w.heap.size + 1, 1, none⟩ = some (.int .i64 a) := by rw [← hW]; clear hW; go_simp
  have k2 : w2.cell? ⟨w.heap.size + 1, 2, none⟩ = some (.int .i64 b) := by rw [← hW]; clear hW; go_simp
  have k3 : w2.cell? ⟨w.heap.size + 1, 3, none⟩ = some (.int .i64 d) := by rw [← hW]; clear hW; go_simp
  have k4 : w2.cell? ⟨w.heap.size + 1, 4, none⟩ = some (.int .i64 n) := by rw [← hW]; clear hW; go_simp
  have hs1 : w.heap.size + 1 < w2.heap.size := by rw [← hW]; clear hW; go_simp
  have hs0 : w.heap.size < w2.heap.size := by omega
  have HEw := Lib.hid (show Ext w w2 by rw [← hW]; clear hW; (repeat (first | (with_reducible assumption) | (with_reducible exact Ext.refl _) | (with_reducible exact Ext.more _ _ _ _) | (with_reducible apply Ext.alloc) | (with_reducible apply Ext.patch) | (with_reducible apply Ext.drew) | (with_reducible apply Ext.drewN) | (with_reducible refine Ext.setCell ?_ (by first | assumption | exact Nat.le_refl _ | exact Nat.le_add_right _ _) _))))
  clear hW
  have q0 : ∀ ty, (Instr.next (.pointer (some ⟨w2.heap.size, 0, none⟩)) true ty).run Try.prog (w2.iter ⟨#[97, 98, 99]⟩ 0) = .ok (.tuple #[.bool true, .int .i64 0, .int .i32 97]) (w2.iter ⟨#[97, 98, 99]⟩ 1) := fun ty => run_next_ascii (P := Try.prog) w2 ⟨#[97, 98, 99]⟩ 0 ty (by decide) (by decide)
  have q1 : ∀ ty, (Instr.next (.pointer (some ⟨w2.heap.size, 0, none⟩)) true ty).run Try.prog (w2.iter ⟨#[97, 98, 99]⟩ 1) = .ok (.tuple #[.bool true, .int .i64 1, .int .i32 98]) (w2.iter ⟨#[97, 98, 99]⟩ 2) := fun ty => run_next_ascii (P := Try.prog) w2 ⟨#[97, 98, 99]⟩ 1 ty (by decide) (by decide)
  have q2 : ∀ ty, (Instr.next (.pointer (some ⟨w2.heap.size, 0, none⟩)) true ty).run Try.prog (w2.iter ⟨#[97, 98, 99]⟩ 2) = .ok (.tuple #[.bool true, .int .i64 2, .int .i32 99]) (w2.iter ⟨#[97, 98, 99]⟩ 3) := fun ty => run_next_ascii (P := Try.prog) w2 ⟨#[97, 98, 99]⟩ 2 ty (by decide) (by decide)
  have q3 := fun ty => run_next_end (P := Try.prog) w2 ⟨#[97, 98, 99]⟩ 3 ty (by decide)
  have ik1 : ∀ pos, (w2.iter ⟨#[97, 98, 99]⟩ pos).cell? ⟨w.heap.size + 1, 1, none⟩ = some (.int .i64 a) := fun pos => by unfold World.iter; exact (World.cell?_alloc_lt _ _ _ (show _ < w2.heap.size by first | exact hs1 | exact hs0)).trans k1
  have ik2 : ∀ pos, (w2.iter ⟨#[97, 98, 99]⟩ pos).cell? ⟨w.heap.size + 1, 2, none⟩ = some (.int .i64 b) := fun pos => by unfold World.iter; exact (World.cell?_alloc_lt _ _ _ (show _ < w2.heap.size by first | exact hs1 | exact hs0)).trans k2
  have ik3 : ∀ pos, (w2.iter ⟨#[97, 98, 99]⟩ pos).cell? ⟨w.heap.size + 1, 3, none⟩ = some (.int .i64 d) := fun pos => by unfold World.iter; exact (World.cell?_alloc_lt _ _ _ (show _ < w2.heap.size by first | exact hs1 | exact hs0)).trans k3
  have ik0 : ∀ pos, (w2.iter ⟨#[97, 98, 99]⟩ pos).cell? ⟨w.heap.size + 1, 0, none⟩ = some (.int .i64 9) := fun pos => by unfold World.iter; exact (World.cell?_alloc_lt _ _ _ (show _ < w2.heap.size by first | exact hs1 | exact hs0)).trans k0
  have ig4 : ∀ pos, (w2.iter ⟨#[97, 98, 99]⟩ pos).cell? ⟨w.heap.size, 4, none⟩ = some (.int .i64 c.locals) := fun pos => by unfold World.iter; exact (World.cell?_alloc_lt _ _ _ (show _ < w2.heap.size by first | exact hs1 | exact hs0)).trans g4
  go_wp2_with fail
  refine wp_loop_rounds 4 ?_
  rw [rounds_succ]
  go_wp2
  rw [rounds_succ]
  go_wp2
  rw [rounds_succ]
  go_wp2
  rw [rounds_succ]
  go_wp2
  go_ret
  exact Gives.mk rfl (by unfold World.iter; exact HEw.out.alloc _)

set_option maxRecDepth 100000 in
set_option maxHeartbeats 1000000 in
theorem words_10 (w : World) : Calls Try.prog 99 #[.int .i64 10] w (Gives (.tuple #[.string ⟨#[108, 101, 110, 103, 116, 104]⟩, .string ⟨#[97, 98]⟩]) w) := by
  go_enter Try.func99, Try.ntmps99
  go_wp2
  go_quiet (fail)
  go_wp2
  go_ret2
  exact Gives.mk rfl (by (repeat (first | (with_reducible assumption) | (with_reducible exact Ext.refl _) | (with_reducible exact Ext.more _ _ _ _) | (with_reducible apply Ext.alloc) | (with_reducible apply Ext.patch) | (with_reducible apply Ext.drew) | (with_reducible apply Ext.drewN) | (with_reducible refine Ext.setCell ?_ (by first | assumption | exact Nat.le_refl _ | exact Nat.le_add_right _ _) _))))

set_option maxRecDepth 100000 in
set_option maxHeartbeats 1000000 in
theorem opCheck_10 (c : Cnf) (a b d n : Int) (x y : Nat) (w : World) (hc : c.Ok w) (h0 : c.check = 0) (ha : 0 ≤ a ∧ a < c.locals) (hb : 0 ≤ b ∧ b < c.locals) :
    Calls Try.prog 32 #[c.val, .agg #[.int .i64 10, .int .i64 a, .int .i64 b, .int .i64 d, .int .i64 n, .complex .f64 x y]] w (Gives (.int .i64 0) w) := by
  have HC := Lib.hid (fun w' (he : Ext w w') => check_any c w' (hc.ext he))
  have H0 := Lib.hid h0
  obtain ⟨ha0, ha1⟩ := ha
  obtain ⟨hb0, hb1⟩ := hb
  clear h0 hc
  unfold Cnf.val at HC ⊢
  go_enter Try.func32, Try.ntmps32
  go_wp2_with fail
  refine (words_10 _).mono ?_
  rintro e w1 ⟨rfl, X1, rfl⟩
  go_wp2_with fail
  refine (HC.out _ (by (repeat (first | (with_reducible assumption) | (with_reducible exact Ext.refl _) | (with_reducible exact Ext.more _ _ _ _) | (with_reducible apply Ext.alloc) | (with_reducible apply Ext.patch) | (with_reducible apply Ext.drew) | (with_reducible apply Ext.drewN) | (with_reducible refine Ext.setCell ?_ (by first | assumption | exact Nat.le_refl _ | exact Nat.le_add_right _ _) _))))).mono ?_
  rw [H0.out]
  rintro e w1 ⟨rfl, X2, rfl⟩
  obtain ⟨w2, hW⟩ : ∃ w2, (((w.alloc (.cells #[.int .i64 c.frags, .int .i64 c.spine, .int .i64 c.globals, .int .i64 c.threads, .int .i64 c.locals, .int .i64 c.cache, .int .i64 c.stack, .int .i64 c.low, .slice c.A c.shapes.length c.cap] 37)).alloc (.cells #[.int .i64 10, .int .i64 a, .int .i64 b, .int .i64 d, .int .i64 n, .complex .f64 x y] 28)).patch X1).patch X2 = w2 := ⟨_, rfl⟩
  rw [hW]
  have g2 : w2.cell? ⟨w.heap.size, 2, none⟩ = some (.int .i64 c.globals) := by rw [← hW]; clear hW; go_simp
  have g4 : w2.cell? ⟨w.heap.size, 4, none⟩ = some (.int .i64 c.locals) := by rw [← hW]; clear hW; go_simp
  have k0 : w2.cell? ⟨w.heap.size + 1, 0, none⟩ = some (.int .i64 10) := by rw [← hW]; clear hW; go_simp
  have k1 : w2.cell? ⟨w.heap.size + 1, 1, none⟩ = some (.int .i64 a) := by rw [← hW]; clear hW; go_simp
  have k2 : w2.cell? ⟨w.heap.size + 1, 2, none⟩ = some (.int .i64 b) := by rw [← hW]; clear hW; go_simp
  have k3 : w2.cell? ⟨w.heap.size + 1, 3, none⟩ = some (.int .i64 d) := by rw [← hW]; clear hW; go_simp
  have k4 : w2.cell? ⟨w.heap.size + 1, 4, none⟩ = some (.int .i64 n) := by rw [← hW]; clear hW; go_simp
  have hs1 : w.heap.size + 1 < w2.heap.size := by rw [← hW]; clear hW; go_simp
  have hs0 : w.heap.size < w2.heap.size := by omega
  have HEw := Lib.hid (show Ext w w2 by rw [← hW]; clear hW; (repeat (first | (with_reducible assumption) | (with_reducible exact Ext.refl _) | (with_reducible exact Ext.more _ _ _ _) | (with_reducible apply Ext.alloc) | (with_reducible apply Ext.patch) | (with_reducible apply Ext.drew) | (with_reducible apply Ext.drewN) | (with_reducible refine Ext.setCell ?_ (by first | assumption | exact Nat.le_refl _ | exact Nat.le_add_right _ _) _))))
  clear hW
  have q0 : ∀ ty, (Instr.next (.pointer (some ⟨w2.heap.size, 0, none⟩)) true ty).run Try.prog (w2.iter ⟨#[97, 98]⟩ 0) = .ok (.tuple #[.bool true, .int .i64 0, .int .i32 97]) (w2.iter ⟨#[97, 98]⟩ 1) := fun ty => run_next_ascii (P := Try.prog) w2 ⟨#[97, 98]⟩ 0 ty (by decide) (by decide)
  have q1 : ∀ ty, (Instr.next (.pointer (some ⟨w2.heap.size, 0, none⟩)) true ty).run Try.prog (w2.iter ⟨#[97, 98]⟩ 1) = .ok (.tuple #[.bool true, .int .i64 1, .int .i32 98]) (w2.iter ⟨#[97, 98]⟩ 2) := fun ty => run_next_ascii (P := Try.prog) w2 ⟨#[97, 98]⟩ 1 ty (by decide) (by decide)
  have q2 := fun ty => run_next_end (P := Try.prog) w2 ⟨#[97, 98]⟩ 2 ty (by decide)
  have ik1 : ∀ pos, (w2.iter ⟨#[97, 98]⟩ pos).cell? ⟨w.heap.size + 1, 1, none⟩ = some (.int .i64 a) := fun pos => by unfold World.iter; exact (World.cell?_alloc_lt _ _ _ (show _ < w2.heap.size by first | exact hs1 | exact hs0)).trans k1
  have ik2 : ∀ pos, (w2.iter ⟨#[97, 98]⟩ pos).cell? ⟨w.heap.size + 1, 2, none⟩ = some (.int .i64 b) := fun pos => by unfold World.iter; exact (World.cell?_alloc_lt _ _ _ (show _ < w2.heap.size by first | exact hs1 | exact hs0)).trans k2
  have ik0 : ∀ pos, (w2.iter ⟨#[97, 98]⟩ pos).cell? ⟨w.heap.size + 1, 0, none⟩ = some (.int .i64 10) := fun pos => by unfold World.iter; exact (World.cell?_alloc_lt _ _ _ (show _ < w2.heap.size by first | exact hs1 | exact hs0)).trans k0
  have ig4 : ∀ pos, (w2.iter ⟨#[97, 98]⟩ pos).cell? ⟨w.heap.size, 4, none⟩ = some (.int .i64 c.locals) := fun pos => by unfold World.iter; exact (World.cell?_alloc_lt _ _ _ (show _ < w2.heap.size by first | exact hs1 | exact hs0)).trans g4
  go_wp2_with fail
  refine wp_loop_rounds 3 ?_
  rw [rounds_succ]
  go_wp2
  rw [rounds_succ]
  go_wp2
  rw [rounds_succ]
  go_wp2
  go_ret
  exact Gives.mk rfl (by unfold World.iter; exact HEw.out.alloc _)

set_option maxRecDepth 100000 in
set_option maxHeartbeats 1000000 in
theorem words_11 (w : World) : Calls Try.prog 99 #[.int .i64 11] w (Gives (.tuple #[.string ⟨#[107, 105, 110, 100]⟩, .string ⟨#[97, 98]⟩]) w) := by
  go_enter Try.func99, Try.ntmps99
  go_wp2
  go_quiet (fail)
  go_wp2
  go_ret2
  exact Gives.mk rfl (by (repeat (first | (with_reducible assumption) | (with_reducible exact Ext.refl _) | (with_reducible exact Ext.more _ _ _ _) | (with_reducible apply Ext.alloc) | (with_reducible apply Ext.patch) | (with_reducible apply Ext.drew) | (with_reducible apply Ext.drewN) | (with_reducible refine Ext.setCell ?_ (by first | assumption | exact Nat.le_refl _ | exact Nat.le_add_right _ _) _))))

set_option maxRecDepth 100000 in
set_option maxHeartbeats 1000000 in
theorem opCheck_11 (c : Cnf) (a b d n : Int) (x y : Nat) (w : World) (hc : c.Ok w) (h0 : c.check = 0) (ha : 0 ≤ a ∧ a < c.locals) (hb : 0 ≤ b ∧ b < c.locals) :
    Calls Try.prog 32 #[c.val, .agg #[.int .i64 11, .int .i64 a, .int .i64 b, .int .i64 d, .int .i64 n, .complex .f64 x y]] w (Gives (.int .i64 0) w) := by
  have HC := Lib.hid (fun w' (he : Ext w w') => check_any c w' (hc.ext he))
  have H0 := Lib.hid h0
  obtain ⟨ha0, ha1⟩ := ha
  obtain ⟨hb0, hb1⟩ := hb
  clear h0 hc
  unfold Cnf.val at HC ⊢
  go_enter Try.func32, Try.ntmps32
  go_wp2_with fail
  refine (words_11 _).mono ?_
  rintro e w1 ⟨rfl, X1, rfl⟩
  go_wp2_with fail
  refine (HC.out _ (by (repeat (first | (with_reducible assumption) | (with_reducible exact Ext.refl _) | (with_reducible exact Ext.more _ _ _ _) | (with_reducible apply Ext.alloc) | (with_reducible apply Ext.patch) | (with_reducible apply Ext.drew) | (with_reducible apply Ext.drewN) | (with_reducible refine Ext.setCell ?_ (by first | assumption | exact Nat.le_refl _ | exact Nat.le_add_right _ _) _))))).mono ?_
  rw [H0.out]
  rintro e w1 ⟨rfl, X2, rfl⟩
  obtain ⟨w2, hW⟩ : ∃ w2, (((w.alloc (.cells #[.int .i64 c.frags, .int .i64 c.spine, .int .i64 c.globals, .int .i64 c.threads, .int .i64 c.locals, .int .i64 c.cache, .int .i64 c.stack, .int .i64 c.low, .slice c.A c.shapes.length c.cap] 37)).alloc (.cells #[.int .i64 11, .int .i64 a, .int .i64 b, .int .i64 d, .int .i64 n, .complex .f64 x y] 28)).patch X1).patch X2 = w2 := ⟨_, rfl⟩
  rw [hW]
  have g2 : w2.cell? ⟨w.heap.size, 2, none⟩ = some (.int .i64 c.globals) := by rw [← hW]; clear hW; go_simp
  have g4 : w2.cell? ⟨w.heap.size, 4, none⟩ = some (.int .i64 c.locals) := by rw [← hW]; clear hW; go_simp
  have k0 : w2.cell? ⟨w.heap.size + 1, 0, none⟩ = some (.int .i64 11) := by rw [← hW]; clear hW; go_simp
  have k1 : w2.cell? ⟨w.heap.size + 1, 1, none⟩ = some (.int .i64 a) := by rw [← hW]; clear hW; go_simp
  have k2 : w2.cell? ⟨w.heap.size + 1, 2, none⟩ = some (.int .i64 b) := by rw [← hW]; clear hW; go_simp
  have k3 : w2.cell? ⟨w.heap.size + 1, 3, none⟩ = some (.int .i64 d) := by rw [← hW]; clear hW; go_simp
  have k4 : w2.cell? ⟨w.heap.size + 1, 4, none⟩ = some (.int .i64 n) := by rw [← hW]; clear hW; go_simp
  have hs1 : w.heap.size + 1 < w2.heap.size := by rw [← hW]; clear hW; go_simp
  have hs0 : w.heap.size < w2.heap.size := by omega
  have HEw := Lib.hid (show Ext w w2 by rw [← hW]; clear hW; (repeat (first | (with_reducible assumption) | (with_reducible exact Ext.refl _) | (with_reducible exact Ext.more _ _ _ _) | (with_reducible apply Ext.alloc) | (with_reducible apply Ext.patch) | (with_reducible apply Ext.drew) | (with_reducible apply Ext.drewN) | (with_reducible refine Ext.setCell ?_ (by first | assumption | exact Nat.le_refl _ | exact Nat.le_add_right _ _) _))))
  clear hW
  have q0 : ∀ ty, (Instr.next (.pointer (some ⟨w2.heap.size, 0, none⟩)) true ty).run Try.prog (w2.iter ⟨#[97, 98]⟩ 0) = .ok (.tuple #[.bool true, .int .i64 0, .int .i32 97]) (w2.iter ⟨#[97, 98]⟩ 1) := fun ty => run_next_ascii (P := Try.prog) w2 ⟨#[97, 98]⟩ 0 ty (by decide) (by decide)
  have q1 : ∀ ty, (Instr.next (.pointer (some ⟨w2.heap.size, 0, none⟩)) true ty).run Try.prog (w2.iter ⟨#[97, 98]⟩ 1) = .ok (.tuple #[.bool true, .int .i64 1, .int .i32 98]) (w2.iter ⟨#[97, 98]⟩ 2) := fun ty => run_next_ascii (P := Try.prog) w2 ⟨#[97, 98]⟩ 1 ty (by decide) (by decide)
  have q2 := fun ty => run_next_end (P := Try.prog) w2 ⟨#[97, 98]⟩ 2 ty (by decide)
  have ik1 : ∀ pos, (w2.iter ⟨#[97, 98]⟩ pos).cell? ⟨w.heap.size + 1, 1, none⟩ = some (.int .i64 a) := fun pos => by unfold World.iter; exact (World.cell?_alloc_lt _ _ _ (show _ < w2.heap.size by first | exact hs1 | exact hs0)).trans k1
  have ik2 : ∀ pos, (w2.iter ⟨#[97, 98]⟩ pos).cell? ⟨w.heap.size + 1, 2, none⟩ = some (.int .i64 b) := fun pos => by unfold World.iter; exact (World.cell?_alloc_lt _ _ _ (show _ < w2.heap.size by first | exact hs1 | exact hs0)).trans k2
  have ik0 : ∀ pos, (w2.iter ⟨#[97, 98]⟩ pos).cell? ⟨w.heap.size + 1, 0, none⟩ = some (.int .i64 11) := fun pos => by unfold World.iter; exact (World.cell?_alloc_lt _ _ _ (show _ < w2.heap.size by first | exact hs1 | exact hs0)).trans k0
  have ig4 : ∀ pos, (w2.iter ⟨#[97, 98]⟩ pos).cell? ⟨w.heap.size, 4, none⟩ = some (.int .i64 c.locals) := fun pos => by unfold World.iter; exact (World.cell?_alloc_lt _ _ _ (show _ < w2.heap.size by first | exact hs1 | exact hs0)).trans g4
  go_wp2_with fail
  refine wp_loop_rounds 3 ?_
  rw [rounds_succ]
  go_wp2
  rw [rounds_succ]
  go_wp2
  rw [rounds_succ]
  go_wp2
  go_ret
  exact Gives.mk rfl (by unfold World.iter; exact HEw.out.alloc _)

set_option maxRecDepth 100000 in
set_option maxHeartbeats 1000000 in
theorem words_12 (w : World) : Calls Try.prog 99 #[.int .i64 12] w (Gives (.tuple #[.string ⟨#[110, 117, 109, 98, 101, 114]⟩, .string ⟨#[97, 122]⟩]) w) := by
  go_enter Try.func99, Try.ntmps99
  go_wp2
  go_quiet (fail)
  go_wp2
  go_ret2
  exact Gives.mk rfl (by (repeat (first | (with_reducible assumption) | (with_reducible exact Ext.refl _) | (with_reducible exact Ext.more _ _ _ _) | (with_reducible apply Ext.alloc) | (with_reducible apply Ext.patch) | (with_reducible apply Ext.drew) | (with_reducible apply Ext.drewN) | (with_reducible refine Ext.setCell ?_ (by first | assumption | exact Nat.le_refl _ | exact Nat.le_add_right _ _) _))))

set_option maxRecDepth 100000 in
set_option maxHeartbeats 1000000 in
theorem opCheck_12 (c : Cnf) (a b d n : Int) (x y : Nat) (w : World) (hc : c.Ok w) (h0 : c.check = 0) (ha : 0 ≤ a ∧ a < c.locals) :
    Calls Try.prog 32 #[c.val, .agg #[.int .i64 12, .int .i64 a, .int .i64 b, .int .i64 d, .int .i64 n, .complex .f64 x y]] w (Gives (.int .i64 0) w) := by
  have HC := Lib.hid (fun w' (he : Ext w w') => check_any c w' (hc.ext he))
  have H0 := Lib.hid h0
  obtain ⟨ha0, ha1⟩ := ha
  clear h0 hc
  unfold Cnf.val at HC ⊢
  go_enter Try.func32, Try.ntmps32
  go_wp2_with fail
  refine (words_12 _).mono ?_
  rintro e w1 ⟨rfl, X1, rfl⟩
  go_wp2_with fail
  refine (HC.out _ (by (repeat (first | (with_reducible assumption) | (with_reducible exact Ext.refl _) | (with_reducible exact Ext.more _ _ _ _) | (with_reducible apply Ext.alloc) | (with_reducible apply Ext.patch) | (with_reducible apply Ext.drew) | (with_reducible apply Ext.drewN) | (with_reducible refine Ext.setCell ?_ (by first | assumption | exact Nat.le_refl _ | exact Nat.le_add_right _ _) _))))).mono ?_
  rw [H0.out]
  rintro e w1 ⟨rfl, X2, rfl⟩
  obtain ⟨w2, hW⟩ : ∃ w2, (((w.alloc (.cells #[.int .i64 c.frags, .int .i64 c.spine, .int .i64 c.globals, .int .i64 c.threads, .int .i64 c.locals, .int .i64 c.cache, .int .i64 c.stack, .int .i64 c.low, .slice c.A c.shapes.length c.cap] 37)).alloc (.cells #[.int .i64 12, .int .i64 a, .int .i64 b, .int .i64 d, .int .i64 n, .complex .f64 x y] 28)).patch X1).patch X2 = w2 := ⟨_, rfl⟩
  rw [hW]
  have g2 : w2.cell? ⟨w.heap.size, 2, none⟩ = some (.int .i64 c.globals) := by rw [← hW]; clear hW; go_simp
  have g4 : w2.cell? ⟨w.heap.size, 4, none⟩ = some (.int .i64 c.locals) := by rw [← hW]; clear hW; go_simp
  have k0 : w2.cell? ⟨w.heap.size + 1, 0, none⟩ = some (.int .i64 12) := by rw [← hW]; clear hW; go_simp
  have k1 : w2.cell? ⟨w.heap.size + 1, 1, none⟩ = some (.int .i64 a) := by rw [← hW]; clear hW; go_simp
  have k2 : w2.cell? ⟨w.heap.size + 1, 2, none⟩ = some (.int .i64 b) := by rw [← hW]; clear hW; go_simp
  have k3 : w2.cell? ⟨w.heap.size + 1, 3, none⟩ = some (.int .i64 d) := by rw [← hW]; clear hW; go_simp
  have k4 : w2.cell? ⟨w.heap.size + 1, 4, none⟩ = some (.int .i64 n) := by rw [← hW]; clear hW; go_simp
  have hs1 : w.heap.size + 1 < w2.heap.size := by rw [← hW]; clear hW; go_simp
  have hs0 : w.heap.size < w2.heap.size := by omega
  have HEw := Lib.hid (show Ext w w2 by rw [← hW]; clear hW; (repeat (first | (with_reducible assumption) | (with_reducible exact Ext.refl _) | (with_reducible exact Ext.more _ _ _ _) | (with_reducible apply Ext.alloc) | (with_reducible apply Ext.patch) | (with_reducible apply Ext.drew) | (with_reducible apply Ext.drewN) | (with_reducible refine Ext.setCell ?_ (by first | assumption | exact Nat.le_refl _ | exact Nat.le_add_right _ _) _))))
  clear hW
  have q0 : ∀ ty, (Instr.next (.pointer (some ⟨w2.heap.size, 0, none⟩)) true ty).run Try.prog (w2.iter ⟨#[97, 122]⟩ 0) = .ok (.tuple #[.bool true, .int .i64 0, .int .i32 97]) (w2.iter ⟨#[97, 122]⟩ 1) := fun ty => run_next_ascii (P := Try.prog) w2 ⟨#[97, 122]⟩ 0 ty (by decide) (by decide)
  have q1 : ∀ ty, (Instr.next (.pointer (some ⟨w2.heap.size, 0, none⟩)) true ty).run Try.prog (w2.iter ⟨#[97, 122]⟩ 1) = .ok (.tuple #[.bool true, .int .i64 1, .int .i32 122]) (w2.iter ⟨#[97, 122]⟩ 2) := fun ty => run_next_ascii (P := Try.prog) w2 ⟨#[97, 122]⟩ 1 ty (by decide) (by decide)
  have q2 := fun ty => run_next_end (P := Try.prog) w2 ⟨#[97, 122]⟩ 2 ty (by decide)
  have ik1 : ∀ pos, (w2.iter ⟨#[97, 122]⟩ pos).cell? ⟨w.heap.size + 1, 1, none⟩ = some (.int .i64 a) := fun pos => by unfold World.iter; exact (World.cell?_alloc_lt _ _ _ (show _ < w2.heap.size by first | exact hs1 | exact hs0)).trans k1
  have ik0 : ∀ pos, (w2.iter ⟨#[97, 122]⟩ pos).cell? ⟨w.heap.size + 1, 0, none⟩ = some (.int .i64 12) := fun pos => by unfold World.iter; exact (World.cell?_alloc_lt _ _ _ (show _ < w2.heap.size by first | exact hs1 | exact hs0)).trans k0
  have ig4 : ∀ pos, (w2.iter ⟨#[97, 122]⟩ pos).cell? ⟨w.heap.size, 4, none⟩ = some (.int .i64 c.locals) := fun pos => by unfold World.iter; exact (World.cell?_alloc_lt _ _ _ (show _ < w2.heap.size by first | exact hs1 | exact hs0)).trans g4
  go_wp2_with fail
  refine wp_loop_rounds 3 ?_
  rw [rounds_succ]
  go_wp2
  rw [rounds_succ]
  go_wp2
  rw [rounds_succ]
  go_wp2
  go_ret
  exact Gives.mk rfl (by unfold World.iter; exact HEw.out.alloc _)

set_option maxRecDepth 100000 in
set_option maxHeartbeats 1000000 in
theorem words_13 (w : World) : Calls Try.prog 99 #[.int .i64 13] w (Gives (.tuple #[.string ⟨#[99, 108, 101, 97, 114]⟩, .string ⟨#[97]⟩]) w) := by
  go_enter Try.func99, Try.ntmps99
  go_wp2
  go_quiet (fail)
  go_wp2
  go_ret2
  exact Gives.mk rfl (by (repeat (first | (with_reducible assumption) | (with_reducible exact Ext.refl _) | (with_reducible exact Ext.more _ _ _ _) | (with_reducible apply Ext.alloc) | (with_reducible apply Ext.patch) | (with_reducible apply Ext.drew) | (with_reducible apply Ext.drewN) | (with_reducible refine Ext.setCell ?_ (by first | assumption | exact Nat.le_refl _ | exact Nat.le_add_right _ _) _))))

set_option maxRecDepth 100000 in
set_option maxHeartbeats 1000000 in
theorem opCheck_13 (c : Cnf) (a b d n : Int) (x y : Nat) (w : World) (hc : c.Ok w) (h0 : c.check = 0) (ha : 0 ≤ a ∧ a < c.locals) :
    Calls Try.prog 32 #[c.val, .agg #[.int .i64 13, .int .i64 a, .int .i64 b, .int .i64 d, .int .i64 n, .complex .f64 x y]] w (Gives (.int .i64 0) w) := by
  have HC := Lib.hid (fun w' (he : Ext w w') => check_any c w' (hc.ext he))
  have H0 := Lib.hid h0
  obtain ⟨ha0, ha1⟩ := ha
  clear h0 hc
  unfold Cnf.val at HC ⊢
  go_enter Try.func32, Try.ntmps32
  go_wp2_with fail
  refine (words_13 _).mono ?_
  rintro e w1 ⟨rfl, X1, rfl⟩
  go_wp2_with fail
  refine (HC.out _ (by (repeat (first | (with_reducible assumption) | (with_reducible exact Ext.refl _) | (with_reducible exact Ext.more _ _ _ _) | (with_reducible apply Ext.alloc) | (with_reducible apply Ext.patch) | (with_reducible apply Ext.drew) | (with_reducible apply Ext.drewN) | (with_reducible refine Ext.setCell ?_ (by first | assumption | exact Nat.le_refl _ | exact Nat.le_add_right _ _) _))))).mono ?_
  rw [H0.out]
  rintro e w1 ⟨rfl, X2, rfl⟩
  obtain ⟨w2, hW⟩ : ∃ w2, (((w.alloc (.cells #[.int .i64 c.frags, .int .i64 c.spine, .int .i64 c.globals, .int .i64 c.threads, .int .i64 c.locals, .int .i64 c.cache, .int .i64 c.stack, .int .i64 c.low, .slice c.A c.shapes.length c.cap] 37)).alloc (.cells #[.int .i64 13, .int .i64 a, .int .i64 b, .int .i64 d, .int .i64 n, .complex .f64 x y] 28)).patch X1).patch X2 = w2 := ⟨_, rfl⟩
  rw [hW]
  have g2 : w2.cell? ⟨w.heap.size, 2, none⟩ = some (.int .i64 c.globals) := by rw [← hW]; clear hW; go_simp
  have g4 : w2.cell? ⟨w.heap.size, 4, none⟩ = some (.int .i64 c.locals) := by rw [← hW]; clear hW; go_simp
  have k0 : w2.cell? ⟨w.heap.size + 1, 0, none⟩ = some (.int .i64 13) := by rw [← hW]; clear hW; go_simp
  have k1 : w2.cell? ⟨w.heap.size + 1, 1, none⟩ = some (.int .i64 a) := by rw [← hW]; clear hW; go_simp
  have k2 : w2.cell? ⟨w.heap.size + 1, 2, none⟩ = some (.int .i64 b) := by rw [← hW]; clear hW; go_simp
  have k3 : w2.cell? ⟨w.heap.size + 1, 3, none⟩ = some (.int .i64 d) := by rw [← hW]; clear hW; go_simp
  have k4 : w2.cell? ⟨w.heap.size + 1, 4, none⟩ = some (.int .i64 n) := by rw [← hW]; clear hW; go_simp
  have hs1 : w.heap.size + 1 < w2.heap.size := by rw [← hW]; clear hW; go_simp
  have hs0 : w.heap.size < w2.heap.size := by omega
  have HEw := Lib.hid (show Ext w w2 by rw [← hW]; clear hW; (repeat (first | (with_reducible assumption) | (with_reducible exact Ext.refl _) | (with_reducible exact Ext.more _ _ _ _) | (with_reducible apply Ext.alloc) | (with_reducible apply Ext.patch) | (with_reducible apply Ext.drew) | (with_reducible apply Ext.drewN) | (with_reducible refine Ext.setCell ?_ (by first | assumption | exact Nat.le_refl _ | exact Nat.le_add_right _ _) _))))
  clear hW
  have q0 : ∀ ty, (Instr.next (.pointer (some ⟨w2.heap.size, 0, none⟩)) true ty).run Try.prog (w2.iter ⟨#[97]⟩ 0) = .ok (.tuple #[.bool true, .int .i64 0, .int .i32 97]) (w2.iter ⟨#[97]⟩ 1) := fun ty => run_next_ascii (P := Try.prog) w2 ⟨#[97]⟩ 0 ty (by decide) (by decide)
  have q1 := fun ty => run_next_end (P := Try.prog) w2 ⟨#[97]⟩ 1 ty (by decide)
  have ik1 : ∀ pos, (w2.iter ⟨#[97]⟩ pos).cell? ⟨w.heap.size + 1, 1, none⟩ = some (.int .i64 a) := fun pos => by unfold World.iter; exact (World.cell?_alloc_lt _ _ _ (show _ < w2.heap.size by first | exact hs1 | exact hs0)).trans k1
  have ik0 : ∀ pos, (w2.iter ⟨#[97]⟩ pos).cell? ⟨w.heap.size + 1, 0, none⟩ = some (.int .i64 13) := fun pos => by unfold World.iter; exact (World.cell?_alloc_lt _ _ _ (show _ < w2.heap.size by first | exact hs1 | exact hs0)).trans k0
  have ig4 : ∀ pos, (w2.iter ⟨#[97]⟩ pos).cell? ⟨w.heap.size, 4, none⟩ = some (.int .i64 c.locals) := fun pos => by unfold World.iter; exact (World.cell?_alloc_lt _ _ _ (show _ < w2.heap.size by first | exact hs1 | exact hs0)).trans g4
  go_wp2_with fail
  refine wp_loop_rounds 2 ?_
  rw [rounds_succ]
  go_wp2
  rw [rounds_succ]
  go_wp2
  go_ret
  exact Gives.mk rfl (by unfold World.iter; exact HEw.out.alloc _)

set_option maxRecDepth 100000 in
set_option maxHeartbeats 1000000 in
theorem words_14 (w : World) : Calls Try.prog 99 #[.int .i64 14] w (Gives (.tuple #[.string ⟨#[99, 111, 112, 121]⟩, .string ⟨#[97, 98]⟩]) w) := by
  go_enter Try.func99, Try.ntmps99
  go_wp2
  go_quiet (fail)
  go_wp2
  go_ret2
  exact Gives.mk rfl (by (repeat (first | (with_reducible assumption) | (with_reducible exact Ext.refl _) | (with_reducible exact Ext.more _ _ _ _) | (with_reducible apply Ext.alloc) | (with_reducible apply Ext.patch) | (with_reducible apply Ext.drew) | (with_reducible apply Ext.drewN) | (with_reducible refine Ext.setCell ?_ (by first | assumption | exact Nat.le_refl _ | exact Nat.le_add_right _ _) _))))

set_option maxRecDepth 100000 in
set_option maxHeartbeats 1000000 in
theorem opCheck_14 (c : Cnf) (a b d n : Int) (x y : Nat) (w : World) (hc : c.Ok w) (h0 : c.check = 0) (ha : 0 ≤ a ∧ a < c.locals) (hb : 0 ≤ b ∧ b < c.locals) :
    Calls Try.prog 32 #[c.val, .agg #[.int .i64 14, .int .i64 a, .int .i64 b, .int .i64 d, .int .i64 n, .complex .f64 x y]] w (Gives (.int .i64 0) w) := by
  have HC := Lib.hid (fun w' (he : Ext w w') => check_any c w' (hc.ext he))
  have H0 := Lib.hid h0
  obtain ⟨ha0, ha1⟩ := ha
  obtain ⟨hb0, hb1⟩ := hb
  clear h0 hc
  unfold Cnf.val at HC ⊢
  go_enter Try.func32, Try.ntmps32
  go_wp2_with fail
  refine (words_14 _).mono ?_
  rintro e w1 ⟨rfl, X1, rfl⟩
  go_wp2_with fail
  refine (HC.out _ (by (repeat (first | (with_reducible assumption) | (with_reducible exact Ext.refl _) | (with_reducible exact Ext.more _ _ _ _) | (with_reducible apply Ext.alloc) | (with_reducible apply Ext.patch) | (with_reducible apply Ext.drew) | (with_reducible apply Ext.drewN) | (with_reducible refine Ext.setCell ?_ (by first | assumption | exact Nat.le_refl _ | exact Nat.le_add_right _ _) _))))).mono ?_
  rw [H0.out]
  rintro e w1 ⟨rfl, X2, rfl⟩
  obtain ⟨w2, hW⟩ : ∃ w2, (((w.alloc (.cells #[.int .i64 c.frags, .int .i64 c.spine, .int .i64 c.globals, .int .i64 c.threads, .int .i64 c.locals, .int .i64 c.cache, .int .i64 c.stack, .int .i64 c.low, .slice c.A c.shapes.length c.cap] 37)).alloc (.cells #[.int .i64 14, .int .i64 a, .int .i64 b, .int .i64 d, .int .i64 n, .complex .f64 x y] 28)).patch X1).patch X2 = w2 := ⟨_, rfl⟩
  rw [hW]
  have g2 : w2.cell? ⟨w.heap.size, 2, none⟩ = some (.int .i64 c.globals) := by rw [← hW]; clear hW; go_simp
  have g4 : w2.cell? ⟨w.heap.size, 4, none⟩ = some (.int .i64 c.locals) := by rw [← hW]; clear hW; go_simp
  have k0 : w2.cell? ⟨w.heap.size + 1, 0, none⟩ = some (.int .i64 14) := by rw [← hW]; clear hW; go_simp
  have k1 : w2.cell? ⟨w.heap.size + 1, 1, none⟩ = some (.int .i64 a) := by rw [← hW]; clear hW; go_simp
  have k2 : w2.cell? ⟨w.heap.size + 1, 2, none⟩ = some (.int .i64 b) := by rw [← hW]; clear hW; go_simp
  have k3 : w2.cell? ⟨w.heap.size + 1, 3, none⟩ = some (.int .i64 d) := by rw [← hW]; clear hW; go_simp
  have k4 : w2.cell? ⟨w.heap.size + 1, 4, none⟩ = some (.int .i64 n) := by rw [← hW]; clear hW; go_simp
  have hs1 : w.heap.size + 1 < w2.heap.size := by rw [← hW]; clear hW; go_simp
  have hs0 : w.heap.size < w2.heap.size := by omega
  have HEw := Lib.hid (show Ext w w2 by rw [← hW]; clear hW; (repeat (first | (with_reducible assumption) | (with_reducible exact Ext.refl _) | (with_reducible exact Ext.more _ _ _ _) | (with_reducible apply Ext.alloc) | (with_reducible apply Ext.patch) | (with_reducible apply Ext.drew) | (with_reducible apply Ext.drewN) | (with_reducible refine Ext.setCell ?_ (by first | assumption | exact Nat.le_refl _ | exact Nat.le_add_right _ _) _))))
  clear hW
  have q0 : ∀ ty, (Instr.next (.pointer (some ⟨w2.heap.size, 0, none⟩)) true ty).run Try.prog (w2.iter ⟨#[97, 98]⟩ 0) = .ok (.tuple #[.bool true, .int .i64 0, .int .i32 97]) (w2.iter ⟨#[97, 98]⟩ 1) := fun ty => run_next_ascii (P := Try.prog) w2 ⟨#[97, 98]⟩ 0 ty (by decide) (by decide)
  have q1 : ∀ ty, (Instr.next (.pointer (some ⟨w2.heap.size, 0, none⟩)) true ty).run Try.prog (w2.iter ⟨#[97, 98]⟩ 1) = .ok (.tuple #[.bool true, .int .i64 1, .int .i32 98]) (w2.iter ⟨#[97, 98]⟩ 2) := fun ty => run_next_ascii (P := Try.prog) w2 ⟨#[97, 98]⟩ 1 ty (by decide) (by decide)
  have q2 := fun ty => run_next_end (P := Try.prog) w2 ⟨#[97, 98]⟩ 2 ty (by decide)
  have ik1 : ∀ pos, (w2.iter ⟨#[97, 98]⟩ pos).cell? ⟨w.heap.size + 1, 1, none⟩ = some (.int .i64 a) := fun pos => by unfold World.iter; exact (World.cell?_alloc_lt _ _ _ (show _ < w2.heap.size by first | exact hs1 | exact hs0)).trans k1
  have ik2 : ∀ pos, (w2.iter ⟨#[97, 98]⟩ pos).cell? ⟨w.heap.size + 1, 2, none⟩ = some (.int .i64 b) := fun pos => by unfold World.iter; exact (World.cell?_alloc_lt _ _ _ (show _ < w2.heap.size by first | exact hs1 | exact hs0)).trans k2
  have ik0 : ∀ pos, (w2.iter ⟨#[97, 98]⟩ pos).cell? ⟨w.heap.size + 1, 0, none⟩ = some (.int .i64 14) := fun pos => by unfold World.iter; exact (World.cell?_alloc_lt _ _ _ (show _ < w2.heap.size by first | exact hs1 | exact hs0)).trans k0
  have ig4 : ∀ pos, (w2.iter ⟨#[97, 98]⟩ pos).cell? ⟨w.heap.size, 4, none⟩ = some (.int .i64 c.locals) := fun pos => by unfold World.iter; exact (World.cell?_alloc_lt _ _ _ (show _ < w2.heap.size by first | exact hs1 | exact hs0)).trans g4
  go_wp2_with fail
  refine wp_loop_rounds 3 ?_
  rw [rounds_succ]
  go_wp2
  rw [rounds_succ]
  go_wp2
  rw [rounds_succ]
  go_wp2
  go_ret
  exact Gives.mk rfl (by unfold World.iter; exact HEw.out.alloc _)

set_option maxRecDepth 100000 in
set_option maxHeartbeats 1000000 in
theorem words_15 (w : World) : Calls Try.prog 99 #[.int .i64 15] w (Gives (.tuple #[.string ⟨#[97, 100, 100]⟩, .string ⟨#[97, 98, 99]⟩]) w) := by
  go_enter Try.func99, Try.ntmps99
  go_wp2
  go_quiet (fail)
  go_wp2
  go_ret2
  exact Gives.mk rfl (by (repeat (first | (with_reducible assumption) | (with_reducible exact Ext.refl _) | (with_reducible exact Ext.more _ _ _ _) | (with_reducible apply Ext.alloc) | (with_reducible apply Ext.patch) | (with_reducible apply Ext.drew) | (with_reducible apply Ext.drewN) | (with_reducible refine Ext.setCell ?_ (by first | assumption | exact Nat.le_refl _ | exact Nat.le_add_right _ _) _))))

set_option maxRecDepth 100000 in
set_option maxHeartbeats 1000000 in
theorem opCheck_15 (c : Cnf) (a b d n : Int) (x y : Nat) (w : World) (hc : c.Ok w) (h0 : c.check = 0) (ha : 0 ≤ a ∧ a < c.locals) (hb : 0 ≤ b ∧ b < c.locals) (hd : 0 ≤ d ∧ d < c.locals) :
    Calls Try.prog 32 #[c.val, .agg #[.int .i64 15, .int .i64 a, .int .i64 b, .int .i64 d, .int .i64 n, .complex .f64 x y]] w (Gives (.int .i64 0) w) := by
  have HC := Lib.hid (fun w' (he : Ext w w') => check_any c w' (hc.ext he))
  have H0 := Lib.hid h0
  obtain ⟨ha0, ha1⟩ := ha
  obtain ⟨hb0, hb1⟩ := hb
  obtain ⟨hd0, hd1⟩ := hd
  clear h0 hc
  unfold Cnf.val at HC ⊢
  go_enter Try.func32, Try.ntmps32
  go_wp2_with fail
  refine (words_15 _).mono ?_
  rintro e w1 ⟨rfl, X1, rfl⟩
  go_wp2_with fail
  refine (HC.out _ (by (repeat (first | (with_reducible assumption) | (with_reducible exact Ext.refl _) | (with_reducible exact Ext.more _ _ _ _) | (with_reducible apply Ext.alloc) | (with_reducible apply Ext.patch) | (with_reducible apply Ext.drew) | (with_reducible apply Ext.drewN) | (with_reducible refine Ext.setCell ?_ (by first | assumption | exact Nat.le_refl _ | exact Nat.le_add_right _ _) _))))).mono ?_
  rw [H0.out]
  rintro e w1 ⟨rfl, X2, rfl⟩
  obtain ⟨w2, hW⟩ : ∃ w2, (((w.alloc (.cells #[.int .i64 c.frags, .int .i64 c.spine, .int .i64 c.globals, .int .i64 c.threads, .int .i64 c.locals, .int .i64 c.cache, .int .i64 c.stack, .int .i64 c.low, .slice c.A c.shapes.length c.cap] 37)).alloc (.cells #[.int .i64 15, .int .i64 a, .int .i64 b, .int .i64 d, .int .i64 n, .complex .f64 x y] 28)).patch X1).patch X2 = w2 := ⟨_, rfl⟩
  rw [hW]
  have g2 : w2.cell? ⟨w.heap.size, 2, none⟩ = some (.int .i64 c.globals) := by rw [← hW]; clear hW; go_simp
  have g4 : w2.cell? ⟨w.heap.size, 4, none⟩ = some (.int .i64 c.locals) := by rw [← hW]; clear hW; go_simp
  have k0 : w2.cell? ⟨w.heap.size + 1, 0, none⟩ = some (.int .i64 15) := by rw [← hW]; clear hW; go_simp
  have k1 : w2.cell? ⟨w.heap.size + 1, 1, none⟩ = some (.int .i64 a) := by rw [← hW]; clear hW; go_simp
  have k2 : w2.cell? ⟨w.heap.size + 1, 2, none⟩ = some (.int .i64 b) := by rw [← hW]; clear hW; go_simp
  have k3 : w2.cell? ⟨w.heap.size + 1, 3, none⟩ = some (.int .i64 d) := by rw [← hW]; clear hW; go_simp
  have k4 : w2.cell? ⟨w.heap.size + 1, 4, none⟩ = some (.int .i64 n) := by rw [← hW]; clear hW; go_simp
  have hs1 : w.heap.size + 1 < w2.heap.size := by rw [← hW]; clear hW; go_simp
  have hs0 : w.heap.size < w2.heap.size := by omega
  have HEw := Lib.hid (show Ext w w2 by rw [← hW]; clear hW; (repeat (first | (with_reducible assumption) | (with_reducible exact Ext.refl _) | (with_reducible exact Ext.more _ _ _ _) | (with_reducible apply Ext.alloc) | (with_reducible apply Ext.patch) | (with_reducible apply Ext.drew) | (with_reducible apply Ext.drewN) | (with_reducible refine Ext.setCell ?_ (by first | assumption | exact Nat.le_refl _ | exact Nat.le_add_right _ _) _))))
  clear hW
  have q0 : ∀ ty, (Instr.next (.pointer (some ⟨w2.heap.size, 0, none⟩)) true ty).run Try.prog (w2.iter ⟨#[97, 98, 99]⟩ 0) = .ok (.tuple #[.bool true, .int .i64 0, .int .i32 97]) (w2.iter ⟨#[97, 98, 99]⟩ 1) := fun ty => run_next_ascii (P := Try.prog) w2 ⟨#[97, 98, 99]⟩ 0 ty (by decide) (by decide)
  have q1 : ∀ ty, (Instr.next (.pointer (some ⟨w2.heap.size, 0, none⟩)) true ty).run Try.prog (w2.iter ⟨#[97, 98, 99]⟩ 1) = .ok (.tuple #[.bool true, .int .i64 1, .int .i32 98]) (w2.iter ⟨#[97, 98, 99]⟩ 2) := fun ty => run_next_ascii (P := Try.prog) w2 ⟨#[97, 98, 99]⟩ 1 ty (by decide) (by decide)
  have q2 : ∀ ty, (Instr.next (.pointer (some ⟨w2.heap.size, 0, none⟩)) true ty).run Try.prog (w2.iter ⟨#[97, 98, 99]⟩ 2) = .ok (.tuple #[.bool true, .int .i64 2, .int .i32 99]) (w2.iter ⟨#[97, 98, 99]⟩ 3) := fun ty => run_next_ascii (P := Try.prog) w2 ⟨#[97, 98, 99]⟩ 2 ty (by decide) (by decide)
  have q3 := fun ty => run_next_end (P := Try.prog) w2 ⟨#[97, 98, 99]⟩ 3 ty (by decide)
  have ik1 : ∀ pos, (w2.iter ⟨#[97, 98, 99]⟩ pos).cell? ⟨w.heap.size + 1, 1, none⟩ = some (.int .i64 a) := fun pos => by unfold World.iter; exact (World.cell?_alloc_lt _ _ _ (show _ < w2.heap.size by first | exact hs1 | exact hs0)).trans k1
  have ik2 : ∀ pos, (w2.iter ⟨#[97, 98, 99]⟩ pos).cell? ⟨w.heap.size + 1, 2, none⟩ = some (.int .i64 b) := fun pos => by unfold World.iter; exact (World.cell?_alloc_lt _ _ _ (show _ < w2.heap.size by first | exact hs1 | exact hs0)).trans k2
  have ik3 : ∀ pos, (w2.iter ⟨#[97, 98, 99]⟩ pos).cell? ⟨w.heap.size + 1, 3, none⟩ = some (.int .i64 d) := fun pos => by unfold World.iter; exact (World.cell?_alloc_lt _ _ _ (show _ < w2.heap.size by first | exact hs1 | exact hs0)).trans k3
  have ik0 : ∀ pos, (w2.iter ⟨#[97, 98, 99]⟩ pos).cell? ⟨w.heap.size + 1, 0, none⟩ = some (.int .i64 15) := fun pos => by unfold World.iter; exact (World.cell?_alloc_lt _ _ _ (show _ < w2.heap.size by first | exact hs1 | exact hs0)).trans k0
  have ig4 : ∀ pos, (w2.iter ⟨#[97, 98, 99]⟩ pos).cell? ⟨w.heap.size, 4, none⟩ = some (.int .i64 c.locals) := fun pos => by unfold World.iter; exact (World.cell?_alloc_lt _ _ _ (show _ < w2.heap.size by first | exact hs1 | exact hs0)).trans g4
  go_wp2_with fail
  refine wp_loop_rounds 4 ?_
  rw [rounds_succ]
  go_wp2
  rw [rounds_succ]
  go_wp2
  rw [rounds_succ]
  go_wp2
  rw [rounds_succ]
  go_wp2
  go_ret
  exact Gives.mk rfl (by unfold World.iter; exact HEw.out.alloc _)

set_option maxRecDepth 100000 in
set_option maxHeartbeats 1000000 in
theorem words_16 (w : World) : Calls Try.prog 99 #[.int .i64 16] w (Gives (.tuple #[.string ⟨#[109, 117, 108]⟩, .string ⟨#[97, 98, 99]⟩]) w) := by
  go_enter Try.func99, Try.ntmps99
  go_wp2
  go_quiet (fail)
  go_wp2
  go_ret2
  exact Gives.mk rfl (by (repeat (first | (with_reducible assumption) | (with_reducible exact Ext.refl _) | (with_reducible exact Ext.more _ _ _ _) | (with_reducible apply Ext.alloc) | (with_reducible apply Ext.patch) | (with_reducible apply Ext.drew) | (with_reducible apply Ext.drewN) | (with_reducible refine Ext.setCell ?_ (by first | assumption | exact Nat.le_refl _ | exact Nat.le_add_right _ _) _))))

set_option maxRecDepth 100000 in
set_option maxHeartbeats 1000000 in
theorem opCheck_16 (c : Cnf) (a b d n : Int) (x y : Nat) (w : World) (hc : c.Ok w) (h0 : c.check = 0) (ha : 0 ≤ a ∧ a < c.locals) (hb : 0 ≤ b ∧ b < c.locals) (hd : 0 ≤ d ∧ d < c.locals) :
    Calls Try.prog 32 #[c.val, .agg #[.int .i64 16, .int .i64 a, .int .i64 b, .int .i64 d, .int .i64 n, .complex .f64 x y]] w (Gives (.int .i64 0) w) := by
  have HC := Lib.hid (fun w' (he : Ext w w') => check_any c w' (hc.ext he))
  have H0 := Lib.hid h0
  obtain ⟨ha0, ha1⟩ := ha
  obtain ⟨hb0, hb1⟩ := hb
  obtain ⟨hd0, hd1⟩ := hd
  clear h0 hc
  unfold Cnf.val at HC ⊢
  go_enter Try.func32, Try.ntmps32
  go_wp2_with fail
  refine (words_16 _).mono ?_
  rintro e w1 ⟨rfl, X1, rfl⟩
  go_wp2_with fail
  refine (HC.out _ (by (repeat (first | (with_reducible assumption) | (with_reducible exact Ext.refl _) | (with_reducible exact Ext.more _ _ _ _) | (with_reducible apply Ext.alloc) | (with_reducible apply Ext.patch) | (with_reducible apply Ext.drew) | (with_reducible apply Ext.drewN) | (with_reducible refine Ext.setCell ?_ (by first | assumption | exact Nat.le_refl _ | exact Nat.le_add_right _ _) _))))).mono ?_
  rw [H0.out]
  rintro e w1 ⟨rfl, X2, rfl⟩
  obtain ⟨w2, hW⟩ : ∃ w2, (((w.alloc (.cells #[.int .i64 c.frags, .int .i64 c.spine, .int .i64 c.globals, .int .i64 c.threads, .int .i64 c.locals, .int .i64 c.cache, .int .i64 c.stack, .int .i64 c.low, .slice c.A c.shapes.length c.cap] 37)).alloc (.cells #[.int .i64 16, .int .i64 a, .int .i64 b, .int .i64 d, .int .i64 n, .complex .f64 x y] 28)).patch X1).patch X2 = w2 := ⟨_, rfl⟩
  rw [hW]
  have g2 : w2.cell? ⟨w.heap.size, 2, none⟩ = some (.int .i64 c.globals) := by rw [← hW]; clear hW; go_simp
  have g4 : w2.cell? ⟨w.heap.size, 4, none⟩ = some (.int .i64 c.locals) := by rw [← hW]; clear hW; go_simp
  have k0 : w2.cell? ⟨w.heap.size + 1, 0, none⟩ = some (.int .i64 16) := by rw [← hW]; clear hW; go_simp
  have k1 : w2.cell? ⟨w.heap.size + 1, 1, none⟩ = some (.int .i64 a) := by rw [← hW]; clear hW; go_simp
  have k2 : w2.cell? ⟨w.heap.size + 1, 2, none⟩ = some (.int .i64 b) := by rw [← hW]; clear hW; go_simp
  have k3 : w2.cell? ⟨w.heap.size + 1, 3, none⟩ = some (.int .i64 d) := by rw [← hW]; clear hW; go_simp
  have k4 : w2.cell? ⟨w.heap.size + 1, 4, none⟩ = some (.int .i64 n) := by rw [← hW]; clear hW; go_simp
  have hs1 : w.heap.size + 1 < w2.heap.size := by rw [← hW]; clear hW; go_simp
  have hs0 : w.heap.size < w2.heap.size := by omega
  have HEw := Lib.hid (show Ext w w2 by rw [← hW]; clear hW; (repeat (first | (with_reducible assumption) | (with_reducible exact Ext.refl _) | (with_reducible exact Ext.more _ _ _ _) | (with_reducible apply Ext.alloc) | (with_reducible apply Ext.patch) | (with_reducible apply Ext.drew) | (with_reducible apply Ext.drewN) | (with_reducible refine Ext.setCell ?_ (by first | assumption | exact Nat.le_refl _ | exact Nat.le_add_right _ _) _))))
  clear hW
  have q0 : ∀ ty, (Instr.next (.pointer (some ⟨w2.heap.size, 0, none⟩)) true ty).run Try.prog (w2.iter ⟨#[97, 98, 99]⟩ 0) = .ok (.tuple #[.bool true, .int .i64 0, .int .i32 97]) (w2.iter ⟨#[97, 98, 99]⟩ 1) := fun ty => run_next_ascii (P := Try.prog) w2 ⟨#[97, 98, 99]⟩ 0 ty (by decide) (by decide)
  have q1 : ∀ ty, (Instr.next (.pointer (some ⟨w2.heap.size, 0, none⟩)) true ty).run Try.prog (w2.iter ⟨#[97, 98, 99]⟩ 1) = .ok (.tuple #[.bool true, .int .i64 1, .int .i32 98]) (w2.iter ⟨#[97, 98, 99]⟩ 2) := fun ty => run_next_ascii (P := Try.prog) w2 ⟨#[97, 98, 99]⟩ 1 ty (by decide) (by decide)
  have q2 : ∀ ty, (Instr.next (.pointer (some ⟨w2.heap.size, 0, none⟩)) true ty).run Try.prog (w2.iter ⟨#[97, 98, 99]⟩ 2) = .ok (.tuple #[.bool true, .int .i64 2, .int .i32 99]) (w2.iter ⟨#[97, 98, 99]⟩ 3) := fun ty => run_next_ascii (P := Try.prog) w2 ⟨#[97, 98, 99]⟩ 2 ty (by decide) (by decide)
  have q3 := fun ty => run_next_end (P := Try.prog) w2 ⟨#[97, 98, 99]⟩ 3 ty (by decide)
  have ik1 : ∀ pos, (w2.iter ⟨#[97, 98, 99]⟩ pos).cell? ⟨w.heap.size + 1, 1, none⟩ = some (.int .i64 a) := fun pos => by unfold World.iter; exact (World.cell?_alloc_lt _ _ _ (show _ < w2.heap.size by first | exact hs1 | exact hs0)).trans k1
  have ik2 : ∀ pos, (w2.iter ⟨#[97, 98, 99]⟩ pos).cell? ⟨w.heap.size + 1, 2, none⟩ = some (.int .i64 b) := fun pos => by unfold World.iter; exact (World.cell?_alloc_lt _ _ _ (show _ < w2.heap.size by first | exact hs1 | exact hs0)).trans k2
  have ik3 : ∀ pos, (w2.iter ⟨#[97, 98, 99]⟩ pos).cell? ⟨w.heap.size + 1, 3, none⟩ = some (.int .i64 d) := fun pos => by unfold World.iter; exact (World.cell?_alloc_lt _ _ _ (show _ < w2.heap.size by first | exact hs1 | exact hs0)).trans k3
  have ik0 : ∀ pos, (w2.iter ⟨#[97, 98, 99]⟩ pos).cell? ⟨w.heap.size + 1, 0, none⟩ = some (.int .i64 16) := fun pos => by unfold World.iter; exact (World.cell?_alloc_lt _ _ _ (show _ < w2.heap.size by first | exact hs1 | exact hs0)).trans k0
  have ig4 : ∀ pos, (w2.iter ⟨#[97, 98, 99]⟩ pos).cell? ⟨w.heap.size, 4, none⟩ = some (.int .i64 c.locals) := fun pos => by unfold World.iter; exact (World.cell?_alloc_lt _ _ _ (show _ < w2.heap.size by first | exact hs1 | exact hs0)).trans g4
  go_wp2_with fail
  refine wp_loop_rounds 4 ?_
  rw [rounds_succ]
  go_wp2
  rw [rounds_succ]
  go_wp2
  rw [rounds_succ]
  go_wp2
  rw [rounds_succ]
  go_wp2
  go_ret
  exact Gives.mk rfl (by unfold World.iter; exact HEw.out.alloc _)

set_option maxRecDepth 100000 in
set_option maxHeartbeats 1000000 in
theorem words_17 (w : World) : Calls Try.prog 99 #[.int .i64 17] w (Gives (.tuple #[.string ⟨#[99, 111, 108, 108, 101, 99, 116]⟩, .string ⟨#[]⟩]) w) := by
  go_enter Try.func99, Try.ntmps99
  go_wp2
  go_quiet (fail)
  go_wp2
  go_ret2
  exact Gives.mk rfl (by (repeat (first | (with_reducible assumption) | (with_reducible exact Ext.refl _) | (with_reducible exact Ext.more _ _ _ _) | (with_reducible apply Ext.alloc) | (with_reducible apply Ext.patch) | (with_reducible apply Ext.drew) | (with_reducible apply Ext.drewN) | (with_reducible refine Ext.setCell ?_ (by first | assumption | exact Nat.le_refl _ | exact Nat.le_add_right _ _) _))))

set_option maxRecDepth 100000 in
set_option maxHeartbeats 1000000 in
theorem opCheck_17 (c : Cnf) (a b d n : Int) (x y : Nat) (w : World) (hc : c.Ok w) (h0 : c.check = 0) :
    Calls Try.prog 32 #[c.val, .agg #[.int .i64 17, .int .i64 a, .int .i64 b, .int .i64 d, .int .i64 n, .complex .f64 x y]] w (Gives (.int .i64 0) w) := by
  have HC := Lib.hid (fun w' (he : Ext w w') => check_any c w' (hc.ext he))
  have H0 := Lib.hid h0
  clear h0 hc
  unfold Cnf.val at HC ⊢
  go_enter Try.func32, Try.ntmps32
  go_wp2_with fail
  refine (words_17 _).mono ?_
  rintro e w1 ⟨rfl, X1, rfl⟩
  go_wp2_with fail
  refine (HC.out _ (by (repeat (first | (with_reducible assumption) | (with_reducible exact Ext.refl _) | (with_reducible exact Ext.more _ _ _ _) | (with_reducible apply Ext.alloc) | (with_reducible apply Ext.patch) | (with_reducible apply Ext.drew) | (with_reducible apply Ext.drewN) | (with_reducible refine Ext.setCell ?_ (by first | assumption | exact Nat.le_refl _ | exact Nat.le_add_right _ _) _))))).mono ?_
  rw [H0.out]
  rintro e w1 ⟨rfl, X2, rfl⟩
  obtain ⟨w2, hW⟩ : ∃ w2, (((w.alloc (.cells #[.int .i64 c.frags, .int .i64 c.spine, .int .i64 c.globals, .int .i64 c.threads, .int .i64 c.locals, .int .i64 c.cache, .int .i64 c.stack, .int .i64 c.low, .slice c.A c.shapes.length c.cap] 37)).alloc (.cells #[.int .i64 17, .int .i64 a, .int .i64 b, .int .i64 d, .int .i64 n, .complex .f64 x y] 28)).patch X1).patch X2 = w2 := ⟨_, rfl⟩
  rw [hW]
  have g2 : w2.cell? ⟨w.heap.size, 2, none⟩ = some (.int .i64 c.globals) := by rw [← hW]; clear hW; go_simp
  have g4 : w2.cell? ⟨w.heap.size, 4, none⟩ = some (.int .i64 c.locals) := by rw [← hW]; clear hW; go_simp
  have k0 : w2.cell? ⟨w.heap.size + 1, 0, none⟩ = some (.int .i64 17) := by rw [← hW]; clear hW; go_simp
  have k1 : w2.cell? ⟨w.heap.size + 1, 1, none⟩ = some (.int .i64 a) := by rw [← hW]; clear hW; go_simp
  have k2 : w2.cell? ⟨w.heap.size + 1, 2, none⟩ = some (.int .i64 b) := by rw [← hW]; clear hW; go_simp
  have k3 : w2.cell? ⟨w.heap.size + 1, 3, none⟩ = some (.int .i64 d) := by rw [← hW]; clear hW; go_simp
  have k4 : w2.cell? ⟨w.heap.size + 1, 4, none⟩ = some (.int .i64 n) := by rw [← hW]; clear hW; go_simp
  have hs1 : w.heap.size + 1 < w2.heap.size := by rw [← hW]; clear hW; go_simp
  have hs0 : w.heap.size < w2.heap.size := by omega
  have HEw := Lib.hid (show Ext w w2 by rw [← hW]; clear hW; (repeat (first | (with_reducible assumption) | (with_reducible exact Ext.refl _) | (with_reducible exact Ext.more _ _ _ _) | (with_reducible apply Ext.alloc) | (with_reducible apply Ext.patch) | (with_reducible apply Ext.drew) | (with_reducible apply Ext.drewN) | (with_reducible refine Ext.setCell ?_ (by first | assumption | exact Nat.le_refl _ | exact Nat.le_add_right _ _) _))))
  clear hW
  have q0 := fun ty => run_next_end (P := Try.prog) w2 ⟨#[]⟩ 0 ty (by decide)
  have ik0 : ∀ pos, (w2.iter ⟨#[]⟩ pos).cell? ⟨w.heap.size + 1, 0, none⟩ = some (.int .i64 17) := fun pos => by unfold World.iter; exact (World.cell?_alloc_lt _ _ _ (show _ < w2.heap.size by first | exact hs1 | exact hs0)).trans k0
  go_wp2_with fail
  refine wp_loop_rounds 1 ?_
  rw [rounds_succ]
  go_wp2
  go_ret
  exact Gives.mk rfl (by unfold World.iter; exact HEw.out.alloc _)
end Go.Proofs.Ytlddahifhefjiaa
