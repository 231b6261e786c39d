import Derived.Test.YtoaehfdjffejeaaGreatKL21
/-
  Packed: OpCheckB, OpCheckC, Need, Pick, ActG.
-/
open Go.Ext renaming alloc → zA, patch → zP, drew → zD, drewN → zN, more → zM, refl → zR, setCell → zS
open Nat renaming le_refl → zL, le_add_right → zK
/-
  op.words, op.Check of small operations. (The walks are printed by a program.)
-/
namespace Go.Proofs.YtoaehfdjffejeaaGreat
open Go Go.RowKit
set_option linter.unusedVariables false
set_option maxRecDepth 100000 in
set_option maxHeartbeats 1000000 in
theorem words_12 (w : World) : Calls Tryz.prog 125 #[.int .i64 12] w (Gives (.tuple #[.string ⟨#[110, 117, 109, 98, 101, 114]⟩, .string ⟨#[97, 122]⟩]) w) := by
  go_enter Tryz.func125, Tryz.ntmps125
  go_wp2
  go_quiet (fail)
  go_wp2
  go_ret2
  exact Gives.mk rfl (by (repeat (with_reducible (first | assumption | exact zR _ | exact zM _ _ _ _ | apply zA | apply zP | apply zD | apply zN | refine zS ?_ (by first | assumption | exact zL _ | exact zK _ _) _))))

set_option maxRecDepth 100000 in
set_option maxHeartbeats 1000000 in
theorem opCheck_12 (c : Cnf) (a b d n : Int) (x y : Nat) (w : World) (hc : c.Ok w) (h0 : c.check = 0) (ha : 0 ≤ a ∧ a < c.locals) :
    Calls Tryz.prog 89 #[c.val, .agg #[.int .i64 12, .int .i64 a, .int .i64 b, .int .i64 d, .int .i64 n, .complex .f64 x y]] w (Gives (.int .i64 0) w) := by
  have HC := Lib.hid (fun w' (he : Ext w w') => check_any c w' (hc.ext he))
  have H0 := Lib.hid h0
  obtain ⟨ha0, ha1⟩ := ha
  clear h0 hc
  unfold Cnf.val at HC ⊢
  go_enter Tryz.func89, Tryz.ntmps89
  go_wp2_with fail
  refine (words_12 _).mono ?_
  rintro e w1 ⟨rfl, X1, rfl⟩
  go_wp2_with fail
  refine (HC.out _ (by (repeat (with_reducible (first | assumption | exact zR _ | exact zM _ _ _ _ | apply zA | apply zP | apply zD | apply zN | refine zS ?_ (by first | assumption | exact zL _ | exact zK _ _) _))))).mono ?_
  rw [H0.out]
  rintro e w1 ⟨rfl, X2, rfl⟩
  obtain ⟨w2, hW⟩ : ∃ w2, (((w.alloc (.cells #[.int .i64 c.frags, .int .i64 c.spine, .int .i64 c.globals, .int .i64 c.threads, .int .i64 c.locals, .int .i64 c.cache, .int .i64 c.stack, .int .i64 c.low, .slice c.A c.shapes.length c.cap] 46)).alloc (.cells #[.int .i64 12, .int .i64 a, .int .i64 b, .int .i64 d, .int .i64 n, .complex .f64 x y] 26)).patch X1).patch X2 = w2 := ⟨_, rfl⟩
  rw [hW]
  have g2 : w2.cell? ⟨w.heap.size, 2, none⟩ = some (.int .i64 c.globals) := by rw [← hW]; clear hW; go_simp
  have g4 : w2.cell? ⟨w.heap.size, 4, none⟩ = some (.int .i64 c.locals) := by rw [← hW]; clear hW; go_simp
  have k0 : w2.cell? ⟨w.heap.size + 1, 0, none⟩ = some (.int .i64 12) := by rw [← hW]; clear hW; go_simp
  have k1 : w2.cell? ⟨w.heap.size + 1, 1, none⟩ = some (.int .i64 a) := by rw [← hW]; clear hW; go_simp
  have k2 : w2.cell? ⟨w.heap.size + 1, 2, none⟩ = some (.int .i64 b) := by rw [← hW]; clear hW; go_simp
  have k3 : w2.cell? ⟨w.heap.size + 1, 3, none⟩ = some (.int .i64 d) := by rw [← hW]; clear hW; go_simp
  have k4 : w2.cell? ⟨w.heap.size + 1, 4, none⟩ = some (.int .i64 n) := by rw [← hW]; clear hW; go_simp
  have hs1 : w.heap.size + 1 < w2.heap.size := by rw [← hW]; clear hW; go_simp
  have hs0 : w.heap.size < w2.heap.size := by omega
  have HEw := Lib.hid (show Ext w w2 by rw [← hW]; clear hW; (repeat (with_reducible (first | assumption | exact zR _ | exact zM _ _ _ _ | apply zA | apply zP | apply zD | apply zN | refine zS ?_ (by first | assumption | exact zL _ | exact zK _ _) _))))
  clear hW
  have q0 : ∀ ty, (Instr.next (.pointer (some ⟨w2.heap.size, 0, none⟩)) true ty).run Tryz.prog (w2.iter ⟨#[97, 122]⟩ 0) = .ok (.tuple #[.bool true, .int .i64 0, .int .i32 97]) (w2.iter ⟨#[97, 122]⟩ 1) := fun ty => run_next_ascii (P := Tryz.prog) w2 ⟨#[97, 122]⟩ 0 ty (by decide) (by decide)
  have q1 : ∀ ty, (Instr.next (.pointer (some ⟨w2.heap.size, 0, none⟩)) true ty).run Tryz.prog (w2.iter ⟨#[97, 122]⟩ 1) = .ok (.tuple #[.bool true, .int .i64 1, .int .i32 122]) (w2.iter ⟨#[97, 122]⟩ 2) := fun ty => run_next_ascii (P := Tryz.prog) w2 ⟨#[97, 122]⟩ 1 ty (by decide) (by decide)
  have q2 := fun ty => run_next_end (P := Tryz.prog) w2 ⟨#[97, 122]⟩ 2 ty (by decide)
  have ik1 : ∀ pos, (w2.iter ⟨#[97, 122]⟩ pos).cell? ⟨w.heap.size + 1, 1, none⟩ = some (.int .i64 a) := fun pos => by unfold World.iter; exact (World.cell?_alloc_lt _ _ _ (show _ < w2.heap.size by first | exact hs1 | exact hs0)).trans k1
  have ik0 : ∀ pos, (w2.iter ⟨#[97, 122]⟩ pos).cell? ⟨w.heap.size + 1, 0, none⟩ = some (.int .i64 12) := fun pos => by unfold World.iter; exact (World.cell?_alloc_lt _ _ _ (show _ < w2.heap.size by first | exact hs1 | exact hs0)).trans k0
  have ig4 : ∀ pos, (w2.iter ⟨#[97, 122]⟩ pos).cell? ⟨w.heap.size, 4, none⟩ = some (.int .i64 c.locals) := fun pos => by unfold World.iter; exact (World.cell?_alloc_lt _ _ _ (show _ < w2.heap.size by first | exact hs1 | exact hs0)).trans g4
  go_wp2_with fail
  refine wp_loop_rounds 3 ?_
  rw [rounds_succ]
  go_wp2
  rw [rounds_succ]
  go_wp2
  rw [rounds_succ]
  go_wp2
  go_ret
  exact Gives.mk rfl (by unfold World.iter; exact HEw.out.alloc _)

set_option maxRecDepth 100000 in
set_option maxHeartbeats 1000000 in
theorem words_13 (w : World) : Calls Tryz.prog 125 #[.int .i64 13] w (Gives (.tuple #[.string ⟨#[99, 108, 101, 97, 114]⟩, .string ⟨#[97]⟩]) w) := by
  go_enter Tryz.func125, Tryz.ntmps125
  go_wp2
  go_quiet (fail)
  go_wp2
  go_ret2
  exact Gives.mk rfl (by (repeat (with_reducible (first | assumption | exact zR _ | exact zM _ _ _ _ | apply zA | apply zP | apply zD | apply zN | refine zS ?_ (by first | assumption | exact zL _ | exact zK _ _) _))))

set_option maxRecDepth 100000 in
set_option maxHeartbeats 1000000 in
theorem opCheck_13 (c : Cnf) (a b d n : Int) (x y : Nat) (w : World) (hc : c.Ok w) (h0 : c.check = 0) (ha : 0 ≤ a ∧ a < c.locals) :
    Calls Tryz.prog 89 #[c.val, .agg #[.int .i64 13, .int .i64 a, .int .i64 b, .int .i64 d, .int .i64 n, .complex .f64 x y]] w (Gives (.int .i64 0) w) := by
  have HC := Lib.hid (fun w' (he : Ext w w') => check_any c w' (hc.ext he))
  have H0 := Lib.hid h0
  obtain ⟨ha0, ha1⟩ := ha
  clear h0 hc
  unfold Cnf.val at HC ⊢
  go_enter Tryz.func89, Tryz.ntmps89
  go_wp2_with fail
  refine (words_13 _).mono ?_
  rintro e w1 ⟨rfl, X1, rfl⟩
  go_wp2_with fail
  refine (HC.out _ (by (repeat (with_reducible (first | assumption | exact zR _ | exact zM _ _ _ _ | apply zA | apply zP | apply zD | apply zN | refine zS ?_ (by first | assumption | exact zL _ | exact zK _ _) _))))).mono ?_
  rw [H0.out]
  rintro e w1 ⟨rfl, X2, rfl⟩
  obtain ⟨w2, hW⟩ : ∃ w2, (((w.alloc (.cells #[.int .i64 c.frags, .int .i64 c.spine, .int .i64 c.globals, .int .i64 c.threads, .int .i64 c.locals, .int .i64 c.cache, .int .i64 c.stack, .int .i64 c.low, .slice c.A c.shapes.length c.cap] 46)).alloc (.cells #[.int .i64 13, .int .i64 a, .int .i64 b, .int .i64 d, .int .i64 n, .complex .f64 x y] 26)).patch X1).patch X2 = w2 := ⟨_, rfl⟩
  rw [hW]
  have g2 : w2.cell? ⟨w.heap.size, 2, none⟩ = some (.int .i64 c.globals) := by rw [← hW]; clear hW; go_simp
  have g4 : w2.cell? ⟨w.heap.size, 4, none⟩ = some (.int .i64 c.locals) := by rw [← hW]; clear hW; go_simp
  have k0 : w2.cell? ⟨w.heap.size + 1, 0, none⟩ = some (.int .i64 13) := by rw [← hW]; clear hW; go_simp
  have k1 : w2.cell? ⟨w.heap.size + 1, 1, none⟩ = some (.int .i64 a) := by rw [← hW]; clear hW; go_simp
  have k2 : w2.cell? ⟨w.heap.size + 1, 2, none⟩ = some (.int .i64 b) := by rw [← hW]; clear hW; go_simp
  have k3 : w2.cell? ⟨w.heap.size + 1, 3, none⟩ = some (.int .i64 d) := by rw [← hW]; clear hW; go_simp
  have k4 : w2.cell? ⟨w.heap.size + 1, 4, none⟩ = some (.int .i64 n) := by rw [← hW]; clear hW; go_simp
  have hs1 : w.heap.size + 1 < w2.heap.size := by rw [← hW]; clear hW; go_simp
  have hs0 : w.heap.size < w2.heap.size := by omega
  have HEw := Lib.hid (show Ext w w2 by rw [← hW]; clear hW; (repeat (with_reducible (first | assumption | exact zR _ | exact zM _ _ _ _ | apply zA | apply zP | apply zD | apply zN | refine zS ?_ (by first | assumption | exact zL _ | exact zK _ _) _))))
  clear hW
  have q0 : ∀ ty, (Instr.next (.pointer (some ⟨w2.heap.size, 0, none⟩)) true ty).run Tryz.prog (w2.iter ⟨#[97]⟩ 0) = .ok (.tuple #[.bool true, .int .i64 0, .int .i32 97]) (w2.iter ⟨#[97]⟩ 1) := fun ty => run_next_ascii (P := Tryz.prog) w2 ⟨#[97]⟩ 0 ty (by decide) (by decide)
  have q1 := fun ty => run_next_end (P := Tryz.prog) w2 ⟨#[97]⟩ 1 ty (by decide)
  have ik1 : ∀ pos, (w2.iter ⟨#[97]⟩ pos).cell? ⟨w.heap.size + 1, 1, none⟩ = some (.int .i64 a) := fun pos => by unfold World.iter; exact (World.cell?_alloc_lt _ _ _ (show _ < w2.heap.size by first | exact hs1 | exact hs0)).trans k1
  have ik0 : ∀ pos, (w2.iter ⟨#[97]⟩ pos).cell? ⟨w.heap.size + 1, 0, none⟩ = some (.int .i64 13) := fun pos => by unfold World.iter; exact (World.cell?_alloc_lt _ _ _ (show _ < w2.heap.size by first | exact hs1 | exact hs0)).trans k0
  have ig4 : ∀ pos, (w2.iter ⟨#[97]⟩ pos).cell? ⟨w.heap.size, 4, none⟩ = some (.int .i64 c.locals) := fun pos => by unfold World.iter; exact (World.cell?_alloc_lt _ _ _ (show _ < w2.heap.size by first | exact hs1 | exact hs0)).trans g4
  go_wp2_with fail
  refine wp_loop_rounds 2 ?_
  rw [rounds_succ]
  go_wp2
  rw [rounds_succ]
  go_wp2
  go_ret
  exact Gives.mk rfl (by unfold World.iter; exact HEw.out.alloc _)

end Go.Proofs.YtoaehfdjffejeaaGreat

/-
  op.words, op.Check of small operations. (The walks are printed by a program.)
-/
namespace Go.Proofs.YtoaehfdjffejeaaGreat
open Go Go.RowKit
set_option linter.unusedVariables false
set_option maxRecDepth 100000 in
set_option maxHeartbeats 1000000 in
theorem words_18 (w : World) : Calls Tryz.prog 125 #[.int .i64 18] w (Gives (.tuple #[.string ⟨#[108, 101, 97, 118, 101]⟩, .string ⟨#[]⟩]) w) := by
  go_enter Tryz.func125, Tryz.ntmps125
  go_wp2
  go_quiet (fail)
  go_wp2
  go_ret2
  exact Gives.mk rfl (by (repeat (with_reducible (first | assumption | exact zR _ | exact zM _ _ _ _ | apply zA | apply zP | apply zD | apply zN | refine zS ?_ (by first | assumption | exact zL _ | exact zK _ _) _))))

set_option maxRecDepth 100000 in
set_option maxHeartbeats 1000000 in
theorem opCheck_18 (c : Cnf) (a b d n : Int) (x y : Nat) (w : World) (hc : c.Ok w) (h0 : c.check = 0) :
    Calls Tryz.prog 89 #[c.val, .agg #[.int .i64 18, .int .i64 a, .int .i64 b, .int .i64 d, .int .i64 n, .complex .f64 x y]] w (Gives (.int .i64 0) w) := by
  have HC := Lib.hid (fun w' (he : Ext w w') => check_any c w' (hc.ext he))
  have H0 := Lib.hid h0
  clear h0 hc
  unfold Cnf.val at HC ⊢
  go_enter Tryz.func89, Tryz.ntmps89
  go_wp2_with fail
  refine (words_18 _).mono ?_
  rintro e w1 ⟨rfl, X1, rfl⟩
  go_wp2_with fail
  refine (HC.out _ (by (repeat (with_reducible (first | assumption | exact zR _ | exact zM _ _ _ _ | apply zA | apply zP | apply zD | apply zN | refine zS ?_ (by first | assumption | exact zL _ | exact zK _ _) _))))).mono ?_
  rw [H0.out]
  rintro e w1 ⟨rfl, X2, rfl⟩
  obtain ⟨w2, hW⟩ : ∃ w2, (((w.alloc (.cells #[.int .i64 c.frags, .int .i64 c.spine, .int .i64 c.globals, .int .i64 c.threads, .int .i64 c.locals, .int .i64 c.cache, .int .i64 c.stack, .int .i64 c.low, .slice c.A c.shapes.length c.cap] 46)).alloc (.cells #[.int .i64 18, .int .i64 a, .int .i64 b, .int .i64 d, .int .i64 n, .complex .f64 x y] 26)).patch X1).patch X2 = w2 := ⟨_, rfl⟩
  rw [hW]
  have g2 : w2.cell? ⟨w.heap.size, 2, none⟩ = some (.int .i64 c.globals) := by rw [← hW]; clear hW; go_simp
  have g4 : w2.cell? ⟨w.heap.size, 4, none⟩ = some (.int .i64 c.locals) := by rw [← hW]; clear hW; go_simp
  have k0 : w2.cell? ⟨w.heap.size + 1, 0, none⟩ = some (.int .i64 18) := by rw [← hW]; clear hW; go_simp
  have k1 : w2.cell? ⟨w.heap.size + 1, 1, none⟩ = some (.int .i64 a) := by rw [← hW]; clear hW; go_simp
  have k2 : w2.cell? ⟨w.heap.size + 1, 2, none⟩ = some (.int .i64 b) := by rw [← hW]; clear hW; go_simp
  have k3 : w2.cell? ⟨w.heap.size + 1, 3, none⟩ = some (.int .i64 d) := by rw [← hW]; clear hW; go_simp
  have k4 : w2.cell? ⟨w.heap.size + 1, 4, none⟩ = some (.int .i64 n) := by rw [← hW]; clear hW; go_simp
  have hs1 : w.heap.size + 1 < w2.heap.size := by rw [← hW]; clear hW; go_simp
  have hs0 : w.heap.size < w2.heap.size := by omega
  have HEw := Lib.hid (show Ext w w2 by rw [← hW]; clear hW; (repeat (with_reducible (first | assumption | exact zR _ | exact zM _ _ _ _ | apply zA | apply zP | apply zD | apply zN | refine zS ?_ (by first | assumption | exact zL _ | exact zK _ _) _))))
  clear hW
  have q0 := fun ty => run_next_end (P := Tryz.prog) w2 ⟨#[]⟩ 0 ty (by decide)
  have ik0 : ∀ pos, (w2.iter ⟨#[]⟩ pos).cell? ⟨w.heap.size + 1, 0, none⟩ = some (.int .i64 18) := fun pos => by unfold World.iter; exact (World.cell?_alloc_lt _ _ _ (show _ < w2.heap.size by first | exact hs1 | exact hs0)).trans k0
  go_wp2_with fail
  refine wp_loop_rounds 1 ?_
  rw [rounds_succ]
  go_wp2
  go_ret
  exact Gives.mk rfl (by unfold World.iter; exact HEw.out.alloc _)
end Go.Proofs.YtoaehfdjffejeaaGreat

/-
  op.Check of operations that pass; op.Need.
-/
namespace Go.Proofs.YtoaehfdjffejeaaGreat
open Go Go.RowKit
set_option linter.unusedVariables false
set_option linter.unnecessarySimpa false
set_option linter.unusedSimpArgs false
set_option maxHeartbeats 2000000
set_option maxRecDepth 100000
theorem inL_of {c : Cnf} {i : Int} (h : inL c i = true) : 0 ≤ i ∧ i < c.locals := of_decide_eq_true h
theorem size_same (arr : Bool) (A : Option Addr) (cap : Nat) (refs : List Bool) (n : Int) : Shp.size ⟨arr, A, cap, refs⟩ n = Shp.size ⟨arr, none, 0, refs⟩ n := rfl
theorem spine_same (arr : Bool) (A : Option Addr) (cap : Nat) (refs : List Bool) (n : Int) : Shp.spine ⟨arr, A, cap, refs⟩ n = Shp.spine ⟨arr, none, 0, refs⟩ n := rfl
theorem opOk_make {c : Cnf} {o : Opr} (h12 : o.kind = 1 ∨ o.kind = 2) (h : opOk c o = true) : (0 ≤ o.a ∧ o.a < c.locals) ∧ (∃ refs, c.shapeAt o.b = some (o.kind == 2, refs) ∧ needF c o = Shp.size ⟨o.kind == 2, none, 0, refs⟩ (if o.kind = 2 then o.n else 0) ∧ needS c o = Shp.spine ⟨o.kind == 2, none, 0, refs⟩ o.n) ∧ 0 ≤ needF c o ∧ needF c o ≤ c.frags ∧ needS c o ≤ c.spine := by
  unfold opOk at h
  rw [if_pos h12] at h
  simp only [Bool.and_eq_true, decide_eq_true_eq, beq_iff_eq] at h
  obtain ⟨⟨⟨⟨⟨h1, h2⟩, h3⟩, h4⟩, h5⟩, h6⟩ := h
  refine ⟨inL_of h1, ?_, h4, h5, h6⟩
  obtain ⟨⟨ar, refs⟩, hx⟩ := Option.isSome_iff_exists.1 h2
  rw [hx] at h3
  simp only [Option.getD_some] at h3
  refine ⟨refs, by rw [hx, h3], ?_, ?_⟩
  · unfold needF; rw [hx]; rfl
  · unfold needS; rw [hx]; rfl
theorem opChk_1 (c : Cnf) (a b d n : Int) (x y : Nat) (w : World) (hc : c.Ok w) (h0 : c.check = 0) (ho : opOk c ⟨1, a, b, d, n, x, y⟩ = true) : Calls Tryz.prog 89 #[c.val, .agg #[.int .i64 1, .int .i64 a, .int .i64 b, .int .i64 d, .int .i64 n, .complex .f64 x y]] w (Gives (.int .i64 0) w) := by
  obtain ⟨ha, ⟨refs, hS, hF, hP⟩, z0, z1, p1⟩ := opOk_make (o := ⟨1, a, b, d, n, x, y⟩) (Or.inl rfl) ho
  exact opCheck_1 c a b d n x y w hc h0 ha refs hS _ _ hF.symm hP.symm z0 z1 p1
theorem opChk_4 (c : Cnf) (a b d n : Int) (x y : Nat) (w : World) (hc : c.Ok w) (h0 : c.check = 0) (ho : opOk c ⟨4, a, b, d, n, x, y⟩ = true) : Calls Tryz.prog 89 #[c.val, .agg #[.int .i64 4, .int .i64 a, .int .i64 b, .int .i64 d, .int .i64 n, .complex .f64 x y]] w (Gives (.int .i64 0) w) := by
  have h1 : (inL c a && inL c b) = true := ho
  rw [Bool.and_eq_true] at h1
  exact opCheck_4 c a b d n x y w hc h0 (inL_of h1.1) (inL_of h1.2)
theorem opChk_12 (c : Cnf) (a b d n : Int) (x y : Nat) (w : World) (hc : c.Ok w) (h0 : c.check = 0) (ho : opOk c ⟨12, a, b, d, n, x, y⟩ = true) : Calls Tryz.prog 89 #[c.val, .agg #[.int .i64 12, .int .i64 a, .int .i64 b, .int .i64 d, .int .i64 n, .complex .f64 x y]] w (Gives (.int .i64 0) w) :=
  opCheck_12 c a b d n x y w hc h0 (inL_of ho)
theorem opChk_13 (c : Cnf) (a b d n : Int) (x y : Nat) (w : World) (hc : c.Ok w) (h0 : c.check = 0) (ho : opOk c ⟨13, a, b, d, n, x, y⟩ = true) : Calls Tryz.prog 89 #[c.val, .agg #[.int .i64 13, .int .i64 a, .int .i64 b, .int .i64 d, .int .i64 n, .complex .f64 x y]] w (Gives (.int .i64 0) w) :=
  opCheck_13 c a b d n x y w hc h0 (inL_of ho)
theorem opChk_18 (c : Cnf) (a b d n : Int) (x y : Nat) (w : World) (hc : c.Ok w) (h0 : c.check = 0) (ho : opOk c ⟨18, a, b, d, n, x, y⟩ = true) : Calls Tryz.prog 89 #[c.val, .agg #[.int .i64 18, .int .i64 a, .int .i64 b, .int .i64 d, .int .i64 n, .complex .f64 x y]] w (Gives (.int .i64 0) w) :=
  opCheck_18 c a b d n x y w hc h0
theorem need_1 (c : Cnf) (a b d n : Int) (x y : Nat) (w : World) (hc : c.Ok w) (h0 : c.check = 0) (ho : opOk c ⟨1, a, b, d, n, x, y⟩ = true) :
    Calls Tryz.prog 136 #[c.val, .agg #[.int .i64 1, .int .i64 a, .int .i64 b, .int .i64 d, .int .i64 n, .complex .f64 x y]] w (Gives (.tuple #[.int .i64 (needF c ⟨1, a, b, d, n, x, y⟩), .int .i64 (needS c ⟨1, a, b, d, n, x, y⟩)]) w) := by
  have HCK := Lib.hid (fun w' (he : Ext w w') => opChk_1 c a b d n x y w' (hc.ext he) h0 ho)
  have HS := Lib.hid (fun w' (he : Ext w w') => shape_any c b w' (hc.ext he))
  obtain ⟨ha, ⟨refs, hS, hF, hP⟩, z0, z1, p1⟩ := opOk_make (o := ⟨1, a, b, d, n, x, y⟩) (by simp) ho
  simp only at hS hF hP
  have HQ := Lib.hid (show c.shapeAt b = some (false, refs) from hS)
  have HF := Lib.hid (show needF c ⟨1, a, b, d, n, x, y⟩ = Shp.size ⟨false, none, 0, refs⟩ 0 from hF)
  have HP := Lib.hid (show needS c ⟨1, a, b, d, n, x, y⟩ = Shp.spine ⟨false, none, 0, refs⟩ n from hP)
  unfold Cnf.val at HCK HS ⊢
  clear hc h0 ho ha hS hF hP z0 z1 p1
  go_enter Tryz.func136, Tryz.ntmps136
  go_wp2_with fail
  refine (HCK.out _ (by (repeat (first | (with_reducible (first | assumption | exact zR _ | exact zM _ _ _ _)) | apply zA | refine zS ?_ (by first | exact zL _ | exact zK _ _ | assumption) _ | apply zP | apply zD | apply zN)))).mono ?_
  rintro e w1 ⟨rfl, X1, rfl⟩
  go_wp2_with fail
  refine (HS.out _ (by (repeat (first | (with_reducible (first | assumption | exact zR _ | exact zM _ _ _ _)) | apply zA | refine zS ?_ (by first | exact zL _ | exact zK _ _ | assumption) _ | apply zP | apply zD | apply zN)))).mono ?_
  rintro e w4 ⟨s', rfl, heq, hfr, hok, hE⟩
  rw [HQ.out, Option.getD_some] at heq
  obtain ⟨arr', A', cap', refs'⟩ := s'
  simp only [Prod.mk.injEq] at heq
  obtain ⟨rfl, rfl⟩ := heq
  have k0 : w4.cell? ⟨w.heap.size + 1, 0, none⟩ = some (.int .i64 1) := (ext_cell hE (by simp only [World.size_patch, World.size_alloc]; omega)).trans (by go_simp)
  have k1 : w4.cell? ⟨w.heap.size + 1, 1, none⟩ = some (.int .i64 a) := (ext_cell hE (by simp only [World.size_patch, World.size_alloc]; omega)).trans (by go_simp)
  have k2 : w4.cell? ⟨w.heap.size + 1, 2, none⟩ = some (.int .i64 b) := (ext_cell hE (by simp only [World.size_patch, World.size_alloc]; omega)).trans (by go_simp)
  have k3 : w4.cell? ⟨w.heap.size + 1, 3, none⟩ = some (.int .i64 d) := (ext_cell hE (by simp only [World.size_patch, World.size_alloc]; omega)).trans (by go_simp)
  have k4 : w4.cell? ⟨w.heap.size + 1, 4, none⟩ = some (.int .i64 n) := (ext_cell hE (by simp only [World.size_patch, World.size_alloc]; omega)).trans (by go_simp)
  have k5 : w4.cell? ⟨w.heap.size + 1, 5, none⟩ = some (.complex .f64 x y) := (ext_cell hE (by simp only [World.size_patch, World.size_alloc]; omega)).trans (by go_simp)
  have hl1 : w.heap.size + 1 < w4.heap.size := Nat.lt_of_lt_of_le (by simp only [World.size_patch, World.size_alloc]; omega) hE.size
  have HE4 := Lib.hid (show Ext w w4 from (show Ext w _ by (repeat (first | (with_reducible (first | assumption | exact zR _ | exact zM _ _ _ _)) | apply zA | refine zS ?_ (by first | exact zL _ | exact zK _ _ | assumption) _ | apply zP | apply zD | apply zN))).trans hE)
  clear hE hfr
  have HF1 := Lib.hid (fun w' (he : Ext w4 w') => opSize_1 _ a b d n x y w' (hok.ext he))
  have HF2 := Lib.hid (fun w' (he : Ext w4 w') => sspine_any _ n w' (hok.ext he))
  clear hok
  rw [size_same, ← HF.out] at HF1
  rw [spine_same, ← HP.out] at HF2
  rw [HQ.out]
  unfold Shp.val at HF1 HF2 ⊢
  go_upto_region 4 with fail
  obtain ⟨w6, hW6⟩ : ∃ w6, (w4.alloc (.cells #[.bool false, .slice A' refs'.length cap'] 73)) = w6 := ⟨_, rfl⟩
  rw [hW6]
  have HE6 := Lib.hid (show Ext w4 w6 by rw [← hW6]; clear hW6; (repeat (with_reducible (first | assumption | exact zR _ | exact zM _ _ _ _ | apply zA | apply zP | apply zD | apply zN | refine zS ?_ (by first | assumption | exact zL _ | exact zK _ _) _))))
  have nk0 : w6.cell? ⟨w.heap.size + 1, 0, none⟩ = some (.int .i64 1) := (ext_cell HE6.out hl1).trans k0
  have nk1 : w6.cell? ⟨w.heap.size + 1, 1, none⟩ = some (.int .i64 a) := (ext_cell HE6.out hl1).trans k1
  have nk2 : w6.cell? ⟨w.heap.size + 1, 2, none⟩ = some (.int .i64 b) := (ext_cell HE6.out hl1).trans k2
  have nk3 : w6.cell? ⟨w.heap.size + 1, 3, none⟩ = some (.int .i64 d) := (ext_cell HE6.out hl1).trans k3
  have nk4 : w6.cell? ⟨w.heap.size + 1, 4, none⟩ = some (.int .i64 n) := (ext_cell HE6.out hl1).trans k4
  have nk5 : w6.cell? ⟨w.heap.size + 1, 5, none⟩ = some (.complex .f64 x y) := (ext_cell HE6.out hl1).trans k5
  have ns0 : w6.cell? ⟨w4.heap.size, 0, none⟩ = some (.bool false) := by rw [← hW6]; clear hW6; go_simp
  have ns1 : w6.cell? ⟨w4.heap.size, 1, none⟩ = some (.slice A' refs'.length cap') := by rw [← hW6]; clear hW6; go_simp
  have hn2 : w4.heap.size < w6.heap.size := by rw [← hW6]; clear hW6; go_simp
  have hn1 : w.heap.size + 1 < w6.heap.size := by omega
  have hn0 : w.heap.size < w6.heap.size := by omega
  have HEE := Lib.hid (show Ext w w6 from HE4.out.trans HE6.out)
  clear hW6
  refine wp_region_mixed [true, true, true, true, true, true, true, true, true] 0 9 (by kernel_rfl) (by kernel_rfl) (by kernel_rfl) ?_ (by decide) (by decide) (by decide) (by kernel_rfl) ?_
  · intro c a d v w h; cases d <;> exact h
  intro X00
  simp only [pickOps]
  repeat (go_big_quiet_step (first | (go_at_call 128; exact Calls.added (HF1.out _ (HE6.out.patch _))) | (go_at_call 129; exact Calls.added (HF2.out _ (HE6.out.patch _)))))
  refine wpQuiet_nil (fun X0 => ?_)
  clear X00
  refine wpAnyM_done (by kernel_rfl) (fun X0' => ?_) _
  go_wp2_with fail
  go_ret2
  exact Gives.mk rfl (HEE.out.trans (by (repeat (with_reducible (first | assumption | exact zR _ | exact zM _ _ _ _ | apply zA | apply zP | apply zD | apply zN | refine zS ?_ (by first | assumption | exact zL _ | exact zK _ _) _)))))
end Go.Proofs.YtoaehfdjffejeaaGreat

/-
  A region that draws: calm operations, then a call that writes; some that only lay something new (a variable's cell) may come at any time. No program here.
-/
namespace Go
set_option linter.unusedVariables false
section
variable {P : Program} {ops : Array Oper} {Q : Exit → Act → World → Prop} {md : Region.Mode} {w0 : World}
def frB (L : Nat) (A : List Nat) (i : Nat) : Bool := decide (i < L) || A.contains i
def waitsB (md : Region.Mode) (ops : Array Oper) (L : Nat) (A : List Nat) : Bool := Region.sinkB md ops L && decide (L < ops.size) && (List.range ops.size).all fun j => decide (j ≤ L) || A.contains j || Region.waitsFor md ops j L
theorem ready_below {L : Nat} {listed : Array Bool} (hc : Closed md ops listed) (hs : Region.sinkB md ops L = true) (hL : L ∈ Region.ready md ops listed) : ∀ (d i : Nat), L - i = d → i < L → listed.getD i false = true := by
  intro d
  induction d using Nat.strongRecOn with
  | _ d ih =>
    intro i hd hi
    have h1 := List.all_eq_true.1 hs i (List.mem_range.2 hi)
    obtain ⟨j, hj, hj2⟩ := List.any_eq_true.1 h1
    simp only [Bool.and_eq_true, decide_eq_true_eq] at hj2
    obtain ⟨oj, hoj, e, he, hb, hon⟩ := Region.waitsFor_spec hj2.2
    have hjle : j ≤ L := by have := List.mem_range.1 hj; omega
    rw [← hon]
    by_cases hjL : j = L
    · subst hjL
      obtain ⟨_, o, ho, hall⟩ := mem_ready.1 hL
      rw [hoj] at ho
      injection ho with ho
      subst ho
      exact hall e he hb
    · exact hc.2 j oj hoj (ih (L - j) (by omega) j rfl (by omega)) e he hb
theorem waits_fr {L : Nat} {A : List Nat} (hW : waitsB md ops L A = true) {listed : Array Bool} (hc : Closed md ops listed) {i : Nat} (hi : i ∈ Region.ready md ops listed) (hiL : i < L) : ∀ j ∈ Region.ready md ops listed, frB L A j = true := by
  intro j hj
  unfold waitsB at hW
  simp only [Bool.and_eq_true, decide_eq_true_eq] at hW
  obtain ⟨⟨hs, hz⟩, hall⟩ := hW
  unfold frB
  rw [Bool.or_eq_true, decide_eq_true_eq]
  obtain ⟨hun, oi, hoi, _⟩ := mem_ready.1 hi
  obtain ⟨hunj, oj, hoj, hallj⟩ := mem_ready.1 hj
  have hjl := (Array.getElem?_eq_some_iff.1 hoj).1
  by_cases hjL : j < L
  · exact Or.inl hjL
  by_cases hA : A.contains j = true
  · exact Or.inr hA
  exfalso
  have key : listed.getD i false = true := by
    by_cases he : j = L
    · subst he
      exact ready_below hc hs hj _ i rfl hiL
    · have h1 := List.all_eq_true.1 hall j (List.mem_range.2 hjl)
      simp only [Bool.or_eq_true, decide_eq_true_eq] at h1
      rcases h1 with (h1 | h1) | h1
      · omega
      · exact absurd h1 hA
      · obtain ⟨oj', hoj', e, he, hb, hon⟩ := Region.waitsFor_spec h1
        rw [hoj] at hoj'
        injection hoj' with hoj'
        subst hoj'
        have h2 := hallj e he hb
        rw [hon] at h2
        exact listed_below hc hs h2 _ i rfl hiL
  rw [getD_both hun] at key
  cases key
def wpAnyP (P : Program) (md : Region.Mode) (ops : Array Oper) (Q : Exit → Act → World → Prop) (w0 : World) (L : Nat) (A : List Nat) : Nat → Array Bool → Act → World → Prop
  | 0, listed, a, w => Region.ready md ops listed = [] ∧ ∀ w1, Ext w w1 → Q .normal a w1
  | fuel + 1, listed, a, w => ∀ w1, Ext w w1 →
    (Region.ready md ops listed = [] → Q .normal a w1) ∧
    ∀ i ∈ Region.ready md ops listed, (frB L A i = true → wpOp P ops Q i (fun a' w' => Ext w0 w' ∧ wpAnyP P md ops Q w0 L A fuel (listed.setIfInBounds i true) a' w') a w1) ∧
      (frB L A i = false → wpOp P ops Q i (fun a' w' => wpAny P md ops Q fuel (listed.setIfInBounds i true) a' w') a w1)
theorem wpAny_of_P {L : Nat} {A : List Nat} : ∀ (fuel : Nat) (listed : Array Bool) (a : Act) (w : World), wpAnyP P md ops Q w0 L A fuel listed a w → wpAny P md ops Q fuel listed a w
  | 0, _, _, _, h => ⟨h.1, h.2 _ (Ext.refl _)⟩
  | fuel + 1, _, _, w, h => ⟨(h w (Ext.refl _)).1, fun i hi => by
    have h1 := (h w (Ext.refl _)).2 i hi
    cases hl : frB L A i
    · exact h1.2 hl
    · exact wpOp_mono (fun a' w' h' => wpAny_of_P fuel _ a' w' h'.2) (h1.1 hl)⟩
theorem wpAnyP.ext {L : Nat} {A : List Nat} {fuel : Nat} {listed : Array Bool} {a : Act} {w w' : World} (h : wpAnyP P md ops Q w0 L A fuel listed a w) (he : Ext w w') : wpAnyP P md ops Q w0 L A fuel listed a w' := by
  cases fuel with
  | zero => exact ⟨h.1, fun w1 h1 => h.2 w1 (he.trans h1)⟩
  | succ n => exact fun w1 h1 => h w1 (he.trans h1)
theorem wpAnyP_first {L : Nat} {A : List Nat} {i : Nat} {oi : Oper} {v : Value} (hW : waitsB md ops L A = true) (hiL : i < L) (hi : ops[i]? = some oi) (hsel : ∀ (j : Nat) (o : Oper) cs b, ops[j]? = some o → o.op ≠ .select cs b)
    (hQ : ∀ c a w, Q (.panic c) (a.put oi.dst v) w → Q (.panic c) a w) :
    ∀ (fuel : Nat) (listed : Array Bool) (a : Act) (w : World), Closed md ops listed →
      (∀ j oj, ops[j]? = some oj → j ≠ i → listed.getD j true = false → (∀ e ∈ oj.after, Region.binds md e = true → e.on ≠ i) → oi.apart ops oj = true) →
      i ∈ Region.ready md ops listed → YieldsE P ops w0 oi v a → Ext w0 w →
      wpAnyP P md ops Q w0 L A fuel (listed.setIfInBounds i true) (a.put oi.dst v) w → wpAnyP P md ops Q w0 L A (fuel + 1) listed a w := by
  intro fuel
  have hfi : frB L A i = true := by unfold frB; rw [decide_eq_true hiL]; rfl
  induction fuel with
  | zero =>
    intro listed a w hcl _ hr hy hS H w1 hw1
    refine ⟨fun h => (by rw [h] at hr; cases hr), fun j hj => ?_⟩
    by_cases hji : j = i
    · subst hji
      exact ⟨fun _ => hy.wpOp hi (hS.trans hw1) (fun w' hw' => ⟨(hS.trans hw1).trans hw', H.ext (hw1.trans hw')⟩), fun h => by rw [hfi] at h; cases h⟩
    · have := ready_mono hj hji
      rw [H.1] at this
      cases this
  | succ fuel ih =>
    intro listed a w hcl hfree hr hy hS H w1 hw1
    refine ⟨fun h => (by rw [h] at hr; cases hr), fun j hj => ?_⟩
    have hjL : frB L A j = true := waits_fr hW hcl hr hiL j hj
    refine ⟨fun _ => ?_, fun h => by rw [hjL] at h; cases h⟩
    by_cases hji : j = i
    · subst hji
      exact hy.wpOp hi (hS.trans hw1) (fun w' hw' => ⟨(hS.trans hw1).trans hw', H.ext (hw1.trans hw')⟩)
    · have h1 := ((H w1 hw1).2 j (ready_mono hj hji)).1 hjL
      obtain ⟨hjun, oj, hoj, hall⟩ := mem_ready.1 hj
      have hnot : ∀ e ∈ oj.after, Region.binds md e = true → e.on ≠ i := fun e he hb heq => by
        have h1 := hall e he hb
        have h0 := (mem_ready.1 hr).1
        rw [heq] at h1
        rcases Nat.lt_or_ge i listed.size with h' | h'
        · simp [h'] at h0 h1; rw [h0] at h1; cases h1
        · simp [Array.getElem?_eq_none h'] at h1
      have h2 := wpOp_putE hoj (hfree j oj hoj hji hjun hnot) (fun cs b => hsel i oi cs b hi) (fun cs b => hsel j oj cs b hoj) hQ hy h1
      have hfree' : ∀ k ok, ops[k]? = some ok → k ≠ i → (listed.setIfInBounds j true).getD k true = false →
          (∀ e ∈ ok.after, Region.binds md e = true → e.on ≠ i) → oi.apart ops ok = true := fun k ok hk hki hun hno => by
        refine hfree k ok hk hki ?_ hno
        by_cases hjk : j = k
        · subst hjk; exact hjun
        · rw [getD_set_ne true hjk] at hun; exact hun
      refine wpOp_mono (fun a' w' h3 => ⟨h3.2.1, ih (listed.setIfInBounds j true) a' w' (hcl.set hj) hfree' (ready_mono hr (Ne.symm hji)) h3.1 h3.2.1 ?_⟩) h2
      rw [Array.setIfInBounds_comm _ _ hji]
      exact h3.2.2
theorem wpAnyP_lex {L : Nat} {A : List Nat} (hW : waitsB md ops L A = true) (hs : Region.noSelect ops = true) (hQ : ∀ (c : List PanicEntry) (a : Act) (d : Option Tmp) (v : Value) (w : World), Q (.panic c) (a.put d v) w → Q (.panic c) a w) (n : Nat) : ∀ (m : List Bool) (l : List Oper) (k : Nat) (listed : Array Bool) (a : Act), Closed md ops listed → (∀ j, l[j]? = ops[k + j]?) → m.length ≤ l.length →
    lexMask md ops m k listed = true → maskBut L m k = true → wpCalm P ops w0 (fun a' => ∀ X, wpAnyP P md ops Q w0 L A n (markOps m k listed) a' (w0.patch X)) (pickOps m l) a →
    ∀ X, wpAnyP P md ops Q w0 L A (n + countB m) listed a (w0.patch X)
  | [], _, _, _, _, _, _, _, _, _, h, X => by
    simp only [pickOps, wpCalm, markOps] at h
    exact h X
  | _ :: _, [], _, _, _, _, _, hlen, _, _, _, _ => by simp at hlen
  | false :: m, o :: l, k, listed, a, hcl, hl, hlen, hB, hM, h, X =>
    wpAnyP_lex hW hs hQ n m l (k + 1) listed a hcl (fun j => by have := hl (j + 1); simpa [Nat.add_assoc, Nat.add_comm 1 j] using this) (by simpa using hlen) (by simpa [lexMask] using hB) (by simpa [maskBut] using hM) (by simpa [pickOps, markOps] using h) X
  | true :: m, o :: l, k, listed, a, hcl, hl, hlen, hB, hM, h, X => by
    have h0 : ops[k]? = some o := by simpa using (hl 0).symm
    simp only [lexMask, Bool.and_eq_true] at hB
    obtain ⟨⟨hr, hf⟩, hB'⟩ := hB
    simp only [maskBut, Bool.and_eq_true, decide_eq_true_eq] at hM
    simp only [pickOps, markOps] at h
    obtain ⟨v, hy, hK⟩ := yieldsE_of_wpCalm h
    have hr' : k ∈ Region.ready md ops listed := by simpa using hr
    refine wpAnyP_first hW hM.1 h0 (Region.noSelect_spec hs) (fun c a w h => hQ c a _ _ w h) (n + countB m) listed a _ hcl (Region.free_spec h0 hf) hr' hy ⟨X, rfl⟩ ?_
    exact wpAnyP_lex hW hs hQ n m l (k + 1) _ _ (hcl.set hr') (fun j => by have := hl (j + 1); simpa [Nat.add_assoc, Nat.add_comm 1 j] using this) (by simpa using hlen) hB' hM.2 hK X
theorem wp_region_pick {id : Nat} {a : Act} {w : World} {l : List Oper} (m : List Bool) (n L i : Nat) (o u : Oper) (hm : P.follows .mixedOrders = true) (hs : Region.noSelect l.toArray = true) (hW : waitsB .any l.toArray L [i] = true) (hQ : ∀ (c : List PanicEntry) (a : Act) (d : Option Tmp) (v : Value) (w : World), Q (.panic c) (a.put d v) w → Q (.panic c) a w)
    (hlen : m.length ≤ l.length) (hn : n + 2 + countB m = l.length) (hM : maskBut L m 0 = true) (hB : lexMask .any l.toArray m 0 (Array.replicate l.length false) = true)
    (hr : Region.ready .any l.toArray (markOps m 0 (Array.replicate l.length false)) = [L, i]) (hr2 : Region.ready .any l.toArray ((markOps m 0 (Array.replicate l.length false)).setIfInBounds i true) = [L]) (ho : l[L]? = some o) (hg : o.guard = none) (hu : l[i]? = some u) (hgu : u.guard = none) (hiL : L < i)
    (h : ∀ X00 : Extra, wpQuiet P l.toArray (fun w' => ∃ X : Extra, w' = w.patch ⟨X00.blocks ++ X.blocks, X.drawn⟩) (fun a' =>
      (∀ X, ∀ K : Act → World → Prop, ∀ Q' : Exit → Act → World → Prop, (∀ a2 w2, wpAny P .any l.toArray Q (n + 1) ((markOps m 0 (Array.replicate l.length false)).setIfInBounds L true) a2 w2 → K a2 w2) → o.wp P a' (w.patch X) K Q') ∧
      (∀ X, ∀ K : Act → World → Prop, ∀ Q' : Exit → Act → World → Prop, (∀ a2 w2, Ext w w2 → (∀ X2, ∀ K2 : Act → World → Prop, ∀ Q2 : Exit → Act → World → Prop, (∀ a3 w3, wpAny P .any l.toArray Q n (((markOps m 0 (Array.replicate l.length false)).setIfInBounds i true).setIfInBounds L true) a3 w3 → K2 a3 w3) → o.wp P a2 (w2.patch X2) K2 Q2) → K a2 w2) → u.wp P a' (w.patch X) K Q')) (pickOps m l) a) : (Code.region id l.toArray true).wp P Q a w := by
  have hLi : frB L [i] L = false := by
    unfold frB
    have h1 : ¬ L = i := by omega
    simp [h1]
  have hii : frB L [i] i = true := by unfold frB; simp
  refine wp_region_any hm (wpAny_of_P (w0 := w) (L := L) (A := [i]) _ _ _ _ ?_)
  obtain ⟨X, hX⟩ := Ext.drew (Ext.refl w)
  have ho' : l.toArray[L]? = some o := by simpa using ho
  have hu' : l.toArray[i]? = some u := by simpa using hu
  have h2 : wpCalm P l.toArray w (fun a' => ∀ X, wpAnyP P .any l.toArray Q w L [i] (n + 2) (markOps m 0 (Array.replicate l.length false)) a' (w.patch X)) (pickOps m l) a := by
    refine wpCalm_mono (fun a' h3 X => ?_) _ _ (wpCalm_of_quiet _ _ h)
    rintro w1 ⟨Y, rfl⟩
    refine ⟨fun h0 => (by rw [hr] at h0; cases h0), fun j hj => ?_⟩
    rw [hr] at hj
    obtain ⟨Z, hZ⟩ := (show Ext w ((w.patch X).patch Y) from Ext.trans ⟨X, rfl⟩ ⟨Y, rfl⟩)
    rw [hZ]
    simp only [List.mem_cons, List.not_mem_nil, or_false] at hj
    rcases hj with rfl | rfl
    · refine ⟨fun h => absurd h (by rw [hLi]; decide), fun _ => ?_⟩
      unfold wpOp
      simp only [ho', Region.wanted, hg, if_true]
      exact .inl (h3.1 Z _ Q fun a2 w2 h4 => h4)
    · refine ⟨fun _ => ?_, fun h => absurd h (by rw [hii]; decide)⟩
      unfold wpOp
      simp only [hu', Region.wanted, hgu, if_true]
      refine .inl (h3.2 Z _ Q fun a2 w2 he hK => ⟨he, ?_⟩)
      rintro w3 ⟨Y2, rfl⟩
      refine ⟨fun h0 => (by rw [hr2] at h0; cases h0), fun k hk => ?_⟩
      rw [hr2] at hk
      simp only [List.mem_singleton] at hk
      subst hk
      refine ⟨fun h => absurd h (by rw [hLi]; decide), fun _ => ?_⟩
      unfold wpOp
      simp only [ho', Region.wanted, hg, if_true]
      exact .inl (hK Y2 _ Q fun a3 w3 h4 => h4)
  have h5 := wpAnyP_lex (md := .any) hW hs hQ (n + 2) m l 0 (Array.replicate l.length false) a (Closed.start _ (by simp)) (by simp) hlen hB hM h2 X
  rw [← hX] at h5
  simpa [hn] using h5
end
end Go

/-
  act: asks.
-/
namespace Go.Proofs.YtoaehfdjffejeaaGreat
open Go Go.RowKit
set_option linter.unusedVariables false
set_option linter.unnecessarySimpa false
set_option linter.unusedSimpArgs false
set_option maxHeartbeats 2000000
set_option maxRecDepth 100000

theorem ofExt0 {w1 w' : World} (own1 : Nat → Nat) (he : Ext w1 w') : ∃ own', Mod (fun _ => False) ⟨own1, w1⟩ ⟨own', w'⟩ ∧ ∀ k, w1.heap.size ≤ k → own' k = 0 :=
  ⟨((⟨own1, w1⟩ : GW).to 0 w').own, Mod.ext (g := ⟨own1, w1⟩) he 0, fun k hk => GW.to_new (g := ⟨own1, w1⟩) (w' := w') hk⟩
theorem pick_row {w1 : World} {X X2 : Extra} {T : TypeId} {vs : List Value} {w4 : World} (hq : ∀ i, w1.heap.size ≤ i → i < (((w1.patch X).alloc (.cells vs.toArray T)).patch X2).heap.size → w4.heap[i]? = (((w1.patch X).alloc (.cells vs.toArray T)).patch X2).heap[i]?) : w4.heap[(w1.patch X).heap.size]? = some (.cells vs.toArray T) ∧ w1.heap.size ≤ (w1.patch X).heap.size ∧ (w1.patch X).heap.size < (((w1.patch X).alloc (.cells vs.toArray T)).patch X2).heap.size := by
  have hV : w1.heap.size ≤ (w1.patch X).heap.size := by rw [World.size_patch]; omega
  have hl0 : (w1.patch X).heap.size < ((w1.patch X).alloc (.cells vs.toArray T)).heap.size := by rw [World.size_alloc]; omega
  have hl : (w1.patch X).heap.size < (((w1.patch X).alloc (.cells vs.toArray T)).patch X2).heap.size := Nat.lt_of_lt_of_le hl0 (show Ext ((w1.patch X).alloc (.cells vs.toArray T)) (((w1.patch X).alloc (.cells vs.toArray T)).patch X2) from ⟨X2, rfl⟩).size
  exact ⟨(hq _ hV hl).trans (by rw [World.heap_patch _ _ _ hl0]; exact World.row_alloc_new _), hV, hl⟩
theorem pick_new (own4 : Nat → Nat) (w4 : World) (T : TypeId) (vs : List Value) : ∃ own5, Mod (fun _ => False) ⟨own4, w4⟩ ⟨own5, w4.alloc (.cells vs.toArray T)⟩ ∧ Blk ⟨own5, w4.alloc (.cells vs.toArray T)⟩ 0 w4.heap.size T vs :=
  ⟨_, Mod.ext (g := ⟨own4, w4⟩) (show Ext w4 _ by (repeat (first | (with_reducible (first | assumption | exact zR _ | exact zM _ _ _ _)) | apply zA | refine zS ?_ (by first | exact zL _ | exact zK _ _ | assumption) _ | apply zP | apply zD | apply zN))) 0, ⟨World.row_alloc_new _, GW.to_new (g := ⟨own4, w4⟩) (Nat.le_refl _)⟩⟩
section
variable {own4 : Nat → Nat} {w4 : World} {qg : Nat} {T : TypeId} {z0 z1 z2 v0 v1 v2 : Value}
theorem pick_mod1 (hb : Blk ⟨own4, w4⟩ 0 qg T [z0, z1, z2]) : Mod (fun x => x = 0) ⟨own4, w4⟩ ⟨own4, ((w4.setCell ⟨qg, 0, none⟩ v0).setCell ⟨qg, 1, none⟩ v1).setCell ⟨qg, 2, none⟩ v2⟩ := Mod.st (Mod.st (Mod.st (Mod.refl _ _) hb.own) hb.own) hb.own
theorem pick_blk (hb : Blk ⟨own4, w4⟩ 0 qg T [z0, z1, z2]) (v0 v1 v2 : Value) : Blk ⟨own4, ((w4.setCell ⟨qg, 0, none⟩ v0).setCell ⟨qg, 1, none⟩ v1).setCell ⟨qg, 2, none⟩ v2⟩ 0 qg T [v0, v1, v2] := ((hb.set 0 v0).set 1 v1).set 2 v2
theorem pick_rowk {v : Value} {n : Nat} {xs : List Value} (hr : Row ⟨own4, w4⟩ 0 3 1 v n xs) (hb : Blk ⟨own4, w4⟩ 0 qg 116 [z0, z1, z2]) : Row ⟨own4, ((w4.setCell ⟨qg, 0, none⟩ v0).setCell ⟨qg, 1, none⟩ v1).setCell ⟨qg, 2, none⟩ v2⟩ 0 3 1 v n xs :=
  ((hr.setOther 0 v0 (fun x hx => hr.ne_type hb (by decide) hx)).setOther 1 v1 (fun x hx => hr.ne_type hb (by decide) hx)).setOther 2 v2 (fun x hx => hr.ne_type hb (by decide) hx)
theorem pick_sp {B bsp bt : Nat} {S : SpaceS} (hs : SpaceAt ⟨own4, w4⟩ B bsp bt S) (hb : Blk ⟨own4, w4⟩ 0 qg T [z0, z1, z2]) (hB : 100 ≤ B) : SpaceAt ⟨own4, ((w4.setCell ⟨qg, 0, none⟩ v0).setCell ⟨qg, 1, none⟩ v1).setCell ⟨qg, 2, none⟩ v2⟩ B bsp bt S := hs.keep (pick_mod1 hb) (fun x (hx : x = 0) => by omega)
end
section
variable {g : GW} {t B b k : Nat} {W : AcW} {p : AcP} {bm bs bt bp bsp bh : Nat} {cm : Cnf}
def AskPost (r : AskR) (own1 : Nat → Nat) (w1 w' : World) (B bsp bt : Nat) (e : Ending) (w4 : World) : Prop :=
  ∃ gA gC, e = .returned (.agg #[.int .i64 r.1.1, .slice gA r.1.2.1.length gC, .int .i64 r.1.2.2]) ∧ ∃ own4, Hid (Mod (inst B) ⟨own1, w1⟩ ⟨own4, w4⟩) ∧ Hid (Row ⟨own4, w4⟩ 0 3 1 (.slice gA r.1.2.1.length gC) r.1.2.1.length (r.1.2.1.map (Value.int .i64))) ∧ Hid (SpaceAt ⟨own4, w4⟩ B bsp bt r.2) ∧ Hid (∀ k, w1.heap.size ≤ k → k < w'.heap.size → own4 k = 0) ∧
    Hid (∀ i, w1.heap.size ≤ i → i < w'.heap.size → w4.heap[i]? = w'.heap[i]?)
theorem askPost_of {r : AskR} {own1 own' : Nat → Nat} {w1 w' w4 : World} {B bsp bt : Nat} {e : Ending} (m' : Mod (fun _ => False) ⟨own1, w1⟩ ⟨own', w'⟩) (hz : ∀ k, w1.heap.size ≤ k → own' k = 0) (hB : 100 ≤ B) (h : Makes ⟨own', w'⟩ (inst B) (fun v g' => GrantIs r.1 v g' ∧ SpaceAt g' B bsp bt r.2) e w4) : AskPost r own1 w1 w' B bsp bt e w4 := by
  obtain ⟨v, own4, rfl, m4, ⟨gA, gC, rfl, hr⟩, hs⟩ := h
  have hn : ∀ k, w1.heap.size ≤ k → k < w'.heap.size → ¬ inst B (own' k) := fun k h1 h2 hi => by rw [hz k h1] at hi; have := hi.1; omega
  exact ⟨gA, gC, rfl, own4, Lib.hid ((m'.mono (fun _ => False.elim)).trans m4), Lib.hid hr, Lib.hid hs, Lib.hid (fun k h1 h2 => (m4.own k h2).trans (hz k h1)), Lib.hid (fun i h1 h2 => m4.block i h2 (hn i h1 h2))⟩
theorem opOk_same {c d : Cnf} (h : c.Same d) (o : Opr) : opOk c o = opOk d o := by
  unfold opOk inL inG needF needS
  simp only [same_shapeAt h, h.frags, h.spine, h.locals, h.globals]
theorem needF_same {c d : Cnf} (h : c.Same d) (o : Opr) : needF c o = needF d o := by unfold needF; rw [same_shapeAt h]
theorem needS_same {c d : Cnf} (h : c.Same d) (o : Opr) : needS c o = needS d o := by unfold needS; rw [same_shapeAt h]
theorem act_asks_1 [TbId] (P : AcApart t B) (H : AcIn g t B b k W p bm bs bt bp bsp bh cm) (oa ob oc on : Int) (x y : Nat) (ho : opOk W.K.c ⟨1, oa, ob, oc, on, x, y⟩ = true) (hck : W.K.c.check = 0) (hsp : 0 ≤ W.K.sp.count ∧ W.K.sp.count ≤ 1099511627776) (hln : W.K.sp.line.length < 1000000)
    (r : AcR) (hok : W.asksO ⟨1, oa, ob, oc, on, x, y⟩ = some r) :
    Calls Tryz.prog 93 #[.pointer (some ⟨b, 0, none⟩), .pointer (some ⟨k, 0, none⟩), .agg #[.int .i64 1, .int .i64 oa, .int .i64 ob, .int .i64 oc, .int .i64 on, .complex .f64 x y]] g.w (Does (resV r.1) g (acT t B) (fun g' => AcWAt g' t B b k r.2)) := by
  have HH := Lib.hid H
  have HP := Lib.hid P
  have HOK := Lib.hid hok
  go_enter Tryz.func93, Tryz.ntmps93
  go_upto_region 1 with fail
  obtain ⟨own0, M0, Q0, R0⟩ := start2 g 26 36 [.int .i64 1, .int .i64 oa, .int .i64 ob, .int .i64 oc, .int .i64 on, .complex .f64 x y] resZ
  unfold resZ at M0 R0 Q0
  generalize (g.w.alloc (.cells #[.int .i64 1, .int .i64 oa, .int .i64 ob, .int .i64 oc, .int .i64 on, .complex .f64 x y] 26)).alloc (.cells #[.int .i64 0, .int .i64 0, .int .i64 0, .bool false, .complex .f64 0 0] 36) = w0 at *
  have H0 := Lib.hid (HH.out.keep0 M0)
  have M0' := Lib.hid M0
  have Q0' := Lib.hid Q0
  have R0' := Lib.hid R0
  have HN := Lib.hid (fun X => need_1 cm oa ob oc on x y (w0.patch X) (H0.out.c.cnf.ok.ext ⟨X, rfl⟩) (by rw [HH.out.c.same.check]; exact hck) (by rw [opOk_same HH.out.c.same]; exact ho))
  have HF := Lib.hid (show needF cm ⟨1, oa, ob, oc, on, x, y⟩ = needF W.K.c ⟨1, oa, ob, oc, on, x, y⟩ from needF_same HH.out.c.same _)
  have HS := Lib.hid (show needS cm ⟨1, oa, ob, oc, on, x, y⟩ = needS W.K.c ⟨1, oa, ob, oc, on, x, y⟩ from needS_same HH.out.c.same _)
  rw [HF.out, HS.out] at HN
  unfold Cnf.val at HN
  obtain ⟨c0, c1, c2, c3, c4, c5, c6, c7, c8, c9, c10, c11, c12, cl⟩ := H0.out.c.blk.c13
  (try simp only [GW.to] at c0 c1 c2 c3 c4 c5 c6 c7 c8 c9 c10 c11 c12 cl)
  obtain ⟨x0, x1, x2, x3, x4, x5, xl⟩ := Q0.c6
  (try simp only [GW.to] at x0 x1 x2 x3 x4 x5 xl)
  clear M0 Q0 R0 H ho hck hok
  refine wp_region_mixed [true, true, true, true, true, true, true, true, true, true, true] 0 11 (by kernel_rfl) (by kernel_rfl) (by kernel_rfl) ?_ (by decide) (by decide) (by decide) (by kernel_rfl) ?_
  · intro c a d v w h; cases d <;> exact h
  intro X00
  simp only [pickOps]
  repeat (go_big_quiet_step ((go_at_call 136; exact Calls.added (HN.out _))))
  refine wpQuiet_nil (fun X0 => ?_)
  clear X00
  refine wpAnyM_done (by kernel_rfl) (fun X0' => ?_) _
  (try go_simp)
  obtain ⟨own1, m1⟩ : ∃ own1, Mod (fun _ => False) ⟨own0, w0⟩ ⟨own1, w0.patch ⟨X0.blocks ++ X0'.blocks, X0'.drawn⟩⟩ := ⟨_, Mod.pt (g := ⟨own0, w0⟩) (Mod.refl _ _) _⟩
  generalize w0.patch ⟨X0.blocks ++ X0'.blocks, X0'.drawn⟩ = w1 at *
  have H1 := Lib.hid (H0.out.keep0 m1)
  have M1 := Lib.hid (M0'.out.trans m1)
  have Q1 := Lib.hid (Q0'.out.keep m1 id)
  have R1 := Lib.hid (R0'.out.keep m1 id)
  clear m1 H0 M0' Q0' R0' HN c0 c1 c2 c3 c4 c5 c6 c7 c8 c9 c10 c11 c12 cl x0 x1 x2 x3 x4 x5 xl
  have hrs : ask W.K.sp W.a.t (needF W.K.c ⟨1, oa, ob, oc, on, x, y⟩) (needS W.K.c ⟨1, oa, ob, oc, on, x, y⟩) (W.a.sense != W.a.both) = W.asksR ⟨1, oa, ob, oc, on, x, y⟩ := rfl
  have HBO := Lib.hid (fun w' (he : Ext w1 w') => show Calls Tryz.prog 138 #[.pointer (some ⟨b, 0, none⟩)] w' (Gives (.bool W.a.both) w') from same_gives (act_both ((⟨own1, w1⟩ : GW).to 0 w') t b W.a p (H1.out.a.keep (Mod.ext (T := fun _ => False) he 0) id (fun _ => False.elim))))
  have HA := Lib.hid (fun w' (he : Ext w1 w') => show Calls Tryz.prog 137 #[.pointer (some ⟨bsp, 0, none⟩), .int .i64 W.a.t, .int .i64 (needF W.K.c ⟨1, oa, ob, oc, on, x, y⟩), .int .i64 (needS W.K.c ⟨1, oa, ob, oc, on, x, y⟩), .bool (W.a.sense != W.a.both)] w' (AskPost (W.asksR ⟨1, oa, ob, oc, on, x, y⟩) own1 w1 w' B bsp bt) from by
    obtain ⟨own', m'⟩ : ∃ own', Mod (fun _ => False) ⟨own1, w1⟩ ⟨own', w'⟩ ∧ ∀ k, w1.heap.size ≤ k → own' k = 0 := ofExt0 own1 he
    have h1 := space_ask_any W.a.t (needF W.K.c ⟨1, oa, ob, oc, on, x, y⟩) (needS W.K.c ⟨1, oa, ob, oc, on, x, y⟩) (W.a.sense != W.a.both) ⟨own', w'⟩ B bsp bt W.K.sp (H1.out.keep0 m'.1).c.sp P.hb hsp hln
    rw [hrs] at h1
    exact h1.mono (fun e w4 h => askPost_of m'.1 m'.2 P.hb h))
  generalize needF W.K.c ⟨1, oa, ob, oc, on, x, y⟩ = nf at *
  generalize needS W.K.c ⟨1, oa, ob, oc, on, x, y⟩ = ns at *
  generalize W.a.both = bo at *
  obtain ⟨a0, a1, a2, a3, a4, a5, a6, a7, a8, a9, a10, a11, a12, a13, a14, a15, a16, a17, a18, al⟩ := H1.out.a.blk.c19
  (try simp only [GW.to] at a0 a1 a2 a3 a4 a5 a6 a7 a8 a9 a10 a11 a12 a13 a14 a15 a16 a17 a18 al)
  obtain ⟨c0, c1, c2, c3, c4, c5, c6, c7, c8, c9, c10, c11, c12, cl⟩ := H1.out.c.blk.c13
  (try simp only [GW.to] at c0 c1 c2 c3 c4 c5 c6 c7 c8 c9 c10 c11 c12 cl)
  go_wp2_with fail
  go_cut [10] (fun s10 wx => ∃ qg gA gC, s10 = .pointer (some ⟨qg, 0, none⟩) ∧ Hid (∃ own4, Mod (inst B) ⟨own1, w1⟩ ⟨own4, wx⟩ ∧ Row ⟨own4, wx⟩ 0 3 1 (.slice gA (W.asksR ⟨1, oa, ob, oc, on, x, y⟩).1.2.1.length gC) (W.asksR ⟨1, oa, ob, oc, on, x, y⟩).1.2.1.length ((W.asksR ⟨1, oa, ob, oc, on, x, y⟩).1.2.1.map (Value.int .i64)) ∧ SpaceAt ⟨own4, wx⟩ B bsp bt (W.asksR ⟨1, oa, ob, oc, on, x, y⟩).2 ∧ Blk ⟨own4, wx⟩ 0 qg 116 [.int .i64 (W.asksR ⟨1, oa, ob, oc, on, x, y⟩).1.1, .slice gA (W.asksR ⟨1, oa, ob, oc, on, x, y⟩).1.2.1.length gC, .int .i64 (W.asksR ⟨1, oa, ob, oc, on, x, y⟩).1.2.2]))
  case first =>
    refine wp_region_pick [true, true, true, true, true, true, true, true, true, true, true, true, true, true, true, true, true] 1 17 18 ?pk_o ?pk_u ?pk1 ?pk2 ?pk3 ?pk4 ?pk5 ?pk6 ?pk7 ?pk8 ?pk9 ?pk10 ?pk11 ?pk12 ?pk13 ?pk14 ?pk15 ?pk16
    case pk11 => exact rfl
    case pk13 => exact rfl
    case pk1 => kernel_rfl
    case pk2 => kernel_rfl
    case pk3 => kernel_rfl
    case pk4 => (intro c a d v w h; cases d <;> exact h)
    case pk5 => decide
    case pk6 => decide
    case pk7 => decide
    case pk8 => kernel_rfl
    case pk9 => kernel_rfl
    case pk10 => kernel_rfl
    case pk12 => exact rfl
    case pk14 => exact rfl
    case pk15 => decide
    intro X00
    simp only [pickOps]
    repeat (go_big_quiet_step ((go_at_call 138; exact Calls.added (HBO.out _ ⟨_, rfl⟩))))
    refine wpQuiet_nil ⟨?pkA, ?pkB⟩
    case pkA =>
      intro X0 K Q' hK
      (try go_simp)
      refine (HA.out _ ⟨_, rfl⟩).mono ?_
      rintro e w4 ⟨gA, gC, rfl, own4, M4, R4, S4, -, -⟩
      (try go_simp)
      refine hK _ _ ?_
      clear hK K Q'
      refine wpAny_loud_step 18 _ (by kernel_rfl) rfl rfl (fun K Q' hK => ?_)
      (try go_simp)
      refine hK _ _ ?_
      clear hK K Q'
      refine wpAny_loud_step 19 _ (by kernel_rfl) rfl rfl (fun K Q' hK => ?_)
      (try go_simp)
      refine hK _ _ ?_
      clear hK K Q'
      refine wpAny_done (by kernel_rfl) ?_ _
      go_wp2_with fail
      go_meet
      obtain ⟨own5, m5, b5⟩ := pick_new own4 w4 116 [.int .i64 (W.asksR ⟨1, oa, ob, oc, on, x, y⟩).1.1, .slice gA (W.asksR ⟨1, oa, ob, oc, on, x, y⟩).1.2.1.length gC, .int .i64 (W.asksR ⟨1, oa, ob, oc, on, x, y⟩).1.2.2]
      exact ⟨_, gA, gC, rfl, Lib.hid ⟨own5, M4.out.trans (m5.mono (fun _ => False.elim)), R4.out.keep m5 id, S4.out.keep m5 (fun x hx => hx.elim), b5⟩⟩
    case pkB =>
      intro X0 K Q' hK
      go_simp
      refine hK _ _ ?_ (fun X2 K2 Q2 hK2 => ?_)
      · (repeat (first | (with_reducible (first | assumption | exact zR _ | exact zM _ _ _ _)) | apply zA | refine zS ?_ (by first | exact zL _ | exact zK _ _ | assumption) _ | apply zP | apply zD | apply zN))
      clear hK K Q'
      (try go_simp)
      refine (HA.out _ (by (repeat (first | (with_reducible (first | assumption | exact zR _ | exact zM _ _ _ _)) | apply zA | refine zS ?_ (by first | exact zL _ | exact zK _ _ | assumption) _ | apply zP | apply zD | apply zN)))).mono ?_
      rintro e w4 ⟨gA, gC, rfl, own4, M4, R4, S4, O4, H4⟩
      obtain ⟨hrow, hq1, hq2⟩ := pick_row H4.out
      have B4 : Blk ⟨own4, w4⟩ 0 (w1.patch X0).heap.size 116 [.int .i64 0, .slice none 0 0, .int .i64 0] := ⟨hrow, O4.out _ hq1 hq2⟩
      generalize (w1.patch X0).heap.size = qg at *
      have HB4 := Lib.hid B4
      clear hrow hq2 H4 O4
      obtain ⟨z0, z1, z2, zl⟩ := B4.c3
      have zf0 := B4.live 0
      have zf1 := B4.live 1
      have zf2 := B4.live 2
      (try simp only [GW.to] at z0 z1 z2 zf0 zf1 zf2 zl)
      clear B4
      (try go_simp)
      refine hK2 _ _ ?_
      clear hK2 K2 Q2
      refine wpAny_loud_step 19 _ (by kernel_rfl) rfl rfl (fun K Q' hK => ?_)
      (try go_simp)
      refine hK _ _ ?_
      clear hK K Q'
      refine wpAny_done (by kernel_rfl) ?_ _
      go_wp2_with fail
      go_meet
      exact ⟨_, gA, gC, rfl, Lib.hid ⟨own4, Mod.stn (Mod.stn (Mod.stn M4.out hq1) hq1) hq1, pick_rowk R4.out HB4.out, pick_sp S4.out HB4.out HP.out.hb, pick_blk HB4.out _ _ _⟩⟩
  case rest =>
    obtain ⟨qg, gA, gC, rfl, HG4⟩ := hcut
    obtain ⟨own4, m4, r4, s4, b4⟩ := HG4.out
    have hPb := HP.out.hb
    have hPt := HP.out.ht
    obtain ⟨w4, rfl⟩ : ∃ w4 : World, w4 = wc := ⟨_, rfl⟩
    have H4 := Lib.hid (H1.out.spc HP.out m4 s4)
    have M4 := Lib.hid ((M1.out.mono (S := acT t B) (fun _ => False.elim)).trans (m4.mono (fun x hx => acT_inst hx)))
    have Q4 := Lib.hid (Q1.out.keep m4 (fun h => by have := h.1; omega))
    have R4 := Lib.hid (R1.out.keep m4 (fun h => by have := h.1; omega))
    have G4 := Lib.hid r4
    have B4 := Lib.hid b4
    clear m4 r4 s4 b4 HG4 H1 M1 Q1 R1 HBO HA a0 a1 a2 a3 a4 a5 a6 a7 a8 a9 a10 a11 a12 a13 a14 a15 a16 a17 a18 al c0 c1 c2 c3 c4 c5 c6 c7 c8 c9 c10 c11 c12 cl hrs
    have HOK2 := Lib.hid (show (W.asksR ⟨1, oa, ob, oc, on, x, y⟩).1.1 = 0 ∨ ((W.asksR ⟨1, oa, ob, oc, on, x, y⟩).1.1 = 1 ∧ (W.spc (W.asksR ⟨1, oa, ob, oc, on, x, y⟩).2).takesOk ⟨1, oa, ob, oc, on, x, y⟩ (W.asksR ⟨1, oa, ob, oc, on, x, y⟩).1.2.1 (W.asksR ⟨1, oa, ob, oc, on, x, y⟩).1.2.2 = true) from by
      have h := HOK.out
      unfold AcW.asksO at h
      split at h
      · rename_i h1; exact h1
      · cases h)
    have HR2 := Lib.hid (show r = W.asks ⟨1, oa, ob, oc, on, x, y⟩ from by
      have h := HOK.out
      unfold AcW.asksO at h
      split at h
      · injection h with h; exact h.symm
      · cases h)
    have HD := Lib.hid (show W.asks ⟨1, oa, ob, oc, on, x, y⟩ = (if (W.asksR ⟨1, oa, ob, oc, on, x, y⟩).1.1 = 0 then ((W.spc (W.asksR ⟨1, oa, ob, oc, on, x, y⟩).2).withA { W.a with phase := 3, pc := 5 }).no else ((W.spc (W.asksR ⟨1, oa, ob, oc, on, x, y⟩).2).takes ⟨1, oa, ob, oc, on, x, y⟩ (W.asksR ⟨1, oa, ob, oc, on, x, y⟩).1.2.1 (W.asksR ⟨1, oa, ob, oc, on, x, y⟩).1.2.2).no) from rfl)
    clear HOK
    generalize W.asksR ⟨1, oa, ob, oc, on, x, y⟩ = ar at *
    obtain ⟨⟨st, got, at_⟩, S'⟩ := ar
    simp only at H4 G4 B4 HOK2 HD
    obtain ⟨z0, z1, z2, zl⟩ := B4.out.c3
    (try simp only [GW.to] at z0 z1 z2 zl)
    obtain ⟨x0, x1, x2, x3, x4, x5, xl⟩ := Q4.out.c6
    (try simp only [GW.to] at x0 x1 x2 x3 x4 x5 xl)
    rcases HOK2.out with h0 | ⟨h1, h2⟩
    · have HD2 := Lib.hid (show r = ((W.spc S').withA { W.a with phase := 3, pc := 5 }).no by rw [HR2.out, HD.out, if_pos h0])
      rw [h0] at z0
      obtain ⟨a0, a1, a2, a3, a4, a5, a6, a7, a8, a9, a10, a11, a12, a13, a14, a15, a16, a17, a18, al⟩ := H4.out.a.blk.c19
      have af3 := H4.out.a.blk.live 3
      have af7 := H4.out.a.blk.live 7
      (try simp only [GW.to] at a0 a1 a2 a3 a4 a5 a6 a7 a8 a9 a10 a11 a12 a13 a14 a15 a16 a17 a18 af3 af7 al)
      have H5 := Lib.hid ((H4.out.set HP.out 3 (.int .i64 3) { W.a with phase := 3 } rfl ⟨rfl, rfl, rfl, rfl, rfl, rfl⟩).set HP.out 7 (.int .i64 5) { W.a with phase := 3, pc := 5 } rfl ⟨rfl, rfl, rfl, rfl, rfl, rfl⟩)
      have M5 := Lib.hid (show Mod (acT t B) g ⟨own4, (w4.setCell ⟨b, 3, none⟩ (.int .i64 3)).setCell ⟨b, 7, none⟩ (.int .i64 5)⟩ from Mod.st (Mod.st M4.out H4.out.modA) H4.out.modA)
      have R5 := Lib.hid (R4.out.keep (Mod.st (Mod.st (Mod.refl (fun x => x = t) _) H4.out.a.blk.own) H4.out.a.blk.own : Mod (fun x => x = t) ⟨own4, w4⟩ ⟨own4, (w4.setCell ⟨b, 3, none⟩ (.int .i64 3)).setCell ⟨b, 7, none⟩ (.int .i64 5)⟩) (by omega))
      clear h0 HOK2 HD
      go_upto_region 7 with fail
      generalize (w4.setCell ⟨b, 3, none⟩ (.int .i64 3)).setCell ⟨b, 7, none⟩ (.int .i64 5) = w5 at *
      clear a0 a1 a2 a3 a4 a5 a6 a7 a8 a9 a10 a11 a12 a13 a14 a15 a16 a17 a18 af3 af7 al z0 z1 z2 zl x0 x1 x2 x3 x4 x5 xl H4 M4 R4
      obtain ⟨r0, r1, r2, r3, r4, rl⟩ := R5.out.c5
      have rf0 := R5.out.live 0
      have rf1 := R5.out.live 1
      have rf2 := R5.out.live 2
      have rf3 := R5.out.live 3
      have rf4 := R5.out.live 4
      (try simp only [GW.to] at r0 r1 r2 r3 r4 rf0 rf1 rf2 rf3 rf4 rl)
      go_wp2_with fail
      obtain ⟨Mf, mf, Rf⟩ := put_res M5.out R5.out (Nat.le_succ _) (0) (0) (0) (false) (0) (0)
      generalize ((((((w5).setCell ⟨g.w.heap.size + 1, 0, none⟩ (.int .i64 (0))).setCell ⟨g.w.heap.size + 1, 1, none⟩ (.int .i64 (0))).setCell ⟨g.w.heap.size + 1, 2, none⟩ (.int .i64 (0))).setCell ⟨g.w.heap.size + 1, 3, none⟩ (.bool (false))).setCell ⟨g.w.heap.size + 1, 4, none⟩ (.complex .f64 (0) (0))) = wf at *
      obtain ⟨f0, f1, f2, f3, f4, fl⟩ := Rf.c5
      (try simp only [GW.to] at f0 f1 f2 f3 f4 fl)
      refine bodyPost_ret (v := .tuple #[.agg #[.int .i64 (0), .int .i64 (0), .int .i64 (0), .bool (false), .complex .f64 (0) (0)], .bool false]) (by simp [results, Tryz.results93, go_sem, f0, f1, f2, f3, f4]) rfl ?_
      exact Does.of ⟨own4, wf⟩ rfl (by rw [HD2.out]; rfl) Mf (by rw [HD2.out]; exact (H5.out.keep mf (by omega) (fun x (hx : x = 9) => by omega) (fun x (hx : x = 9) => by omega)).at_)
    · have HD2 := Lib.hid (show r = ((W.spc S').takes ⟨1, oa, ob, oc, on, x, y⟩ got at_).no by rw [HR2.out, HD.out, if_neg (by rw [h1]; decide)])
      rw [h1] at z0
      obtain ⟨A', c', e1, e2, e3, -⟩ := G4.out.form
      have e4 : gC = c' := by injection e1
      rw [← e4] at e2 e3
      clear e1 e4 A' c'
      have HTK := Lib.hid (act_takes_1 HP.out H4.out oa ob oc on x y got gA gC 1 at_ G4.out.seg ⟨e2, e3⟩ h2)
      clear h1 h2 HOK2 HD e2 e3
      go_wp2_with fail
      refine HTK.out.mono ?_
      rintro e w5 ⟨rfl, own5, m5, p5, h5⟩
      have M5 := Lib.hid (M4.out.trans (m5.mono (fun x hx => acT_t hx)))
      have R5 := Lib.hid (R4.out.keep m5 (by omega))
      have H5 := Lib.hid h5
      clear m5 h5 HTK z0 z1 z2 zl x0 x1 x2 x3 x4 x5 xl H4 M4 R4
      go_upto_region 7 with fail
      obtain ⟨r0, r1, r2, r3, r4, rl⟩ := R5.out.c5
      have rf0 := R5.out.live 0
      have rf1 := R5.out.live 1
      have rf2 := R5.out.live 2
      have rf3 := R5.out.live 3
      have rf4 := R5.out.live 4
      (try simp only [GW.to] at r0 r1 r2 r3 r4 rf0 rf1 rf2 rf3 rf4 rl)
      go_wp2_with fail
      obtain ⟨Mf, mf, Rf⟩ := put_res M5.out R5.out (Nat.le_succ _) (0) (0) (0) (false) (0) (0)
      generalize ((((((w5).setCell ⟨g.w.heap.size + 1, 0, none⟩ (.int .i64 (0))).setCell ⟨g.w.heap.size + 1, 1, none⟩ (.int .i64 (0))).setCell ⟨g.w.heap.size + 1, 2, none⟩ (.int .i64 (0))).setCell ⟨g.w.heap.size + 1, 3, none⟩ (.bool (false))).setCell ⟨g.w.heap.size + 1, 4, none⟩ (.complex .f64 (0) (0))) = wf at *
      obtain ⟨f0, f1, f2, f3, f4, fl⟩ := Rf.c5
      (try simp only [GW.to] at f0 f1 f2 f3 f4 fl)
      refine bodyPost_ret (v := .tuple #[.agg #[.int .i64 (0), .int .i64 (0), .int .i64 (0), .bool (false), .complex .f64 (0) (0)], .bool false]) (by simp [results, Tryz.results93, go_sem, f0, f1, f2, f3, f4]) rfl ?_
      exact Does.of ⟨own5, wf⟩ rfl (by rw [HD2.out]; rfl) Mf (by rw [HD2.out]; exact (H5.out.keep mf (by omega) (fun x (hx : x = 9) => by omega) (fun x (hx : x = 9) => by omega)).at_)
end
end Go.Proofs.YtoaehfdjffejeaaGreat

