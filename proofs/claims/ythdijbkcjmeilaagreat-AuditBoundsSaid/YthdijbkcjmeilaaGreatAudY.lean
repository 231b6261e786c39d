/-
  audit: Conf of a heap; looks, Look, roots, Reach, Sound of a fresh one.
-/
import Derived.Test.YthdijbkcjmeilaaGreatAudZ
namespace Go.Proofs.YthdijbkcjmeilaaGreat
open Go Go.RowKit
set_option linter.unusedVariables false
set_option linter.unnecessarySimpa false
set_option linter.unusedSimpArgs false
set_option maxHeartbeats 400000
set_option maxRecDepth 100000
theorem same_trans0 {a b c : Cnf} (h : a.Same b) (h' : b.Same c) : a.Same c := ⟨h.frags.trans h'.frags, h.spine.trans h'.spine, h.globals.trans h'.globals, h.threads.trans h'.threads, h.locals.trans h'.locals, h.cache.trans h'.cache, h.stack.trans h'.stack, h.low.trans h'.low, h.shapes.trans h'.shapes⟩
def ConfGot (c : Cnf) (w : World) (e : Ending) (w' : World) : Prop := ∃ c' : Cnf, e = .returned c'.val ∧ c'.Same c ∧ Ext w w'
section
variable {w : World} {h : Nat} {c : Cnf}
theorem heap_conf (H : HpAt w h c) : Calls Tryz.prog 94 #[.pointer (some ⟨h, 0, none⟩)] w (ConfGot c w) := by
  obtain ⟨own, k, y, bm, bs, bt, bp, bsp, bh, cm, H⟩ := H
  have hsh : cm.shapes.length ≤ 8 := by
    have h1 := H.core.same.shapes
    have h2 := H.core.cnf.len
    have h3 := H.core.same.check
    obtain ⟨qp, qk, ql, As, cs, cq, qs, hq⟩ := H.core.sp
    have h4 := (Cnf.check_zero (show c.check = 0 from hq.check)).2.2.1
    have h5 := congrArg List.length h1
    simp only [List.length_map] at h5
    simp [within] at h4
    have : cm.shapes.length = c.shapes.length := h5
    omega
  have HCP := Lib.hid (fun w' (he : Ext w w') => (show Calls Tryz.prog 47 #[cm.val] w' (ConfGot c w') from by
    obtain ⟨own', m⟩ := Mod.ofExt he own
    have hk := H.keep m
    refine (copy_any cm 1 ⟨own', w'⟩ hk.core.cnf.ok (by omega)).mono ?_
    rintro e w2 ⟨c', rfl, h1, h2, h3⟩
    exact ⟨c', rfl, same_trans0 h1 hk.core.same, h3⟩))
  unfold Cnf.val at HCP
  have a0 := H.blk.cell (i := 0) rfl
  have a1 := H.blk.cell (i := 1) rfl
  have a2 := H.blk.cell (i := 2) rfl
  have a3 := H.blk.cell (i := 3) rfl
  have al := H.blk.lt
  (try simp only [GW.to] at a0 a1 a2 a3 al)
  have c0 := H.core.blk.cell (i := 0) rfl
  have c1 := H.core.blk.cell (i := 1) rfl
  have c2 := H.core.blk.cell (i := 2) rfl
  have c3 := H.core.blk.cell (i := 3) rfl
  have c4 := H.core.blk.cell (i := 4) rfl
  have c5 := H.core.blk.cell (i := 5) rfl
  have c6 := H.core.blk.cell (i := 6) rfl
  have c7 := H.core.blk.cell (i := 7) rfl
  have c8 := H.core.blk.cell (i := 8) rfl
  have c9 := H.core.blk.cell (i := 9) rfl
  have c10 := H.core.blk.cell (i := 10) rfl
  have c11 := H.core.blk.cell (i := 11) rfl
  have c12 := H.core.blk.cell (i := 12) rfl
  have cl := H.core.blk.lt
  (try simp only [GW.to] at c0 c1 c2 c3 c4 c5 c6 c7 c8 c9 c10 c11 c12 cl)
  clear H
  go_enter Tryz.func94, Tryz.ntmps94
  go_wp2_with fail
  refine (HCP.out _ (by (repeat (first | (with_reducible assumption) | (with_reducible exact Ext.refl _) | (with_reducible exact Ext.more _ _ _ _) | apply Ext.alloc | refine Ext.setCell ?_ (by first | exact Nat.le_refl _ | exact Nat.le_add_right _ _ | assumption) _ | apply Ext.patch | apply Ext.drew | apply Ext.drewN)))).mono ?_
  rintro e w1 ⟨c', rfl, hs, hX⟩
  unfold Cnf.val
  obtain ⟨ownb, b0⟩ : ∃ ownb, Blk ⟨ownb, w.alloc (.cells #[.int .i64 0, .int .i64 0, .int .i64 0, .int .i64 0, .int .i64 0, .int .i64 0, .int .i64 0, .int .i64 0, .slice none 0 0] 24)⟩ 9 w.heap.size 24 [.int .i64 0, .int .i64 0, .int .i64 0, .int .i64 0, .int .i64 0, .int .i64 0, .int .i64 0, .int .i64 0, .slice none 0 0] := ⟨_, Blk.new ⟨own, w⟩ 9 24 [.int .i64 0, .int .i64 0, .int .i64 0, .int .i64 0, .int .i64 0, .int .i64 0, .int .i64 0, .int .i64 0, .slice none 0 0]⟩
  obtain ⟨own1, m1⟩ := Mod.ofExt (show Ext (w.alloc (.cells #[.int .i64 0, .int .i64 0, .int .i64 0, .int .i64 0, .int .i64 0, .int .i64 0, .int .i64 0, .int .i64 0, .slice none 0 0] 24)) w1 from hX) ownb
  have B1 := Lib.hid (b0.keep m1 id)
  have E1 := Lib.hid ((show Ext w (w.alloc (.cells #[.int .i64 0, .int .i64 0, .int .i64 0, .int .i64 0, .int .i64 0, .int .i64 0, .int .i64 0, .int .i64 0, .slice none 0 0] 24)) by (repeat (first | (with_reducible assumption) | (with_reducible exact Ext.refl _) | (with_reducible exact Ext.more _ _ _ _) | apply Ext.alloc | refine Ext.setCell ?_ (by first | exact Nat.le_refl _ | exact Nat.le_add_right _ _ | assumption) _ | apply Ext.patch | apply Ext.drew | apply Ext.drewN))).trans (show Ext _ w1 from hX))
  have HS := Lib.hid hs
  clear m1 b0 hX hs HCP a0 a1 a2 a3 al c0 c1 c2 c3 c4 c5 c6 c7 c8 c9 c10 c11 c12 cl
  have d0 := B1.out.cell (i := 0) rfl
  have d1 := B1.out.cell (i := 1) rfl
  have d2 := B1.out.cell (i := 2) rfl
  have d3 := B1.out.cell (i := 3) rfl
  have d4 := B1.out.cell (i := 4) rfl
  have d5 := B1.out.cell (i := 5) rfl
  have d6 := B1.out.cell (i := 6) rfl
  have d7 := B1.out.cell (i := 7) rfl
  have d8 := B1.out.cell (i := 8) rfl
  have df0 := B1.out.live 0
  have df1 := B1.out.live 1
  have df2 := B1.out.live 2
  have df3 := B1.out.live 3
  have df4 := B1.out.live 4
  have df5 := B1.out.live 5
  have df6 := B1.out.live 6
  have df7 := B1.out.live 7
  have df8 := B1.out.live 8
  have dl := B1.out.lt
  (try simp only [GW.to] at d0 d1 d2 d3 d4 d5 d6 d7 d8 df0 df1 df2 df3 df4 df5 df6 df7 df8 dl)
  go_wp2_with fail
  refine bodyPost_ret (v := .agg #[.int .i64 c'.frags, .int .i64 c'.spine, .int .i64 c'.globals, .int .i64 c'.threads, .int .i64 c'.locals, .int .i64 c'.cache, .int .i64 c'.stack, .int .i64 c'.low, .slice c'.A c'.shapes.length c'.cap]) (by simp [results, Tryz.results94, go_sem, d0, d1, d2, d3, d4, d5, d6, d7, d8]) rfl ?_
  refine ⟨c', rfl, HS.out, ?_⟩
  (repeat (with_reducible refine Ext.setCell ?_ (Nat.le_refl _) _))
  with_reducible exact E1.out
end
end Go.Proofs.YthdijbkcjmeilaaGreat
