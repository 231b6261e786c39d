/-
  sporef25.Small; sporef1.SameConf of two that say the same.
-/
import Derived.Test.YthebmcbpmboblaaSmall
import Derived.Test.YthebmcbpmboblaaRow
import Derived.Deep.DeepCutAuto
namespace Go
theorem World.two_new (V : World) (X : Extra) (Z U : Obj) : (((V.alloc Z).patch X).alloc U).heap[V.heap.size]? = some Z ∧ (((V.alloc Z).patch X).alloc U).heap[((V.alloc Z).patch X).heap.size]? = some U ∧ V.heap.size < ((V.alloc Z).patch X).heap.size ∧ ((V.alloc Z).patch X).heap.size < (((V.alloc Z).patch X).alloc U).heap.size ∧ Ext V (((V.alloc Z).patch X).alloc U) := by
  have e1 : Ext (V.alloc Z) ((V.alloc Z).patch X) := ⟨_, rfl⟩
  have e2 : Ext (V.alloc Z) (((V.alloc Z).patch X).alloc U) := e1.alloc U
  have s1 := e1.size
  rw [World.size_alloc] at s1
  exact ⟨(e2.heap _ (by simp)).trans (World.alloc_heap_new V Z), World.alloc_heap_new _ U, by omega, by simp, ((Ext.refl V).alloc Z).trans e2⟩
/-- Two that say the same. -/
theorem sig_parts {c d : Cnf} (h : c.sig = d.sig) : (d.frags = c.frags ∧ d.spine = c.spine ∧ d.globals = c.globals ∧ d.threads = c.threads ∧ d.locals = c.locals ∧ d.cache = c.cache ∧ d.stack = c.stack ∧ d.low = c.low) ∧ d.shapes.length = c.shapes.length ∧ ∀ (k : Nat) (s t : Shp), c.shapes[k]? = some s → d.shapes[k]? = some t → t.arr = s.arr ∧ t.refs = s.refs := by
  simp only [Cnf.sig, Prod.mk.injEq, List.cons.injEq, and_true] at h
  obtain ⟨⟨h1, h2, h3, h4, h5, h6, h7, h8⟩, hs⟩ := h
  refine ⟨⟨h1.symm, h2.symm, h3.symm, h4.symm, h5.symm, h6.symm, h7.symm, h8.symm⟩, by have := congrArg List.length hs; simpa using this.symm, fun k s t hs' ht => ?_⟩
  have := congrArg (fun l => l[k]?) hs
  simp only [List.getElem?_map, hs', ht, Option.map, Option.some.injEq, Prod.mk.injEq] at this
  exact ⟨this.1.symm, this.2.symm⟩
end Go
namespace Go.Proofs.Ythebmcbpmboblaa
open Go Go.RowKit
set_option linter.unusedVariables false

set_option maxRecDepth 100000 in
set_option maxHeartbeats 2000000 in
theorem same_any (c d : Cnf) (w : World) (hc : c.Ok w) (hd : d.Ok w) (h : c.sig = d.sig) :
    Calls Try.prog 19 #[c.val, d.val] w (Gives (.bool true) w) := by
  obtain ⟨⟨h1, h2, h3, h4, h5, h6, h7, h8⟩, hl, hs⟩ := sig_parts h
  have HS := Lib.hid hs
  have hm := hc.max
  unfold Cnf.val
  rw [h1, h2, h3, h4, h5, h6, h7, h8, hl]
  have HL := Lib.hid hl
  have HC := Lib.hid hc
  have HD := Lib.hid hd
  clear h h1 h2 h3 h4 h5 h6 h7 h8 hl hs hc hd
  go_enter Try.func19, Try.ntmps19
  go_wp2_with fail
  obtain ⟨W0, hW0⟩ : ∃ W0, W0 = (w.alloc (.cells #[.int .i64 c.frags, .int .i64 c.spine, .int .i64 c.globals, .int .i64 c.threads, .int .i64 c.locals, .int .i64 c.cache, .int .i64 c.stack, .int .i64 c.low, .slice c.A c.shapes.length c.cap] 24)).alloc (.cells #[.int .i64 c.frags, .int .i64 c.spine, .int .i64 c.globals, .int .i64 c.threads, .int .i64 c.locals, .int .i64 c.cache, .int .i64 c.stack, .int .i64 c.low, .slice d.A c.shapes.length d.cap] 24) := ⟨_, rfl⟩
  have HE0 := Lib.hid (show Ext w W0 by rw [hW0]; (repeat (first | (with_reducible assumption) | (with_reducible exact Ext.refl _) | (with_reducible exact Ext.more _ _ _ _) | apply Ext.alloc | refine Ext.setCell ?_ (by first | exact Nat.le_refl _ | exact Nat.le_add_right _ _ | assumption) _ | apply Ext.patch | apply Ext.drew | apply Ext.drewN)))
  have hs0 : w.heap.size + 1 < W0.heap.size := by rw [hW0]; simp
  have x8 : W0.cell? ⟨w.heap.size, 8, none⟩ = some (.slice c.A c.shapes.length c.cap) := by rw [hW0]; go_simp
  have y8 : W0.cell? ⟨w.heap.size + 1, 8, none⟩ = some (.slice d.A c.shapes.length d.cap) := by rw [hW0]; go_simp
  rw [← hW0]
  clear hW0
  go_loopw [5] (fun i wr => ∃ k : Nat, k ≤ c.shapes.length ∧ i = .int .i64 k ∧ Ext W0 wr) (fun i _ => c.shapes.length - (intOf i).toNat)
  case atStart => exact ⟨0, Nat.zero_le _, rfl, Ext.refl _⟩
  case round =>
    obtain ⟨k, hk, rfl, hE⟩ := hrel
    obtain ⟨wo, hwo⟩ : ∃ wo : World, wo = wr := ⟨_, rfl⟩
    rw [← hwo] at hE ⊢
    clear hwo
    have hx8 := (hE.below.cell (p := ⟨w.heap.size, 8, none⟩) (by simp; omega)).trans x8
    have hy8 := (hE.below.cell (p := ⟨w.heap.size + 1, 8, none⟩) hs0).trans y8
    have hss := hE.size
    have hp0 : w.heap.size < wo.heap.size := by omega
    have hp1 : w.heap.size + 1 < wo.heap.size := by omega
    clear hss
    have HE := Lib.hid (show Ext W0 wo from hE)
    clear hE
    by_cases hlt : k < c.shapes.length
    · have hlt2 : k < d.shapes.length := by rw [HL.out]; exact hlt
      obtain ⟨b, o, hA, hb, g0, g1⟩ := shapes_at (HC.out.ext (HE0.out.trans HE.out)).cells hlt
      obtain ⟨b', o', hA', hb', g0', g1'⟩ := shapes_at (HD.out.ext (HE0.out.trans HE.out)).cells hlt2
      have hq := HS.out k _ _ (List.getElem?_eq_getElem hlt) (List.getElem?_eq_getElem hlt2)
      have HX := Lib.hid ((HC.out.ext (HE0.out.trans HE.out)).shapes _ (List.getElem_mem hlt))
      have HY := Lib.hid ((HD.out.ext (HE0.out.trans HE.out)).shapes _ (List.getElem_mem hlt2))
      rw [hA] at hx8 x8
      rw [hA'] at hy8 y8
      generalize c.shapes[k] = s at *
      generalize d.shapes[k] = t at *
      obtain ⟨q1, q2⟩ := hq
      rw [q1] at g0'
      rw [q2] at g1'
      have hsm := HX.out.max
      have HT := Lib.hid (show CellsAt wo t.A (s.refs.map Value.bool) by rw [← q2]; exact HY.out.refs)
      have HU := Lib.hid HX.out.refs
      clear q1 q2 HX HY HC HD HS hA hA'
      go_wp2_with fail
      go_cut [6, 7] (fun s6 s7 wx => ∃ p q : Nat, s6 = .pointer (some ⟨p, 0, none⟩) ∧ s7 = .pointer (some ⟨q, 0, none⟩) ∧ wx.cell? ⟨p, 0, none⟩ = some (.bool s.arr) ∧ wx.cell? ⟨p, 1, none⟩ = some (.slice s.A s.refs.length s.cap) ∧ wx.cell? ⟨q, 0, none⟩ = some (.bool s.arr) ∧ wx.cell? ⟨q, 1, none⟩ = some (.slice t.A s.refs.length t.cap) ∧ p < wx.heap.size ∧ q < wx.heap.size ∧ Ext wo wx)
      case first =>
        refine wp_region_mixed [true, true, true, true, true, true, true, true, true, true, false, false, false, false] 4 14 (by kernel_rfl) (by kernel_rfl) (by kernel_rfl) ?_ (by decide) (by decide) (by decide) (by kernel_rfl) ?_
        · intro c a d v w h; cases d <;> exact h
        intro X00
        simp only [pickOps]
        repeat (go_big_quiet_step (fail))
        refine wpQuiet_nil (fun X0 => ?_)
        clear X00
        refine wpAnyM_two 10 11 _ _ (by kernel_rfl) rfl rfl rfl rfl (by decide) (by decide) (fun X1 K Q' hK => ?ordA) (fun X1 K Q' hK => ?ordB)
        case' ordA =>
          go_simp
          refine hK _ _ ?_ ?_
          · (repeat (first | (with_reducible assumption) | (with_reducible exact Ext.refl _) | (with_reducible exact Ext.more _ _ _ _) | apply Ext.alloc | refine Ext.setCell ?_ (by first | exact Nat.le_refl _ | exact Nat.le_add_right _ _ | assumption) _ | apply Ext.patch | apply Ext.drew | apply Ext.drewN))
          clear hK K Q'
          refine wpAnyM_one 11 _ (by kernel_rfl) rfl rfl (by decide) (fun X3 K Q' hK => ?_)
          go_simp
          refine hK _ _ ?_ ?_
          · (repeat (first | (with_reducible assumption) | (with_reducible exact Ext.refl _) | (with_reducible exact Ext.more _ _ _ _) | apply Ext.alloc | refine Ext.setCell ?_ (by first | exact Nat.le_refl _ | exact Nat.le_add_right _ _ | assumption) _ | apply Ext.patch | apply Ext.drew | apply Ext.drewN))
          clear hK K Q'
          have TN := World.two_new (wo.patch ⟨X0.blocks ++ X1.blocks, X1.drawn⟩) X3 (.cells #[.bool false, .slice none 0 0] 75) (.cells #[.bool false, .slice none 0 0] 75)
          have TE : Ext wo _ := Ext.trans ⟨_, rfl⟩ TN.2.2.2.2
          have TS : wo.heap.size ≤ (wo.patch ⟨X0.blocks ++ X1.blocks, X1.drawn⟩).heap.size := by rw [World.size_patch]; omega
          generalize (((wo.patch ⟨X0.blocks ++ X1.blocks, X1.drawn⟩).alloc (.cells #[.bool false, .slice none 0 0] 75)).patch X3).alloc (.cells #[.bool false, .slice none 0 0] 75) = W5 at *
          generalize (((wo.patch ⟨X0.blocks ++ X1.blocks, X1.drawn⟩).alloc (.cells #[.bool false, .slice none 0 0] 75)).patch X3).heap.size = q5 at *
          generalize (wo.patch ⟨X0.blocks ++ X1.blocks, X1.drawn⟩).heap.size = p5 at *
          obtain ⟨t1, t2, t3, t4, _⟩ := TN
          have TQ : wo.heap.size ≤ q5 := by omega
        case' ordB =>
          go_simp
          refine hK _ _ ?_ ?_
          · (repeat (first | (with_reducible assumption) | (with_reducible exact Ext.refl _) | (with_reducible exact Ext.more _ _ _ _) | apply Ext.alloc | refine Ext.setCell ?_ (by first | exact Nat.le_refl _ | exact Nat.le_add_right _ _ | assumption) _ | apply Ext.patch | apply Ext.drew | apply Ext.drewN))
          clear hK K Q'
          refine wpAnyM_one 10 _ (by kernel_rfl) rfl rfl (by decide) (fun X3 K Q' hK => ?_)
          go_simp
          refine hK _ _ ?_ ?_
          · (repeat (first | (with_reducible assumption) | (with_reducible exact Ext.refl _) | (with_reducible exact Ext.more _ _ _ _) | apply Ext.alloc | refine Ext.setCell ?_ (by first | exact Nat.le_refl _ | exact Nat.le_add_right _ _ | assumption) _ | apply Ext.patch | apply Ext.drew | apply Ext.drewN))
          clear hK K Q'
          have TN := World.two_new (wo.patch ⟨X0.blocks ++ X1.blocks, X1.drawn⟩) X3 (.cells #[.bool false, .slice none 0 0] 75) (.cells #[.bool false, .slice none 0 0] 75)
          have TE : Ext wo _ := Ext.trans ⟨_, rfl⟩ TN.2.2.2.2
          have TS : wo.heap.size ≤ (wo.patch ⟨X0.blocks ++ X1.blocks, X1.drawn⟩).heap.size := by rw [World.size_patch]; omega
          generalize (((wo.patch ⟨X0.blocks ++ X1.blocks, X1.drawn⟩).alloc (.cells #[.bool false, .slice none 0 0] 75)).patch X3).alloc (.cells #[.bool false, .slice none 0 0] 75) = W5 at *
          generalize (((wo.patch ⟨X0.blocks ++ X1.blocks, X1.drawn⟩).alloc (.cells #[.bool false, .slice none 0 0] 75)).patch X3).heap.size = q5 at *
          generalize (wo.patch ⟨X0.blocks ++ X1.blocks, X1.drawn⟩).heap.size = p5 at *
          obtain ⟨t1, t2, t3, t4, _⟩ := TN
          have TQ : wo.heap.size ≤ q5 := by omega
        all_goals
          have z0 := row_cell (l := [.bool false, .slice none 0 0]) (i := 0) t1 rfl
          have z1 := row_cell (l := [.bool false, .slice none 0 0]) (i := 1) t1 rfl
          have z2 := row_cell (l := [.bool false, .slice none 0 0]) (i := 0) t2 rfl
          have z3 := row_cell (l := [.bool false, .slice none 0 0]) (i := 1) t2 rfl
          have f0 := fun i => row_live (i := i) (l := [.bool false, .slice none 0 0]) t1
          have f1 := fun i => row_live (i := i) (l := [.bool false, .slice none 0 0]) t2
          have n1 : ¬ p5 = q5 := by omega
          have n2 : ¬ q5 = p5 := by omega
          have n3 : p5 < W5.heap.size := by omega
          clear t1 t2
          refine wpAnyM_one 12 _ (by kernel_rfl) rfl rfl (by decide) (fun X1 K Q' hK => ?_)
          go_simp
          refine hK _ _ ?_ ?_
          · (repeat (first | (with_reducible assumption) | (with_reducible exact Ext.refl _) | (with_reducible exact Ext.more _ _ _ _) | apply Ext.alloc | refine Ext.setCell ?_ (by first | exact Nat.le_refl _ | exact Nat.le_add_right _ _ | assumption) _ | apply Ext.patch | apply Ext.drew | apply Ext.drewN))
          clear hK K Q'
          refine wpAnyM_one 13 _ (by kernel_rfl) rfl rfl (by decide) (fun X1 K Q' hK => ?_)
          go_simp
          refine hK _ _ ?_ ?_
          · (repeat (first | (with_reducible assumption) | (with_reducible exact Ext.refl _) | (with_reducible exact Ext.more _ _ _ _) | apply Ext.alloc | refine Ext.setCell ?_ (by first | exact Nat.le_refl _ | exact Nat.le_add_right _ _ | assumption) _ | apply Ext.patch | apply Ext.drew | apply Ext.drewN))
          clear hK K Q'
          refine wpAnyM_done (by kernel_rfl) (fun X2 => ?_) _
          go_wp2_with fail
          go_meet
        · exact ⟨q5, p5, rfl, rfl, by go_simp, by go_simp, by go_simp, by go_simp, by go_simp, by go_simp, by (repeat (first | (with_reducible assumption) | (with_reducible exact Ext.refl _) | (with_reducible exact Ext.more _ _ _ _) | apply Ext.alloc | refine Ext.setCell ?_ (by first | exact Nat.le_refl _ | exact Nat.le_add_right _ _ | assumption) _ | apply Ext.patch | apply Ext.drew | apply Ext.drewN))⟩
        · exact ⟨p5, q5, rfl, rfl, by go_simp, by go_simp, by go_simp, by go_simp, by go_simp, by go_simp, by (repeat (first | (with_reducible assumption) | (with_reducible exact Ext.refl _) | (with_reducible exact Ext.more _ _ _ _) | apply Ext.alloc | refine Ext.setCell ?_ (by first | exact Nat.le_refl _ | exact Nat.le_add_right _ _ | assumption) _ | apply Ext.patch | apply Ext.drew | apply Ext.drewN))⟩
      case rest =>
        obtain ⟨p, q, rfl, rfl, c0, c1, c2, c3, hp, hq, hE2⟩ := hcut
        have HE2 := Lib.hid (show Ext wo wc from hE2)
        have hw0 := (hE2.below.cell (p := ⟨w.heap.size, 8, none⟩) hp0).trans hx8
        have hw1 := (hE2.below.cell (p := ⟨w.heap.size + 1, 8, none⟩) hp1).trans hy8
        clear hE2 hx8 hy8 x8 y8 g0 g1 g0' g1'
        go_wp2_with fail
        go_loopw [8] (fun i wx => ∃ j : Nat, j ≤ s.refs.length ∧ i = .int .i64 j ∧ Ext wc wx) (fun i _ => s.refs.length - (intOf i).toNat)
        case atStart => exact ⟨0, Nat.zero_le _, rfl, Ext.refl _⟩
        case round =>
          obtain ⟨j, hj, rfl, hE4⟩ := hrel
          have d0 := (hE4.below.cell (p := ⟨p, 1, none⟩) hp).trans c1
          have d1 := (hE4.below.cell (p := ⟨q, 1, none⟩) hq).trans c3
          have HE4 := Lib.hid (show Ext wc wr from hE4)
          clear hE4
          by_cases hlj : j < s.refs.length
          · obtain ⟨u, hu⟩ : ∃ u, (s.refs.map Value.bool)[j]? = some (.bool u) := ⟨s.refs[j], by simp [hlj]⟩
            obtain ⟨bx, ox, hAx, hbx, gx⟩ := (HU.out.ext (HE2.out.trans HE4.out)) j _ hu
            obtain ⟨by_, oy, hAy, hby, gy⟩ := (HT.out.ext (HE2.out.trans HE4.out)) j _ hu
            rw [hAx] at d0
            rw [hAy] at d1
            clear hAx hAy hu
            go_wp2_with fail
            go_quiet (fail)
            go_wp2_with fail
            go_roundw
            case rel => exact ⟨j + 1, by omega, by go_num, HE4.out.drewN _⟩
            case measure => simp [intOf]; omega
          · obtain rfl : j = s.refs.length := by omega
            go_wp2_with fail
            go_roundw
            case rel => exact ⟨k + 1, by omega, by go_num, (HE.out.trans HE2.out).trans HE4.out⟩
            case measure => simp [intOf]; omega
    · obtain rfl : k = c.shapes.length := by omega
      go_wp2_with fail
      go_ret
      exact Gives.bool rfl (HE0.out.trans HE.out)
end Go.Proofs.Ythebmcbpmboblaa
