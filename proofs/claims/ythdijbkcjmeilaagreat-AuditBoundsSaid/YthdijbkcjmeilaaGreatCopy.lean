/-
  conf.Copy.
-/
import Derived.Test.YthdijbkcjmeilaaGreatClone
import Derived.Test.YthdijbkcjmeilaaGreatGhost
namespace Go.Proofs.YthdijbkcjmeilaaGreat
open Go Go.RowKit
set_option linter.unusedVariables false
set_option linter.unnecessarySimpa false
set_option linter.unusedSimpArgs false
set_option maxHeartbeats 2000000
theorem infoShape : (Tryz.prog.info? 77).map (fun i => (i.zero, i.size, i.bytes)) = some (some (.agg #[.bool false, .slice none 0 0]), 2, 32) := by kernel_rfl
/-- A copy of the owner t. -/
def Copied (c : Cnf) (t : Nat) (g : GW) (e : Ending) (w' : World) : Prop := ∃ c' : Cnf, e = .returned c'.val ∧ c'.Same c ∧ CnfAt (g.to t w') t c' ∧ Ext g.w w'
set_option maxRecDepth 100000 in
theorem copy_any (c : Cnf) (t : Nat) (g : GW) (hc : c.Ok g.w) (hmax : c.shapes.length ≤ 1000000) : Calls Tryz.prog 47 #[c.val] g.w (Copied c t g) := by
  obtain ⟨i0, hi, hz0, hz1, hz2⟩ := info_parts infoShape
  have HC := Lib.hid hc
  unfold Cnf.val
  clear hc
  go_enter Tryz.func47, Tryz.ntmps47
  go_wp2_with fail
  obtain ⟨q1, q2⟩ := two_blocks g.w (.cells #[.int .i64 c.frags, .int .i64 c.spine, .int .i64 c.globals, .int .i64 c.threads, .int .i64 c.locals, .int .i64 c.cache, .int .i64 c.stack, .int .i64 c.low, .slice c.A c.shapes.length c.cap] 24) (.cells #[.int .i64 0, .int .i64 0, .int .i64 0, .int .i64 0, .int .i64 0, .int .i64 0, .int .i64 0, .int .i64 0, .slice none 0 0] 24)
  have HB1 := Lib.hid (Blk.made (g := g) (t := 9) q1 (Nat.le_refl _))
  have HB2 := Lib.hid (Blk.made (g := g) (t := 9) q2 (by omega))
  have HE := Lib.hid (Mod.ext (T := fun _ => False) (show Ext g.w ((g.w.alloc (.cells #[.int .i64 c.frags, .int .i64 c.spine, .int .i64 c.globals, .int .i64 c.threads, .int .i64 c.locals, .int .i64 c.cache, .int .i64 c.stack, .int .i64 c.low, .slice c.A c.shapes.length c.cap] 24)).alloc (.cells #[.int .i64 0, .int .i64 0, .int .i64 0, .int .i64 0, .int .i64 0, .int .i64 0, .int .i64 0, .int .i64 0, .slice none 0 0] 24)) by (repeat (first | (with_reducible assumption) | (with_reducible exact Ext.refl _) | (with_reducible exact Ext.more _ _ _ _) | apply Ext.alloc | refine Ext.setCell ?_ (by first | exact Nat.le_refl _ | exact Nat.le_add_right _ _ | assumption) _ | apply Ext.patch | apply Ext.drew | apply Ext.drewN))) 9)
  clear q1 q2
  have HMX := Lib.hid hmax
  generalize hnl : c.shapes.length = nl at *
  have HNL := Lib.hid hnl
  clear hnl
  go_loopw [3, 9] (fun v i wr => ∃ (k : Nat) (own : Nat → Nat) (ss : List Shp), k ≤ nl ∧ i = .int .i64 k ∧ Hid (ss.map Shp.data = (c.shapes.take k).map Shp.data) ∧ Hid (Mod (fun _ => False) g ⟨own, wr⟩) ∧ Hid (∀ s ∈ ss, ShpAt ⟨own, wr⟩ 1 s ∧ ∀ a, s.A = some a → g.w.heap.size ≤ a.block) ∧ Hid (Mine g ⟨own, wr⟩ 77 2 v k (ss.flatMap Shp.cells)) ∧
    Hid (Blk ⟨own, wr⟩ 9 g.w.heap.size 24 [.int .i64 c.frags, .int .i64 c.spine, .int .i64 c.globals, .int .i64 c.threads, .int .i64 c.locals, .int .i64 c.cache, .int .i64 c.stack, .int .i64 c.low, .slice c.A nl c.cap]) ∧ Hid (Blk ⟨own, wr⟩ 9 (g.w.heap.size + 1) 24 [.int .i64 0, .int .i64 0, .int .i64 0, .int .i64 0, .int .i64 0, .int .i64 0, .int .i64 0, .int .i64 0, .slice none 0 0])) (fun _ i _ => nl - (intOf i).toNat)
  case atStart => exact ⟨0, _, [], Nat.zero_le _, rfl, Lib.hid rfl, HE, Lib.hid (by simp), Lib.hid (Mine.nil _ _ _ _), HB1, HB2⟩
  case round =>
    obtain ⟨k, own, ss, hk, rfl, HS, M, HA, R, B1, B2⟩ := hrel
    clear HE HB1 HB2
    obtain ⟨A5, c5, hv5⟩ := own_form R.out.row.row
    subst hv5
    by_cases hlt : k < nl
    · obtain ⟨b, o, hA, hb, g0, g1⟩ := shapes_at (HC.out.cells.ext M.out.toExt) (k := k) (by rw [HNL.out]; exact hlt)
      have hsk := (HC.out.shapes _ (List.getElem_mem (by rw [HNL.out]; exact hlt : k < c.shapes.length))).ext M.out.toExt
      have hx := List.getElem?_eq_getElem (by rw [HNL.out]; exact hlt : k < c.shapes.length)
      generalize c.shapes[k]'(by rw [HNL.out]; exact hlt) = s at *
      have HSK := Lib.hid (fun w' (he : Ext wr w') => copied_any s w' (hsk.ext he))
      have HX := Lib.hid hx
      obtain ⟨arr, As, caps, refs⟩ := s
      unfold Shp.val at HSK
      simp only at g0 g1 HSK hb
      rw [hA] at B1 ⊢
      clear hx hsk hA
      go_wp2_with fail
      refine (HSK.out _ (by (repeat (first | (with_reducible assumption) | (with_reducible exact Ext.refl _) | (with_reducible exact Ext.more _ _ _ _) | apply Ext.alloc | refine Ext.setCell ?_ (by first | exact Nat.le_refl _ | exact Nat.le_add_right _ _ | assumption) _ | apply Ext.patch | apply Ext.drew | apply Ext.drewN)))).mono ?_
      rintro e w1 ⟨s', rfl, ha, hr, hfr, hok, hE1⟩
      obtain ⟨arr', A', cap', refs'⟩ := s'
      simp only at ha hr hfr hok
      obtain rfl := ha
      obtain rfl := hr
      have E1 := Lib.hid (show Ext wr w1 from (show Ext wr _ by (repeat (first | (with_reducible assumption) | (with_reducible exact Ext.refl _) | (with_reducible exact Ext.more _ _ _ _) | apply Ext.alloc | refine Ext.setCell ?_ (by first | exact Nat.le_refl _ | exact Nat.le_add_right _ _ | assumption) _ | apply Ext.patch | apply Ext.drew | apply Ext.drewN))).trans hE1)
      have O1 := Lib.hid hok
      have F1 := Lib.hid (show ∀ a, A' = some a → wr.heap.size ≤ a.block from fun a ha => Nat.le_trans (by go_simp) (hfr a ha))
      have N1 := Lib.hid (show Mod (fun _ => False) ⟨own, wr⟩ ((⟨own, wr⟩ : GW).to 1 w1) from Mod.ext E1.out 1)
      have M1 := Lib.hid (M.out.trans N1.out)
      have R1 := Lib.hid (R.out.keep N1.out id)
      clear hE1 hok hfr g0 g1 hb
      go_wp2_with (at_builtin; refine wpList_append_own_at _ rfl (.tmp 13) (.tmp 16) 22 rfl 0 77 i0 _ 2 32 Tryz.underlying22 hi hz0 hz1 hz2 rfl (by decide) _ _ _ rfl (R1.out.row.row.alloc _) ⟨w1.heap.size, 0, none⟩ 1 1 [.bool arr', .slice A' refs'.length cap'] rfl rfl (news_new _ _ _) (by intro u hu; simp at hu; rcases hu with rfl | rfl <;> rfl) (by unfold maxLen; omega) (by omega) (Nat.zero_le _) ?_; intro v2 w2 hown hgrow hnil hat)
      obtain ⟨own2, m2, r2, k2⟩ := R1.out.app M1.out (Ext.alloc (Ext.refl _) _) hown hgrow hat
      have M2 := Lib.hid m2
      have R2 := Lib.hid r2
      have K2 := Lib.hid k2
      clear m2 r2 k2 hown hgrow hnil hat
      go_wp2_with fail
      go_roundw
      case rel =>
        refine ⟨k + 1, own2, ss ++ [⟨arr', A', cap', refs'⟩], by omega, by go_num, Lib.hid ?_, M2, Lib.hid ?_, Lib.hid ⟨R2.out.row.weak rfl (by rw [List.flatMap_append]; rfl), R2.out.new⟩, Lib.hid ((B1.out.keep N1.out id).keep K2.out (by decide)), Lib.hid ((B2.out.keep N1.out id).keep K2.out (by decide))⟩
        · rw [List.map_append, HS.out, List.take_add_one, HX.out, List.map_append]; rfl
        · intro s hs
          rcases List.mem_append.1 hs with hs | hs
          · exact ⟨((HA.out s hs).1.keep N1.out id).keep K2.out (by decide), (HA.out s hs).2⟩
          · simp only [List.mem_singleton] at hs
            subst hs
            exact ⟨ShpAt.keep (g := (⟨own, wr⟩ : GW).to 1 w1) ⟨⟨O1.out.refs, fun a ha _ => GW.to_new (F1.out a ha)⟩, O1.out.len, O1.out.max⟩ K2.out (by decide), fun a ha => Nat.le_trans M.out.size (F1.out a ha)⟩
      case measure => simp [intOf]; omega
    · obtain rfl : k = nl := by omega
      have c0 := B1.out.cell (i := 0) rfl
      have c1 := B1.out.cell (i := 1) rfl
      have c2 := B1.out.cell (i := 2) rfl
      have c3 := B1.out.cell (i := 3) rfl
      have c4 := B1.out.cell (i := 4) rfl
      have c5' := B1.out.cell (i := 5) rfl
      have c6 := B1.out.cell (i := 6) rfl
      have c7 := B1.out.cell (i := 7) rfl
      have c8 := B1.out.cell (i := 8) rfl
      have f8 := B1.out.live 8
      have d0 := B2.out.cell (i := 0) rfl
      have d1 := B2.out.cell (i := 1) rfl
      have d2 := B2.out.cell (i := 2) rfl
      have d3 := B2.out.cell (i := 3) rfl
      have d4 := B2.out.cell (i := 4) rfl
      have d5 := B2.out.cell (i := 5) rfl
      have d6 := B2.out.cell (i := 6) rfl
      have d7 := B2.out.cell (i := 7) rfl
      have d8 := B2.out.cell (i := 8) rfl
      have e0 := B2.out.live 0
      have e1 := B2.out.live 1
      have e2 := B2.out.live 2
      have e3 := B2.out.live 3
      have e4 := B2.out.live 4
      have e5 := B2.out.live 5
      have e6 := B2.out.live 6
      have e7 := B2.out.live 7
      have e8 := B2.out.live 8
      have l1 := B1.out.lt
      have l2 := B2.out.lt
      simp only at c0 c1 c2 c3 c4 c5' c6 c7 c8 f8 d0 d1 d2 d3 d4 d5 d6 d7 d8 e0 e1 e2 e3 e4 e5 e6 e7 e8 l1 l2
      go_wp2_with fail
      refine bodyPost_ret (v := .agg #[.int .i64 c.frags, .int .i64 c.spine, .int .i64 c.globals, .int .i64 c.threads, .int .i64 c.locals, .int .i64 c.cache, .int .i64 c.stack, .int .i64 c.low, .slice A5 k c5]) (by simp [results, Tryz.results47, go_sem, d0, d1, d2, d3, d4, d5, d6, d7, d8]) rfl ?_
      clear c0 c1 c2 c3 c4 c5' c6 c7 c8 f8 d0 d1 d2 d3 d4 d5 d6 d7 d8 e0 e1 e2 e3 e4 e5 e6 e7 e8
      have hss : ss.length = k := by have := congrArg List.length HS.out; simp only [List.length_map, List.length_take, HNL.out] at this; omega
      have M9 : Mod (fun _ => False) g ⟨own, _⟩ := Mod.stn (Mod.stn (Mod.stn (Mod.stn (Mod.stn (Mod.stn (Mod.stn (Mod.stn (Mod.stn (Mod.stn (b := g.w.heap.size) (i := 8) (v := .slice A5 k c5) M.out (Nat.le_refl _)) (b := g.w.heap.size + 1) (i := 0) (v := .int .i64 c.frags) (by omega)) (b := g.w.heap.size + 1) (i := 1) (v := .int .i64 c.spine) (by omega)) (b := g.w.heap.size + 1) (i := 2) (v := .int .i64 c.globals) (by omega)) (b := g.w.heap.size + 1) (i := 3) (v := .int .i64 c.threads) (by omega)) (b := g.w.heap.size + 1) (i := 4) (v := .int .i64 c.locals) (by omega)) (b := g.w.heap.size + 1) (i := 5) (v := .int .i64 c.cache) (by omega)) (b := g.w.heap.size + 1) (i := 6) (v := .int .i64 c.stack) (by omega)) (b := g.w.heap.size + 1) (i := 7) (v := .int .i64 c.low) (by omega)) (b := g.w.heap.size + 1) (i := 8) (v := .slice A5 k c5) (by omega)
      have T9 : Mod (fun x => x = 9) ⟨own, wr⟩ ⟨own, _⟩ := Mod.st (Mod.st (Mod.st (Mod.st (Mod.st (Mod.st (Mod.st (Mod.st (Mod.st (Mod.st (b := g.w.heap.size) (i := 8) (v := .slice A5 k c5) (Mod.refl _ _) B1.out.own) (b := g.w.heap.size + 1) (i := 0) (v := .int .i64 c.frags) B2.out.own) (b := g.w.heap.size + 1) (i := 1) (v := .int .i64 c.spine) B2.out.own) (b := g.w.heap.size + 1) (i := 2) (v := .int .i64 c.globals) B2.out.own) (b := g.w.heap.size + 1) (i := 3) (v := .int .i64 c.threads) B2.out.own) (b := g.w.heap.size + 1) (i := 4) (v := .int .i64 c.locals) B2.out.own) (b := g.w.heap.size + 1) (i := 5) (v := .int .i64 c.cache) B2.out.own) (b := g.w.heap.size + 1) (i := 6) (v := .int .i64 c.stack) B2.out.own) (b := g.w.heap.size + 1) (i := 7) (v := .int .i64 c.low) B2.out.own) (b := g.w.heap.size + 1) (i := 8) (v := .slice A5 k c5) B2.out.own
      refine ⟨⟨c.frags, c.spine, c.globals, c.threads, c.locals, c.cache, c.stack, c.low, A5, c5, ss⟩, by unfold Cnf.val; simp only [hss], ⟨rfl, rfl, rfl, rfl, rfl, rfl, rfl, rfl, by rw [HS.out, List.take_of_length_le (by rw [HNL.out]; exact Nat.le_refl _)]⟩, ?_, M9.toExt⟩
      have hR := R.out.keep T9 (by decide)
      refine ⟨⟨hR.row.cells, fun a ha _ => GW.to_new (hR.new a.block (by simp only at ha; rw [ha]; rfl))⟩, fun s hs => ?_, ?_, ?_⟩
      · obtain ⟨h1, h2⟩ := HA.out s hs
        have h3 := h1.keep T9 (by decide)
        exact ⟨⟨h3.seg.cells, fun a ha _ => GW.to_new (h2 a ha)⟩, h3.len, h3.max⟩
      · obtain ⟨A', c', hv, hn1, _⟩ := hR.row.form
        injection hv with _ _ hv
        subst hv
        simp only [hss]
        exact hn1
      · simp only [hss]; omega
end Go.Proofs.YthdijbkcjmeilaaGreat
