/-
  spolaw17.first.
-/
import Derived.Test.YtmgkfpmmlibmcaaHaulN
import Derived.Test.YtmgkfpmmlibmcaaShade
import Derived.Test.YtmgkfpmmlibmcaaSmall
import Derived.Test.YtmgkfpmmlibmcaaFill0
namespace Go.Proofs.Ytmgkfpmmlibmcaa
open Go Go.RowKit
set_option linter.unusedVariables false
set_option linter.unnecessarySimpa false
set_option linter.unusedSimpArgs false
def c17 (F n : Int) (A : Nat) : Cnf := ⟨F, n, 0, 1, 1, 0, 1, 0, some ⟨A, 0, none⟩, 1, [⟨false, none, 0, []⟩]⟩
theorem cnf0 {w : World} {c : Cnf} (hc : c.Ok w) : CnfAt ⟨fun _ => 0, w⟩ 0 c := ⟨⟨hc.cells, fun _ _ _ => rfl⟩, fun s hs => ⟨⟨(hc.shapes s hs).refs, fun _ _ _ => rfl⟩, (hc.shapes s hs).len, (hc.shapes s hs).max⟩, hc.len, hc.max⟩
theorem nothing17 {T : Nat → Prop} {g g' : GW} (h : Mod T g g') (hn : ∀ k, k < g.w.heap.size → ¬ T (g.own k)) : Mod (fun _ => False) g g' := ⟨h.os, h.tape, h.output, h.size, h.own, fun k hk _ => h.block k hk (hn k hk)⟩
theorem same_check17 {c d : Cnf} (h : c.Same d) : c.check = d.check := by
  have hl : c.shapes.length = d.shapes.length := by have := congrArg List.length h.shapes; simpa using this
  have e : ∀ l : List Shp, badIn l = (l.map Shp.data).any fun p => !decide (p.2.length ≤ 40 ∧ (p.1 = true → p.2.length = 1)) := fun l => by
    unfold badIn
    rw [List.any_map]
    rfl
  have hb : badIn c.shapes = badIn d.shapes := by rw [e, e, h.shapes]
  obtain ⟨h1, h2, h3, h4, h5, h6, h7, h8, _⟩ := h
  unfold Cnf.check Cnf.rangedTo Cnf.ranges
  rw [h1, h2, h3, h4, h5, h6, h7, h8, hl, hb]
set_option maxRecDepth 100000 in
set_option maxHeartbeats 2000000 in
theorem first17_any (w : World) : Calls Try.prog 36 #[] w (Gives (.bool true) w) := by
  go_enter Try.func36, Try.ntmps36
  go_wp2_with fail
  have HOK := Lib.hid (show (c17 4 0 w.heap.size).Ok ((w.alloc (.cells #[.bool false, .slice none 0 0] 29)).alloc (.cells #[.int .i64 4, .int .i64 0, .int .i64 0, .int .i64 1, .int .i64 1, .int .i64 0, .int .i64 1, .int .i64 0, .slice (some ⟨w.heap.size, 0, none⟩) 1 1] 24)) from by
    refine ⟨(cellsAt_new _ _ _ _ rfl).alloc _, fun s hs => ?_, by simp [c17], by simp [c17]⟩
    simp only [c17, List.mem_cons, List.not_mem_nil, or_false] at hs
    subst hs
    exact ⟨CellsAt.nil _ _, by decide, by decide⟩)
  have HBK := Lib.hid (show Blk ⟨fun _ => 0, ((w.alloc (.cells #[.bool false, .slice none 0 0] 29)).alloc (.cells #[.int .i64 4, .int .i64 0, .int .i64 0, .int .i64 1, .int .i64 1, .int .i64 0, .int .i64 1, .int .i64 0, .slice (some ⟨w.heap.size, 0, none⟩) 1 1] 24))⟩ 0 (w.heap.size + 1) 24 [.int .i64 4, .int .i64 0, .int .i64 0, .int .i64 1, .int .i64 1, .int .i64 0, .int .i64 1, .int .i64 0, .slice (some ⟨w.heap.size, 0, none⟩) 1 1] from ⟨by
    rw [show w.heap.size + 1 = (w.alloc (.cells #[.bool false, .slice none 0 0] 29)).heap.size from by rw [World.size_alloc]]
    exact World.row_alloc_new _, rfl⟩)
  have HE0 := Lib.hid (show Ext w ((w.alloc (.cells #[.bool false, .slice none 0 0] 29)).alloc (.cells #[.int .i64 4, .int .i64 0, .int .i64 0, .int .i64 1, .int .i64 1, .int .i64 0, .int .i64 1, .int .i64 0, .slice (some ⟨w.heap.size, 0, none⟩) 1 1] 24)) by (repeat (first | (with_reducible assumption) | (with_reducible exact Ext.refl _) | (with_reducible exact Ext.more _ _ _ _) | apply Ext.alloc | refine Ext.setCell ?_ (by first | exact Nat.le_refl _ | exact Nat.le_add_right _ _ | assumption) _ | apply Ext.patch | apply Ext.drew | apply Ext.drewN)))
  generalize hw0 : ((w.alloc (.cells #[.bool false, .slice none 0 0] 29)).alloc (.cells #[.int .i64 4, .int .i64 0, .int .i64 0, .int .i64 1, .int .i64 1, .int .i64 0, .int .i64 1, .int .i64 0, .slice (some ⟨w.heap.size, 0, none⟩) 1 1] 24)) = w0 at *
  clear hw0
  have HCK := Lib.hid (show (c17 4 0 w.heap.size).check = 0 from rfl)
  have HFL := Lib.hid (fill_nil (c17 4 0 w.heap.size) 300 ⟨fun _ => 0, w0⟩ HOK.out)
  unfold Cnf.val c17 at HFL
  have g0 := HBK.out.cell (i := 0) rfl
  have g1 := HBK.out.cell (i := 1) rfl
  have g2 := HBK.out.cell (i := 2) rfl
  have g3 := HBK.out.cell (i := 3) rfl
  have g4 := HBK.out.cell (i := 4) rfl
  have g5 := HBK.out.cell (i := 5) rfl
  have g6 := HBK.out.cell (i := 6) rfl
  have g7 := HBK.out.cell (i := 7) rfl
  have g8 := HBK.out.cell (i := 8) rfl
  have gl := HBK.out.lt
  simp only at g0 g1 g2 g3 g4 g5 g6 g7 g8 gl
  refine HFL.out.mono ?_
  rintro e w1 ⟨own1, bm, rfl, m1, r1⟩
  have M1 := Lib.hid m1
  have R1 := Lib.hid r1
  have HB1 := Lib.hid (HBK.out.keep m1 id)
  clear m1 r1 HFL g0 g1 g2 g3 g4 g5 g6 g7 g8 gl
  have g0 := HB1.out.cell (i := 0) rfl
  have g1 := HB1.out.cell (i := 1) rfl
  have g2 := HB1.out.cell (i := 2) rfl
  have g3 := HB1.out.cell (i := 3) rfl
  have g4 := HB1.out.cell (i := 4) rfl
  have g5 := HB1.out.cell (i := 5) rfl
  have g6 := HB1.out.cell (i := 6) rfl
  have g7 := HB1.out.cell (i := 7) rfl
  have g8 := HB1.out.cell (i := 8) rfl
  have gl := HB1.out.lt
  simp only at g0 g1 g2 g3 g4 g5 g6 g7 g8 gl
  go_wp2_with fail
  refine (show Calls Try.prog 37 #[.int .i64 4, .int .i64 1] w1 _ from shade_new 4 1 330 331 332 ⟨own1, w1⟩ (by decide) (by decide)).mono ?_
  rintro e w2 ⟨own2, bs, bt, bp, rfl, m2, s2, t2, p2⟩
  have M2 := Lib.hid (M1.out.trans m2)
  have R2 := Lib.hid (R1.out.keep m2 id)
  have HB2 := Lib.hid (HB1.out.keep m2 id)
  clear m2 s2 t2 p2 g0 g1 g2 g3 g4 g5 g6 g7 g8 gl
  go_wp2_with fail
  refine (coil_new 0 340 ⟨own2, w2⟩).mono ?_
  rintro e w3 hm
  unfold CoilMade at hm
  rw [if_pos (by decide)] at hm
  obtain ⟨own3, bk, rfl, m3, k3⟩ := hm
  have M3 := Lib.hid (M2.out.trans m3)
  have R3 := Lib.hid (R2.out.keep m3 id)
  have HB3 := Lib.hid (HB2.out.keep m3 id)
  clear m3 k3
  have g0 := HB3.out.cell (i := 0) rfl
  have g1 := HB3.out.cell (i := 1) rfl
  have g2 := HB3.out.cell (i := 2) rfl
  have g3 := HB3.out.cell (i := 3) rfl
  have g4 := HB3.out.cell (i := 4) rfl
  have g5 := HB3.out.cell (i := 5) rfl
  have g6 := HB3.out.cell (i := 6) rfl
  have g7 := HB3.out.cell (i := 7) rfl
  have g8 := HB3.out.cell (i := 8) rfl
  have gl := HB3.out.lt
  simp only at g0 g1 g2 g3 g4 g5 g6 g7 g8 gl
  have HN := Lib.hid (haul_new (c17 4 0 w.heap.size) 0 0 true 320 ⟨own3, w3⟩ (HOK.out.ext M3.out.toExt) (by simp [c17]))
  unfold Cnf.val c17 at HN
  go_wp2_with fail
  refine HN.out.mono ?_
  rintro e w4 ⟨own4, b, cm, rfl, m4, h4, hs4⟩
  have M4 := Lib.hid (M3.out.trans m4)
  have R4 := Lib.hid (R3.out.keep m4 id)
  have H4 := Lib.hid h4
  have HCM := Lib.hid (show cm.check = 0 from (same_check17 hs4).trans HCK.out)
  have HSPN := Lib.hid (show cm.spine = 0 from hs4.spine)
  clear m4 h4 hs4 HN g0 g1 g2 g3 g4 g5 g6 g7 g8 gl
  go_wp2_with fail
  refine (haul_step ⟨own4, w4⟩ 320 b bm bs bk (HaulS.fresh cm 0 0 true) ⟨cm, 0, 0, true, 11, 0, 0, 0, 0, 0, 0, 0, 0, 0, 1⟩ (fun x => x = 320) (fun _ => True) H4.out (by show (0 : Int) ≠ 11; decide) ⟨by show (0 : Int) ≤ 0; decide, by show (0 : Int) ≤ 1099511627776; decide⟩ rfl (fun g1 n1 h1 =>
    haul_does g1 320 b bm bs bk _ _ _ h1 HCM.out (Or.inl rfl) ⟨Int.le_refl _, by show (0 : Int) ≤ cm.spine; rw [HSPN.out]; decide⟩ (fun _ g2 n2 h2 =>
      (looks_none g2 320 b bm bs _ h2 rfl rfl).mono (fun e w' h => Does.imp h (fun _ hx => hx) (fun g3 m3 r => ⟨r, trivial⟩))) (fun h => absurd (show (4 : Int) ≤ 0 from h) (by decide)))).mono ?_
  rintro e w5 ⟨rfl, own5, m5, h5, -⟩
  have M5 := Lib.hid m5
  have R5 := Lib.hid (R4.out.keep m5 (by decide))
  have H5 := Lib.hid h5
  clear m5 h5
  rw [show ((⟨cm, 0, 0, true, 11, 0, 0, 0, 0, 0, 0, 0, 0, 0, 1⟩ : HaulS).pc == 11) = true from rfl]
  go_wp2_with fail
  refine (haul_done ⟨own5, w5⟩ 320 b _ H5.out).mono ?_
  rintro e wv ⟨rfl, rfl⟩
  rw [show ((⟨cm, 0, 0, true, 11, 0, 0, 0, 0, 0, 0, 0, 0, 0, 1⟩ : HaulS).pc == 11) = true from rfl]
  go_wp2_with fail
  refine (haul_errno ⟨own5, w5⟩ 320 b _ H5.out).mono ?_
  rintro e wv ⟨rfl, rfl⟩
  rw [show (⟨cm, 0, 0, true, 11, 0, 0, 0, 0, 0, 0, 0, 0, 0, 1⟩ : HaulS).e = 0 from rfl]
  go_wp2_with fail
  refine (haul_steps ⟨own5, w5⟩ 320 b _ H5.out).mono ?_
  rintro e wv ⟨rfl, rfl⟩
  rw [show (⟨cm, 0, 0, true, 11, 0, 0, 0, 0, 0, 0, 0, 0, 0, 1⟩ : HaulS).steps = 1 from rfl]
  go_wp2_with fail
  refine (mem_count ⟨own5, w5⟩ 300 bm _ R5.out).mono ?_
  rintro e wv ⟨rfl, rfl⟩
  go_wp2_with fail
  go_ret
  have mAll : Mod (fun x => x = 320) ⟨fun _ => 0, w0⟩ ⟨own5, w5⟩ := (M4.out.mono (fun _ => False.elim)).trans M5.out
  exact Gives.bool rfl (HE0.out.trans (nothing17 mAll (fun k _ => by simp)).toExt)
end Go.Proofs.Ytmgkfpmmlibmcaa
