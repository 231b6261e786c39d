/-
  spolaw13.first.
-/
import Derived.Test.YtmgkfpmmlibmcaaWr
import Derived.Test.YtmgkfpmmlibmcaaFindE
import Derived.Test.YtmgkfpmmlibmcaaSmall
namespace Go.Proofs.Ytmgkfpmmlibmcaa
open Go Go.RowKit
set_option linter.unusedVariables false
set_option linter.unnecessarySimpa false
set_option linter.unusedSimpArgs false
/-- The words of a new array's first fragment. -/
theorem arrV_sent (s : Shp) (kind n at_ : Int) (got : List Int) (hg : 0 < got.length) {k : Nat} (hk : k < 8) : some (cx (arrV s kind n at_ got k)) = (sentWords kind n (arrMode n got) got at_)[k]? := by
  have := arrV_frag s kind n at_ got hg hk
  rw [Nat.zero_mul, Nat.zero_add, if_pos rfl] at this
  rw [this]
  exact sentF_get kind n at_ got hk
theorem cx_inj {p : Nat × Nat} {a b : Nat} (h : some (cx p) = some (Value.complex .f64 a b)) : p = (a, b) := by
  obtain ⟨x, y⟩ := p
  injection h with h
  injection h with _ h1 h2
  simp only at h1 h2
  rw [h1, h2]
theorem arr_head {s : Shp} {kind n at_ : Int} {got : List Int} (hg : 0 < got.length) (hk : 0 ≤ kind ∧ kind ≤ 1000000) : arrV s kind n at_ got 1 = (floatOfInt .f64 kind, floatOfInt .f64 0) := by
  refine cx_inj ((arrV_sent s kind n at_ got hg (by decide)).trans ?_)
  show some (wHead kind 0) = _
  unfold wHead
  rw [if_neg (by omega)]
theorem arr_len {s : Shp} {kind n at_ : Int} {got : List Int} (hg : 0 < got.length) (hn : 0 ≤ n ∧ n ≤ 512) : arrV s kind n at_ got 2 = (floatOfInt .f64 n, 0) := by
  refine cx_inj ((arrV_sent s kind n at_ got hg (by decide)).trans ?_)
  show some (wWhole n) = _
  unfold wWhole
  rw [if_neg (by omega)]
theorem arr_mode {s : Shp} {kind n at_ : Int} {got : List Int} (hg : 0 < got.length) : arrV s kind n at_ got 3 = (floatOfInt .f64 (arrMode n got), 0) := by
  refine cx_inj ((arrV_sent s kind n at_ got hg (by decide)).trans ?_)
  show some (wWhole (arrMode n got)) = _
  have := arrMode_bd n got
  unfold wWhole
  rw [if_neg (by omega)]
theorem arr_inline {s : Shp} {kind n at_ : Int} {got : List Int} (hm : arrMode n got = 0) {j : Nat} (hj : j < 4) (hg : j + 1 < got.length) (hb : 0 ≤ got.getD (j + 1) 0 ∧ got.getD (j + 1) 0 ≤ 1000000) : arrV s kind n at_ got (4 + j) = (floatOfInt .f64 (got.getD (j + 1) 0 + 1), 4607182418800017408) := by
  refine cx_inj ((arrV_sent s kind n at_ got (by omega) (by omega)).trans ?_)
  rw [hm]
  have e : (sentWords kind n 0 got at_)[4 + j]? = some (sentIn got j) := by
    rcases (show j = 0 ∨ j = 1 ∨ j = 2 ∨ j = 3 by omega) with rfl | rfl | rfl | rfl <;> rfl
  rw [e]
  unfold sentIn wRef
  rw [if_pos hg, if_neg (by omega)]
theorem cnf_zero {w : World} {c : Cnf} (hc : c.Ok w) : CnfAt ⟨fun _ => 0, w⟩ 0 c := ⟨⟨hc.cells, fun _ _ _ => rfl⟩, fun s hs => ⟨⟨(hc.shapes s hs).refs, fun _ _ _ => rfl⟩, (hc.shapes s hs).len, (hc.shapes s hs).max⟩, hc.len, hc.max⟩
def c13 (R A : Nat) : Cnf := ⟨4, 0, 0, 1, 1, 0, 1, 0, some ⟨A, 0, none⟩, 1, [⟨true, some ⟨R, 0, none⟩, 1, [false]⟩]⟩
theorem c13_check (R A : Nat) : (c13 R A).check = 0 := rfl
theorem c13_words (R A : Nat) : cWords (c13 R A) = 32 := by unfold cWords; rw [if_pos (c13_check R A)]; rfl
theorem arr13 (R A : Nat) (A' : Option Addr) (cap' : Nat) : arrE (c13 R A) true ⟨true, A', cap', [false]⟩ 2 [0, 3] (-1) = 0 := rfl
/-- The program's states on the way to the element. -/
def st13 (cm : Cnf) : Nat → FindS
  | 0 => FindS.fresh cm 0 1 true 0
  | 1 => ⟨cm, 0, 1, true, 2, 0, 0, 0, 0, 0, 0, -1, false, 0, 1⟩
  | 2 => ⟨cm, 0, 1, true, 3, 0, 0, 0, 1, 0, 0, -1, false, 0, 2⟩
  | 3 => ⟨cm, 0, 1, true, 4, 0, 0, 0, 1, 0, 0, -1, false, 0, 3⟩
  | _ => ⟨cm, 0, 1, true, 6, 0, 0, 0, 1, 0, 0, 25, false, 0, 4⟩
theorem same_check {c d : Cnf} (h : c.Same d) : c.check = d.check := by
  have hl : c.shapes.length = d.shapes.length := by have := congrArg List.length h.shapes; simpa using this
  have e : ∀ l : List Shp, badIn l = (l.map Shp.data).any fun p => !decide (p.2.length ≤ 40 ∧ (p.1 = true → p.2.length = 1)) := fun l => by
    unfold badIn
    rw [List.any_map]
    rfl
  have hb : badIn c.shapes = badIn d.shapes := by rw [e, e, h.shapes]
  obtain ⟨h1, h2, h3, h4, h5, h6, h7, h8, _⟩ := h
  unfold Cnf.check Cnf.rangedTo Cnf.ranges
  rw [h1, h2, h3, h4, h5, h6, h7, h8, hl, hb]
theorem Cnf.Same.shapeAt {c d : Cnf} (h : c.Same d) (k : Int) : c.shapeAt k = d.shapeAt k := by
  unfold Cnf.shapeAt
  split
  · rfl
  · have e := congrArg (fun l => l[k.toNat]?) h.shapes
    simp only [List.getElem?_map] at e
    exact e
theorem mod_nothing {T : Nat → Prop} {g g' : GW} (h : Mod T g g') (hn : ∀ k, k < g.w.heap.size → ¬ T (g.own k)) : Mod (fun _ => False) g g' := ⟨h.os, h.tape, h.output, h.size, h.own, fun k hk _ => h.block k hk (hn k hk)⟩
theorem okAt_of {cm : Cnf} (h1 : cm.check = 0) {n : Int} (h2 : cm.frags = n) (S : FindS) (hS : S.c = cm) {f k : Int} (hf : 0 ≤ f ∧ f < n) (hk : 0 ≤ k ∧ k < 8) : S.okAt f k = true := by
  unfold FindS.okAt
  rw [hS, h1, h2]
  apply decide_eq_true
  omega
def mAt (m : MemS) (n : Int) : MemS := { m with count := n }
set_option maxRecDepth 100000 in
set_option maxHeartbeats 4000000 in
theorem first13_any (w : World) : Calls Try.prog 14 #[] w (Gives (.bool true) w) := by
  go_enter Try.func14, Try.ntmps14
  go_wp2_with fail
  have hz1 : (w.alloc (.cells #[.bool false] 4)).heap.size = w.heap.size + 1 := World.size_alloc _ _
  have hz2 : ((w.alloc (.cells #[.bool false] 4)).alloc (.cells #[.bool true, .slice (some ⟨w.heap.size, 0, none⟩) 1 1] 29)).heap.size = w.heap.size + 2 := by simp [World.size_alloc]
  have hz3 : (((w.alloc (.cells #[.bool false] 4)).alloc (.cells #[.bool true, .slice (some ⟨w.heap.size, 0, none⟩) 1 1] 29)).alloc (.cells #[.int .i64 4, .int .i64 0, .int .i64 0, .int .i64 1, .int .i64 1, .int .i64 0, .int .i64 1, .int .i64 0, .slice (some ⟨w.heap.size + 1, 0, none⟩) 1 1] 24)).heap.size = w.heap.size + 3 := by simp [World.size_alloc]
  have HOK := Lib.hid (show (c13 w.heap.size (w.heap.size + 1)).Ok ((((w.alloc (.cells #[.bool false] 4)).alloc (.cells #[.bool true, .slice (some ⟨w.heap.size, 0, none⟩) 1 1] 29)).alloc (.cells #[.int .i64 4, .int .i64 0, .int .i64 0, .int .i64 1, .int .i64 1, .int .i64 0, .int .i64 1, .int .i64 0, .slice (some ⟨w.heap.size + 1, 0, none⟩) 1 1] 24)).alloc (.cells #[.int .i64 0, .int .i64 3] 3)) from by
    refine ⟨?_, fun s hs => ?_, by simp [c13], by simp [c13]⟩
    · exact ((cellsAt_new _ _ _ _ hz1.symm).alloc _).alloc _
    · simp only [c13, List.mem_cons, List.not_mem_nil, or_false] at hs
      subst hs
      exact ⟨(((cellsAt_new _ _ _ _ rfl).alloc _).alloc _).alloc _, by simp, by simp⟩)
  have HGT := Lib.hid (show CellsAt ((((w.alloc (.cells #[.bool false] 4)).alloc (.cells #[.bool true, .slice (some ⟨w.heap.size, 0, none⟩) 1 1] 29)).alloc (.cells #[.int .i64 4, .int .i64 0, .int .i64 0, .int .i64 1, .int .i64 1, .int .i64 0, .int .i64 1, .int .i64 0, .slice (some ⟨w.heap.size + 1, 0, none⟩) 1 1] 24)).alloc (.cells #[.int .i64 0, .int .i64 3] 3)) (some ⟨w.heap.size + 3, 0, none⟩) ([0, 3].map (Value.int .i64)) from cellsAt_new _ _ _ _ hz3.symm)
  have HBK := Lib.hid (show ((((w.alloc (.cells #[.bool false] 4)).alloc (.cells #[.bool true, .slice (some ⟨w.heap.size, 0, none⟩) 1 1] 29)).alloc (.cells #[.int .i64 4, .int .i64 0, .int .i64 0, .int .i64 1, .int .i64 1, .int .i64 0, .int .i64 1, .int .i64 0, .slice (some ⟨w.heap.size + 1, 0, none⟩) 1 1] 24)).alloc (.cells #[.int .i64 0, .int .i64 3] 3)).heap[w.heap.size + 2]? = some (.cells #[.int .i64 4, .int .i64 0, .int .i64 0, .int .i64 1, .int .i64 1, .int .i64 0, .int .i64 1, .int .i64 0, .slice (some ⟨w.heap.size + 1, 0, none⟩) 1 1] 24) from by
    rw [World.row_alloc_past _ (by omega), ← hz2]
    exact World.row_alloc_new _)
  have HE0 := Lib.hid (show Ext w ((((w.alloc (.cells #[.bool false] 4)).alloc (.cells #[.bool true, .slice (some ⟨w.heap.size, 0, none⟩) 1 1] 29)).alloc (.cells #[.int .i64 4, .int .i64 0, .int .i64 0, .int .i64 1, .int .i64 1, .int .i64 0, .int .i64 1, .int .i64 0, .slice (some ⟨w.heap.size + 1, 0, none⟩) 1 1] 24)).alloc (.cells #[.int .i64 0, .int .i64 3] 3)) by (repeat (first | (with_reducible assumption) | (with_reducible exact Ext.refl _) | (with_reducible exact Ext.more _ _ _ _) | apply Ext.alloc | refine Ext.setCell ?_ (by first | exact Nat.le_refl _ | exact Nat.le_add_right _ _ | assumption) _ | apply Ext.patch | apply Ext.drew | apply Ext.drewN)))
  generalize hw0 : ((((w.alloc (.cells #[.bool false] 4)).alloc (.cells #[.bool true, .slice (some ⟨w.heap.size, 0, none⟩) 1 1] 29)).alloc (.cells #[.int .i64 4, .int .i64 0, .int .i64 0, .int .i64 1, .int .i64 1, .int .i64 0, .int .i64 1, .int .i64 0, .slice (some ⟨w.heap.size + 1, 0, none⟩) 1 1] 24)).alloc (.cells #[.int .i64 0, .int .i64 3] 3)) = w0 at *
  clear hw0 hz1 hz2 hz3
  have HAR := Lib.hid (array_any (c13 w.heap.size (w.heap.size + 1)) 0 2 (-1) (some ⟨w.heap.size + 3, 0, none⟩) 2 [0, 3] w0 HOK.out HGT.out (by decide) (by decide) (by decide) (by decide) (by decide) (by decide))
  unfold Cnf.val c13 at HAR
  refine HAR.out.mono ?_
  rintro e w1 ⟨s', l, n, rfl, hs, hown, hE⟩
  obtain ⟨arr, A', cap', refs⟩ := s'
  have hsh : Cnf.shapeAt (c13 w.heap.size (w.heap.size + 1)) 0 = some (true, [false]) := rfl
  unfold c13 at hsh
  rw [hsh] at hs hown ⊢
  simp only [Option.getD_some, Prod.mk.injEq] at hs
  obtain ⟨rfl, rfl⟩ := hs
  have hz : arrE (c13 w.heap.size (w.heap.size + 1)) (some (true, [false])).isSome ⟨true, A', cap', [false]⟩ 2 [0, 3] (-1) = 0 := arr13 _ _ _ _
  have HZ := Lib.hid hz
  unfold c13 at hz
  rw [hz] at hown ⊢
  rw [if_pos rfl] at hown
  have HWR := Lib.hid (wr_array (kind := 0) HZ.out)
  have HIN := Lib.hid (once_in HZ.out)
  have HON := Lib.hid (once_array (kind := 0) HZ.out).1
  have hn := hown.1
  have hal : arrLen 2 [0, 3] = 16 := rfl
  rw [hal] at HWR HIN HON
  rw [HWR.out.len] at hn
  obtain rfl : n = 16 := by omega
  obtain ⟨Al, cl, rfl⟩ := own_form hown
  have HC := Lib.hid (show Seg ⟨fun _ => 0, w1⟩ 0 Al (arrWrites ⟨true, A', cap', [false]⟩ 0 2 (-1) [0, 3]) from ⟨cellsAt_of_own hown, fun _ _ _ => rfl⟩)
  have HE1 := Lib.hid (HE0.out.trans hE)
  have HB := Lib.hid (show Blk ⟨fun _ => 0, w1⟩ 0 (w.heap.size + 2) 24 [.int .i64 4, .int .i64 0, .int .i64 0, .int .i64 1, .int .i64 1, .int .i64 0, .int .i64 1, .int .i64 0, .slice (some ⟨w.heap.size + 1, 0, none⟩) 1 1] from ⟨by
    have hb0 : w.heap.size + 2 < w0.heap.size := (Array.getElem?_eq_some_iff.1 HBK.out).1
    show w1.heap[w.heap.size + 2]? = _
    rw [hE.heap _ hb0]
    exact HBK.out, rfl⟩)
  have HCN := Lib.hid (cnf_zero (HOK.out.ext hE))
  clear hown hE hn hal hz hsh HAR HE0 HBK HGT HOK
  have g0 := HB.out.cell (i := 0) rfl
  have g1 := HB.out.cell (i := 1) rfl
  have g2 := HB.out.cell (i := 2) rfl
  have g3 := HB.out.cell (i := 3) rfl
  have g4 := HB.out.cell (i := 4) rfl
  have g5 := HB.out.cell (i := 5) rfl
  have g6 := HB.out.cell (i := 6) rfl
  have g7 := HB.out.cell (i := 7) rfl
  have g8 := HB.out.cell (i := 8) rfl
  have gl := HB.out.lt
  simp only [GW.to, GW.pt] at g0 g1 g2 g3 g4 g5 g6 g7 g8 gl
  go_wp2_with fail
  have HFL := Lib.hid (fill_nil (c13 w.heap.size (w.heap.size + 1)) 300 ⟨fun _ => 0, w1⟩ HCN.out.ok)
  unfold Cnf.val c13 at HFL
  refine HFL.out.mono ?_
  rintro e w2 ⟨own2, bm, rfl, m2, r2⟩
  have M2 := Lib.hid m2
  have R2 := Lib.hid (show MemAt ⟨own2, w2⟩ 300 bm (memPut ⟨List.replicate (cWords (c13 w.heap.size (w.heap.size + 1))).toNat (0, 0), 0⟩ (onceAt [0, 3] (-1)) (arrV ⟨true, A', cap', [false]⟩ 0 2 (-1) [0, 3]) 0) from r2)
  have HC2 := Lib.hid (HC.out.keep M2.out id)
  have HB2 := Lib.hid (HB.out.keep M2.out id)
  have HCN2 := Lib.hid (HCN.out.keep M2.out id)
  have HPK := Lib.hid (fun i k (hi : i < 2) (hk : k < 8) => put_frag (V := arrV ⟨true, A', cap', [false]⟩ 0 2 (-1) [0, 3]) HON.out (by decide) HIN.out (i := i) (k := k) hi hk)
  have HLN := Lib.hid (fun k => (memPut_len ⟨List.replicate (cWords (c13 w.heap.size (w.heap.size + 1))).toNat (0, 0), 0⟩ (onceAt [0, 3] (-1)) (arrV ⟨true, A', cap', [false]⟩ 0 2 (-1) [0, 3]) k).trans (show (List.replicate (cWords (c13 w.heap.size (w.heap.size + 1))).toNat ((0, 0) : Nat × Nat)).length = 32 by rw [c13_words]; rfl))
  have HCT := Lib.hid (fun k => memPut_count ⟨List.replicate (cWords (c13 w.heap.size (w.heap.size + 1))).toNat (0, 0), 0⟩ (onceAt [0, 3] (-1)) (arrV ⟨true, A', cap', [false]⟩ 0 2 (-1) [0, 3]) k)
  simp only at HCT
  generalize hMP : memPut ⟨List.replicate (cWords (c13 w.heap.size (w.heap.size + 1))).toNat (0, 0), 0⟩ (onceAt [0, 3] (-1)) (arrV ⟨true, A', cap', [false]⟩ 0 2 (-1) [0, 3]) = MP at *
  have HMP := Lib.hid (fun k => show MP (k + 1) = (MP k).tick.lay (onceAt [0, 3] (-1) k) (arrV ⟨true, A', cap', [false]⟩ 0 2 (-1) [0, 3] k) by rw [← hMP]; rfl)
  clear hMP m2 r2 HFL HC HB HCN g0 g1 g2 g3 g4 g5 g6 g7 g8 gl
  go_wp2_with fail
  go_loopw [5] (fun i wr => ∃ (k : Nat) (own : Nat → Nat), k ≤ 16 ∧ i = .int .i64 k ∧ Hid (Mod (fun x => x = 300) ⟨own2, w2⟩ ⟨own, wr⟩) ∧ Hid (MemAt ⟨own, wr⟩ 300 bm (MP k))) (fun i _ => 16 - (intOf i).toNat)
  case atStart => exact ⟨0, own2, Nat.zero_le _, rfl, Lib.hid (Mod.refl _ _), R2⟩
  case round =>
    obtain ⟨k, own3, hk, rfl, M3, R3⟩ := hrel
    obtain ⟨w3, rfl⟩ : ∃ w3 : World, w3 = wr := ⟨_, rfl⟩
    by_cases hlt : k < 16
    · obtain ⟨bl, ol, hA, hbl, hcl⟩ := (HC2.out.keep M3.out (by decide)).cells.cases (by rw [HWR.out.len]; decide)
      have l0 := hcl _ _ (HWR.out.at_ k hlt)
      have l1 := hcl _ _ (HWR.out.w k hlt)
      rw [← Nat.add_assoc] at l1
      have HK1 := Lib.hid (HMP.out k)
      have hcb := HCT.out k
      have HC3 := Lib.hid (show 0 ≤ (MP k).count ∧ (MP k).count ≤ 1099511627776 by rw [hcb]; omega)
      have HW := Lib.hid (fun X => mem_write (GW.pt ⟨own3, w3⟩ X) 300 bm (onceAt [0, 3] (-1) k) (arrV ⟨true, A', cap', [false]⟩ 0 2 (-1) [0, 3] k).1 (arrV ⟨true, A', cap', [false]⟩ 0 2 (-1) [0, 3] k).2 (MP k) (R3.out.pt X) HC3.out)
      subst hA
      simp only at hbl l0 l1
      generalize (arrV ⟨true, A', cap', [false]⟩ 0 2 (-1) [0, 3] k) = pq at *
      obtain ⟨p, q⟩ := pq
      generalize onceAt [0, 3] (-1) k = a at *
      clear hcl hcb
      go_wp2_with fail
      refine wp_region_mixed [true, true, true, true, true, true, true, true, true, true, true, false] 1 11 (by kernel_rfl) (by kernel_rfl) (by kernel_rfl) ?_ (by decide) (by decide) (by decide) (by kernel_rfl) ?_
      · intro c a d v w h; cases d <;> exact h
      intro X00
      simp only [pickOps]
      repeat (go_big_quiet_step (fail))
      refine wpQuiet_nil (fun X0 => ?_)
      clear X00
      refine wpAnyM_tailL rfl (by kernel_rfl) (fun X2 => ?_)
      simp only [List.drop_succ_cons, List.drop_zero]
      go_wp2_with fail
      refine (HW.out _).mono ?_
      rintro e w4 ⟨rfl, own4, m4, r4⟩
      have M4 := Lib.hid m4
      have R4 := Lib.hid r4
      clear m4 r4
      go_wp2_with fail
      go_roundw
      case rel => exact ⟨k + 1, own4, by omega, by go_num, Lib.hid ((M3.out.trans (Mod.pt (Mod.refl _ _) _)).trans M4.out), Lib.hid (by rw [HK1.out]; exact R4.out)⟩
      case measure => simp [intOf]; omega
    · obtain rfl : k = 16 := by omega
      have HB3 := Lib.hid (HB2.out.keep M3.out (by decide))
      have HCN3 := Lib.hid (HCN2.out.keep M3.out (by decide))
      have g0 := HB3.out.cell (i := 0) rfl
      have g1 := HB3.out.cell (i := 1) rfl
      have g2 := HB3.out.cell (i := 2) rfl
      have g3 := HB3.out.cell (i := 3) rfl
      have g4 := HB3.out.cell (i := 4) rfl
      have g5 := HB3.out.cell (i := 5) rfl
      have g6 := HB3.out.cell (i := 6) rfl
      have g7 := HB3.out.cell (i := 7) rfl
      have g8 := HB3.out.cell (i := 8) rfl
      have gl := HB3.out.lt
      simp only [GW.to, GW.pt] at g0 g1 g2 g3 g4 g5 g6 g7 g8 gl
      go_wp2_with fail
      have HEL := Lib.hid (find_elem (c13 w.heap.size (w.heap.size + 1)) 0 1 310 ⟨own3, w3⟩ HCN3.out.ok (by simp [c13]))
      unfold Cnf.val c13 at HEL
      refine HEL.out.mono ?_
      rintro e w4 ⟨own4, bf, cm, rfl, m4, r4, hs4⟩
      have M4 := Lib.hid m4
      have F4 := Lib.hid (show FindAt ⟨own4, w4⟩ 310 bf (st13 cm 0) from r4)
      have HSC := Lib.hid ((same_check hs4).trans (c13_check w.heap.size (w.heap.size + 1)))
      have HSF := Lib.hid (show cm.frags = 4 from hs4.frags)
      have HSA := Lib.hid (show cm.shapeAt 0 = some (true, [false]) from (Cnf.Same.shapeAt hs4 0).trans rfl)
      have hct := HCT.out 16
      have R4 := Lib.hid (show MemAt ⟨own4, w4⟩ 300 bm (mAt (MP 16) (16 + (0 : Nat))) from by
        have e : mAt (MP 16) (16 + ((0 : Nat) : Int)) = MP 16 := by unfold mAt; rw [show (16 : Int) + ((0 : Nat) : Int) = (MP 16).count by rw [hct]; rfl]
        rw [e]
        exact R3.out.keep m4 id)
      have HP1 := Lib.hid ((HPK.out 0 1 (by decide) (by decide)).trans (arr_head (s := ⟨true, A', cap', [false]⟩) (n := 2) (at_ := -1) (got := [0, 3]) (by decide) (by decide)))
      have HP2 := Lib.hid ((HPK.out 0 2 (by decide) (by decide)).trans (arr_len (s := ⟨true, A', cap', [false]⟩) (kind := 0) (at_ := -1) (got := [0, 3]) (by decide) (by decide)))
      have HP3 := Lib.hid ((HPK.out 0 3 (by decide) (by decide)).trans (arr_mode (s := ⟨true, A', cap', [false]⟩) (kind := 0) (n := 2) (at_ := -1) (got := [0, 3]) (by decide)))
      have HP4 := Lib.hid ((HPK.out 0 4 (by decide) (by decide)).trans (arr_inline (s := ⟨true, A', cap', [false]⟩) (kind := 0) (n := 2) (at_ := -1) (got := [0, 3]) (j := 0) rfl (by decide) (by decide) (by decide)))
      have HL32 := Lib.hid (fun n a (ha : inB a 32 = true) => show inB a (mAt (MP 16) n).l.length = true by show inB a (MP 16).l.length = true; rw [HLN.out]; exact ha)
      clear m4 r4 hs4 hct HEL HC2 HB2 HCN2 HB3 HCN3 g0 g1 g2 g3 g4 g5 g6 g7 g8 gl
      go_wp2_with fail
      go_loopw [7] (fun i wr => ∃ (j : Nat) (own : Nat → Nat), j ≤ 4 ∧ i = .int .i64 j ∧ Hid (Mod (fun x => x = 310 ∨ x = 300) ⟨own4, w4⟩ ⟨own, wr⟩) ∧ Hid (FindAt ⟨own, wr⟩ 310 bf (st13 cm j)) ∧ Hid (MemAt ⟨own, wr⟩ 300 bm (mAt (MP 16) (16 + (j : Nat))))) (fun i _ => 4 - (intOf i).toNat)
      case atStart => exact ⟨0, own4, Nat.zero_le _, rfl, Lib.hid (Mod.refl _ _), F4, R4⟩
      case round =>
        obtain ⟨j, own5, hj, rfl, M5, F5, R5⟩ := hrel
        obtain ⟨w5, rfl⟩ : ∃ w5 : World, w5 = wr := ⟨_, rfl⟩
        rcases (show j = 0 ∨ j = 1 ∨ j = 2 ∨ j = 3 ∨ j = 4 by omega) with rfl | rfl | rfl | rfl | rfl
        · rw [show ((0 : Nat) : Int) = 0 from rfl]
          have HST := Lib.hid (show Calls Try.prog 24 #[.pointer (some ⟨bf, 0, none⟩), .pointer (some ⟨bm, 0, none⟩)] w5 (Does (.bool false) ⟨own5, w5⟩ (fun x => x = 310 ∨ x = 300) (fun g' => FindAt g' 310 bf (st13 cm 1) ∧ MemAt g' 300 bm (mAt (MP 16) (16 + (1 : Nat))))) from
            find_step_b ⟨own5, w5⟩ 310 bf bm (st13 cm 0) false _ _ F5.out (Or.inl rfl) ⟨by show (0 : Int) ≤ 0; decide, by show (0 : Int) ≤ 1099511627776; decide⟩ (Or.inl rfl) (fun g' m h' =>
              find_begins_head g' 310 bf 300 bm _ (st13 cm 1) (mAt (MP 16) (16 + (0 : Nat))) true _ _ h' (R5.out.keep m (by decide)) ⟨by show (0 : Int) ≤ 16 + 0; decide, by show (16 : Int) + 0 ≤ 1099511627776; decide⟩ rfl (okAt_of HSC.out HSF.out _ rfl ⟨by show (0 : Int) ≤ 0; decide, by show (0 : Int) < 4; decide⟩ (by decide)) (HL32.out _ _ rfl) HP1.out (by decide) (by decide) (fun g'' h'' =>
                find_first_array g'' 310 bf _ _ _ 0 [false] h'' (fun w => tell_head 0 0 (by decide) (by decide) (by decide) (by decide) w) HSA.out rfl (by decide))))
          go_wp2_with fail
          refine (find_done ⟨own5, w5⟩ 310 bf (st13 cm 0) F5.out).mono ?_
          rintro e w6 ⟨rfl, rfl⟩
          rw [show ((st13 cm 0).pc == 6) = false from rfl]
          go_wp2_with fail
          refine HST.out.mono ?_
          rintro e w7 ⟨rfl, own7, m7, f7, r7⟩
          have M7 := Lib.hid m7
          have F7 := Lib.hid f7
          have R7 := Lib.hid r7
          clear m7 f7 r7
          go_wp2_with fail
          go_roundw
          case rel => exact ⟨0 + 1, own7, by omega, by go_num, Lib.hid (M5.out.trans M7.out), F7, R7⟩
          case measure => simp [intOf]
        · rw [show ((1 : Nat) : Int) = 1 from rfl]
          have HST := Lib.hid (show Calls Try.prog 24 #[.pointer (some ⟨bf, 0, none⟩), .pointer (some ⟨bm, 0, none⟩)] w5 (Does (.bool false) ⟨own5, w5⟩ (fun x => x = 310 ∨ x = 300) (fun g' => FindAt g' 310 bf (st13 cm 2) ∧ MemAt g' 300 bm (mAt (MP 16) (16 + (2 : Nat))))) from
            find_step_e ⟨own5, w5⟩ 310 bf bm (st13 cm 1) false _ _ F5.out (Or.inl rfl) ⟨by show (0 : Int) ≤ 1; decide, by show (1 : Int) ≤ 1099511627776; decide⟩ (Or.inl rfl) (fun g' m h' =>
              find_elem_length g' 310 bf 300 bm _ (mAt (MP 16) (16 + (1 : Nat))) 2 h' (R5.out.keep m (by decide)) ⟨by show (0 : Int) ≤ 16 + 1; decide, by show (16 : Int) + 1 ≤ 1099511627776; decide⟩ rfl (okAt_of HSC.out HSF.out _ rfl ⟨by show (0 : Int) ≤ 0; decide, by show (0 : Int) < 4; decide⟩ (by decide)) (HL32.out _ _ rfl) HP2.out (by decide) (by decide) (by decide) (by decide) (by show (0 : Int) ≤ 1; decide) (by show (1 : Int) < 2; decide)))
          go_wp2_with fail
          refine (find_done ⟨own5, w5⟩ 310 bf (st13 cm 1) F5.out).mono ?_
          rintro e w6 ⟨rfl, rfl⟩
          rw [show ((st13 cm 1).pc == 6) = false from rfl]
          go_wp2_with fail
          refine HST.out.mono ?_
          rintro e w7 ⟨rfl, own7, m7, f7, r7⟩
          have M7 := Lib.hid m7
          have F7 := Lib.hid f7
          have R7 := Lib.hid r7
          clear m7 f7 r7
          go_wp2_with fail
          go_roundw
          case rel => exact ⟨1 + 1, own7, by omega, by go_num, Lib.hid (M5.out.trans M7.out), F7, R7⟩
          case measure => simp [intOf]
        · rw [show ((2 : Nat) : Int) = 2 from rfl]
          have HST := Lib.hid (show Calls Try.prog 24 #[.pointer (some ⟨bf, 0, none⟩), .pointer (some ⟨bm, 0, none⟩)] w5 (Does (.bool false) ⟨own5, w5⟩ (fun x => x = 310 ∨ x = 300) (fun g' => FindAt g' 310 bf (st13 cm 3) ∧ MemAt g' 300 bm (mAt (MP 16) (16 + (3 : Nat))))) from
            find_step_e ⟨own5, w5⟩ 310 bf bm (st13 cm 2) false _ _ F5.out (Or.inr (Or.inl rfl)) ⟨by show (0 : Int) ≤ 2; decide, by show (2 : Int) ≤ 1099511627776; decide⟩ (Or.inl rfl) (fun g' m h' =>
              find_elem_mode g' 310 bf 300 bm _ (mAt (MP 16) (16 + (2 : Nat))) 0 h' (R5.out.keep m (by decide)) ⟨by show (0 : Int) ≤ 16 + 2; decide, by show (16 : Int) + 2 ≤ 1099511627776; decide⟩ rfl (okAt_of HSC.out HSF.out _ rfl ⟨by show (0 : Int) ≤ 0; decide, by show (0 : Int) < 4; decide⟩ (by decide)) (HL32.out _ _ rfl) HP3.out (by decide) (by decide) (Or.inl ⟨rfl, by show (1 : Int) ≤ 4; decide⟩)))
          go_wp2_with fail
          refine (find_done ⟨own5, w5⟩ 310 bf (st13 cm 2) F5.out).mono ?_
          rintro e w6 ⟨rfl, rfl⟩
          rw [show ((st13 cm 2).pc == 6) = false from rfl]
          go_wp2_with fail
          refine HST.out.mono ?_
          rintro e w7 ⟨rfl, own7, m7, f7, r7⟩
          have M7 := Lib.hid m7
          have F7 := Lib.hid f7
          have R7 := Lib.hid r7
          clear m7 f7 r7
          go_wp2_with fail
          go_roundw
          case rel => exact ⟨2 + 1, own7, by omega, by go_num, Lib.hid (M5.out.trans M7.out), F7, R7⟩
          case measure => simp [intOf]
        · rw [show ((3 : Nat) : Int) = 3 from rfl]
          have HST := Lib.hid (show Calls Try.prog 24 #[.pointer (some ⟨bf, 0, none⟩), .pointer (some ⟨bm, 0, none⟩)] w5 (Does (.bool true) ⟨own5, w5⟩ (fun x => x = 310 ∨ x = 300) (fun g' => FindAt g' 310 bf (st13 cm 4) ∧ MemAt g' 300 bm (mAt (MP 16) (16 + (4 : Nat))))) from
            find_step_e ⟨own5, w5⟩ 310 bf bm (st13 cm 3) true _ _ F5.out (Or.inr (Or.inr (Or.inl rfl))) ⟨by show (0 : Int) ≤ 3; decide, by show (3 : Int) ≤ 1099511627776; decide⟩ (Or.inl rfl) (fun g' m h' => by
              have e : FindS.stands { st13 cm 3 with steps := (st13 cm 3).steps + 1 } 3 (1 % 8) = st13 cm 4 := by
                unfold FindS.stands
                rw [if_pos (okAt_of HSC.out HSF.out _ rfl (by decide) (by decide))]
                rfl
              rw [← e]
              exact find_elem_inline g' 310 bf 300 bm _ (mAt (MP 16) (16 + (3 : Nat))) 3 h' (R5.out.keep m (by decide)) ⟨by show (0 : Int) ≤ 16 + 3; decide, by show (16 : Int) + 3 ≤ 1099511627776; decide⟩ rfl rfl (by show (0 : Int) ≤ 1; decide) (by show (1 : Int) / 8 < 4; decide) (okAt_of HSC.out HSF.out _ rfl ⟨by show (0 : Int) ≤ 0; decide, by show (0 : Int) < 4; decide⟩ ⟨by show (0 : Int) ≤ 4 + 1 / 8; decide, by show 4 + (1 : Int) / 8 < 8; decide⟩) (HL32.out _ _ rfl) HP4.out (by decide) (by decide) (by decide) (by decide)))
          go_wp2_with fail
          refine (find_done ⟨own5, w5⟩ 310 bf (st13 cm 3) F5.out).mono ?_
          rintro e w6 ⟨rfl, rfl⟩
          rw [show ((st13 cm 3).pc == 6) = false from rfl]
          go_wp2_with fail
          refine HST.out.mono ?_
          rintro e w7 ⟨rfl, own7, m7, f7, r7⟩
          have M7 := Lib.hid m7
          have F7 := Lib.hid f7
          have R7 := Lib.hid r7
          clear m7 f7 r7
          go_wp2_with fail
          go_roundw
          case rel => exact ⟨3 + 1, own7, by omega, by go_num, Lib.hid (M5.out.trans M7.out), F7, R7⟩
          case measure => simp [intOf]
        · rw [show ((4 : Nat) : Int) = 4 from rfl]
          go_wp2_with fail
          refine (find_done ⟨own5, w5⟩ 310 bf (st13 cm 4) F5.out).mono ?_
          rintro e w6 ⟨rfl, rfl⟩
          rw [show ((st13 cm 4).pc == 6) = true from rfl]
          go_wp2_with fail
          refine (find_steps ⟨own5, w5⟩ 310 bf (st13 cm 4) F5.out).mono ?_
          rintro e w6 ⟨rfl, rfl⟩
          rw [show (st13 cm 4).steps = 4 from rfl]
          go_wp2_with fail
          refine (find_at ⟨own5, w5⟩ 310 bf (st13 cm 4) F5.out).mono ?_
          rintro e w6 ⟨rfl, rfl⟩
          rw [show (st13 cm 4).at_ = 25 from rfl]
          go_wp2_with fail
          refine (find_errno ⟨own5, w5⟩ 310 bf (st13 cm 4) F5.out).mono ?_
          rintro e w6 ⟨rfl, rfl⟩
          rw [show (st13 cm 4).e = 0 from rfl]
          go_wp2_with fail
          refine (find_ref ⟨own5, w5⟩ 310 bf (st13 cm 4) F5.out).mono ?_
          rintro e w6 ⟨rfl, rfl⟩
          rw [show (decide (0 ≤ (st13 cm 4).at_) && (st13 cm 4).ref) = false from rfl]
          go_wp2_with fail
          go_ret
          have mAll : Mod (fun x => x = 310 ∨ x = 300) ⟨fun _ => 0, w1⟩ ⟨own5, w5⟩ := (M2.out.mono (fun _ => False.elim)).trans ((M3.out.mono (fun x hx => Or.inr hx)).trans ((M4.out.mono (fun _ => False.elim)).trans M5.out))
          exact Gives.bool rfl (HE1.out.trans (mod_nothing mAll (fun k _ => by simp)).toExt)
end Go.Proofs.Ytmgkfpmmlibmcaa
