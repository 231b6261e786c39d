/-
  spolaw17.HaulSame.
-/
import Derived.Test.YtmgkfpmmlibmcaaHaulU
import Derived.Test.YtmgkfpmmlibmcaaReads
namespace Go.Proofs.Ytmgkfpmmlibmcaa
open Go Go.RowKit
set_option linter.unusedVariables false
set_option linter.unnecessarySimpa false
set_option linter.unusedSimpArgs false
set_option maxRecDepth 100000 in
set_option maxHeartbeats 4000000 in
theorem same17_any (A : Option Addr) (cap : Nat) (zs : List Int) (B : Option Addr) (capb : Nat) (bl : List Bool) (D : Option Addr) (capd : Nat) (tl : List Bool) (w : World) (hz : CellsAt w A (zs.map (Value.int .i64))) (hb : CellsAt w B (bl.map Value.bool)) (ht : CellsAt w D (tl.map Value.bool)) (hzm : zs.length ≤ 9223372036854775807) (hbm : bl.length ≤ 9223372036854775807) (htm : tl.length ≤ 9223372036854775807) (hw : ∀ x ∈ zs, -9223372036854775808 ≤ x ∧ x ≤ 9223372036854775807) :
    Calls Try.prog 7 #[.slice A zs.length cap, .slice B bl.length capb, .slice D tl.length capd] w (Gives (.bool true) w) := by
  have H := Lib.hid (fun w' => first17_any w')
  have HZ := Lib.hid hz
  have HB := Lib.hid hb
  have HT := Lib.hid ht
  have HWB := Lib.hid hw
  clear hz hb ht hw
  go_enter Try.func7, Try.ntmps7
  go_wp2_with fail
  refine (H.out _).mono ?_
  rintro e w1 ⟨rfl, hE⟩
  have HE1 := Lib.hid (show Ext w w1 from hE)
  clear hE
  go_wp2_with fail
  go_loopw [7, 9] (fun n i wr => ∃ k : Nat, k ≤ zs.length ∧ k ≤ 60 ∧ i = .int .i64 k ∧ n = .int .i64 (atO (szOf zs) k : Nat) ∧ w1 = wr ∧ Hid (atO (szOf zs) k ≤ 66 * k) ∧ Hid (∀ q, q < k → 0 ≤ zs.getD q 0 ∧ zs.getD q 0 ≤ 64)) (fun _ i _ => 60 - (intOf i).toNat)
  case atStart => exact ⟨0, Nat.zero_le _, by decide, rfl, rfl, rfl, Lib.hid (show atO (szOf zs) 0 ≤ 66 * 0 from Nat.le_refl _), Lib.hid (fun q hq => by omega)⟩
  case round =>
    obtain ⟨k, hk, hk60, rfl, rfl, rfl, HA, HQ⟩ := hrel
    by_cases hlt : k < zs.length ∧ k < 60
    · obtain ⟨hl1, hl2⟩ := hlt
      obtain ⟨bq, oq, rfl, hq, hcq⟩ := ints_at (HZ.out.ext HE1.out) hl1
      have z0 := hcq k hl1
      have hzb := HWB.out (zs.getD k 0) (by simp [List.getD, List.getElem?_eq_getElem hl1])
      have HSZ := Lib.hid (szOf_get zs k)
      have hA := HA.out
      generalize hy : zs.getD k 0 = y at *
      have HY := Lib.hid hy
      clear hcq hy
      by_cases hy0 : y < 0
      · have d1 : decide (y < 0) = true := decide_eq_true hy0
        go_wp2_with fail
        refine (H.out _).mono ?_
        rintro e w9 ⟨rfl, hE9⟩
        have HE9 := Lib.hid (HE1.out.trans (show Ext w1 w9 from hE9))
        clear hE9
        go_wp2_with fail
        go_ret
        exact Gives.bool rfl HE9.out
      have d1 : decide (y < 0) = false := decide_eq_false hy0
      by_cases hy1 : 64 < y
      · have d2 : decide (64 < y) = true := decide_eq_true hy1
        go_wp2_with fail
        refine (H.out _).mono ?_
        rintro e w9 ⟨rfl, hE9⟩
        have HE9 := Lib.hid (HE1.out.trans (show Ext w1 w9 from hE9))
        clear hE9
        go_wp2_with fail
        go_ret
        exact Gives.bool rfl HE9.out
      have d2 : decide (64 < y) = false := decide_eq_false hy1
      have hat : ((atO (szOf zs) (k + 1) : Nat) : Int) = (atO (szOf zs) k : Nat) + 2 + y := by
        rw [atO, HSZ.out]; omega
      have HAT := Lib.hid hat
      have hA1 : atO (szOf zs) (k + 1) ≤ 66 * (k + 1) := by omega
      have HA1 := Lib.hid hA1
      clear hat hA1
      generalize atO (szOf zs) k = a0 at *
      go_wp2_with fail
      go_roundw
      case rel => exact ⟨k + 1, by omega, by omega, by go_num, by rw [HAT.out], by first | rfl | trivial, HA1, Lib.hid (fun q hq => by
        by_cases hqk : q = k
        · subst hqk; rw [HY.out]; omega
        · exact HQ.out q (by omega))⟩
      case measure => simp [intOf]; omega
    · by_cases h60 : 60 < zs.length
      · obtain rfl : k = 60 := by omega
        have d0 : decide ((60 : Int) < zs.length) = true := decide_eq_true (by omega)
        have d00 : decide (((60 : Nat) : Int) < 60) = false := by decide
        as_aux_lemma =>
          go_wp2_with fail
          refine (H.out _).mono ?_
          rintro e w9 ⟨rfl, hE9⟩
          have HE9 := Lib.hid (HE1.out.trans (show Ext w1 w9 from hE9))
          clear hE9
          go_wp2_with fail
          go_ret
          exact Gives.bool rfl HE9.out
      obtain rfl : k = zs.length := by omega
      have d0 : decide ((60 : Int) < zs.length) = false := decide_eq_false (by omega)
      have d01 : decide ((zs.length : Int) < zs.length) = false := by simp
      generalize hn : atO (szOf zs) zs.length = n at *
      have HN := Lib.hid hn
      clear hn
      by_cases hn1 : 2000 < n
      · have d1 : decide ((2000 : Int) < n) = true := decide_eq_true (by omega)
        as_aux_lemma =>
          go_wp2_with fail
          refine (H.out _).mono ?_
          rintro e w9 ⟨rfl, hE9⟩
          have HE9 := Lib.hid (HE1.out.trans (show Ext w1 w9 from hE9))
          clear hE9
          go_wp2_with fail
          go_ret
          exact Gives.bool rfl HE9.out
      have d1 : decide ((2000 : Int) < n) = false := decide_eq_false (by omega)
      by_cases hb1 : bl.length < zs.length
      · have d3 : decide ((bl.length : Int) < zs.length) = true := decide_eq_true (by omega)
        have d3' : decide (bl.length < zs.length) = true := decide_eq_true hb1
        as_aux_lemma =>
          go_wp2_with fail
          refine (H.out _).mono ?_
          rintro e w9 ⟨rfl, hE9⟩
          have HE9 := Lib.hid (HE1.out.trans (show Ext w1 w9 from hE9))
          clear hE9
          go_wp2_with fail
          go_ret
          exact Gives.bool rfl HE9.out
      have d3 : decide ((bl.length : Int) < zs.length) = false := decide_eq_false (by omega)
      have d3' : decide (bl.length < zs.length) = false := decide_eq_false hb1
      by_cases ht1 : tl.length < zs.length
      · have d4 : decide ((tl.length : Int) < zs.length) = true := decide_eq_true (by omega)
        have d4' : decide (tl.length < zs.length) = true := decide_eq_true ht1
        as_aux_lemma =>
          go_wp2_with fail
          refine (H.out _).mono ?_
          rintro e w9 ⟨rfl, hE9⟩
          have HE9 := Lib.hid (HE1.out.trans (show Ext w1 w9 from hE9))
          clear hE9
          go_wp2_with fail
          go_ret
          exact Gives.bool rfl HE9.out
      have d4 : decide ((tl.length : Int) < zs.length) = false := decide_eq_false (by omega)
      have d4' : decide (tl.length < zs.length) = false := decide_eq_false ht1
      obtain ⟨F, hF⟩ : ∃ F : Nat, maxF zs.length 4 = F := by
        unfold maxF
        split
        · exact ⟨4, rfl⟩
        · exact ⟨zs.length, rfl⟩
      have hF4 : 4 ≤ F ∧ zs.length ≤ F ∧ F ≤ 64 := by unfold maxF at hF; split at hF <;> omega
      go_wp2_with fail
      clear hF
      have HOK := Lib.hid (show (c17 F n w1.heap.size).Ok ((w1.alloc (.cells #[.bool false, .slice none 0 0] 29)).alloc (.cells #[.int .i64 F, .int .i64 n, .int .i64 0, .int .i64 1, .int .i64 1, .int .i64 0, .int .i64 1, .int .i64 0, .slice (some ⟨w1.heap.size, 0, none⟩) 1 1] 24)) from by
        refine ⟨(cellsAt_new _ _ _ _ rfl).alloc _, fun s hs => ?_, by simp [c17], by simp [c17]⟩
        simp only [c17, List.mem_cons, List.not_mem_nil, or_false] at hs
        subst hs
        exact ⟨CellsAt.nil _ _, by decide, by decide⟩)
      have HBK := Lib.hid (show Blk ⟨fun _ => 0, (w1.alloc (.cells #[.bool false, .slice none 0 0] 29)).alloc (.cells #[.int .i64 F, .int .i64 n, .int .i64 0, .int .i64 1, .int .i64 1, .int .i64 0, .int .i64 1, .int .i64 0, .slice (some ⟨w1.heap.size, 0, none⟩) 1 1] 24)⟩ 0 (w1.heap.size + 1) 24 [.int .i64 F, .int .i64 n, .int .i64 0, .int .i64 1, .int .i64 1, .int .i64 0, .int .i64 1, .int .i64 0, .slice (some ⟨w1.heap.size, 0, none⟩) 1 1] from ⟨by
        rw [show w1.heap.size + 1 = (w1.alloc (.cells #[.bool false, .slice none 0 0] 29)).heap.size from by rw [World.size_alloc]]
        exact World.row_alloc_new _, rfl⟩)
      have HE0 := Lib.hid (HE1.out.trans (show Ext w1 ((w1.alloc (.cells #[.bool false, .slice none 0 0] 29)).alloc (.cells #[.int .i64 F, .int .i64 n, .int .i64 0, .int .i64 1, .int .i64 1, .int .i64 0, .int .i64 1, .int .i64 0, .slice (some ⟨w1.heap.size, 0, none⟩) 1 1] 24)) by (repeat (first | (with_reducible assumption) | (with_reducible exact Ext.refl _) | (with_reducible exact Ext.more _ _ _ _) | apply Ext.alloc | refine Ext.setCell ?_ (by first | exact Nat.le_refl _ | exact Nat.le_add_right _ _ | assumption) _ | apply Ext.patch | apply Ext.drew | apply Ext.drewN))))
      generalize hw0 : (w1.alloc (.cells #[.bool false, .slice none 0 0] 29)).alloc (.cells #[.int .i64 F, .int .i64 n, .int .i64 0, .int .i64 1, .int .i64 1, .int .i64 0, .int .i64 1, .int .i64 0, .slice (some ⟨w1.heap.size, 0, none⟩) 1 1] 24) = w0 at *
      clear hw0
      have HCK := Lib.hid (show (c17 F n w1.heap.size).check = 0 from check17 (by omega) (by omega) (by omega))
      have HFL := Lib.hid (fill_nil (c17 F n w1.heap.size) 300 ⟨fun _ => 0, w0⟩ HOK.out)
      unfold Cnf.val c17 at HFL
      have g0 := HBK.out.cell (i := 0) rfl
      have g1 := HBK.out.cell (i := 1) rfl
      have g2 := HBK.out.cell (i := 2) rfl
      have g3 := HBK.out.cell (i := 3) rfl
      have g4 := HBK.out.cell (i := 4) rfl
      have g5 := HBK.out.cell (i := 5) rfl
      have g6 := HBK.out.cell (i := 6) rfl
      have g7 := HBK.out.cell (i := 7) rfl
      have g8 := HBK.out.cell (i := 8) rfl
      have gl := HBK.out.lt
      simp only at g0 g1 g2 g3 g4 g5 g6 g7 g8 gl
      refine HFL.out.mono ?_
      rintro e w2 ⟨own2, bm, rfl, m2, r2⟩
      have M2 := Lib.hid m2
      have R2 := Lib.hid r2
      have HB2 := Lib.hid (HBK.out.keep m2 id)
      clear m2 r2 HFL g0 g1 g2 g3 g4 g5 g6 g7 g8 gl
      have g0 := HB2.out.cell (i := 0) rfl
      have g1 := HB2.out.cell (i := 1) rfl
      have g2 := HB2.out.cell (i := 2) rfl
      have g3 := HB2.out.cell (i := 3) rfl
      have g4 := HB2.out.cell (i := 4) rfl
      have g5 := HB2.out.cell (i := 5) rfl
      have g6 := HB2.out.cell (i := 6) rfl
      have g7 := HB2.out.cell (i := 7) rfl
      have g8 := HB2.out.cell (i := 8) rfl
      have gl := HB2.out.lt
      simp only at g0 g1 g2 g3 g4 g5 g6 g7 g8 gl
      go_wp2_with fail
      refine (shade_new F 1 330 331 332 ⟨own2, w2⟩ (by omega) (by decide)).mono ?_
      rintro e w3 ⟨own3, bs, bt, bp, rfl, m3, s3, t3, p3⟩
      have M3 := Lib.hid (M2.out.trans m3)
      have R3 := Lib.hid (R2.out.keep m3 id)
      have HB3 := Lib.hid (HB2.out.keep m3 id)
      have S3 := Lib.hid (show ShAt ⟨own3, w3⟩ 330 bs bt 331 bp (TabS.fresh F) 0 from ⟨s3, t3⟩)
      clear m3 s3 t3 p3 g0 g1 g2 g3 g4 g5 g6 g7 g8 gl
      go_wp2_with fail
      refine (coil_new n 340 ⟨own3, w3⟩).mono ?_
      rintro e w4 hm
      unfold CoilMade at hm
      rw [if_pos (by omega)] at hm
      obtain ⟨own4, bk, rfl, m4, k4⟩ := hm
      have M4 := Lib.hid (M3.out.trans m4)
      have R4 := Lib.hid (R3.out.keep m4 id)
      have HB4 := Lib.hid (HB3.out.keep m4 id)
      have S4 := Lib.hid (S3.out.keep m4 id id)
      have K4 := Lib.hid k4
      have HBK0 := HBK
      clear m4 k4 M2 M3 R2 R3 HB2 HB3 S3 HBK
      have sc0 := S4.out.blk.cell (i := 0) rfl
      have sl := S4.out.blk.lt
      simp only at sc0 sl
      go_wp2_with fail
      refine (shade_table bt w4).mono ?_
      rintro e w5 ⟨rfl, hE⟩
      have m5 := Mod.ext (T := fun _ => False) (g := ⟨own4, w4⟩) (show Ext w4 w5 from hE) 0
      obtain ⟨own5, M5, R5, HB5, S5, K5⟩ : ∃ own5, Hid (Mod (fun _ => False) ⟨fun _ => 0, w0⟩ ⟨own5, w5⟩) ∧ Hid (MemAt ⟨own5, w5⟩ 300 bm ⟨List.replicate (cWords (c17 F n w1.heap.size)).toNat (0, 0), 0⟩) ∧ Hid (Blk ⟨own5, w5⟩ 0 (w1.heap.size + 1) 24 [.int .i64 F, .int .i64 n, .int .i64 0, .int .i64 1, .int .i64 1, .int .i64 0, .int .i64 1, .int .i64 0, .slice (some ⟨w1.heap.size, 0, none⟩) 1 1]) ∧ Hid (ShAt ⟨own5, w5⟩ 330 bs bt 331 bp (TabS.fresh F) 0) ∧ Hid (CoilAt ⟨own5, w5⟩ 340 bk ⟨n, 0, 0, 0, 0⟩) :=
        ⟨_, Lib.hid (M4.out.trans m5), Lib.hid (R4.out.keep m5 id), Lib.hid (HB4.out.keep m5 id), Lib.hid (S4.out.keep m5 id id), Lib.hid (K4.out.keep m5 id)⟩
      clear hE m5 M4 R4 HB4 S4 K4 sc0 sl
      have g0 := HB5.out.cell (i := 0) rfl
      have gl := HB5.out.lt
      simp only at g0 gl
      have e1 := IntWalk.i64_in (8 * (F : Int)) (by omega)
      go_wp2_with fail
      clear g0 gl
      have hlz : (szOf zs).length = zs.length := by unfold szOf; simp
      have HZ64 := Lib.hid (show ∀ q, (szOf zs).getD q 0 ≤ 64 from fun q => by
        rw [szOf_get]
        by_cases hq : q < zs.length
        · have := HQ.out q hq; omega
        · rw [List.getD_eq_getElem?_getD, List.getElem?_eq_none (by omega)]; decide)
      go_loopw [16, 18] (fun a i wr => ∃ (k : Nat) (own : Nat → Nat) (m : MemS) (T : TabS), k ≤ zs.length ∧ i = .int .i64 k ∧ a = .int .i64 (atO (szOf zs) k : Nat) ∧ Hid (Mod (fun x => x ≠ 0) ⟨fun _ => 0, w0⟩ ⟨own, wr⟩) ∧ Hid (MemAt ⟨own, wr⟩ 300 bm m) ∧ Hid (SLaid2 F n (szOf zs) tl k m) ∧ Hid (0 ≤ m.count ∧ m.count ≤ 70 * k) ∧ Hid (ShAt ⟨own, wr⟩ 330 bs bt 331 bp T 0) ∧ Hid (T.l.length = F ∧ ∀ q : Nat, q < k → (T.head q && T.black q true) = bl.getD q false) ∧ Hid (CoilAt ⟨own, wr⟩ 340 bk ⟨n, 0, 0, 0, 0⟩)) (fun _ i _ => zs.length - (intOf i).toNat)
      case atStart =>
        exact ⟨0, _, _, _, Nat.zero_le _, rfl, rfl, Lib.hid (M5.out.mono (fun _ => False.elim)), R5, Lib.hid (SLaid2.zero F n (szOf zs) tl (cWords (c17 F n w1.heap.size)).toNat 0 (by
          have : cWords (c17 F n w1.heap.size) = F * 8 + n + n := by unfold cWords; rw [if_pos HCK.out]; simp [c17]
          rw [this]; omega)), Lib.hid ⟨Int.le_refl _, by show (0 : Int) ≤ 70 * ((0 : Nat) : Int); decide⟩, S5, Lib.hid ⟨by simp [TabS.fresh], fun q hq => by omega⟩, K5⟩
      case round =>
        clear M5 R5 HB5 S5 K5
        obtain ⟨k, own6, m, T, hk, rfl, rfl, M6, R6, L6, C6, S6, T6, K6⟩ := hrel
        obtain ⟨w6, rfl⟩ : ∃ w6 : World, w6 = wr := ⟨_, rfl⟩
        by_cases hlt : k < zs.length
        · have hkb : k < bl.length := by omega
          have hkt : k < tl.length := by omega
          have hEw := (nothing17 M6.out (fun k _ => by simp)).toExt
          have HEW := Lib.hid (show Ext w w6 from HE0.out.trans hEw)
          clear hEw
          obtain ⟨bq, oq, hAq, hq, hcq⟩ := ints_at (HZ.out.ext HEW.out) hlt
          have z0 := hcq k hlt
          have hzb := HQ.out k hlt
          have HSZ := Lib.hid (szOf_get zs k)
          obtain ⟨bb, ob, hAb, hbb, hcb⟩ := (HB.out.ext HEW.out).cases (by simp; omega)
          have b0 := hcb k (.bool (bl.getD k false)) (by simp [List.getD_eq_getElem?_getD, hkb])
          obtain ⟨bd, od, hAd, hbd, hcd⟩ := (HT.out.ext HEW.out).cases (by simp; omega)
          have d0' := hcd k (.bool (tl.getD k false)) (by simp [List.getD_eq_getElem?_getD, hkt])
          have sc0 := S6.out.blk.cell (i := 0) rfl
          have scl := S6.out.blk.lt
          simp only at sc0 scl hAb hAd hbb hbd b0 d0'
          subst hAq hAb hAd
          have HTB := Lib.hid (fun X => shade_table bt (w6.patch X))
          have HSET := Lib.hid (fun X => tab_set (GW.pt ⟨own6, w6⟩ X) 331 bt k 2 true (bl.getD k false) T (S6.out.tab.keep (Mod.pt (Mod.refl (fun _ => False) _) X) id))
          generalize hbv : bl.getD k false = bv at *
          generalize htv : tl.getD k false = tv at *
          have HBV := Lib.hid (And.intro hbv htv)
          clear hcq hcb hcd hbv htv
          go_wp2_with fail
          refine wp_region_mixed [true, true, true, true, true, true, true, true, true, true, false] 1 10 (by kernel_rfl) (by kernel_rfl) (by kernel_rfl) ?_ (by decide) (by decide) (by decide) (by kernel_rfl) ?_
          · intro c a d v w h; cases d <;> exact h
          intro X00
          simp only [pickOps]
          repeat (go_big_quiet_step (exact Calls.added (HTB.out _)))
          refine wpQuiet_nil (fun X0 => ?_)
          clear X00
          refine wpAnyM_tailL rfl (by kernel_rfl) (fun X2 => ?_)
          simp only [List.drop_succ_cons, List.drop_zero]
          go_wp2_with fail
          refine (HSET.out _).mono ?_
          rintro e w7 ⟨rfl, own7, m7, t7⟩
          obtain ⟨XX, hXX⟩ : ∃ XX : Extra, XX = ⟨X0.blocks ++ X2.blocks, X2.drawn⟩ := ⟨_, rfl⟩
          rw [← hXX] at m7
          have mp : Mod (fun _ => False) ⟨own6, w6⟩ (GW.pt ⟨own6, w6⟩ XX) := Mod.pt (Mod.refl _ _) XX
          have M7 := Lib.hid (M6.out.trans ((mp.mono (fun _ => False.elim)).trans (m7.mono (S := fun x => x ≠ 0) (fun x hx => by omega))))
          have R7 := Lib.hid ((R6.out.keep mp id).keep m7 (by decide))
          have S7 := Lib.hid (show ShAt ⟨own7, w7⟩ 330 bs bt 331 bp (T.set k 2 true bv) 0 from ⟨(S6.out.blk.keep mp id).keep m7 (by decide), t7⟩)
          have K7 := Lib.hid ((K6.out.keep mp id).keep m7 (by decide))
          have hE67 : ∀ {q : Nat}, q < w6.heap.size → w6.heap.size ≤ w7.heap.size := fun _ => Nat.le_trans mp.size m7.size
          have HE7 := Lib.hid ((nothing17 M7.out (fun k _ => by simp)).toExt)
          have HEW7 := Lib.hid (show Ext w w7 from HE0.out.trans HE7.out)
          clear m7 t7 mp hXX M6 R6 S6 K6 HSET HTB sc0 scl z0 hq b0 hbb d0' hbd hE67
          have hA1 := atO_in (sz := szOf zs) (q := k) (by omega)
          have hAn : atO (szOf zs) (szOf zs).length = n := by rw [hlz, HN.out]
          have HAT1 := Lib.hid (show atO (szOf zs) (k + 1) = atO (szOf zs) k + ((szOf zs).getD k 0 + 2) from rfl)
          rw [hAn] at hA1
          have hzy := HSZ.out
          have hkn : k < (szOf zs).length := by omega
          have hkF : ((szOf zs).length : Int) ≤ F := by omega
          clear hAn
          generalize hy : zs.getD k 0 = y at *
          have hy2 : ((szOf zs).getD k 0 : Int) = y := by omega
          generalize hsy : (szOf zs).getD k 0 = sy at *
          have HSY := Lib.hid hsy
          generalize hak : atO (szOf zs) k = ak at *
          have HYV := Lib.hid hy
          have HAK := Lib.hid hak
          clear hy hak hsy hzy
          have e2 := IntWalk.i64_in (8 * (F : Int) + ak) (by omega)
          have e3 := IntWalk.i64_in (8 * (F : Int) + ak + 1) (by omega)
          have HRF := Lib.hid (fun w' => rref_any k w' (by omega) (by omega))
          have HWY := Lib.hid (fun w' => rwhole_any y w' (by omega) (by omega))
          have HWA := Lib.hid (fun w' => rwhole_any (8 * F + ak) w' (by omega) (by omega))
          have HWM := Lib.hid (fun w' => rwhole_any (-1) w' (by decide) (by decide))
          have hcc := C6.out
          have LA := Lib.hid (L6.out.high hkn hkF (a := 8 * (F : Int) + ak) (by rw [HAK.out]; omega) (floatOfInt .f64 ((k : Int) + 1), 4607182418800017408))
          have LB := Lib.hid (LA.out.high hkn hkF (a := 8 * (F : Int) + ak + 1) (by rw [HAK.out]; omega) (floatOfInt .f64 y, 0))
          have PA := Lib.hid (SPart.put (F := F) (sz := szOf zs) (k := k) (x := 0) (a := 8 * (F : Int) + ak) (v := (floatOfInt .f64 ((k : Int) + 1), 4607182418800017408)) (m := m) (fun y hy => absurd hy (Nat.not_lt_zero _)) (by rw [HAK.out]; omega) rfl (L6.out.len _ (by omega) (by omega)))
          have PB := Lib.hid (PA.out.put (a := 8 * (F : Int) + ak + 1) (v := (floatOfInt .f64 y, 0)) (by rw [HAK.out]; omega) (by
            have e : vO (szOf zs) wF k (0 + 1) = wD (((szOf zs).getD k 0 : Nat) : Int) := rfl
            rw [e, HSY.out, hy2]; rfl) (LA.out.len _ (by omega) (by omega)))
          as_aux_lemma =>
            go_wp2_with fail
            have B7 := Lib.hid (show B17 w0 bm bs bt bp bk (T.set k 2 true bv) ⟨n, 0, 0, 0, 0⟩ own7 w7 m from ⟨M7.out, R7.out, S7.out, K7.out⟩)
            have HZC := Lib.hid (fun w' (he : Ext w w') => show bq < w'.heap.size ∧ w'.cell? ⟨bq, oq + k, none⟩ = some (.int .i64 y) from by
              obtain ⟨b3, o3, e3, h3, hc3⟩ := ints_at (HZ.out.ext he) hlt
              simp only [Option.some.injEq, Addr.mk.injEq, and_true] at e3
              obtain ⟨rfl, rfl⟩ := e3
              have h4 := hc3 k hlt
              rw [HYV.out] at h4
              exact ⟨h3, h4⟩)
            have HTC := Lib.hid (fun w' (he : Ext w w') => show bd < w'.heap.size ∧ w'.cell? ⟨bd, od + k, none⟩ = some (.bool tv) from by
              obtain ⟨b3, o3, e3, h3, hc3⟩ := (HT.out.ext he).cases (by simp; omega)
              simp only [Option.some.injEq, Addr.mk.injEq, and_true] at e3
              obtain ⟨rfl, rfl⟩ := e3
              exact ⟨h3, hc3 k (.bool tv) (by rw [← HBV.out.2]; simp [List.getD_eq_getElem?_getD, hkt])⟩)
            clear M7 R7 S7 K7 L6 LA PA
            refine (HRF.out _).mono ?_
            rintro e wa ⟨rfl, hE⟩
            have BA := Lib.hid (B7.out.ext (show Ext w7 wa from hE))
            clear hE
            go_wp2_with fail
            obtain ⟨ev, hwv⟩ := mem_write_v ⟨_, wa⟩ 300 bm (8 * F + ak) (floatOfInt .f64 ((k : Int) + 1)) 4607182418800017408 m BA.out.2.1 (by omega)
            have HWV := Lib.hid hwv
            clear hwv
            refine HWV.out.mono ?_
            rintro e wb ⟨rfl, ownb, mb, rb⟩
            have BB := Lib.hid (BA.out.wr mb rb)
            clear mb rb B7 BA
            have HEWb := Lib.hid (show Ext w wb from HE0.out.trans BB.out.old)
            have z0 := (HZC.out _ HEWb.out).2
            have hq := (HZC.out _ HEWb.out).1
            have HC1 := Lib.hid (show 0 ≤ (m.tick.lay (8 * F + ak) (floatOfInt .f64 ((k : Int) + 1), 4607182418800017408)).count ∧ (m.tick.lay (8 * F + ak) (floatOfInt .f64 ((k : Int) + 1), 4607182418800017408)).count ≤ 70 * k + 1 from by
              rw [lay_count]
              show 0 ≤ m.count + 1 ∧ m.count + 1 ≤ 70 * (k : Int) + 1
              omega)
            clear HWV
            go_wp2_with fail
            refine (HWY.out _).mono ?_
            rintro e wc ⟨rfl, hE⟩
            have BC := Lib.hid (BB.out.ext (show Ext wb wc from hE))
            clear hE
            go_wp2_with fail
            obtain ⟨ev2, hwv⟩ := mem_write_v ⟨_, wc⟩ 300 bm (8 * F + ak + 1) (floatOfInt .f64 y) 0 _ BC.out.2.1 (by have := HC1.out; omega)
            have HWV := Lib.hid hwv
            clear hwv
            refine HWV.out.mono ?_
            rintro e wd ⟨rfl, ownd, md, rd⟩
            have BD := Lib.hid (BC.out.wr md rd)
            clear md rd BB BC HWV z0 hq
            have HC2 := Lib.hid (show 0 ≤ ((m.tick.lay (8 * F + ak) (floatOfInt .f64 ((k : Int) + 1), 4607182418800017408)).tick.lay (8 * F + ak + 1) (floatOfInt .f64 y, 0)).count ∧ ((m.tick.lay (8 * F + ak) (floatOfInt .f64 ((k : Int) + 1), 4607182418800017408)).tick.lay (8 * F + ak + 1) (floatOfInt .f64 y, 0)).count ≤ 70 * k + 2 from by
              have := HC1.out
              rw [lay_count]
              show 0 ≤ MemS.count _ + 1 ∧ MemS.count _ + 1 ≤ 70 * (k : Int) + 2
              omega)
            clear HC1
            generalize (m.tick.lay (8 * F + ak) (floatOfInt .f64 ((k : Int) + 1), 4607182418800017408)).tick.lay (8 * F + ak + 1) (floatOfInt .f64 y, 0) = m2 at *
            have HATI := Lib.hid (show ((atO (szOf zs) (k + 1) : Nat) : Int) = ak + (2 + y) from by rw [HAT1.out]; omega)
            have HTB2 := Lib.hid (tab17 T6.out (show k < F by omega) HBV.out.1)
            clear HAT1 hcc
            go_wp2_with fail
            go_loopw [19] (fun j wr => ∃ (jn : Nat) (own : Nat → Nat) (m' : MemS), jn ≤ sy ∧ j = .int .i64 jn ∧ Hid (B17 w0 bm bs bt bp bk (T.set k 2 true bv) ⟨n, 0, 0, 0, 0⟩ own wr m') ∧ Hid (SLaid2 F n (szOf zs) tl k m') ∧ Hid (SPart F (szOf zs) k (jn + 2) m') ∧ Hid (0 ≤ m'.count ∧ m'.count ≤ 70 * k + 2 + jn)) (fun j _ => sy - (intOf j).toNat)
            case atStart => exact ⟨0, ownd, m2, Nat.zero_le _, rfl, BD, LB, PB, Lib.hid (by have := HC2.out; omega)⟩
            case round =>
              clear BD LB PB HC2
              obtain ⟨jn, owne, m3, hj, rfl, BE, LE, PE, HCE⟩ := hrel
              obtain ⟨we, rfl⟩ : ∃ we : World, we = wr := ⟨_, rfl⟩
              have HEWe := Lib.hid (show Ext w we from HE0.out.trans BE.out.old)
              have z0 := (HZC.out _ HEWe.out).2
              have hq := (HZC.out _ HEWe.out).1
              by_cases hlj : jn < sy
              · have q3 : decide ((jn : Int) < y) = true := decide_eq_true (by omega)
                as_aux_lemma =>
                  go_wp2_with fail
                  refine (rref_any (100 * (k : Int) + jn) we (by omega) (by omega)).mono ?_
                  rintro e wf ⟨rfl, hE⟩
                  have BF := Lib.hid (BE.out.ext (show Ext we wf from hE))
                  clear hE
                  go_wp2_with fail
                  obtain ⟨ev3, hwv⟩ := mem_write_v ⟨_, wf⟩ 300 bm (8 * (F : Int) + ak + 2 + jn) (floatOfInt .f64 (100 * (k : Int) + jn + 1)) 4607182418800017408 _ BF.out.2.1 (by have := HCE.out; omega)
                  have HWV := Lib.hid hwv
                  clear hwv
                  refine HWV.out.mono ?_
                  rintro e wg ⟨rfl, owng, mg, rg⟩
                  have BG := Lib.hid (BF.out.wr mg rg)
                  have LG := Lib.hid (LE.out.high hkn hkF (a := 8 * (F : Int) + ak + 2 + jn) (by rw [HAK.out]; omega) (floatOfInt .f64 (100 * (k : Int) + jn + 1), 4607182418800017408))
                  have PG := Lib.hid (PE.out.put (a := 8 * (F : Int) + ak + 2 + jn) (v := (floatOfInt .f64 (100 * (k : Int) + jn + 1), 4607182418800017408)) (by rw [HAK.out]; omega) (vO_slot (szOf zs) wF k jn).symm (LE.out.len _ (by omega) (by omega)))
                  have HCG := Lib.hid (show 0 ≤ (m3.tick.lay (8 * (F : Int) + ak + 2 + jn) (floatOfInt .f64 (100 * (k : Int) + jn + 1), 4607182418800017408)).count ∧ (m3.tick.lay (8 * (F : Int) + ak + 2 + jn) (floatOfInt .f64 (100 * (k : Int) + jn + 1), 4607182418800017408)).count ≤ 70 * k + 2 + (jn + 1 : Nat) from by
                    have := HCE.out
                    rw [lay_count]
                    show 0 ≤ MemS.count _ + 1 ∧ MemS.count _ + 1 ≤ 70 * (k : Int) + 2 + (jn + 1 : Nat)
                    omega)
                  clear mg rg HWV BE BF LE PE HCE
                  go_wp2_with fail
                  go_roundw
                  case rel => exact ⟨jn + 1, owng, _, by omega, by go_num, BG, LG, PG, HCG⟩
                  case measure => simp [intOf]; omega
              · obtain rfl : jn = sy := by omega
                have q3 : decide ((jn : Int) < y) = false := decide_eq_false (by omega)
                as_aux_lemma =>
                  go_wp2_with fail
                  refine (HWM.out _).mono ?_
                  rintro e wf ⟨rfl, hE⟩
                  have BF := Lib.hid (BE.out.ext (show Ext we wf from hE))
                  clear hE
                  go_wp2_with fail
                  obtain ⟨ev3, hwv⟩ := mem_write_v ⟨_, wf⟩ 300 bm (8 * (k : Int) + 4) (floatOfInt .f64 (-1)) 0 _ BF.out.2.1 (by have := HCE.out; omega)
                  have HWV := Lib.hid hwv
                  clear hwv
                  refine HWV.out.mono ?_
                  rintro e wg ⟨rfl, owng, mg, rg⟩
                  have BG := Lib.hid (BF.out.wr mg rg)
                  have e84 : 8 * (k : Int) + 4 = (k : Int) * 8 + 4 := by omega
                  have LG := Lib.hid (show SLaid2 F n (szOf zs) tl k (m3.tick.lay (8 * (k : Int) + 4) (floatOfInt .f64 (-1), 0)) from by rw [e84]; exact LE.out.low hkn hkF _)
                  have PG := Lib.hid (show SPart F (szOf zs) k (jn + 2) (m3.tick.lay (8 * (k : Int) + 4) (floatOfInt .f64 (-1), 0)) from by rw [e84]; exact PE.out.low (by omega) _)
                  have VG := Lib.hid (show (m3.tick.lay (8 * (k : Int) + 4) (floatOfInt .f64 (-1), 0)).peek ((k : Int) * 8 + 4) = wD (-1) from by rw [e84]; exact peek_lay_self (LE.out.len _ (by omega) (by omega)))
                  have HCG := Lib.hid (show 0 ≤ (m3.tick.lay (8 * (k : Int) + 4) (floatOfInt .f64 (-1), 0)).count ∧ (m3.tick.lay (8 * (k : Int) + 4) (floatOfInt .f64 (-1), 0)).count ≤ 70 * k + 3 + jn from by
                    have := HCE.out
                    rw [lay_count]
                    show 0 ≤ MemS.count _ + 1 ∧ MemS.count _ + 1 ≤ 70 * (k : Int) + 3 + jn
                    omega)
                  clear mg rg HWV BE BF LE PE HCE z0 hq e84
                  generalize m3.tick.lay (8 * (k : Int) + 4) (floatOfInt .f64 (-1), 0) = m4 at *
                  have HEWg := Lib.hid (show Ext w wg from HE0.out.trans BG.out.old)
                  have z0 := (HZC.out _ HEWg.out).2
                  have hq := (HZC.out _ HEWg.out).1
                  have d0' := (HTC.out _ HEWg.out).2
                  have hbd := (HTC.out _ HEWg.out).1
                  cases tv
                  · have LH := Lib.hid (LG.out.done (by rw [HSY.out]; exact PG.out) (by rw [VG.out, HBV.out.2]; rfl))
                    clear LG PG VG
                    go_wp2_with fail
                    go_roundw
                    case rel => exact ⟨k + 1, owng, m4, _, by omega, by go_num, by rw [HATI.out], Lib.hid BG.out.1, Lib.hid BG.out.2.1, LH, Lib.hid (by have := HCG.out; omega), Lib.hid BG.out.2.2.1, HTB2, Lib.hid BG.out.2.2.2⟩
                    case measure => simp [intOf]; omega
                  · clear VG
                    go_wp2_with fail
                    refine (HWA.out _).mono ?_
                    rintro e wh ⟨rfl, hE⟩
                    have BH := Lib.hid (BG.out.ext (show Ext wg wh from hE))
                    clear hE
                    go_wp2_with fail
                    obtain ⟨ev4, hwv⟩ := mem_write_v ⟨_, wh⟩ 300 bm (8 * (k : Int) + 4) (floatOfInt .f64 (8 * (F : Int) + ak)) 0 _ BH.out.2.1 (by have := HCG.out; omega)
                    have HWV := Lib.hid hwv
                    clear hwv
                    refine HWV.out.mono ?_
                    rintro e wi ⟨rfl, owni, mi, ri⟩
                    have BI := Lib.hid (BH.out.wr mi ri)
                    have e84 : 8 * (k : Int) + 4 = (k : Int) * 8 + 4 := by omega
                    have LH := Lib.hid (show SLaid2 F n (szOf zs) tl (k + 1) (m4.tick.lay (8 * (k : Int) + 4) (floatOfInt .f64 (8 * (F : Int) + ak), 0)) from by
                      rw [e84]
                      refine (LG.out.low hkn hkF _).done (by rw [HSY.out]; exact PG.out.low (by omega) _) ?_
                      refine (peek_lay_self (m := m4.tick) (LG.out.len _ (by omega) (by omega))).trans ?_
                      rw [HBV.out.2, if_pos rfl, HAK.out, show (8 * (F : Int) + ak) = (ak : Int) + F * 8 by omega]
                      rfl)
                    have HCI := Lib.hid (show 0 ≤ (m4.tick.lay (8 * (k : Int) + 4) (floatOfInt .f64 (8 * (F : Int) + ak), 0)).count ∧ (m4.tick.lay (8 * (k : Int) + 4) (floatOfInt .f64 (8 * (F : Int) + ak), 0)).count ≤ 70 * k + 4 + jn from by
                      have := HCG.out
                      rw [lay_count]
                      show 0 ≤ MemS.count _ + 1 ∧ MemS.count _ + 1 ≤ 70 * (k : Int) + 4 + jn
                      omega)
                    clear mi ri HWV BG BH LG PG HCG z0 hq d0' hbd e84
                    have HEWi := Lib.hid (show Ext w wi from HE0.out.trans BI.out.old)
                    have z0 := (HZC.out _ HEWi.out).2
                    have hq := (HZC.out _ HEWi.out).1
                    go_wp2_with fail
                    go_roundw
                    case rel => exact ⟨k + 1, owni, _, _, by omega, by go_num, by rw [HATI.out], Lib.hid BI.out.1, Lib.hid BI.out.2.1, LH, Lib.hid (by have := HCI.out; omega), Lib.hid BI.out.2.2.1, HTB2, Lib.hid BI.out.2.2.2⟩
                    case measure => simp [intOf]; omega
        · obtain rfl : k = zs.length := by omega
          as_aux_lemma =>
            obtain ⟨zb, hz1⟩ : ∃ zb : Bool, decide ((0 : Int) < n) = zb := ⟨_, rfl⟩
            have hz2 : decide (0 < n) = zb := by rw [← hz1]; exact decide_eq_decide.2 (by omega)
            have HZB := Lib.hid hz1
            go_upto_if 211 with fail
            clear hz1 hz2
            go_cut [] (fun wx => ∃ own', Hid (Mod (fun x => x ≠ 0) ⟨fun _ => 0, w0⟩ ⟨own', wx⟩) ∧ Hid (MemAt ⟨own', wx⟩ 300 bm m) ∧ Hid (ShAt ⟨own', wx⟩ 330 bs bt 331 bp T 0) ∧ Hid (CoilAt ⟨own', wx⟩ 340 bk ⟨n, 0, n, 0, 0⟩))
            case first =>
              cases zb
              · have hn0 : n = 0 := by have := of_decide_eq_false HZB.out; omega
                have K7 := Lib.hid (show CoilAt ⟨own6, w6⟩ 340 bk ⟨n, 0, n, 0, 0⟩ from by have := K6.out; rw [hn0] at this ⊢; exact this)
                clear hn0
                go_wp2_with fail
                go_meet
                exact ⟨own6, M6, R6, S6, K7⟩
              · have hn0 : 0 < n := by have := of_decide_eq_true HZB.out; omega
                go_wp2_with fail
                refine (coil_take ⟨own6, w6⟩ 340 bk n ⟨n, 0, 0, 0, 0⟩ K6.out (by omega)).mono ?_
                rintro e w7 ⟨rfl, own7, m7, k7⟩
                have M7 := Lib.hid (M6.out.trans (m7.mono (S := fun x => x ≠ 0) (fun x hx => by omega)))
                have R7 := Lib.hid (R6.out.keep m7 (by decide))
                have S7 := Lib.hid (S6.out.keep m7 (by decide) (by decide))
                have K7 := Lib.hid (show CoilAt ⟨own7, w7⟩ 340 bk ⟨n, 0, n, 0, 0⟩ from by
                  have e : (⟨(n : Int), 0, 0, 0, 0⟩ : CoilS).take n = ⟨n, 0, n, 0, 0⟩ := by
                    unfold CoilS.take
                    rw [if_pos (show CoilS.takeable ⟨(n : Int), 0, 0, 0, 0⟩ n = true from by unfold CoilS.takeable CoilS.room CoilS.used; simp; omega)]
                    unfold CoilS.lays
                    simp
                  rw [← e]; exact k7)
                clear m7 k7 M6 R6 S6 K6
                go_wp2_with fail
                go_meet
                exact ⟨own7, M7, R7, S7, K7⟩
            case rest =>
            as_aux_lemma =>
              clear M6 R6 S6 K6
              obtain ⟨own7, M7, R7, S7, K7⟩ := hcut
              go_wp2_with fail
              refine (coil_turn ⟨own7, wc⟩ 340 bk ⟨n, 0, n, 0, 0⟩ K7.out).mono ?_
              rintro e w8 ⟨rfl, own8, m8, k8⟩
              have M8 := Lib.hid (M7.out.trans (m8.mono (S := fun x => x ≠ 0) (fun x hx => by omega)))
              have R8 := Lib.hid (R7.out.keep m8 (by decide))
              have S8 := Lib.hid (S7.out.keep m8 (by decide) (by decide))
              have K8 := Lib.hid (show CoilAt ⟨own8, w8⟩ 340 bk ⟨n, 1, n, 0, n⟩ from by
                have e : (⟨(n : Int), 0, n, 0, 0⟩ : CoilS).turn = ⟨n, 1, n, 0, n⟩ := by
                  unfold CoilS.turn
                  rw [if_pos (show CoilS.turnable ⟨(n : Int), 0, n, 0, 0⟩ = true from by unfold CoilS.turnable CoilS.used; simp)]
                  rfl
                rw [← e]; exact k8)
              clear m8 k8 M7 R7 S7 K7
              have HE8 := Lib.hid (show Ext w0 w8 from (nothing17 M8.out (fun k _ => by simp)).toExt)
              have HB8 := Lib.hid (show Blk ⟨fun _ => 0, w8⟩ 0 (w1.heap.size + 1) 24 [.int .i64 F, .int .i64 n, .int .i64 0, .int .i64 1, .int .i64 1, .int .i64 0, .int .i64 1, .int .i64 0, .slice (some ⟨w1.heap.size, 0, none⟩) 1 1] from ⟨by
                have h1 := HBK0.out
                exact (HE8.out.heap _ h1.lt).trans h1.row, rfl⟩)
              have g0 := HB8.out.cell (i := 0) rfl
              have g1 := HB8.out.cell (i := 1) rfl
              have g2 := HB8.out.cell (i := 2) rfl
              have g3 := HB8.out.cell (i := 3) rfl
              have g4 := HB8.out.cell (i := 4) rfl
              have g5 := HB8.out.cell (i := 5) rfl
              have g6 := HB8.out.cell (i := 6) rfl
              have g7 := HB8.out.cell (i := 7) rfl
              have g8 := HB8.out.cell (i := 8) rfl
              have gl := HB8.out.lt
              simp only at g0 g1 g2 g3 g4 g5 g6 g7 g8 gl
              have HNW := Lib.hid (haul_new (c17 F n w1.heap.size) 0 n true 320 ⟨own8, w8⟩ (HOK.out.ext HE8.out) (by simp [c17]))
              unfold Cnf.val c17 at HNW
              go_wp2_with fail
              refine HNW.out.mono ?_
              rintro e w9 ⟨own9, b, cm, rfl, m9, h9, hs9⟩
              have M9 := Lib.hid (M8.out.trans (m9.mono (fun _ => False.elim)))
              have W9 := Lib.hid (show HW ⟨own9, w9⟩ b bm bs bt bp bk (HaulS.fresh cm 0 n true) m T 0 (cW 0 n 0 n) from ⟨h9, R8.out.keep m9 id, S8.out.keep m9 id id, K8.out.keep m9 id⟩)
              have HCT := Lib.hid (show HCtx cm 0 (szOf zs) bl tl T from ⟨by decide, (same_check17 hs9).trans HCK.out, by rw [hlz, HN.out]; exact hs9.spine, by rw [hlz, HN.out]; omega, by rw [hlz, show cm.frags = F from hs9.frags]; omega, by omega, fun q => by
                rw [szOf_get]
                by_cases hq : q < zs.length
                · have := HQ.out q hq; omega
                · rw [List.getD_eq_getElem?_getD, List.getElem?_eq_none (by omega)]; decide, fun q hq => T6.out.2 q (by omega)⟩)
              have HCF := Lib.hid (show cm.frags = F from hs9.frags)
              have HCS := Lib.hid (show cm.spine = n from hs9.spine)
              have HLM := Lib.hid (SLaid2.mem (show SLaid2 F n (szOf zs) tl (szOf zs).length m from by rw [hlz]; exact L6.out) (cm := cm) (bl := bl) HCF.out HCS.out (by omega) (by rw [hlz, HN.out]) (by omega))
              have HJ0 := Lib.hid (show ∃ S0, RJ cm 0 (szOf zs) bl tl wF (oF cm 0 (szOf zs) tl) 0 S0 m (cW 0 n 0 n) ∧ S0 = HaulS.fresh cm 0 n true from ⟨_, rj_start HLM.out (by rw [hlz, HN.out]), rfl⟩)
              obtain ⟨S0, hJ0, hS0⟩ := HJ0.out
              rw [← hS0] at W9
              have J0 := Lib.hid hJ0
              have HTL := Lib.hid (show totO (szOf zs) bl tl (szOf zs).length ≤ 4 * zs.length + 2 * n from by
                have := totO_bound (szOf zs) bl tl (szOf zs).length
                rw [hlz] at this ⊢
                rw [HN.out] at this
                exact this)
              have HLZ := Lib.hid hlz
              have HCM := Lib.hid C6.out
              clear hJ0 hS0 HJ0 h9 hs9 m9 HLM hlz g0 g1 g2 g3 g4 g5 g6 g7 g8 gl R8 S8 K8 L6 T6
              go_wp2_with fail
              go_loopw [21] (fun i wr => ∃ (t : Nat) (own : Nat → Nat) (S : HaulS) (m' : MemS) (C : CoilS) (ns : Int), i = .int .i64 t ∧ Hid (RJ cm 0 (szOf zs) bl tl wF (oF cm 0 (szOf zs) tl) t S m' C) ∧ Hid (Mod (fun x => x ≠ 0) ⟨fun _ => 0, w0⟩ ⟨own, wr⟩) ∧ Hid (HW ⟨own, wr⟩ b bm bs bt bp bk S m' T ns C) ∧ Hid (0 ≤ ns ∧ ns ≤ t) ∧ Hid (0 ≤ m'.count ∧ m'.count ≤ m.count + t)) (fun i _ => 10000 - (intOf i).toNat)
              case atStart => exact ⟨0, own9, S0, m, _, 0, rfl, J0, M9, W9, Lib.hid ⟨Int.le_refl _, by decide⟩, Lib.hid ⟨HCM.out.1, by show m.count ≤ m.count + ((0 : Nat) : Int); omega⟩⟩
              case round =>
                clear J0 M9 W9
                obtain ⟨t, own10, S, m', C, ns, rfl, J, M, HWW, HNS, HMC⟩ := hrel
                obtain ⟨w10, rfl⟩ : ∃ w10 : World, w10 = wr := ⟨_, rfl⟩
                have hts := rj_steps J.out
                have htl := HTL.out
                have ht2 : decide ((t : Int) < 200 + 12 * zs.length + 3 * n) = true := decide_eq_true (by omega)
                have ht1 : t < 10000 := by omega
                clear hts htl
                rcases rj_at J.out with ⟨hpc, -⟩ | hpc
                · have hpb : (S.pc == 11) = false := beq_eq_false_iff_ne.2 hpc
                  obtain ⟨S', m2, C2, hJ, hc1, hc2, d, hd0, hd1, hcall⟩ := rj_next HCT.out J.out hpc
                  have HST := Lib.hid (hcall ⟨own10, w10⟩ b bm bs bt bp bk ns HWW.out (by have := HNS.out; omega) (by have := HMC.out; have := HCM.out; omega))
                  have J2 := Lib.hid hJ
                  have HB2 := Lib.hid (And.intro (And.intro hc1 hc2) (And.intro hd0 hd1))
                  have HRD := Lib.hid (show RdO (szOf zs) tl (8 * (F : Int)) m2 from by
                    have := rj_reads HCT.out hJ (by rw [HCF.out]; omega)
                    rw [HCF.out, show (F : Int) * 8 = 8 * F by omega] at this
                    exact this)
                  have HDN := Lib.hid (haul_done ⟨own10, w10⟩ 320 b S HWW.out.hl)
                  rw [hpb] at HDN
                  clear hJ hc1 hc2 hd0 hd1 hcall hpc hpb
                  as_aux_lemma =>
                    go_wp2_with fail
                    refine HDN.out.mono ?_
                    rintro e wv ⟨rfl, rfl⟩
                    go_wp2_with fail
                    refine HST.out.mono ?_
                    rintro e w11 ⟨rfl, own11, m11, h11⟩
                    have M11 := Lib.hid (M.out.trans (m11.mono (S := fun x => x ≠ 0) (fun x hx => by unfold hTs at hx; omega)))
                    have W11 := Lib.hid h11
                    have HEE := Lib.hid (show Ext w w11 from HE0.out.trans (nothing17 M11.out (fun k _ => by simp)).toExt)
                    clear m11 h11
                    go_wp2_with fail
                    refine (reads_any ⟨own11, w11⟩ bm m2 A cap zs B bl.length capb D capd tl (8 * F) W11.out.mm (HZ.out.ext HEE.out) (HT.out.ext HEE.out) (by omega) hbm (by omega) htm HRD.out HQ.out hk60 ⟨by omega, by omega⟩).mono ?_
                    rintro e w12 ⟨rfl, hE12⟩
                    have m12 := Mod.ext (T := fun _ => False) (g := ⟨own11, w11⟩) (show Ext w11 w12 from hE12) 0
                    have M12 := Lib.hid (M11.out.trans (m12.mono (S := fun x => x ≠ 0) (fun _ => False.elim)))
                    have W12 := Lib.hid (W11.out.keep m12 id id id id id id)
                    clear m12 hE12 M11 W11 HRD HEE
                    go_wp2_with fail
                    go_roundw
                    case rel => exact ⟨t + 1, _, S', m2, C2, ns + d, by go_num, J2, M12, W12, Lib.hid (by have h1 := HNS.out; have h2 := HB2.out; omega), Lib.hid (by have h1 := HMC.out; have h2 := HB2.out; omega)⟩
                    case measure => simp [intOf]; omega
                · have hpb : (S.pc == 11) = true := beq_iff_eq.2 hpc
                  obtain ⟨hC, hmo, he, hrv⟩ := rj_over HCT.out J.out (by rw [HCF.out]; omega) hpc HWW.out.mm.len
                  have HRV := Lib.hid (show RdV (szOf zs) bl tl (8 * (F : Int) + n) n m' from by
                    have e1 : spA cm (1 - 0) 0 = 8 * (F : Int) + n := by
                      rw [spA_lo, HCF.out, HCS.out]
                      simp; omega
                    rw [e1, HCS.out] at hrv
                    exact hrv)
                  rw [HLZ.out] at hC hmo
                  rw [HN.out] at hC
                  have HCC := Lib.hid (show CoilAt ⟨own10, w10⟩ 340 bk ⟨n, 1, n, (cpO (szOf zs) bl tl zs.length : Nat), 0⟩ from by have := HWW.out.co; rw [hC] at this; exact this)
                  have HDN := Lib.hid (fun (g : GW) (h : HaulAt g 320 b S) => haul_done g 320 b S h)
                  rw [hpb] at HDN
                  have HMV := Lib.hid (fun (g : GW) (h : HaulAt g 320 b S) => haul_moved g 320 b S h)
                  rw [hmo] at HMV
                  have HERR := Lib.hid (fun (g : GW) (h : HaulAt g 320 b S) => haul_errno g 320 b S h)
                  rw [he] at HERR
                  have HEE := Lib.hid (show Ext w w10 from HE0.out.trans (nothing17 M.out (fun k _ => by simp)).toExt)
                  have HKx := Lib.hid (fun w' (he : Ext w10 w') => show MemAt ((⟨own10, w10⟩ : GW).to 0 w') 300 bm m' from HWW.out.mm.keep (Mod.ext (T := fun _ => False) (g := ⟨own10, w10⟩) he 0) id)
                  clear hpc hpb hmo he hC hrv J
                  as_aux_lemma =>
                    go_wp2_with fail
                    refine (HDN.out ⟨own10, w10⟩ HWW.out.hl).mono ?_
                    rintro e wv ⟨rfl, rfl⟩
                    go_wp2_with fail
                    go_loopw [22, 23, 24] (fun mv wd i wr => ∃ k : Nat, k ≤ zs.length ∧ mv = .int .i64 (cntO bl tl k : Nat) ∧ wd = .int .i64 (cpO (szOf zs) bl tl k : Nat) ∧ i = .int .i64 k ∧ Hid (Ext w10 wr)) (fun _ _ i _ => zs.length - (intOf i).toNat)
                    case atStart => exact ⟨0, Nat.zero_le _, rfl, rfl, rfl, Lib.hid (Ext.refl _)⟩
                    case round =>
                      obtain ⟨k, hk, rfl, rfl, rfl, HEX⟩ := hrel
                      obtain ⟨w12, rfl⟩ : ∃ w12 : World, w12 = wr := ⟨_, rfl⟩
                      by_cases hlt : k < zs.length
                      · have hkb : k < bl.length := by omega
                        have hkt : k < tl.length := by omega
                        have hEw := HEE.out.trans HEX.out
                        obtain ⟨bq, oq, hAq, hq, hcq⟩ := ints_at (HZ.out.ext hEw) hlt
                        obtain ⟨bb, ob, hAb, hbb, hcb⟩ := (HB.out.ext hEw).cases (by simp; omega)
                        obtain ⟨bd, od, hAd, hbd, hcd⟩ := (HT.out.ext hEw).cases (by simp; omega)
                        subst hAq hAb hAd
                        have HZC := Lib.hid (fun w' (he : Ext w w') => show bq < w'.heap.size ∧ w'.cell? ⟨bq, oq + k, none⟩ = some (.int .i64 (zs.getD k 0)) from by
                          obtain ⟨b3, o3, e3, h3, hc3⟩ := ints_at (HZ.out.ext he) hlt
                          simp only [Option.some.injEq, Addr.mk.injEq, and_true] at e3
                          obtain ⟨rfl, rfl⟩ := e3
                          exact ⟨h3, hc3 k hlt⟩)
                        have HTC := Lib.hid (fun w' (he : Ext w w') => show bd < w'.heap.size ∧ w'.cell? ⟨bd, od + k, none⟩ = some (.bool (tl.getD k false)) from by
                          obtain ⟨b3, o3, e3, h3, hc3⟩ := (HT.out.ext he).cases (by simp; omega)
                          simp only [Option.some.injEq, Addr.mk.injEq, and_true] at e3
                          obtain ⟨rfl, rfl⟩ := e3
                          exact ⟨h3, hc3 k (.bool (tl.getD k false)) (by simp [List.getD_eq_getElem?_getD, hkt])⟩)
                        have HBC := Lib.hid (fun w' (he : Ext w w') => show bb < w'.heap.size ∧ w'.cell? ⟨bb, ob + k, none⟩ = some (.bool (bl.getD k false)) from by
                          obtain ⟨b3, o3, e3, h3, hc3⟩ := (HB.out.ext he).cases (by simp; omega)
                          simp only [Option.some.injEq, Addr.mk.injEq, and_true] at e3
                          obtain ⟨rfl, rfl⟩ := e3
                          exact ⟨h3, hc3 k (.bool (bl.getD k false)) (by simp [List.getD_eq_getElem?_getD, hkb])⟩)
                        clear hEw hcq hcb hcd hq hbb hbd
                        obtain ⟨a, hpk, ha0, ha1, hmvb⟩ := HRV.out k (by rw [HLZ.out]; exact hlt)
                        have HPK := Lib.hid (fun w' (he : Ext w10 w') => show Calls Try.prog 34 #[.pointer (some ⟨bm, 0, none⟩), .int .i64 (8 * (k : Int) + 4)] w' (fun e w'' => e = .returned (.complex .f64 (floatOfInt .f64 a) 0) ∧ w' = w'') from by
                          have h1 := mem_peek ((⟨own10, w10⟩ : GW).to 0 w') 300 bm (8 * (k : Int) + 4) m' (HKx.out w' he)
                          rw [show 8 * (k : Int) + 4 = (k : Int) * 8 + 4 by omega, hpk] at h1
                          rw [show 8 * (k : Int) + 4 = (k : Int) * 8 + 4 by omega]
                          exact h1)
                        have HMVB := Lib.hid hmvb
                        have hsk := HQ.out k hlt
                        have hy := szOf_get (zs := zs) k
                        have hcn := cntO_le bl tl k
                        have hcp := cpO_le (szOf zs) bl tl k
                        have ham := atO_mono (szOf zs) (show k ≤ zs.length from hk)
                        rw [HN.out] at ham
                        have HNO := Lib.hid (show mvO bl tl k = false → ((cntO bl tl (k + 1) : Nat) : Int) = (cntO bl tl k : Nat) ∧ ((cpO (szOf zs) bl tl (k + 1) : Nat) : Int) = (cpO (szOf zs) bl tl k : Nat) from fun h => by
                          rw [cntO, cpO, h]; exact ⟨rfl, rfl⟩)
                        have HYES := Lib.hid (show mvO bl tl k = true → ((cntO bl tl (k + 1) : Nat) : Int) = (cntO bl tl k : Nat) + 1 ∧ ((cpO (szOf zs) bl tl (k + 1) : Nat) : Int) = (cpO (szOf zs) bl tl k : Nat) + (2 + zs.getD k 0) from fun h => by
                          rw [cntO, cpO, if_pos h, if_pos h]; omega)
                        have HMVO := Lib.hid (show mvO bl tl k = (bl.getD k false && tl.getD k false) from rfl)
                        clear hmvb hpk hy
                        generalize zs.getD k 0 = y at *
                        generalize cntO bl tl k = cn at *
                        generalize cpO (szOf zs) bl tl k = cp at *
                        generalize mvO bl tl k = mvk at *
                        generalize bl.getD k false = bv at *
                        generalize tl.getD k false = tv at *
                        as_aux_lemma =>
                          go_wp2_with fail
                          refine (HPK.out _ HEX.out).mono ?_
                          rintro e wv ⟨rfl, rfl⟩
                          go_wp2_with fail
                          refine (rint_fits a ⟨by omega, by omega⟩ w12).mono ?_
                          rintro e w13 ⟨rfl, hE13⟩
                          have HE13 := Lib.hid (HEX.out.trans (show Ext w12 w13 from hE13))
                          have HEW := Lib.hid (HEE.out.trans HE13.out)
                          clear hE13 HEX
                          have z0 := (HZC.out _ HEW.out).2
                          have hq := (HZC.out _ HEW.out).1
                          have d0' := (HTC.out _ HEW.out).2
                          have hbd := (HTC.out _ HEW.out).1
                          have b0 := (HBC.out _ HEW.out).2
                          have hbb := (HBC.out _ HEW.out).1
                          cases bv
                          · have HN1 := Lib.hid (HNO.out HMVO.out)
                            clear HNO HYES HMVB HMVO
                            go_wp2_with fail
                            go_roundw
                            case rel => exact ⟨k + 1, by omega, by rw [HN1.out.1], by rw [HN1.out.2], by go_num, HE13⟩
                            case measure => simp [intOf]; omega
                          · cases tv
                            · have HN1 := Lib.hid (HNO.out HMVO.out)
                              clear HNO HYES HMVB HMVO
                              go_wp2_with fail
                              go_roundw
                              case rel => exact ⟨k + 1, by omega, by rw [HN1.out.1], by rw [HN1.out.2], by go_num, HE13⟩
                              case measure => simp [intOf]; omega
                            · have HN1 := Lib.hid (HYES.out HMVO.out)
                              have hr := HMVB.out HMVO.out
                              have q1 : decide (a < 8 * (F : Int) + n) = false := decide_eq_false (by omega)
                              have q2 : decide (8 * (F : Int) + 2 * n ≤ a) = false := decide_eq_false (by omega)
                              clear HNO HYES HMVB HMVO hr
                              go_wp2_with fail
                              go_roundw
                              case rel => exact ⟨k + 1, by omega, by rw [HN1.out.1], by rw [HN1.out.2], by go_num, HE13⟩
                              case measure => simp [intOf]; omega
                      · obtain rfl : k = zs.length := by omega
                        as_aux_lemma =>
                          have m12 := Mod.ext (T := fun _ => False) (g := ⟨own10, w10⟩) HEX.out 0
                          have H12 := Lib.hid (HWW.out.hl.keep m12 id id)
                          have C12 := Lib.hid (HCC.out.keep m12 id)
                          have HE12 := Lib.hid (HEE.out.trans HEX.out)
                          have M12 := Lib.hid (M.out.trans (m12.mono (S := fun x => x ≠ 0) (fun _ => False.elim)))
                          clear m12
                          obtain ⟨own12, H12, C12, M12⟩ : ∃ own12, Hid (HaulAt ⟨own12, w12⟩ 320 b S) ∧ Hid (CoilAt ⟨own12, w12⟩ 340 bk ⟨n, 1, n, (cpO (szOf zs) bl tl zs.length : Nat), 0⟩) ∧ Hid (Mod (fun x => x ≠ 0) ⟨fun _ => 0, w0⟩ ⟨own12, w12⟩) := ⟨_, H12, C12, M12⟩
                          generalize cpO (szOf zs) bl tl zs.length = cp at *
                          generalize cntO bl tl zs.length = cn at *
                          go_wp2_with fail
                          refine (H.out _).mono ?_
                          rintro e w14 ⟨rfl, hE⟩
                          have m14 := Mod.ext (T := fun _ => False) (g := ⟨own12, w12⟩) (show Ext w12 w14 from hE) 0
                          have HE14 := Lib.hid (HE12.out.trans (show Ext w12 w14 from hE))
                          obtain ⟨own14, H14, C14, M14⟩ : ∃ own14, Hid (HaulAt ⟨own14, w14⟩ 320 b S) ∧ Hid (CoilAt ⟨own14, w14⟩ 340 bk ⟨n, 1, n, (cp : Nat), 0⟩) ∧ Hid (Mod (fun x => x ≠ 0) ⟨fun _ => 0, w0⟩ ⟨own14, w14⟩) := ⟨_, Lib.hid (H12.out.keep m14 id id), Lib.hid (C12.out.keep m14 id), Lib.hid (M12.out.trans (m14.mono (fun _ => False.elim)))⟩
                          clear hE m14 H12 C12 M12 HE12
                          go_wp2_with fail
                          refine (HDN.out ⟨own14, w14⟩ H14.out).mono ?_
                          rintro e wv ⟨rfl, rfl⟩
                          go_wp2_with fail
                          refine (HERR.out ⟨own14, w14⟩ H14.out).mono ?_
                          rintro e wv ⟨rfl, rfl⟩
                          go_wp2_with fail
                          refine (HMV.out ⟨own14, w14⟩ H14.out).mono ?_
                          rintro e wv ⟨rfl, rfl⟩
                          go_wp2_with fail
                          refine (show Calls Try.prog 54 #[.pointer (some ⟨bk, 0, none⟩), .int .i64 1] w14 (fun e w' => e = .returned (.int .i64 (cp : Nat)) ∧ w14 = w') from coil_used ⟨own14, w14⟩ 340 bk 1 _ C14.out (by decide)).mono ?_
                          rintro e wv ⟨rfl, rfl⟩
                          go_wp2_with fail
                          refine (coil_left ⟨own14, w14⟩ 340 bk _ C14.out).mono ?_
                          rintro e wv ⟨rfl, rfl⟩
                          go_wp2_with fail
                          refine (coil_done ⟨own14, w14⟩ 340 bk _ C14.out (Int.le_refl _)).mono ?_
                          rintro e w15 ⟨rfl, own15, m15, -⟩
                          go_wp2_with fail
                          go_ret
                          exact Gives.bool rfl (HE0.out.trans (nothing17 (M14.out.trans (m15.mono (S := fun x => x ≠ 0) (fun x hx => by omega))) (fun k _ => by simp)).toExt)
end Go.Proofs.Ytmgkfpmmlibmcaa
