/-
  spolaw17.HaulBack.
-/
import Derived.Test.YtmgkfpmmlibmcaaHaulU
import Derived.Test.YtmgkfpmmlibmcaaReads
namespace Go
open Go.RowKit
/-- So many are set. -/
def allB (n k : Nat) : List Bool := List.replicate k true ++ List.replicate (n - k) false
theorem allB_len {n k : Nat} (h : k ≤ n) : (allB n k).length = n := by unfold allB; simp; omega
theorem allB_set {n k : Nat} (h : k < n) : (allB n k).set k true = allB n (k + 1) := by
  unfold allB
  apply List.ext_getElem?
  intro i
  rw [List.getElem?_set]
  simp only [List.length_append, List.length_replicate, List.getElem?_append, List.getElem?_replicate]
  (repeat' split) <;> first | rfl | (exfalso; omega)
theorem allB_zero (n : Nat) : allB n 0 = List.replicate n false := by unfold allB; simp
theorem allB_all (n : Nat) : allB n n = List.replicate n true := by unfold allB; simp
end Go
namespace Go.Proofs.Ytmgkfpmmlibmcaa
open Go Go.RowKit
set_option linter.unusedVariables false
set_option linter.unnecessarySimpa false
set_option linter.unusedSimpArgs false
/-- All that the rounds keep: the row of those that were told, too. -/
def B18 (w0 : World) (bm bs bt bp bk ba : Nat) (n k : Nat) (T : TabS) (C : CoilS) (own : Nat → Nat) (w : World) (m : MemS) : Prop :=
  B17 w0 bm bs bt bp bk T C own w m ∧ Blk ⟨own, w⟩ 9 ba 4 ((allB n k).map Value.bool)
theorem B18.ext {w0 : World} {bm bs bt bp bk ba n k : Nat} {T : TabS} {C : CoilS} {own : Nat → Nat} {w w' : World} {m : MemS} (h : B18 w0 bm bs bt bp bk ba n k T C own w m) (he : Ext w w') : B18 w0 bm bs bt bp bk ba n k T C ((⟨own, w⟩ : GW).to 0 w').own w' m :=
  ⟨h.1.ext he, h.2.keep (Mod.ext (T := fun _ => False) (g := ⟨own, w⟩) he 0) id⟩
theorem B18.wr {w0 : World} {bm bs bt bp bk ba n k : Nat} {T : TabS} {C : CoilS} {own own' : Nat → Nat} {w w' : World} {m m' : MemS} (h : B18 w0 bm bs bt bp bk ba n k T C own w m) (d : Mod (fun x => x = 300) ⟨own, w⟩ ⟨own', w'⟩) (r : MemAt ⟨own', w'⟩ 300 bm m') : B18 w0 bm bs bt bp bk ba n k T C own' w' m' :=
  ⟨h.1.wr d r, h.2.keep d (by decide)⟩
theorem B18.mem {w0 : World} {bm bs bt bp bk ba n k : Nat} {T : TabS} {C : CoilS} {own : Nat → Nat} {w : World} {m : MemS} (h : B18 w0 bm bs bt bp bk ba n k T C own w m) : MemAt ⟨own, w⟩ 300 bm m := h.1.2.1
theorem B18.old {w0 : World} {bm bs bt bp bk ba n k : Nat} {T : TabS} {C : CoilS} {own : Nat → Nat} {w : World} {m : MemS} (h : B18 w0 bm bs bt bp bk ba n k T C own w m) : Ext w0 w := h.1.old
/-- The coil ahead of a turn. -/
def preC (s : Nat) (n : Int) : CoilS := if s = 1 then ⟨n, 1, 0, n, 0⟩ else ⟨n, 0, n, 0, 0⟩
theorem preC_turn {s : Nat} (hs : s < 2) (n : Int) : (preC s n).turn = cW s n 0 n ∧ (preC s n).turnable = true := by
  rcases (show s = 0 ∨ s = 1 by omega) with rfl | rfl
  · have h : CoilS.turnable ⟨n, 0, n, 0, 0⟩ = true := by unfold CoilS.turnable CoilS.used; simp
    refine ⟨?_, h⟩
    show CoilS.turn ⟨n, 0, n, 0, 0⟩ = _
    unfold CoilS.turn
    rw [if_pos h]
    rfl
  · have h : CoilS.turnable ⟨n, 1, 0, n, 0⟩ = true := by unfold CoilS.turnable CoilS.used; simp
    refine ⟨?_, h⟩
    show CoilS.turn ⟨n, 1, 0, n, 0⟩ = _
    unfold CoilS.turn
    rw [if_pos h]
    rfl
theorem preC_done {s : Nat} (hs : s < 2) (n : Int) : (cW s n n 0).done = preC (s + 1) n := by
  rcases (show s = 0 ∨ s = 1 by omega) with rfl | rfl
  · rfl
  · rfl
theorem cW_kept (s : Nat) (n u k : Int) : (cW s n u k).kept = k := by unfold cW; split <;> rfl
theorem infoBoolH : (Try.prog.info? 4).map (fun i => (i.zero, i.size, i.bytes)) = some (some (.bool false), 1, 1) := by kernel_rfl
theorem made_metH {k : Nat} (hk : k ≤ 1048576) : ∀ w, (Instr.makeSlice 27 (.int .i64 (k : Int)) (.int .i64 (k : Int))).run Try.prog w = .ok (.slice (some ⟨w.heap.size, 0, none⟩) k k) (w.alloc (.cells (Array.replicate k (Value.bool false)) 4)) := by
  have hz := infoBoolH
  cases hi : Try.prog.info? 4 with
  | none => rw [hi] at hz; cases hz
  | some i0 =>
    rw [hi] at hz
    simp only [Option.map_some, Option.some.injEq, Prod.mk.injEq] at hz
    obtain ⟨hz0, hz1, hz2⟩ := hz
    intro w
    have hmk := run_made (P := Try.prog) 27 4 i0 _ 1 1 Try.underlying27 hi hz0 hz1 hz2 k (by omega) (by omega) w
    rw [hmk]
    rw [show (Value.bool false).cells = #[Value.bool false] from rfl, made_one, List.toArray_replicate]
theorem allB_new (g : GW) (n : Nat) : Blk (g.to 9 (g.w.alloc (.cells (Array.replicate n (Value.bool false)) 4))) 9 g.w.heap.size 4 ((allB n 0).map Value.bool) := by
  have h := Blk.new g 9 4 ((allB n 0).map Value.bool)
  rw [allB_zero, List.map_replicate] at h ⊢
  rw [List.toArray_replicate] at h
  exact h
set_option maxRecDepth 100000 in
set_option maxHeartbeats 4000000 in
theorem back_any (A : Option Addr) (cap : Nat) (zs : List Int) (w : World) (hz : CellsAt w A (zs.map (Value.int .i64))) (hzm : zs.length ≤ 9223372036854775807) (hw : ∀ x ∈ zs, -9223372036854775808 ≤ x ∧ x ≤ 9223372036854775807) :
    Calls Try.prog 6 #[.slice A zs.length cap] w (Gives (.bool true) w) := by
  have H := Lib.hid (fun w' => first17_any w')
  have HZ := Lib.hid hz
  have HWB := Lib.hid hw
  clear hz hw
  go_enter Try.func6, Try.ntmps6
  go_wp2_with fail
  refine (H.out _).mono ?_
  rintro e w1 ⟨rfl, hE⟩
  have HE1 := Lib.hid (show Ext w w1 from hE)
  clear hE
  go_wp2_with fail
  go_loopw [3, 5] (fun n i wr => ∃ k : Nat, k ≤ zs.length ∧ k ≤ 60 ∧ i = .int .i64 k ∧ n = .int .i64 (atO (szOf zs) k : Nat) ∧ w1 = wr ∧ Hid (atO (szOf zs) k ≤ 66 * k) ∧ Hid (∀ q, q < k → 0 ≤ zs.getD q 0 ∧ zs.getD q 0 ≤ 64)) (fun _ i _ => 60 - (intOf i).toNat)
  case atStart => exact ⟨0, Nat.zero_le _, by decide, rfl, rfl, rfl, Lib.hid (show atO (szOf zs) 0 ≤ 66 * 0 from Nat.le_refl _), Lib.hid (fun q hq => by omega)⟩
  case round =>
    obtain ⟨k, hk, hk60, rfl, rfl, rfl, HA, HQ⟩ := hrel
    by_cases hlt : k < zs.length ∧ k < 60
    · obtain ⟨hl1, hl2⟩ := hlt
      obtain ⟨bq, oq, rfl, hq, hcq⟩ := ints_at (HZ.out.ext HE1.out) hl1
      have z0 := hcq k hl1
      have hzb := HWB.out (zs.getD k 0) (by simp [List.getD, List.getElem?_eq_getElem hl1])
      have HSZ := Lib.hid (szOf_get zs k)
      have hA := HA.out
      generalize hy : zs.getD k 0 = y at *
      have HY := Lib.hid hy
      clear hcq hy
      by_cases hy0 : y < 0
      · have d1 : decide (y < 0) = true := decide_eq_true hy0
        go_wp2_with fail
        refine (H.out _).mono ?_
        rintro e w9 ⟨rfl, hE9⟩
        have HE9 := Lib.hid (HE1.out.trans (show Ext w1 w9 from hE9))
        clear hE9
        go_wp2_with fail
        go_ret
        exact Gives.bool rfl HE9.out
      have d1 : decide (y < 0) = false := decide_eq_false hy0
      by_cases hy1 : 64 < y
      · have d2 : decide (64 < y) = true := decide_eq_true hy1
        go_wp2_with fail
        refine (H.out _).mono ?_
        rintro e w9 ⟨rfl, hE9⟩
        have HE9 := Lib.hid (HE1.out.trans (show Ext w1 w9 from hE9))
        clear hE9
        go_wp2_with fail
        go_ret
        exact Gives.bool rfl HE9.out
      have d2 : decide (64 < y) = false := decide_eq_false hy1
      have hat : ((atO (szOf zs) (k + 1) : Nat) : Int) = (atO (szOf zs) k : Nat) + 2 + y := by
        rw [atO, HSZ.out]; omega
      have HAT := Lib.hid hat
      have hA1 : atO (szOf zs) (k + 1) ≤ 66 * (k + 1) := by omega
      have HA1 := Lib.hid hA1
      clear hat hA1
      generalize atO (szOf zs) k = a0 at *
      go_wp2_with fail
      go_roundw
      case rel => exact ⟨k + 1, by omega, by omega, by go_num, by rw [HAT.out], by first | rfl | trivial, HA1, Lib.hid (fun q hq => by
        by_cases hqk : q = k
        · subst hqk; rw [HY.out]; omega
        · exact HQ.out q (by omega))⟩
      case measure => simp [intOf]; omega
    · by_cases h60 : 60 < zs.length
      · obtain rfl : k = 60 := by omega
        have d0 : decide ((60 : Int) < zs.length) = true := decide_eq_true (by omega)
        have d00 : decide (((60 : Nat) : Int) < 60) = false := by decide
        as_aux_lemma =>
          go_wp2_with fail
          refine (H.out _).mono ?_
          rintro e w9 ⟨rfl, hE9⟩
          have HE9 := Lib.hid (HE1.out.trans (show Ext w1 w9 from hE9))
          clear hE9
          go_wp2_with fail
          go_ret
          exact Gives.bool rfl HE9.out
      obtain rfl : k = zs.length := by omega
      have d0 : decide ((60 : Int) < zs.length) = false := decide_eq_false (by omega)
      have d01 : decide ((zs.length : Int) < zs.length) = false := by simp
      generalize hn : atO (szOf zs) zs.length = n at *
      have HN := Lib.hid hn
      clear hn
      by_cases hn1 : 2000 < n
      · have d1 : decide ((2000 : Int) < n) = true := decide_eq_true (by omega)
        as_aux_lemma =>
          go_wp2_with fail
          refine (H.out _).mono ?_
          rintro e w9 ⟨rfl, hE9⟩
          have HE9 := Lib.hid (HE1.out.trans (show Ext w1 w9 from hE9))
          clear hE9
          go_wp2_with fail
          go_ret
          exact Gives.bool rfl HE9.out
      have d1 : decide ((2000 : Int) < n) = false := decide_eq_false (by omega)
      by_cases hn0 : n = 0
      · have d2 : ((n : Int) == 0) = true := by rw [hn0]; rfl
        have HN0 := Lib.hid hn0
        clear hn0
        as_aux_lemma =>
          go_wp2_with fail
          refine (H.out _).mono ?_
          rintro e w9 ⟨rfl, hE9⟩
          have HE9 := Lib.hid (HE1.out.trans (show Ext w1 w9 from hE9))
          clear hE9
          go_wp2_with fail
          go_ret
          exact Gives.bool rfl HE9.out
      have d2 : ((n : Int) == 0) = false := beq_eq_false_iff_ne.2 (by omega)
      obtain ⟨F, hF⟩ : ∃ F : Nat, maxF zs.length 4 = F := by
        unfold maxF
        split
        · exact ⟨4, rfl⟩
        · exact ⟨zs.length, rfl⟩
      have hF4 : 4 ≤ F ∧ zs.length ≤ F ∧ F ≤ 64 := by unfold maxF at hF; split at hF <;> omega
      go_wp2_with fail
      clear hF
      have HOK := Lib.hid (show (c17 F n w1.heap.size).Ok ((w1.alloc (.cells #[.bool false, .slice none 0 0] 29)).alloc (.cells #[.int .i64 F, .int .i64 n, .int .i64 0, .int .i64 1, .int .i64 1, .int .i64 0, .int .i64 1, .int .i64 0, .slice (some ⟨w1.heap.size, 0, none⟩) 1 1] 24)) from by
        refine ⟨(cellsAt_new _ _ _ _ rfl).alloc _, fun s hs => ?_, by simp [c17], by simp [c17]⟩
        simp only [c17, List.mem_cons, List.not_mem_nil, or_false] at hs
        subst hs
        exact ⟨CellsAt.nil _ _, by decide, by decide⟩)
      have HBK := Lib.hid (show Blk ⟨fun _ => 0, (w1.alloc (.cells #[.bool false, .slice none 0 0] 29)).alloc (.cells #[.int .i64 F, .int .i64 n, .int .i64 0, .int .i64 1, .int .i64 1, .int .i64 0, .int .i64 1, .int .i64 0, .slice (some ⟨w1.heap.size, 0, none⟩) 1 1] 24)⟩ 0 (w1.heap.size + 1) 24 [.int .i64 F, .int .i64 n, .int .i64 0, .int .i64 1, .int .i64 1, .int .i64 0, .int .i64 1, .int .i64 0, .slice (some ⟨w1.heap.size, 0, none⟩) 1 1] from ⟨by
        rw [show w1.heap.size + 1 = (w1.alloc (.cells #[.bool false, .slice none 0 0] 29)).heap.size from by rw [World.size_alloc]]
        exact World.row_alloc_new _, rfl⟩)
      have HE0 := Lib.hid (HE1.out.trans (show Ext w1 ((w1.alloc (.cells #[.bool false, .slice none 0 0] 29)).alloc (.cells #[.int .i64 F, .int .i64 n, .int .i64 0, .int .i64 1, .int .i64 1, .int .i64 0, .int .i64 1, .int .i64 0, .slice (some ⟨w1.heap.size, 0, none⟩) 1 1] 24)) by (repeat (first | (with_reducible assumption) | (with_reducible exact Ext.refl _) | (with_reducible exact Ext.more _ _ _ _) | apply Ext.alloc | refine Ext.setCell ?_ (by first | exact Nat.le_refl _ | exact Nat.le_add_right _ _ | assumption) _ | apply Ext.patch | apply Ext.drew | apply Ext.drewN))))
      generalize hw0 : (w1.alloc (.cells #[.bool false, .slice none 0 0] 29)).alloc (.cells #[.int .i64 F, .int .i64 n, .int .i64 0, .int .i64 1, .int .i64 1, .int .i64 0, .int .i64 1, .int .i64 0, .slice (some ⟨w1.heap.size, 0, none⟩) 1 1] 24) = w0 at *
      clear hw0
      have HCK := Lib.hid (show (c17 F n w1.heap.size).check = 0 from check17 (by omega) (by omega) (by omega))
      have HFL := Lib.hid (fill_nil (c17 F n w1.heap.size) 300 ⟨fun _ => 0, w0⟩ HOK.out)
      unfold Cnf.val c17 at HFL
      have g0 := HBK.out.cell (i := 0) rfl
      have g1 := HBK.out.cell (i := 1) rfl
      have g2 := HBK.out.cell (i := 2) rfl
      have g3 := HBK.out.cell (i := 3) rfl
      have g4 := HBK.out.cell (i := 4) rfl
      have g5 := HBK.out.cell (i := 5) rfl
      have g6 := HBK.out.cell (i := 6) rfl
      have g7 := HBK.out.cell (i := 7) rfl
      have g8 := HBK.out.cell (i := 8) rfl
      have gl := HBK.out.lt
      simp only at g0 g1 g2 g3 g4 g5 g6 g7 g8 gl
      refine HFL.out.mono ?_
      rintro e w2 ⟨own2, bm, rfl, m2, r2⟩
      have M2 := Lib.hid m2
      have R2 := Lib.hid r2
      have HB2 := Lib.hid (HBK.out.keep m2 id)
      clear m2 r2 HFL g0 g1 g2 g3 g4 g5 g6 g7 g8 gl
      have g0 := HB2.out.cell (i := 0) rfl
      have g1 := HB2.out.cell (i := 1) rfl
      have g2 := HB2.out.cell (i := 2) rfl
      have g3 := HB2.out.cell (i := 3) rfl
      have g4 := HB2.out.cell (i := 4) rfl
      have g5 := HB2.out.cell (i := 5) rfl
      have g6 := HB2.out.cell (i := 6) rfl
      have g7 := HB2.out.cell (i := 7) rfl
      have g8 := HB2.out.cell (i := 8) rfl
      have gl := HB2.out.lt
      simp only at g0 g1 g2 g3 g4 g5 g6 g7 g8 gl
      go_wp2_with fail
      refine (shade_new F 1 330 331 332 ⟨own2, w2⟩ (by omega) (by decide)).mono ?_
      rintro e w3 ⟨own3, bs, bt, bp, rfl, m3, s3, t3, p3⟩
      have M3 := Lib.hid (M2.out.trans m3)
      have R3 := Lib.hid (R2.out.keep m3 id)
      have HB3 := Lib.hid (HB2.out.keep m3 id)
      have S3 := Lib.hid (show ShAt ⟨own3, w3⟩ 330 bs bt 331 bp (TabS.fresh F) 0 from ⟨s3, t3⟩)
      clear m3 s3 t3 p3 g0 g1 g2 g3 g4 g5 g6 g7 g8 gl
      go_wp2_with fail
      refine (coil_new n 340 ⟨own3, w3⟩).mono ?_
      rintro e w4 hm
      unfold CoilMade at hm
      rw [if_pos (by omega)] at hm
      obtain ⟨own4, bk, rfl, m4, k4⟩ := hm
      have M4 := Lib.hid (M3.out.trans m4)
      have R4 := Lib.hid (R3.out.keep m4 id)
      have HB4 := Lib.hid (HB3.out.keep m4 id)
      have S4 := Lib.hid (S3.out.keep m4 id id)
      have K4 := Lib.hid k4
      have HBK0 := HBK
      clear m4 k4 M2 M3 R2 R3 HB2 HB3 S3 HBK
      have sc0 := S4.out.blk.cell (i := 0) rfl
      have sl := S4.out.blk.lt
      simp only at sc0 sl
      go_wp2_with fail
      refine (shade_table bt w4).mono ?_
      rintro e w5 ⟨rfl, hE⟩
      have m5 := Mod.ext (T := fun _ => False) (g := ⟨own4, w4⟩) (show Ext w4 w5 from hE) 0
      obtain ⟨own5, M5, R5, HB5, S5, K5⟩ : ∃ own5, Hid (Mod (fun _ => False) ⟨fun _ => 0, w0⟩ ⟨own5, w5⟩) ∧ Hid (MemAt ⟨own5, w5⟩ 300 bm ⟨List.replicate (cWords (c17 F n w1.heap.size)).toNat (0, 0), 0⟩) ∧ Hid (Blk ⟨own5, w5⟩ 0 (w1.heap.size + 1) 24 [.int .i64 F, .int .i64 n, .int .i64 0, .int .i64 1, .int .i64 1, .int .i64 0, .int .i64 1, .int .i64 0, .slice (some ⟨w1.heap.size, 0, none⟩) 1 1]) ∧ Hid (ShAt ⟨own5, w5⟩ 330 bs bt 331 bp (TabS.fresh F) 0) ∧ Hid (CoilAt ⟨own5, w5⟩ 340 bk ⟨n, 0, 0, 0, 0⟩) :=
        ⟨_, Lib.hid (M4.out.trans m5), Lib.hid (R4.out.keep m5 id), Lib.hid (HB4.out.keep m5 id), Lib.hid (S4.out.keep m5 id id), Lib.hid (K4.out.keep m5 id)⟩
      clear hE m5 M4 R4 HB4 S4 K4 sc0 sl
      have g0 := HB5.out.cell (i := 0) rfl
      have gl := HB5.out.lt
      simp only at g0 gl
      have e1 := IntWalk.i64_in (8 * (F : Int)) (by omega)
      go_wp2_with fail
      refine wp_region_mixed [true, true, true, true, true] 0 5 (by kernel_rfl) (by kernel_rfl) (by kernel_rfl) ?_ (by decide) (by decide) (by decide) (by kernel_rfl) ?_
      · intro c a d v w h; cases d <;> exact h
      intro X00
      simp only [pickOps]
      repeat (go_big_quiet_step (fail))
      refine wpQuiet_nil (fun X0 => ?_)
      clear X00
      refine wpAnyM_done (by kernel_rfl) (fun X0' => ?_) _
      obtain ⟨Y, hY⟩ := (show Ext w5 ((w5.patch X0).patch X0') from Ext.trans ⟨X0, rfl⟩ ⟨X0', rfl⟩)
      rw [hY]
      clear hY g0 gl
      have hlz : (szOf zs).length = zs.length := by unfold szOf; simp
      have hmk := made_metH (k := zs.length) (by omega)
      go_wp2_with fail
      clear hmk
      obtain ⟨ownA, HA0⟩ : ∃ ownA, Hid (B18 w0 bm bs bt bp bk (w5.patch Y).heap.size zs.length 0 (TabS.fresh F) ⟨n, 0, 0, 0, 0⟩ ownA ((w5.patch Y).alloc (.cells (Array.replicate zs.length (Value.bool false)) 4)) ⟨List.replicate (cWords (c17 F n w1.heap.size)).toNat (0, 0), 0⟩) := by
        have mp : Mod (fun _ => False) ⟨own5, w5⟩ (GW.pt ⟨own5, w5⟩ Y) := Mod.pt (Mod.refl _ _) Y
        have ma : Mod (fun _ => False) (GW.pt ⟨own5, w5⟩ Y) ((GW.pt ⟨own5, w5⟩ Y).to 9 ((w5.patch Y).alloc (.cells (Array.replicate zs.length (Value.bool false)) 4))) := Mod.ext (show Ext (w5.patch Y) _ by (repeat (first | (with_reducible assumption) | (with_reducible exact Ext.refl _) | (with_reducible exact Ext.more _ _ _ _) | apply Ext.alloc | refine Ext.setCell ?_ (by first | exact Nat.le_refl _ | exact Nat.le_add_right _ _ | assumption) _ | apply Ext.patch | apply Ext.drew | apply Ext.drewN))) 9
        have mm := mp.trans ma
        exact ⟨_, Lib.hid ⟨⟨(M5.out.trans mm).mono (fun _ => False.elim), R5.out.keep mm id, S5.out.keep mm id id, K5.out.keep mm id⟩, allB_new (GW.pt ⟨own5, w5⟩ Y) zs.length⟩⟩
      generalize (w5.patch Y).alloc (.cells (Array.replicate zs.length (Value.bool false)) 4) = wA at *
      generalize (w5.patch Y).heap.size = ba at *
      clear M5 R5 HB5 S5 K5
      obtain ⟨tl, htl⟩ : ∃ tl, List.replicate zs.length true = tl := ⟨_, rfl⟩
      have HTL := Lib.hid htl
      have HTG := Lib.hid (show ∀ q, q < zs.length → tl.getD q false = true from fun q hq => by rw [← htl]; exact all_true _ _ hq)
      clear htl
      go_loopw [12, 15] (fun a i wr => ∃ (k : Nat) (own : Nat → Nat) (m : MemS) (T : TabS), k ≤ zs.length ∧ i = .int .i64 k ∧ a = .int .i64 (atO (szOf zs) k : Nat) ∧ Hid (B18 w0 bm bs bt bp bk ba zs.length k T ⟨n, 0, 0, 0, 0⟩ own wr m) ∧ Hid (SLaid2 F n (szOf zs) tl k m) ∧ Hid (0 ≤ m.count ∧ m.count ≤ 70 * k) ∧ Hid (T.l.length = F ∧ ∀ q : Nat, q < k → (T.head q && T.black q true) = tl.getD q false)) (fun _ i _ => zs.length - (intOf i).toNat)
      case atStart =>
        exact ⟨0, ownA, _, _, Nat.zero_le _, rfl, rfl, HA0, Lib.hid (SLaid2.zero F n (szOf zs) tl (cWords (c17 F n w1.heap.size)).toNat 0 (by
          have : cWords (c17 F n w1.heap.size) = F * 8 + n + n := by unfold cWords; rw [if_pos HCK.out]; simp [c17]
          rw [this]; omega)), Lib.hid ⟨Int.le_refl _, by show (0 : Int) ≤ 70 * ((0 : Nat) : Int); decide⟩, Lib.hid ⟨by simp [TabS.fresh], fun q hq => by omega⟩⟩
      case round =>
        clear HA0
        obtain ⟨k, own6, m, T, hk, rfl, rfl, B6, L6, C6, T6⟩ := hrel
        obtain ⟨w6, rfl⟩ : ∃ w6 : World, w6 = wr := ⟨_, rfl⟩
        by_cases hlt : k < zs.length
        · have HEW := Lib.hid (show Ext w w6 from HE0.out.trans B6.out.old)
          obtain ⟨bq, oq, hAq, hq, hcq⟩ := ints_at (HZ.out.ext HEW.out) hlt
          have hzb := HQ.out k hlt
          have HSZ := Lib.hid (szOf_get zs k)
          subst hAq
          have a0 := B6.out.2.cell (i := k) (v := .bool false) (by
            rw [List.getElem?_map]
            unfold allB
            rw [List.getElem?_append_right (by simp), List.length_replicate, Nat.sub_self, List.getElem?_replicate, if_pos (by omega)]
            rfl)
          have a1 := B6.out.2.live k
          have a2 := B6.out.2.lt
          have sc0 := B6.out.1.2.2.1.blk.cell (i := 0) rfl
          have scl := B6.out.1.2.2.1.blk.lt
          have hne : ba ≠ bs := B6.out.2.ne B6.out.1.2.2.1.blk (by decide)
          have hne' : bs ≠ ba := fun e => hne e.symm
          simp only at a0 a1 a2 sc0 scl
          clear hcq hq
          as_aux_lemma =>
            go_wp2_with fail
            obtain ⟨B6b, hb6⟩ : ∃ w6b, w6b = w6.setCell ⟨ba, k, none⟩ (.bool true) := ⟨_, rfl⟩
            have BB0 := Lib.hid (show B18 w0 bm bs bt bp bk ba zs.length (k + 1) T ⟨n, 0, 0, 0, 0⟩ own6 B6b m from by
              subst hb6
              have mS : Mod (fun x => x = 9) ⟨own6, w6⟩ ⟨own6, w6.setCell ⟨ba, k, none⟩ (.bool true)⟩ := Mod.set (g := ⟨own6, w6⟩) B6.out.2.own
              refine ⟨⟨B6.out.1.1.trans (mS.mono (fun x hx => by omega)), B6.out.1.2.1.keep mS (by decide), B6.out.1.2.2.1.keep mS (by decide) (by decide), B6.out.1.2.2.2.keep mS (by decide)⟩, ?_⟩
              have h := B6.out.2.set k (.bool true)
              rw [← List.map_set, allB_set hlt] at h
              exact h)
            rw [← hb6]
            clear hb6 a0 a1 a2 HEW B6 hne hne'
            refine (shade_table bt B6b).mono ?_
            rintro e w6c ⟨rfl, hE⟩
            have BB1 := Lib.hid (BB0.out.ext (show Ext B6b w6c from hE))
            clear hE BB0 sc0 scl
            go_wp2_with fail
            refine (tab_set ⟨_, w6c⟩ 331 bt k 2 true true T BB1.out.1.2.2.1.tab).mono ?_
            rintro e w7 ⟨rfl, own7, m7, t7⟩
            have B7 := Lib.hid (show B18 w0 bm bs bt bp bk ba zs.length (k + 1) (T.set k 2 true true) ⟨n, 0, 0, 0, 0⟩ own7 w7 m from
              ⟨⟨BB1.out.1.1.trans (m7.mono (fun x hx => by omega)), BB1.out.1.2.1.keep m7 (by decide), ⟨BB1.out.1.2.2.1.blk.keep m7 (by decide), t7⟩, BB1.out.1.2.2.2.keep m7 (by decide)⟩, BB1.out.2.keep m7 (by decide)⟩)
            clear m7 t7 BB1
            have hA1 := atO_in (sz := szOf zs) (q := k) (by omega)
            have hAn : atO (szOf zs) (szOf zs).length = n := by rw [hlz, HN.out]
            have HAT1 := Lib.hid (show atO (szOf zs) (k + 1) = atO (szOf zs) k + ((szOf zs).getD k 0 + 2) from rfl)
            rw [hAn] at hA1
            have hzy := HSZ.out
            have hkn : k < (szOf zs).length := by omega
            have hkF : ((szOf zs).length : Int) ≤ F := by omega
            clear hAn
            generalize hy : zs.getD k 0 = y at *
            have hy2 : ((szOf zs).getD k 0 : Int) = y := by omega
            generalize hsy : (szOf zs).getD k 0 = sy at *
            have HSY := Lib.hid hsy
            generalize hak : atO (szOf zs) k = ak at *
            have HYV := Lib.hid hy
            have HAK := Lib.hid hak
            clear hy hak hsy hzy
            have e2 := IntWalk.i64_in (8 * (F : Int) + ak) (by omega)
            have e3 := IntWalk.i64_in (8 * (F : Int) + ak + 1) (by omega)
            have HRF := Lib.hid (fun w' => rref_any k w' (by omega) (by omega))
            have HWY := Lib.hid (fun w' => rwhole_any y w' (by omega) (by omega))
            have HWA := Lib.hid (fun w' => rwhole_any (8 * F + ak) w' (by omega) (by omega))
            have hcc := C6.out
            have LA := Lib.hid (L6.out.high hkn hkF (a := 8 * (F : Int) + ak) (by rw [HAK.out]; omega) (floatOfInt .f64 ((k : Int) + 1), 4607182418800017408))
            have LB := Lib.hid (LA.out.high hkn hkF (a := 8 * (F : Int) + ak + 1) (by rw [HAK.out]; omega) (floatOfInt .f64 y, 0))
            have PA := Lib.hid (SPart.put (F := F) (sz := szOf zs) (k := k) (x := 0) (a := 8 * (F : Int) + ak) (v := (floatOfInt .f64 ((k : Int) + 1), 4607182418800017408)) (m := m) (fun y hy => absurd hy (Nat.not_lt_zero _)) (by rw [HAK.out]; omega) rfl (L6.out.len _ (by omega) (by omega)))
            have PB := Lib.hid (PA.out.put (a := 8 * (F : Int) + ak + 1) (v := (floatOfInt .f64 y, 0)) (by rw [HAK.out]; omega) (by
              have e : vO (szOf zs) wF k (0 + 1) = wD (((szOf zs).getD k 0 : Nat) : Int) := rfl
              rw [e, HSY.out, hy2]; rfl) (LA.out.len _ (by omega) (by omega)))
            have HZC := Lib.hid (fun w' (he : Ext w w') => show bq < w'.heap.size ∧ w'.cell? ⟨bq, oq + k, none⟩ = some (.int .i64 y) from by
              obtain ⟨b3, o3, e3, h3, hc3⟩ := ints_at (HZ.out.ext he) hlt
              simp only [Option.some.injEq, Addr.mk.injEq, and_true] at e3
              obtain ⟨rfl, rfl⟩ := e3
              have h4 := hc3 k hlt
              rw [HYV.out] at h4
              exact ⟨h3, h4⟩)
            have HTB2 := Lib.hid (tab17 T6.out (show k < F by omega) (HTG.out k hlt))
            have HTK := Lib.hid (HTG.out k hlt)
            generalize T.set k 2 true true = T2 at *
            clear L6 LA PA T6
            go_wp2_with fail
            refine (HRF.out _).mono ?_
            rintro e wa ⟨rfl, hE⟩
            have BA := Lib.hid (B7.out.ext (show Ext w7 wa from hE))
            clear hE
            go_wp2_with fail
            obtain ⟨ev, hwv⟩ := mem_write_v ⟨_, wa⟩ 300 bm (8 * F + ak) (floatOfInt .f64 ((k : Int) + 1)) 4607182418800017408 m BA.out.mem (by omega)
            have HWV := Lib.hid hwv
            clear hwv
            refine HWV.out.mono ?_
            rintro e wb ⟨rfl, ownb, mb, rb⟩
            have BB := Lib.hid (BA.out.wr mb rb)
            clear mb rb B7 BA
            have HEWb := Lib.hid (show Ext w wb from HE0.out.trans BB.out.old)
            have z0 := (HZC.out _ HEWb.out).2
            have hq := (HZC.out _ HEWb.out).1
            have HC1 := Lib.hid (show 0 ≤ (m.tick.lay (8 * F + ak) (floatOfInt .f64 ((k : Int) + 1), 4607182418800017408)).count ∧ (m.tick.lay (8 * F + ak) (floatOfInt .f64 ((k : Int) + 1), 4607182418800017408)).count ≤ 70 * k + 1 from by
              rw [lay_count]
              show 0 ≤ m.count + 1 ∧ m.count + 1 ≤ 70 * (k : Int) + 1
              omega)
            clear HWV
            go_wp2_with fail
            refine (HWY.out _).mono ?_
            rintro e wc ⟨rfl, hE⟩
            have BC := Lib.hid (BB.out.ext (show Ext wb wc from hE))
            clear hE
            go_wp2_with fail
            obtain ⟨ev2, hwv⟩ := mem_write_v ⟨_, wc⟩ 300 bm (8 * F + ak + 1) (floatOfInt .f64 y) 0 _ BC.out.mem (by have := HC1.out; omega)
            have HWV := Lib.hid hwv
            clear hwv
            refine HWV.out.mono ?_
            rintro e wd ⟨rfl, ownd, md, rd⟩
            have BD := Lib.hid (BC.out.wr md rd)
            clear md rd BB BC HWV z0 hq
            have HC2 := Lib.hid (show 0 ≤ ((m.tick.lay (8 * F + ak) (floatOfInt .f64 ((k : Int) + 1), 4607182418800017408)).tick.lay (8 * F + ak + 1) (floatOfInt .f64 y, 0)).count ∧ ((m.tick.lay (8 * F + ak) (floatOfInt .f64 ((k : Int) + 1), 4607182418800017408)).tick.lay (8 * F + ak + 1) (floatOfInt .f64 y, 0)).count ≤ 70 * k + 2 from by
              have := HC1.out
              rw [lay_count]
              show 0 ≤ MemS.count _ + 1 ∧ MemS.count _ + 1 ≤ 70 * (k : Int) + 2
              omega)
            clear HC1
            generalize (m.tick.lay (8 * F + ak) (floatOfInt .f64 ((k : Int) + 1), 4607182418800017408)).tick.lay (8 * F + ak + 1) (floatOfInt .f64 y, 0) = m2 at *
            have HATI := Lib.hid (show ((atO (szOf zs) (k + 1) : Nat) : Int) = ak + (2 + y) from by rw [HAT1.out]; omega)
            clear HAT1 hcc
            go_wp2_with fail
            go_loopw [16] (fun j wr => ∃ (jn : Nat) (own : Nat → Nat) (m' : MemS), jn ≤ sy ∧ j = .int .i64 jn ∧ Hid (B18 w0 bm bs bt bp bk ba zs.length (k + 1) T2 ⟨n, 0, 0, 0, 0⟩ own wr m') ∧ Hid (SLaid2 F n (szOf zs) tl k m') ∧ Hid (SPart F (szOf zs) k (jn + 2) m') ∧ Hid (0 ≤ m'.count ∧ m'.count ≤ 70 * k + 2 + jn)) (fun j _ => sy - (intOf j).toNat)
            case atStart => exact ⟨0, ownd, m2, Nat.zero_le _, rfl, BD, LB, PB, Lib.hid (by have := HC2.out; omega)⟩
            case round =>
              clear BD LB PB HC2
              obtain ⟨jn, owne, m3, hj, rfl, BE, LE, PE, HCE⟩ := hrel
              obtain ⟨we, rfl⟩ : ∃ we : World, we = wr := ⟨_, rfl⟩
              have HEWe := Lib.hid (show Ext w we from HE0.out.trans BE.out.old)
              have z0 := (HZC.out _ HEWe.out).2
              have hq := (HZC.out _ HEWe.out).1
              by_cases hlj : jn < sy
              · have q3 : decide ((jn : Int) < y) = true := decide_eq_true (by omega)
                as_aux_lemma =>
                  go_wp2_with fail
                  refine (rref_any (100 * (k : Int) + jn) we (by omega) (by omega)).mono ?_
                  rintro e wf ⟨rfl, hE⟩
                  have BF := Lib.hid (BE.out.ext (show Ext we wf from hE))
                  clear hE
                  go_wp2_with fail
                  obtain ⟨ev3, hwv⟩ := mem_write_v ⟨_, wf⟩ 300 bm (8 * (F : Int) + ak + 2 + jn) (floatOfInt .f64 (100 * (k : Int) + jn + 1)) 4607182418800017408 _ BF.out.mem (by have := HCE.out; omega)
                  have HWV := Lib.hid hwv
                  clear hwv
                  refine HWV.out.mono ?_
                  rintro e wg ⟨rfl, owng, mg, rg⟩
                  have BG := Lib.hid (BF.out.wr mg rg)
                  have LG := Lib.hid (LE.out.high hkn hkF (a := 8 * (F : Int) + ak + 2 + jn) (by rw [HAK.out]; omega) (floatOfInt .f64 (100 * (k : Int) + jn + 1), 4607182418800017408))
                  have PG := Lib.hid (PE.out.put (a := 8 * (F : Int) + ak + 2 + jn) (v := (floatOfInt .f64 (100 * (k : Int) + jn + 1), 4607182418800017408)) (by rw [HAK.out]; omega) (vO_slot (szOf zs) wF k jn).symm (LE.out.len _ (by omega) (by omega)))
                  have HCG := Lib.hid (show 0 ≤ (m3.tick.lay (8 * (F : Int) + ak + 2 + jn) (floatOfInt .f64 (100 * (k : Int) + jn + 1), 4607182418800017408)).count ∧ (m3.tick.lay (8 * (F : Int) + ak + 2 + jn) (floatOfInt .f64 (100 * (k : Int) + jn + 1), 4607182418800017408)).count ≤ 70 * k + 2 + (jn + 1 : Nat) from by
                    have := HCE.out
                    rw [lay_count]
                    show 0 ≤ MemS.count _ + 1 ∧ MemS.count _ + 1 ≤ 70 * (k : Int) + 2 + (jn + 1 : Nat)
                    omega)
                  clear mg rg HWV BE BF LE PE HCE
                  go_wp2_with fail
                  go_roundw
                  case rel => exact ⟨jn + 1, owng, _, by omega, by go_num, BG, LG, PG, HCG⟩
                  case measure => simp [intOf]; omega
              · obtain rfl : jn = sy := by omega
                have q3 : decide ((jn : Int) < y) = false := decide_eq_false (by omega)
                as_aux_lemma =>
                  go_wp2_with fail
                  refine (HWA.out _).mono ?_
                  rintro e wh ⟨rfl, hE⟩
                  have BH := Lib.hid (BE.out.ext (show Ext we wh from hE))
                  clear hE
                  go_wp2_with fail
                  obtain ⟨ev4, hwv⟩ := mem_write_v ⟨_, wh⟩ 300 bm (8 * (k : Int) + 4) (floatOfInt .f64 (8 * (F : Int) + ak)) 0 _ BH.out.mem (by have := HCE.out; omega)
                  have HWV := Lib.hid hwv
                  clear hwv
                  refine HWV.out.mono ?_
                  rintro e wi ⟨rfl, owni, mi, ri⟩
                  have BI := Lib.hid (BH.out.wr mi ri)
                  have e84 : 8 * (k : Int) + 4 = (k : Int) * 8 + 4 := by omega
                  have LH := Lib.hid (show SLaid2 F n (szOf zs) tl (k + 1) (m3.tick.lay (8 * (k : Int) + 4) (floatOfInt .f64 (8 * (F : Int) + ak), 0)) from by
                    rw [e84]
                    refine (LE.out.low hkn hkF _).done (by rw [HSY.out]; exact PE.out.low (by omega) _) ?_
                    refine (peek_lay_self (m := m3.tick) (LE.out.len _ (by omega) (by omega))).trans ?_
                    rw [HTK.out, if_pos rfl, HAK.out, show (8 * (F : Int) + ak) = (ak : Int) + F * 8 by omega]
                    rfl)
                  have HCI := Lib.hid (show 0 ≤ (m3.tick.lay (8 * (k : Int) + 4) (floatOfInt .f64 (8 * (F : Int) + ak), 0)).count ∧ (m3.tick.lay (8 * (k : Int) + 4) (floatOfInt .f64 (8 * (F : Int) + ak), 0)).count ≤ 70 * k + 4 + jn from by
                    have := HCE.out
                    rw [lay_count]
                    show 0 ≤ MemS.count _ + 1 ∧ MemS.count _ + 1 ≤ 70 * (k : Int) + 4 + jn
                    omega)
                  clear mi ri HWV BE BH LE PE HCE z0 hq e84
                  have HEWi := Lib.hid (show Ext w wi from HE0.out.trans BI.out.old)
                  have z0 := (HZC.out _ HEWi.out).2
                  have hq := (HZC.out _ HEWi.out).1
                  go_wp2_with fail
                  go_roundw
                  case rel => exact ⟨k + 1, owni, _, _, by omega, by go_num, by rw [HATI.out], BI, LH, Lib.hid (by have := HCI.out; omega), HTB2⟩
                  case measure => simp [intOf]; omega
        · obtain rfl : k = zs.length := by omega
          as_aux_lemma =>
            go_wp2_with fail
            refine (coil_take ⟨own6, w6⟩ 340 bk n ⟨n, 0, 0, 0, 0⟩ B6.out.1.2.2.2 (by omega)).mono ?_
            rintro e w7 ⟨rfl, own7, m7, k7⟩
            have K7 := Lib.hid (show CoilAt ⟨own7, w7⟩ 340 bk ⟨n, 0, n, 0, 0⟩ from by
              have e : (⟨(n : Int), 0, 0, 0, 0⟩ : CoilS).take n = ⟨n, 0, n, 0, 0⟩ := by
                unfold CoilS.take
                rw [if_pos (show CoilS.takeable ⟨(n : Int), 0, 0, 0, 0⟩ n = true from by unfold CoilS.takeable CoilS.room CoilS.used; simp; omega)]
                unfold CoilS.lays
                simp
              rw [← e]; exact k7)
            have B7 := Lib.hid (show B18 w0 bm bs bt bp bk ba zs.length zs.length T (preC 0 n) own7 w7 m from ⟨⟨B6.out.1.1.trans (m7.mono (fun x hx => by omega)), B6.out.1.2.1.keep m7 (by decide), B6.out.1.2.2.1.keep m7 (by decide) (by decide), K7.out⟩, B6.out.2.keep m7 (by decide)⟩)
            have HM7 := Lib.hid (fun (cm : Cnf) (h1 : cm.frags = F) (h2 : cm.spine = n) => SLaid2.mem (show SLaid2 F n (szOf zs) tl (szOf zs).length m from by rw [hlz]; exact L6.out) (cm := cm) (bl := tl) h1 h2 (by omega) (by rw [hlz, HN.out]) (by omega))
            have HLZ := Lib.hid hlz
            have HCM := Lib.hid C6.out
            clear m7 k7 K7 B6 L6 C6
            go_wp2_with fail
            go_loopw [17] (fun sv wr => ∃ (s : Nat) (own : Nat → Nat) (m' : MemS) (ns : Int), s ≤ 2 ∧ sv = .int .i64 s ∧ Hid (Mod (fun x => x ≠ 0) ⟨fun _ => 0, w0⟩ ⟨own, wr⟩) ∧ Hid (MemAt ⟨own, wr⟩ 300 bm m') ∧ Hid (ShAt ⟨own, wr⟩ 330 bs bt 331 bp T ns) ∧ Hid (CoilAt ⟨own, wr⟩ 340 bk (preC s n)) ∧ Hid (Blk ⟨own, wr⟩ 9 ba 4 (tl.map Value.bool)) ∧ Hid (∀ cm : Cnf, cm.frags = F → cm.spine = n → HMem cm (s % 2) (szOf zs) tl tl wF (oF cm (s % 2) (szOf zs) tl) 0 m') ∧ Hid (0 ≤ m'.count ∧ m'.count ≤ 5000 + 10000 * s) ∧ Hid (0 ≤ ns ∧ ns ≤ 10000 * s)) (fun i _ => 2 - (intOf i).toNat)
            case atStart => exact ⟨0, own7, m, 0, by decide, rfl, Lib.hid B7.out.1.1, Lib.hid B7.out.1.2.1, Lib.hid B7.out.1.2.2.1, Lib.hid B7.out.1.2.2.2, Lib.hid (by have := B7.out.2; rw [allB_all, HTL.out] at this; exact this), HM7, Lib.hid (by have := HCM.out; omega), Lib.hid ⟨Int.le_refl _, Int.le_refl _⟩⟩
            case round =>
              clear B7 HM7 HCM
              obtain ⟨s, own7, m, ns0, hs, rfl, M7, R7, S7, K7, A7, HM7, HCM, HNS0⟩ := hrel
              obtain ⟨wc, rfl⟩ : ∃ wc : World, wc = wr := ⟨_, rfl⟩
              by_cases hs2 : s < 2
              · have hd2 : decide ((s : Int) < 2) = true := decide_eq_true (by omega)
                have hpt := preC_turn hs2 (n : Int)
                have HTU := Lib.hid (coil_turn ⟨own7, wc⟩ 340 bk (preC s n) K7.out)
                rw [hpt.1, hpt.2] at HTU
                clear hpt
                as_aux_lemma =>
                  go_wp2_with fail
                  refine HTU.out.mono ?_
                  rintro e w8 ⟨rfl, own8, m8, k8⟩
                  have M8 := Lib.hid (M7.out.trans (m8.mono (S := fun x => x ≠ 0) (fun x hx => by omega)))
                  have R8 := Lib.hid (R7.out.keep m8 (by decide))
                  have S8 := Lib.hid (S7.out.keep m8 (by decide) (by decide))
                  have A8 := Lib.hid (A7.out.keep m8 (by decide))
                  have K8 := Lib.hid k8
                  clear m8 k8 M7 R7 S7 K7 A7 HTU
                  have HE8 := Lib.hid (show Ext w0 w8 from (nothing17 M8.out (fun k _ => by simp)).toExt)
                  have HB8 := Lib.hid (show Blk ⟨fun _ => 0, w8⟩ 0 (w1.heap.size + 1) 24 [.int .i64 F, .int .i64 n, .int .i64 0, .int .i64 1, .int .i64 1, .int .i64 0, .int .i64 1, .int .i64 0, .slice (some ⟨w1.heap.size, 0, none⟩) 1 1] from ⟨by
                    have h1 := HBK0.out
                    exact (HE8.out.heap _ h1.lt).trans h1.row, rfl⟩)
                  have g0 := HB8.out.cell (i := 0) rfl
                  have g1 := HB8.out.cell (i := 1) rfl
                  have g2 := HB8.out.cell (i := 2) rfl
                  have g3 := HB8.out.cell (i := 3) rfl
                  have g4 := HB8.out.cell (i := 4) rfl
                  have g5 := HB8.out.cell (i := 5) rfl
                  have g6 := HB8.out.cell (i := 6) rfl
                  have g7 := HB8.out.cell (i := 7) rfl
                  have g8 := HB8.out.cell (i := 8) rfl
                  have gl := HB8.out.lt
                  simp only at g0 g1 g2 g3 g4 g5 g6 g7 g8 gl
                  have HNW := Lib.hid (haul_new (c17 F n w1.heap.size) s n true 320 ⟨own8, w8⟩ (HOK.out.ext HE8.out) (by simp [c17]))
                  unfold Cnf.val c17 at HNW
                  go_wp2_with fail
                  refine HNW.out.mono ?_
                  rintro e w9 ⟨own9, b, cm, rfl, m9, h9, hs9⟩
                  have M9 := Lib.hid (M8.out.trans (m9.mono (fun _ => False.elim)))
                  have A9 := Lib.hid (A8.out.keep m9 id)
                  have W9 := Lib.hid (show HW ⟨own9, w9⟩ b bm bs bt bp bk (HaulS.fresh cm s n true) m T ns0 (cW s n 0 n) from ⟨h9, R8.out.keep m9 id, S8.out.keep m9 id id, K8.out.keep m9 id⟩)
                  have HCF := Lib.hid (show cm.frags = F from hs9.frags)
                  have HCS := Lib.hid (show cm.spine = n from hs9.spine)
                  have hss : s % 2 = s := by omega
                  have HLM := Lib.hid (HM7.out cm HCF.out HCS.out)
                  rw [hss] at HLM
                  have HCT := Lib.hid (show HCtx cm s (szOf zs) tl tl T from ⟨hs2, (same_check17 hs9).trans HCK.out, by rw [HLZ.out, HN.out]; exact hs9.spine, by rw [HLZ.out, HN.out]; omega, by rw [HLZ.out, show cm.frags = F from hs9.frags]; omega, by rw [HLZ.out]; omega, fun q => by
                    rw [szOf_get]
                    by_cases hq : q < zs.length
                    · have := HQ.out q hq; omega
                    · rw [List.getD_eq_getElem?_getD, List.getElem?_eq_none (by omega)]; decide, fun q hq => T6.out.2 q (by rw [HLZ.out] at hq; exact hq)⟩)
                  have HJ0 := Lib.hid (show ∃ S0, RJ cm s (szOf zs) tl tl wF (oF cm s (szOf zs) tl) 0 S0 m (cW s n 0 n) ∧ S0 = HaulS.fresh cm s n true from ⟨_, rj_start HLM.out (by rw [HLZ.out, HN.out]), rfl⟩)
                  obtain ⟨S0, hJ0, hS0⟩ := HJ0.out
                  rw [← hS0] at W9
                  have J0 := Lib.hid hJ0
                  have HTLB := Lib.hid (show totO (szOf zs) tl tl (szOf zs).length ≤ 4 * zs.length + 2 * n from by
                    have := totO_bound (szOf zs) tl tl (szOf zs).length
                    rw [HLZ.out] at this ⊢
                    rw [HN.out] at this
                    exact this)
                  clear hJ0 hS0 HJ0 h9 hs9 m9 HLM g0 g1 g2 g3 g4 g5 g6 g7 g8 gl R8 S8 K8 A8 hss
                  have hzl : 0 < zs.length := by
                    refine Nat.pos_of_ne_zero (fun h0 => hn0 ?_)
                    rw [← HN.out, h0]; rfl
                  go_wp2_with fail
                  go_loopw [19] (fun i wr => ∃ (t : Nat) (own : Nat → Nat) (S : HaulS) (m' : MemS) (C : CoilS) (ns : Int), i = .int .i64 t ∧ Hid (RJ cm s (szOf zs) tl tl wF (oF cm s (szOf zs) tl) t S m' C) ∧ Hid (Mod (fun x => x ≠ 0) ⟨fun _ => 0, w0⟩ ⟨own, wr⟩) ∧ Hid (HW ⟨own, wr⟩ b bm bs bt bp bk S m' T ns C) ∧ Hid (0 ≤ ns ∧ ns ≤ ns0 + t) ∧ Hid (0 ≤ m'.count ∧ m'.count ≤ m.count + t) ∧ Hid (Blk ⟨own, wr⟩ 9 ba 4 (tl.map Value.bool))) (fun i _ => 10000 - (intOf i).toNat)
                  case atStart => exact ⟨0, own9, S0, m, _, ns0, rfl, J0, M9, W9, Lib.hid (by have := HNS0.out; omega), Lib.hid (by have := HCM.out; omega), A9⟩
                  case round =>
                    clear J0 M9 W9 A9
                    obtain ⟨t, own10, S, m', C, ns, rfl, J, M, HWW, HNS, HMC, A10⟩ := hrel
                    obtain ⟨w10, rfl⟩ : ∃ w10 : World, w10 = wr := ⟨_, rfl⟩
                    have hts := rj_steps J.out
                    have htl := HTLB.out
                    have ht2 : decide ((t : Int) < 12 * zs.length + 3 * n) = true := decide_eq_true (by omega)
                    have ht1 : t < 10000 := by omega
                    clear hts htl
                    rcases rj_at J.out with ⟨hpc, -⟩ | hpc
                    · have hpb : (S.pc == 11) = false := beq_eq_false_iff_ne.2 hpc
                      obtain ⟨S', m2, C2, hJ, hc1, hc2, d, hd0, hd1, hcall⟩ := rj_next HCT.out J.out hpc
                      have HST := Lib.hid (hcall ⟨own10, w10⟩ b bm bs bt bp bk ns HWW.out (by have := HNS.out; have := HNS0.out; omega) (by have := HMC.out; have := HCM.out; omega))
                      have J2 := Lib.hid hJ
                      have HB2 := Lib.hid (And.intro (And.intro hc1 hc2) (And.intro hd0 hd1))
                      have HDN := Lib.hid (haul_done ⟨own10, w10⟩ 320 b S HWW.out.hl)
                      rw [hpb] at HDN
                      clear hJ hc1 hc2 hd0 hd1 hcall hpc hpb
                      as_aux_lemma =>
                        go_wp2_with fail
                        refine HDN.out.mono ?_
                        rintro e wv ⟨rfl, rfl⟩
                        go_wp2_with fail
                        refine HST.out.mono ?_
                        rintro e w11 ⟨rfl, own11, m11, h11⟩
                        have M11 := Lib.hid (M.out.trans (m11.mono (S := fun x => x ≠ 0) (fun x hx => by unfold hTs at hx; omega)))
                        have W11 := Lib.hid h11
                        have A11 := Lib.hid (A10.out.keep m11 (by unfold hTs; omega))
                        clear m11 h11
                        go_wp2_with fail
                        go_roundw
                        case rel => exact ⟨t + 1, own11, S', m2, C2, ns + d, by go_num, J2, M11, W11, Lib.hid (by have h1 := HNS.out; have h2 := HB2.out; omega), Lib.hid (by have h1 := HMC.out; have h2 := HB2.out; omega), A11⟩
                        case measure => simp [intOf]; omega
                    · have hpb : (S.pc == 11) = true := beq_iff_eq.2 hpc
                      obtain ⟨hC, hmo, he, -⟩ := rj_over HCT.out J.out (by rw [HCF.out]; omega) hpc HWW.out.mm.len
                      have HRD := Lib.hid (show RdO (szOf zs) tl (8 * (F : Int)) m' from by
                        have := rj_reads HCT.out J.out (by rw [HCF.out]; omega)
                        rw [HCF.out, show (F : Int) * 8 = 8 * F by omega] at this
                        exact this)
                      have HMN := Lib.hid (show ∀ cm' : Cnf, cm'.frags = F → cm'.spine = n → HMem cm' ((s + 1) % 2) (szOf zs) tl tl wF (oF cm' ((s + 1) % 2) (szOf zs) tl) 0 m' from fun cm' h1 h2 => by
                        have h3 : HMem cm s (szOf zs) tl tl wF (oF cm s (szOf zs) tl) (szOf zs).length m' := by
                          rcases J.out with h | ⟨h, -⟩
                          · exact (h.over hpc).1
                          · have := HLZ.out; rw [h] at this; simp at this; omega
                        have h4 := h3.turned HCT.out (fun q hq => by
                          unfold mvO
                          rw [HTG.out q (by rw [HLZ.out] at hq; exact hq)]; rfl)
                        rw [show (s + 1) % 2 = 1 - s by omega]
                        exact h4.cnf (h1.trans HCF.out.symm) (h2.trans HCS.out.symm))
                      have hcp := all_cp (szOf zs) zs.length zs.length (Nat.le_refl _)
                      have hcn := all_cnt zs.length zs.length (Nat.le_refl _)
                      rw [HTL.out] at hcp hcn
                      rw [HLZ.out] at hC hmo
                      rw [hcp, HN.out] at hC
                      rw [hcn] at hmo
                      have HCC := Lib.hid (coil_done ⟨own10, w10⟩ 340 bk _ HWW.out.co (by rw [hC, cW_kept]; exact Int.le_refl _))
                      rw [hC, preC_done hs2] at HCC
                      have HDN := Lib.hid (haul_done ⟨own10, w10⟩ 320 b S HWW.out.hl)
                      rw [hpb] at HDN
                      have HMV := Lib.hid (haul_moved ⟨own10, w10⟩ 320 b S HWW.out.hl)
                      rw [hmo] at HMV
                      have hns := HNS.out
                      have hns0 := HNS0.out
                      have hmc := HMC.out
                      have hmc0 := HCM.out
                      have HNSX := Lib.hid (show 0 ≤ ns ∧ ns ≤ 10000 * ((s + 1 : Nat) : Int) from by omega)
                      have HMCX := Lib.hid (show 0 ≤ m'.count ∧ m'.count ≤ 5000 + 10000 * ((s + 1 : Nat) : Int) from by omega)
                      clear hpc hpb hmo he hC J hcp hcn hns hns0 hmc hmc0
                      as_aux_lemma =>
                        go_wp2_with fail
                        refine HDN.out.mono ?_
                        rintro e wv ⟨rfl, rfl⟩
                        go_wp2_with fail
                        refine HDN.out.mono ?_
                        rintro e wv ⟨rfl, rfl⟩
                        go_wp2_with fail
                        refine HMV.out.mono ?_
                        rintro e wv ⟨rfl, rfl⟩
                        go_wp2_with fail
                        refine HCC.out.mono ?_
                        rintro e w11 ⟨rfl, own11, m11, k11⟩
                        have M11 := Lib.hid (M.out.trans (m11.mono (S := fun x => x ≠ 0) (fun x hx => by omega)))
                        have R11 := Lib.hid (HWW.out.mm.keep m11 (by decide))
                        have S11 := Lib.hid (HWW.out.sh.keep m11 (by decide) (by decide))
                        have A11 := Lib.hid (A10.out.keep m11 (by decide))
                        have K11 := Lib.hid k11
                        have HEE := Lib.hid (show Ext w w11 from HE0.out.trans (nothing17 M11.out (fun k _ => by simp)).toExt)
                        have hlt : tl.length = zs.length := by rw [← HTL.out, List.length_replicate]
                        have HRDS := Lib.hid (reads_any ⟨own11, w11⟩ bm m' A cap zs (some ⟨ba, 0, none⟩) zs.length zs.length (some ⟨ba, 0, none⟩) zs.length tl (8 * F) R11.out (HZ.out.ext HEE.out) (fun i v hi => ⟨ba, 0, rfl, A11.out.lt, by rw [Nat.zero_add]; exact A11.out.cell hi⟩) (Nat.le_refl _) hzm (by omega) (by omega) HRD.out HQ.out hk60 ⟨by omega, by omega⟩)
                        rw [hlt] at HRDS
                        clear m11 k11 HEE hlt
                        go_wp2_with fail
                        refine HRDS.out.mono ?_
                        rintro e w12 ⟨rfl, hE12⟩
                        have m12 := Mod.ext (T := fun _ => False) (g := ⟨own11, w11⟩) (show Ext w11 w12 from hE12) 0
                        have M12 := Lib.hid (M11.out.trans (m12.mono (S := fun x => x ≠ 0) (fun _ => False.elim)))
                        have R12 := Lib.hid (R11.out.keep m12 id)
                        have S12 := Lib.hid (S11.out.keep m12 id id)
                        have A12 := Lib.hid (A11.out.keep m12 id)
                        have K12 := Lib.hid (K11.out.keep m12 id)
                        clear m12 hE12 M11 R11 S11 A11 K11 HRDS
                        go_wp2_with fail
                        go_roundw
                        case rel => exact ⟨s + 1, _, m', ns, by omega, by go_num, M12, R12, S12, K12, A12, HMN, HMCX, HNSX⟩
                        case measure => simp [intOf]; omega
              · obtain rfl : s = 2 := by omega
                have hd2 : decide ((2 : Int) < 2) = false := by decide
                have HMF := Lib.hid (HM7.out (c17 F n w1.heap.size) rfl rfl)
                have HOW := Lib.hid (show ∀ k : Nat, k < zs.length → m.peek (8 * (k : Int) + 4) = (floatOfInt .f64 (8 * (F : Int) + (atO (szOf zs) k : Nat)), 0) from fun k hk => by
                  have h := HMF.out.ow k (by rw [HLZ.out]; exact hk) (Or.inl (Nat.zero_le _))
                  rw [show 8 * (k : Int) + 4 = (k : Int) * 8 + 4 by omega, h]
                  unfold oF
                  rw [if_pos (HTG.out k hk), spA_lo]
                  show wD ((atO (szOf zs) k : Nat) + (F : Int) * 8 + 0) = _
                  rw [show ((atO (szOf zs) k : Nat) : Int) + (F : Int) * 8 + 0 = 8 * (F : Int) + (atO (szOf zs) k : Nat) by omega]
                  rfl)
                have HEE := Lib.hid (show Ext w wc from HE0.out.trans (nothing17 M7.out (fun k _ => by simp)).toExt)
                have HKx := Lib.hid (fun w' (he : Ext wc w') => show MemAt ((⟨own7, wc⟩ : GW).to 0 w') 300 bm m from R7.out.keep (Mod.ext (T := fun _ => False) (g := ⟨own7, wc⟩) he 0) id)
                clear HMF HM7
                rw [show ((2 : Nat) : Int) = 2 from rfl]
                as_aux_lemma =>
                  go_wp2_with fail
                  go_loopw [12, 20] (fun a i wr => ∃ k : Nat, k ≤ zs.length ∧ a = .int .i64 (atO (szOf zs) k : Nat) ∧ i = .int .i64 k ∧ Hid (Ext wc wr)) (fun _ i _ => zs.length - (intOf i).toNat)
                  case atStart => exact ⟨0, Nat.zero_le _, rfl, rfl, Lib.hid (Ext.refl _)⟩
                  case round =>
                    obtain ⟨k, hk, rfl, rfl, HEX⟩ := hrel
                    obtain ⟨w12, rfl⟩ : ∃ w12 : World, w12 = wr := ⟨_, rfl⟩
                    by_cases hlt : k < zs.length
                    · have hEw := HEE.out.trans HEX.out
                      obtain ⟨bq, oq, hAq, hq, hcq⟩ := ints_at (HZ.out.ext hEw) hlt
                      subst hAq
                      have HZC := Lib.hid (fun w' (he : Ext w w') => show bq < w'.heap.size ∧ w'.cell? ⟨bq, oq + k, none⟩ = some (.int .i64 (zs.getD k 0)) from by
                        obtain ⟨b3, o3, e3, h3, hc3⟩ := ints_at (HZ.out.ext he) hlt
                        simp only [Option.some.injEq, Addr.mk.injEq, and_true] at e3
                        obtain ⟨rfl, rfl⟩ := e3
                        exact ⟨h3, hc3 k hlt⟩)
                      have HPK := Lib.hid (fun w' (he : Ext wc w') => show Calls Try.prog 34 #[.pointer (some ⟨bm, 0, none⟩), .int .i64 (8 * (k : Int) + 4)] w' (fun e w'' => e = .returned (.complex .f64 (floatOfInt .f64 (8 * (F : Int) + (atO (szOf zs) k : Nat))) 0) ∧ w' = w'') from by
                        have h1 := mem_peek ((⟨own7, wc⟩ : GW).to 0 w') 300 bm (8 * (k : Int) + 4) m (HKx.out w' he)
                        rw [HOW.out k hlt] at h1
                        exact h1)
                      have hsk := HQ.out k hlt
                      have hy := szOf_get (zs := zs) k
                      have ham := atO_mono (szOf zs) (show k ≤ zs.length from hk)
                      rw [HN.out] at ham
                      have HAT := Lib.hid (show ((atO (szOf zs) (k + 1) : Nat) : Int) = (atO (szOf zs) k : Nat) + (2 + zs.getD k 0) from by rw [atO]; omega)
                      clear hEw hcq hq hy
                      generalize zs.getD k 0 = y at *
                      generalize atO (szOf zs) k = ak at *
                      as_aux_lemma =>
                        go_wp2_with fail
                        refine (HPK.out _ HEX.out).mono ?_
                        rintro e wv ⟨rfl, rfl⟩
                        go_wp2_with fail
                        refine (rwhole_any (8 * (F : Int) + ak) w12 (by omega) (by omega)).mono ?_
                        rintro e w13 ⟨rfl, hE13⟩
                        have HE13 := Lib.hid (HEX.out.trans (show Ext w12 w13 from hE13))
                        clear hE13 HEX
                        go_wp2_with fail
                        refine (rword_same _ _ w13).mono ?_
                        rintro e w14 ⟨rfl, hE14⟩
                        have HE14 := Lib.hid (HE13.out.trans (show Ext w13 w14 from hE14))
                        have z0 := (HZC.out _ (HEE.out.trans HE14.out)).2
                        have hq := (HZC.out _ (HEE.out.trans HE14.out)).1
                        clear hE14 HE13
                        go_wp2_with fail
                        go_roundw
                        case rel => exact ⟨k + 1, by omega, by rw [HAT.out], by go_num, HE14⟩
                        case measure => simp [intOf]; omega
                    · obtain rfl : k = zs.length := by omega
                      go_wp2_with fail
                      refine (H.out _).mono ?_
                      rintro e w14 ⟨rfl, hE⟩
                      go_wp2_with fail
                      go_ret
                      exact Gives.bool rfl ((HEE.out.trans HEX.out).trans (show Ext w12 w14 from hE))
end Go.Proofs.Ytmgkfpmmlibmcaa
