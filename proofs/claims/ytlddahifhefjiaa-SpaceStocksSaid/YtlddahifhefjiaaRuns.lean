/-
  SpaceRuns: the walk.
-/
import Derived.Test.YtlddahifhefjiaaRunsP
namespace Go.Proofs.Ytlddahifhefjiaa
open Go Go.RowKit
set_option linter.unusedVariables false
set_option linter.unnecessarySimpa false
set_option linter.unusedSimpArgs false
set_option maxHeartbeats 4000000
theorem small21_any (f s c : Int) (w : World) : Calls Try.prog 56 #[.int .i64 f, .int .i64 s, .int .i64 c] w (fun e w' => ∃ A, e = .returned (cS f s c A).val ∧ Ext w w' ∧ (cS f s c A).Ok w') := by
  go_enter Try.func56, Try.ntmps56
  go_wp2_with fail
  refine bodyPost_ret (v := .agg #[.int .i64 f, .int .i64 s, .int .i64 0, .int .i64 3, .int .i64 1, .int .i64 c, .int .i64 1, .int .i64 0, .slice (some ⟨w.heap.size + 1, 0, none⟩) 1 1]) (by simp [results, Try.results56, go_sem]) rfl ?_
  refine ⟨some ⟨w.heap.size + 1, 0, none⟩, rfl, by (repeat (first | (with_reducible assumption) | (with_reducible exact Ext.refl _) | (with_reducible exact Ext.more _ _ _ _) | apply Ext.alloc | refine Ext.setCell ?_ (by first | exact Nat.le_refl _ | exact Nat.le_add_right _ _ | assumption) _ | apply Ext.patch | apply Ext.drew | apply Ext.drewN)), ?_⟩
  obtain ⟨q1, q2⟩ := two_blocks w (.cells #[.int .i64 f, .int .i64 s, .int .i64 0, .int .i64 3, .int .i64 1, .int .i64 c, .int .i64 1, .int .i64 0, .slice (some ⟨w.heap.size + 1, 0, none⟩) 1 1] 37) (.cells #[.bool false, .slice none 0 0] 43)
  exact ⟨CellsAt.mk (Array.getElem?_eq_some_iff.1 q2).1 (fun i v hi => by rw [Nat.zero_add]; exact row_cell (l := [.bool false, .slice none 0 0]) q2 hi), fun s hs => by rw [List.mem_singleton.1 hs]; exact ⟨CellsAt.nil _ _, by simp, by simp⟩, Nat.le_refl _, (show 1 ≤ 140737488355328 by decide)⟩
/-- The sentence 'these numbers', of a row that was handed out. -/
theorem ints_lit {g : GW} {A : Option Addr} {n c : Nat} {l : List Int} {w : World} (hr : Row g 0 3 1 (.slice A n c) n (l.map (Value.int .i64))) (he : Ext g.w w) (hn : l.length = n) (h64 : n ≤ 1000) :
    Calls Try.prog 20 #[.slice A n c, .slice (some ⟨w.heap.size, 0, none⟩) n n] (w.alloc (.cells (l.map (Value.int .i64)).toArray 3)) (Gives (.bool true) (w.alloc (.cells (l.map (Value.int .i64)).toArray 3))) := by
  subst hn
  have := ints_any A (some ⟨w.heap.size, 0, none⟩) c l.length l l (w.alloc (.cells (l.map (Value.int .i64)).toArray 3)) (hr.cells.ext (he.alloc _)) (CellsAt.mk (by rw [World.size_alloc]; omega) (fun i v hi => by
    rw [Nat.zero_add]
    exact row_cell (World.row_alloc_new _) hi)) (by omega) (by omega)
  rw [decide_eq_true rfl] at this
  exact this
set_option maxRecDepth 100000 in
theorem runs_any (spine room : Int) (w : World) (h1 : -9223372036854775808 ≤ spine ∧ spine ≤ 9223372036854775807) (h2 : -9223372036854775808 ≤ room ∧ room ≤ 9223372036854775807) : Calls Try.prog 12 #[.int .i64 spine, .int .i64 room] w (Gives (.bool true) w) := by
  have HF := Lib.hid (fun w => first21_any w)
  by_cases hr : 1 ≤ spine ∧ spine ≤ 20 ∧ 0 ≤ room ∧ room ≤ 40
  case neg =>
    by_cases a1 : spine < 1
    · clear hr
      go_enter Try.func12, Try.ntmps12
      go_wp2_with fail
      refine (HF.out _).mono ?_
      rintro e w0 ⟨rfl, hX⟩
      have E0 := Lib.hid (show Ext w w0 from hX)
      clear hX
      go_wp2_with fail
      refine (HF.out _).mono ?_
      rintro e w1 ⟨rfl, hX⟩
      have E1 := Lib.hid (E0.out.trans (show Ext w0 w1 from hX))
      clear hX
      go_wp2_with fail
      go_ret
      exact Gives.bool rfl E1.out
    by_cases a2 : 20 < spine
    · clear hr
      go_enter Try.func12, Try.ntmps12
      go_wp2_with fail
      refine (HF.out _).mono ?_
      rintro e w0 ⟨rfl, hX⟩
      have E0 := Lib.hid (show Ext w w0 from hX)
      clear hX
      go_wp2_with fail
      refine (HF.out _).mono ?_
      rintro e w1 ⟨rfl, hX⟩
      have E1 := Lib.hid (E0.out.trans (show Ext w0 w1 from hX))
      clear hX
      go_wp2_with fail
      go_ret
      exact Gives.bool rfl E1.out
    by_cases a3 : room < 0
    · clear hr
      go_enter Try.func12, Try.ntmps12
      go_wp2_with fail
      refine (HF.out _).mono ?_
      rintro e w0 ⟨rfl, hX⟩
      have E0 := Lib.hid (show Ext w w0 from hX)
      clear hX
      go_wp2_with fail
      refine (HF.out _).mono ?_
      rintro e w1 ⟨rfl, hX⟩
      have E1 := Lib.hid (E0.out.trans (show Ext w0 w1 from hX))
      clear hX
      go_wp2_with fail
      go_ret
      exact Gives.bool rfl E1.out
    have a4 : 40 < room := by omega
    clear hr
    go_enter Try.func12, Try.ntmps12
    go_wp2_with fail
    refine (HF.out _).mono ?_
    rintro e w0 ⟨rfl, hX⟩
    have E0 := Lib.hid (show Ext w w0 from hX)
    clear hX
    go_wp2_with fail
    refine (HF.out _).mono ?_
    rintro e w1 ⟨rfl, hX⟩
    have E1 := Lib.hid (E0.out.trans (show Ext w0 w1 from hX))
    clear hX
    go_wp2_with fail
    go_ret
    exact Gives.bool rfl E1.out
  case pos =>
    obtain ⟨r1, r2, r3, r4⟩ := hr
    go_enter Try.func12, Try.ntmps12
    go_wp2_with fail
    refine (HF.out _).mono ?_
    rintro e w0 ⟨rfl, hX⟩
    have E0 := Lib.hid (show Ext w w0 from hX)
    clear hX
    go_wp2_with fail
    refine (small21_any 20 room 0 w0).mono ?_
    rintro e w1 ⟨A, rfl, hE, hok⟩
    have E1 := Lib.hid (E0.out.trans hE)
    have HM := Lib.hid (made_any (cS 20 room 0 A) 100 ⟨fun _ => 0, w1⟩ hok (cS_check ⟨by omega, by omega⟩ ⟨by omega, by omega⟩ ⟨by omega, by omega⟩ (by omega)) (by omega))
    unfold Cnf.val at HM ⊢
    clear hE hok
    go_wp2_with fail
    refine HM.out.mono ?_
    rintro e w2 ⟨own2, b, bt, rfl, m2, h2⟩
    have M2 := Lib.hid (m2.mono (S := inst 100) (fun x hx => hx.elim))
    have H2 := Lib.hid (show SpaceAt ⟨own2, w2⟩ 100 b bt (sR room A) from h2)
    clear m2 h2
    go_wp2_with fail
    refine (space_ask 0 6 spine true ⟨own2, w2⟩ 100 b bt _ H2.out (by omega) ⟨(show (0 : Int) ≤ 0 by decide), (show (0 : Int) ≤ 1099511627776 by decide)⟩ (show 0 < 1000000 by decide) (by omega) (by omega)).mono ?_
    rintro e w3 ⟨v, own3, rfl, m3, g3, h3⟩
    rw [sR_ask room spine A (by omega)] at g3
    rw [sR_ask2 room spine A (by omega)] at h3
    obtain ⟨A3, c3, rfl, r3'⟩ := g3
    have M3 := Lib.hid (M2.out.trans m3)
    have R3 := Lib.hid (show Row ⟨own3, w3⟩ 0 3 1 (.slice A3 6 c3) 6 ([14, 15, 16, 17, 18, 19].map (Value.int .i64)) from r3')
    obtain ⟨bp, bk, bl, As, cs, cm, bs, h3⟩ := h3
    have H3 := Lib.hid h3
    clear m3 h3 r3'
    simp only [List.length_cons, List.length_nil, Nat.zero_add, Nat.reduceAdd]
    have a0 := H3.out.blk.cell (i := 0) rfl
    have a1 := H3.out.blk.cell (i := 1) rfl
    have a2 := H3.out.blk.cell (i := 2) rfl
    have a3 := H3.out.blk.cell (i := 3) rfl
    have a4 := H3.out.blk.cell (i := 4) rfl
    have a5 := H3.out.blk.cell (i := 5) rfl
    have a6 := H3.out.blk.cell (i := 6) rfl
    have a7 := H3.out.blk.cell (i := 7) rfl
    have a8 := H3.out.blk.cell (i := 8) rfl
    have a9 := H3.out.blk.cell (i := 9) rfl
    have a10 := H3.out.blk.cell (i := 10) rfl
    have a11 := H3.out.blk.cell (i := 11) rfl
    have a12 := H3.out.blk.cell (i := 12) rfl
    have a13 := H3.out.blk.cell (i := 13) rfl
    have a14 := H3.out.blk.cell (i := 14) rfl
    have a15 := H3.out.blk.cell (i := 15) rfl
    have al := H3.out.blk.lt
    (try simp only [GW.to] at a0 a1 a2 a3 a4 a5 a6 a7 a8 a9 a10 a11 a12 a13 a14 a15 al)
    go_wp2_with fail
    refine (sh_coil _ cm bp bk bl).mono ?_
    rintro e w4 ⟨rfl, hX⟩
    have G4 := Lib.hid (show Ext (w3.alloc (.cells #[.int .i64 1, .slice A3 6 c3, .int .i64 (-1)] 113)) w4 from hX)
    obtain ⟨own4, m4⟩ := Mod.ofExt ((show Ext w3 (w3.alloc (.cells #[.int .i64 1, .slice A3 6 c3, .int .i64 (-1)] 113)) by (repeat (first | (with_reducible assumption) | (with_reducible exact Ext.refl _) | (with_reducible exact Ext.more _ _ _ _) | apply Ext.alloc | refine Ext.setCell ?_ (by first | exact Nat.le_refl _ | exact Nat.le_add_right _ _ | assumption) _ | apply Ext.patch | apply Ext.drew | apply Ext.drewN))).trans G4.out) own3
    have M4 := Lib.hid (M3.out.trans (m4.mono (fun x hx => hx.elim)))
    have H4 := Lib.hid (H3.out.keep m4 (fun x hx => hx.elim))
    have R4 := Lib.hid (R3.out.keep m4 id)
    clear m4 hX a0 a1 a2 a3 a4 a5 a6 a7 a8 a9 a10 a11 a12 a13 a14 a15 al
    have HU := Lib.hid (show Calls Try.prog 59 #[.pointer (some ⟨bk, 0, none⟩), .int .i64 0] w4 (fun e w' => e = .returned (.int .i64 0) ∧ w4 = w') from coil_used ⟨own4, w4⟩ (100 + 2) bk 0 _ H4.out.coil (by omega))
    have g1 := (G4.out.cell (k := w3.heap.size) (o := 1) (by rw [World.size_alloc]; omega)).trans (row_cell (l := [.int .i64 1, .slice A3 6 c3, .int .i64 (-1)]) (World.row_alloc_new w3) (i := 1) rfl)
    have gl : w3.heap.size < w4.heap.size := Nat.lt_of_lt_of_le (by rw [World.size_alloc]; omega) G4.out.size
    go_wp2_with fail
    refine HU.out.mono ?_
    rintro e w' ⟨rfl, rfl⟩
    go_wp2_with fail
    refine (ints_lit (l := [14, 15, 16, 17, 18, 19]) R4.out (Ext.refl _) rfl (by omega)).mono ?_
    rintro e w5 ⟨rfl, hX⟩
    obtain ⟨own5, m5⟩ := Mod.ofExt ((show Ext w4 (w4.alloc (.cells (([14, 15, 16, 17, 18, 19] : List Int).map (Value.int .i64)).toArray 3)) by (repeat (first | (with_reducible assumption) | (with_reducible exact Ext.refl _) | (with_reducible exact Ext.more _ _ _ _) | apply Ext.alloc | refine Ext.setCell ?_ (by first | exact Nat.le_refl _ | exact Nat.le_add_right _ _ | assumption) _ | apply Ext.patch | apply Ext.drew | apply Ext.drewN))).trans (show Ext _ w5 from hX)) own4
    have M5 := Lib.hid (M4.out.trans (m5.mono (fun x hx => hx.elim)))
    have H5 := Lib.hid (show SpaceAt ⟨own5, w5⟩ 100 b bt (rk room A 0) from ⟨_, _, _, _, _, _, _, H4.out.keep m5 (fun x hx => hx.elim)⟩)
    clear m5 hX g1 gl G4 M2 H2 M3 H3 R3 M4 H4 R4 HU
    go_wp2_with fail
    go_loopw [8] (fun i wr => ∃ (k : Nat) (own : Nat → Nat), k ≤ 14 ∧ i = .int .i64 k ∧ Hid (Mod (inst 100) ⟨fun _ => 0, w1⟩ ⟨own, wr⟩) ∧ Hid (SpaceAt ⟨own, wr⟩ 100 b bt (rk room A k))) (fun i _ => 14 - (intOf i).toNat)
    case atStart => exact ⟨0, own5, Nat.zero_le _, rfl, M5, H5⟩
    case round =>
      obtain ⟨k, own6, hk, rfl, M6, H6⟩ := hrel
      clear M5 H5
      by_cases hlt : k < 14
      · go_wp2_with fail
        refine (space_ask 1 1 0 true ⟨own6, wr⟩ 100 b bt _ H6.out (by omega) ⟨(show (0 : Int) ≤ 1 + (k : Int) by omega), (show 1 + (k : Int) ≤ 1099511627776 by omega)⟩ (show 0 < 1000000 by decide) (by omega) (by omega)).mono ?_
        rintro e w7 ⟨v, own7, rfl, m7, g7, h7⟩
        rw [rk_ask room A k hlt] at g7 h7
        obtain ⟨A7, c7, rfl, r7⟩ := g7
        have M7 := Lib.hid (M6.out.trans m7)
        have H7 := Lib.hid h7
        obtain ⟨q, hq, hql, -, hqc, -⟩ := (show Row ⟨own7, w7⟩ 0 3 1 (.slice A7 1 c7) 1 [.int .i64 (13 - (k : Int))] from r7).block (by omega)
        subst hq
        have y0 := hqc 0 _ rfl
        simp only at y0 hql
        clear m7 h7 r7 hqc
        simp only [List.length_singleton]
        go_wp2_with fail
        go_roundw
        case rel =>
          obtain ⟨own8, m8⟩ := Mod.ofExt (show Ext w7 (w7.alloc (.cells #[.int .i64 1, .slice (some ⟨q, 0, none⟩) 1 c7, .int .i64 (-1)] 113)) by (repeat (first | (with_reducible assumption) | (with_reducible exact Ext.refl _) | (with_reducible exact Ext.more _ _ _ _) | apply Ext.alloc | refine Ext.setCell ?_ (by first | exact Nat.le_refl _ | exact Nat.le_add_right _ _ | assumption) _ | apply Ext.patch | apply Ext.drew | apply Ext.drewN))) own7
          obtain ⟨bp', bk', bl', As', cs', cm', bs', h8⟩ := H7.out
          exact ⟨k + 1, own8, by omega, by go_num, Lib.hid (M7.out.trans (m8.mono (fun x hx => hx.elim))), Lib.hid ⟨_, _, _, _, _, _, _, h8.keep m8 (fun x hx => hx.elim)⟩⟩
        case measure => simp [intOf]; omega
      · obtain rfl : k = 14 := by omega
        clear hlt hk
        rw [wk_zero] at H6
        rw [show ((14 : Nat) : Int) = 14 from rfl]
        obtain ⟨wb, rfl⟩ : ∃ wb : World, wb = wr := ⟨_, rfl⟩
        go_wp2_with fail
        go_loopw [10] (fun i wr => ∃ (m : Nat) (own : Nat → Nat), m ≤ 6 ∧ i = .int .i64 ((2 * m : Nat) : Int) ∧ Hid (Mod (inst 100) ⟨fun _ => 0, w1⟩ ⟨own, wr⟩) ∧ Hid (SpaceAt ⟨own, wr⟩ 100 b bt (wk room A m))) (fun i _ => 12 - (intOf i).toNat)
        case atStart => exact ⟨0, own6, Nat.zero_le _, rfl, M6, H6⟩
        case round =>
          obtain ⟨m, own7, hm, rfl, M7, H7⟩ := hrel
          clear M6 H6
          by_cases hlt : m < 6
          · obtain ⟨s1, s2⟩ := wk_sweep room A m hlt
            have HSW := Lib.hid (space_sweep ((2 * m : Nat) : Int) false ⟨own7, wr⟩ 100 b bt _ H7.out (by omega) ⟨(show (0 : Int) ≤ 15 + (m : Int) by omega), (show 15 + (m : Int) ≤ 1099511627776 by omega)⟩)
            rw [s1, s2] at HSW
            clear s1 s2
            generalize hj : 2 * m = j at *
            have hj1 : j < 12 := by omega
            have HJ := Lib.hid hj
            clear hj
            go_wp2_with fail
            refine HSW.out.mono ?_
            rintro e w8 ⟨rfl, own8, m8, h8⟩
            have M8 := Lib.hid (M7.out.trans m8)
            have H8 := Lib.hid h8
            clear m8 h8
            go_wp2_with fail
            go_roundw
            case rel => exact ⟨m + 1, own8, by omega, by have := HJ.out; rw [show 2 * (m + 1) = j + 2 by omega]; go_num, M8, H8⟩
            case measure => simp [intOf]; omega
          · obtain rfl : m = 6 := by omega
            clear hlt hm
            rw [show ((2 * 6 : Nat) : Int) = 12 from rfl]
            have HASK := Lib.hid (space_ask 2 6 spine true ⟨own7, wr⟩ 100 b bt _ H7.out (by omega) ⟨(show (0 : Int) ≤ 15 + ((6 : Nat) : Int) by decide), (show 15 + ((6 : Nat) : Int) ≤ 1099511627776 by decide)⟩ (show 0 < 1000000 by decide) (by omega) (by omega))
            by_cases hs : room < spine
            · rw [wk_ask_no room spine A r1 hs] at HASK
              go_wp2_with fail
              refine HASK.out.mono ?_
              rintro e w8 ⟨v, own8, rfl, m8, g8, h8⟩
              obtain ⟨A8, c8, rfl, r8⟩ := g8
              have M8 := Lib.hid (M7.out.trans m8)
              obtain ⟨bp', bk', bl', As', cs', cm', bs', h8⟩ := h8
              have H8 := Lib.hid h8
              clear m8 h8 r8 M7 H7
              simp only [List.length_nil]
              go_wp2_with fail
              refine (HF.out _).mono ?_
              rintro e w9 ⟨rfl, hX⟩
              have G9 := Lib.hid (show Ext (w8.alloc (.cells #[.int .i64 0, .slice A8 0 c8, .int .i64 (-1)] 113)) w9 from hX)
              obtain ⟨own9, m9⟩ := Mod.ofExt ((show Ext w8 (w8.alloc (.cells #[.int .i64 0, .slice A8 0 c8, .int .i64 (-1)] 113)) by (repeat (first | (with_reducible assumption) | (with_reducible exact Ext.refl _) | (with_reducible exact Ext.more _ _ _ _) | apply Ext.alloc | refine Ext.setCell ?_ (by first | exact Nat.le_refl _ | exact Nat.le_add_right _ _ | assumption) _ | apply Ext.patch | apply Ext.drew | apply Ext.drewN))).trans G9.out) own8
              have M9 := Lib.hid (M8.out.trans (m9.mono (fun x hx => hx.elim)))
              have H9 := Lib.hid (H8.out.keep m9 (fun x hx => hx.elim))
              have g0 := (G9.out.cell (k := w8.heap.size) (o := 0) (by rw [World.size_alloc]; omega)).trans (row_cell (l := [.int .i64 0, .slice A8 0 c8, .int .i64 (-1)]) (World.row_alloc_new w8) (i := 0) rfl)
              have gl : w8.heap.size < w9.heap.size := Nat.lt_of_lt_of_le (by rw [World.size_alloc]; omega) G9.out.size
              clear m9 hX
              have a0 := H9.out.blk.cell (i := 0) rfl
              have a1 := H9.out.blk.cell (i := 1) rfl
              have a2 := H9.out.blk.cell (i := 2) rfl
              have a3 := H9.out.blk.cell (i := 3) rfl
              have a4 := H9.out.blk.cell (i := 4) rfl
              have a5 := H9.out.blk.cell (i := 5) rfl
              have a6 := H9.out.blk.cell (i := 6) rfl
              have a7 := H9.out.blk.cell (i := 7) rfl
              have a8 := H9.out.blk.cell (i := 8) rfl
              have a9 := H9.out.blk.cell (i := 9) rfl
              have a10 := H9.out.blk.cell (i := 10) rfl
              have a11 := H9.out.blk.cell (i := 11) rfl
              have a12 := H9.out.blk.cell (i := 12) rfl
              have a13 := H9.out.blk.cell (i := 13) rfl
              have a14 := H9.out.blk.cell (i := 14) rfl
              have a15 := H9.out.blk.cell (i := 15) rfl
              have al := H9.out.blk.lt
              (try simp only [GW.to] at a0 a1 a2 a3 a4 a5 a6 a7 a8 a9 a10 a11 a12 a13 a14 a15 al)
              have HW := Lib.hid (show Calls Try.prog 45 #[shelves cm' bp' bk' bl'] w9 (Gives (.int .i64 1) w9) from sh_waits ⟨own9, w9⟩ (100 + 3) cm' bp' bk' bl' _ H9.out.line)
              unfold shelves at HW
              go_wp2_with fail
              refine HW.out.mono ?_
              rintro e w10 ⟨rfl, hX⟩
              obtain ⟨own10, m10⟩ := Mod.ofExt (show Ext w9 w10 from hX) own9
              have M10 := Lib.hid (M9.out.trans (m10.mono (fun x hx => hx.elim)))
              have H10 := Lib.hid (H9.out.keep m10 (fun x hx => hx.elim))
              clear m10 hX a0 a1 a2 a3 a4 a5 a6 a7 a8 a9 a10 a11 a12 a13 a14 a15 al
              have a0 := H10.out.blk.cell (i := 0) rfl
              have a1 := H10.out.blk.cell (i := 1) rfl
              have a2 := H10.out.blk.cell (i := 2) rfl
              have a3 := H10.out.blk.cell (i := 3) rfl
              have a4 := H10.out.blk.cell (i := 4) rfl
              have a5 := H10.out.blk.cell (i := 5) rfl
              have a6 := H10.out.blk.cell (i := 6) rfl
              have a7 := H10.out.blk.cell (i := 7) rfl
              have a8 := H10.out.blk.cell (i := 8) rfl
              have a9 := H10.out.blk.cell (i := 9) rfl
              have a10 := H10.out.blk.cell (i := 10) rfl
              have a11 := H10.out.blk.cell (i := 11) rfl
              have a12 := H10.out.blk.cell (i := 12) rfl
              have a13 := H10.out.blk.cell (i := 13) rfl
              have a14 := H10.out.blk.cell (i := 14) rfl
              have a15 := H10.out.blk.cell (i := 15) rfl
              have al := H10.out.blk.lt
              (try simp only [GW.to] at a0 a1 a2 a3 a4 a5 a6 a7 a8 a9 a10 a11 a12 a13 a14 a15 al)
              have HW2 := Lib.hid (show Calls Try.prog 41 #[shelves cm' bp' bk' bl'] w10 (Gives (.int .i64 6) w10) from sh_free ⟨own10, w10⟩ (100 + 1) cm' bp' bk' bl' _ H10.out.pool)
              unfold shelves at HW2
              go_wp2_with fail
              refine HW2.out.mono ?_
              rintro e w11 ⟨rfl, hX⟩
              have E11 := Lib.hid (show Ext w10 w11 from hX)
              clear hX
              go_wp2_with fail
              go_ret
              exact Gives.bool rfl ((E1.out.trans (M10.out.none (fun k _ hk => by simp [inst] at hk)).toExt).trans E11.out)
            · obtain ⟨y1, y2, y3⟩ := wk_ask_yes room spine A r1 (by omega) r4
              generalize ask (wk room A 6) 2 6 spine true = rr at *
              obtain ⟨gr, S8⟩ := rr
              simp only at y1 y2 y3 HASK
              subst y1
              have Y2 := Lib.hid y2
              have Y3 := Lib.hid y3
              clear y2 y3
              go_wp2_with fail
              refine HASK.out.mono ?_
              rintro e w8 ⟨v, own8, rfl, m8, g8, h8⟩
              obtain ⟨A8, c8, rfl, r8⟩ := g8
              have M8 := Lib.hid (M7.out.trans m8)
              obtain ⟨bp', bk', bl', As', cs', cm', bs', h8⟩ := h8
              have H8 := Lib.hid h8
              have R8 := Lib.hid (show Row ⟨own8, w8⟩ 0 3 1 (.slice A8 6 c8) 6 (([0, 2, 4, 6, 8, 10] : List Int).map (Value.int .i64)) from r8)
              clear m8 h8 r8 M7 H7
              simp only [List.length_cons, List.length_nil, Nat.zero_add, Nat.reduceAdd]
              have hsd : decide (room < spine) = false := decide_eq_false (by omega)
              go_wp2_with fail
              refine (HF.out _).mono ?_
              rintro e w9 ⟨rfl, hX⟩
              have G9 := Lib.hid (show Ext (w8.alloc (.cells #[.int .i64 1, .slice A8 6 c8, .int .i64 160] 113)) w9 from hX)
              obtain ⟨own9, m9⟩ := Mod.ofExt ((show Ext w8 (w8.alloc (.cells #[.int .i64 1, .slice A8 6 c8, .int .i64 160] 113)) by (repeat (first | (with_reducible assumption) | (with_reducible exact Ext.refl _) | (with_reducible exact Ext.more _ _ _ _) | apply Ext.alloc | refine Ext.setCell ?_ (by first | exact Nat.le_refl _ | exact Nat.le_add_right _ _ | assumption) _ | apply Ext.patch | apply Ext.drew | apply Ext.drewN))).trans G9.out) own8
              have M9 := Lib.hid (M8.out.trans (m9.mono (fun x hx => hx.elim)))
              have H9 := Lib.hid (H8.out.keep m9 (fun x hx => hx.elim))
              have R9 := Lib.hid (R8.out.keep m9 id)
              have g0 := (G9.out.cell (k := w8.heap.size) (o := 0) (by rw [World.size_alloc]; omega)).trans (row_cell (l := [.int .i64 1, .slice A8 6 c8, .int .i64 160]) (World.row_alloc_new w8) (i := 0) rfl)
              have g1 := (G9.out.cell (k := w8.heap.size) (o := 1) (by rw [World.size_alloc]; omega)).trans (row_cell (l := [.int .i64 1, .slice A8 6 c8, .int .i64 160]) (World.row_alloc_new w8) (i := 1) rfl)
              have g2 := (G9.out.cell (k := w8.heap.size) (o := 2) (by rw [World.size_alloc]; omega)).trans (row_cell (l := [.int .i64 1, .slice A8 6 c8, .int .i64 160]) (World.row_alloc_new w8) (i := 2) rfl)
              have gl : w8.heap.size < w9.heap.size := Nat.lt_of_lt_of_le (by rw [World.size_alloc]; omega) G9.out.size
              clear m9 hX
              go_wp2_with fail
              refine (ints_lit (l := [0, 2, 4, 6, 8, 10]) R9.out (Ext.refl _) rfl (by omega)).mono ?_
              rintro e w10 ⟨rfl, hX⟩
              obtain ⟨own10, m10⟩ := Mod.ofExt ((show Ext w9 (w9.alloc (.cells (([0, 2, 4, 6, 8, 10] : List Int).map (Value.int .i64)).toArray 3)) by (repeat (first | (with_reducible assumption) | (with_reducible exact Ext.refl _) | (with_reducible exact Ext.more _ _ _ _) | apply Ext.alloc | refine Ext.setCell ?_ (by first | exact Nat.le_refl _ | exact Nat.le_add_right _ _ | assumption) _ | apply Ext.patch | apply Ext.drew | apply Ext.drewN))).trans (show Ext _ w10 from hX)) own9
              have M10 := Lib.hid (M9.out.trans (m10.mono (fun x hx => hx.elim)))
              have H10 := Lib.hid (H9.out.keep m10 (fun x hx => hx.elim))
              clear m10 hX g0 g1 g2 gl
              have a0 := H10.out.blk.cell (i := 0) rfl
              have a1 := H10.out.blk.cell (i := 1) rfl
              have a2 := H10.out.blk.cell (i := 2) rfl
              have a3 := H10.out.blk.cell (i := 3) rfl
              have a4 := H10.out.blk.cell (i := 4) rfl
              have a5 := H10.out.blk.cell (i := 5) rfl
              have a6 := H10.out.blk.cell (i := 6) rfl
              have a7 := H10.out.blk.cell (i := 7) rfl
              have a8 := H10.out.blk.cell (i := 8) rfl
              have a9 := H10.out.blk.cell (i := 9) rfl
              have a10 := H10.out.blk.cell (i := 10) rfl
              have a11 := H10.out.blk.cell (i := 11) rfl
              have a12 := H10.out.blk.cell (i := 12) rfl
              have a13 := H10.out.blk.cell (i := 13) rfl
              have a14 := H10.out.blk.cell (i := 14) rfl
              have a15 := H10.out.blk.cell (i := 15) rfl
              have al := H10.out.blk.lt
              (try simp only [GW.to] at a0 a1 a2 a3 a4 a5 a6 a7 a8 a9 a10 a11 a12 a13 a14 a15 al)
              go_wp2_with fail
              refine (sh_coil _ cm' bp' bk' bl').mono ?_
              rintro e w11 ⟨rfl, hX⟩
              obtain ⟨own11, m11⟩ := Mod.ofExt (show Ext w10 w11 from hX) own10
              have M11 := Lib.hid (M10.out.trans (m11.mono (fun x hx => hx.elim)))
              have H11 := Lib.hid (H10.out.keep m11 (fun x hx => hx.elim))
              clear m11 hX a0 a1 a2 a3 a4 a5 a6 a7 a8 a9 a10 a11 a12 a13 a14 a15 al
              have HU := Lib.hid (show Calls Try.prog 59 #[.pointer (some ⟨bk', 0, none⟩), .int .i64 0] w11 (fun e w' => e = .returned (.int .i64 spine) ∧ w11 = w') from Y3.out ▸ coil_used ⟨own11, w11⟩ (100 + 2) bk' 0 _ H11.out.coil (by omega))
              go_wp2_with fail
              refine HU.out.mono ?_
              rintro e w' ⟨rfl, rfl⟩
              have a0 := H11.out.blk.cell (i := 0) rfl
              have a1 := H11.out.blk.cell (i := 1) rfl
              have a2 := H11.out.blk.cell (i := 2) rfl
              have a3 := H11.out.blk.cell (i := 3) rfl
              have a4 := H11.out.blk.cell (i := 4) rfl
              have a5 := H11.out.blk.cell (i := 5) rfl
              have a6 := H11.out.blk.cell (i := 6) rfl
              have a7 := H11.out.blk.cell (i := 7) rfl
              have a8 := H11.out.blk.cell (i := 8) rfl
              have a9 := H11.out.blk.cell (i := 9) rfl
              have a10 := H11.out.blk.cell (i := 10) rfl
              have a11 := H11.out.blk.cell (i := 11) rfl
              have a12 := H11.out.blk.cell (i := 12) rfl
              have a13 := H11.out.blk.cell (i := 13) rfl
              have a14 := H11.out.blk.cell (i := 14) rfl
              have a15 := H11.out.blk.cell (i := 15) rfl
              have al := H11.out.blk.lt
              (try simp only [GW.to] at a0 a1 a2 a3 a4 a5 a6 a7 a8 a9 a10 a11 a12 a13 a14 a15 al)
              have HW2 := Lib.hid (show Calls Try.prog 41 #[shelves cm' bp' bk' bl'] w11 (Gives (.int .i64 ((0 : Nat) : Int)) w11) from Y2.out ▸ sh_free ⟨own11, w11⟩ (100 + 1) cm' bp' bk' bl' _ H11.out.pool)
              unfold shelves at HW2
              go_wp2_with fail
              refine HW2.out.mono ?_
              rintro e w12 ⟨rfl, hX⟩
              have E12 := Lib.hid (show Ext w11 w12 from hX)
              clear hX
              go_wp2_with fail
              go_ret
              exact Gives.bool rfl ((E1.out.trans (M11.out.none (fun k _ hk => by simp [inst] at hk)).toExt).trans E12.out)
end Go.Proofs.Ytlddahifhefjiaa
