/-
  spolaw27.TaleTells.
-/
import Derived.Test.YtlddahifhefjiaaTaleP
import Derived.Test.YtlddahifhefjiaaRefOps
import Derived.Test.YtlddahifhefjiaaRefSmall
namespace Go.Proofs.Ytlddahifhefjiaa
open Go Go.RowKit
set_option linter.unusedVariables false

set_option maxRecDepth 100000 in
set_option maxHeartbeats 1000000 in
theorem tells_long (A : Option Addr) (la ca : Nat) (n t : Int) (w : World) (h : 4100 < la) (ha : la ≤ 9223372036854775807) :
    Calls Try.prog 3 #[.slice A la ca, .int .i64 n, .int .i64 t] w (Gives (.bool true) w) := by
  have H := Lib.hid (fun w' => first_any w')
  go_enter Try.func3, Try.ntmps3
  go_wp2_with (go_at_call 15; refine (H.out _).mono ?_; rintro e w1 ⟨rfl, X, rfl⟩)
  go_ret
  exact Gives.bool rfl (by (repeat (first | (with_reducible assumption) | (with_reducible exact Ext.refl _) | (with_reducible exact Ext.more _ _ _ _) | apply Ext.alloc | refine Ext.setCell ?_ (by first | exact Nat.le_refl _ | exact Nat.le_add_right _ _ | assumption) _ | apply Ext.patch | apply Ext.drew | apply Ext.drewN)))

theorem word_refl (o : Opr) (w : World) : Calls Try.prog 19 #[.complex .f64 o.re o.im, .complex .f64 o.re o.im] w (Gives (.bool true) w) :=
  (word_any (o.re, o.im) (o.re, o.im) w).mono fun e w' ⟨h1, h2⟩ => ⟨by rw [h1]; simp [sameW], ⟨#[], w.drawn⟩, by rw [← h2]; simp [World.patch]⟩

set_option maxRecDepth 100000 in
set_option maxHeartbeats 2000000 in
theorem tells_short (A : Option Addr) (ca : Nat) (bs : List Int) (n t : Int) (w : World) (ha : CellsAt w A (bs.map (Value.int .u8))) (hca : bs.length ≤ ca) (hcam : ca ≤ 9223372036854775807) (hl : bs.length ≤ 4100) (hw : ∀ x ∈ bs, 0 ≤ x ∧ x ≤ 255) (hn : -9223372036854775808 ≤ n ∧ n ≤ 9223372036854775807) (ht : -9223372036854775808 ≤ t ∧ t ≤ 9223372036854775807) :
    Calls Try.prog 3 #[.slice A bs.length ca, .int .i64 n, .int .i64 t] w (Gives (.bool true) w) := by
  have H := Lib.hid (fun w' => first_any w')
  have H1 := Lib.hid (fun w' (he : Ext w w') => opsC A ca bs w' (ha.ext he) hca hcam (by omega) hw)
  have H2 := Lib.hid (fun w' (he : Ext w w') => refOps_any A ca bs w' (ha.ext he) hca hcam (by omega) hw)
  have H3 := Lib.hid (fun w' (he : Ext w w') => picks_any A ca bs t w' (ha.ext he) (by omega) hw ht)
  have H4 := Lib.hid (fun w' (he : Ext w w') => refPicks_any A ca bs t w' (ha.ext he) (by omega) hw ht)
  have H5 := Lib.hid (fun w' => small_any n w' hn.1 hn.2)
  have H6 := Lib.hid (fun w' => refSmall_any n w' hn.1 hn.2)
  have HP := Lib.hid (fun i => print_at hw i)
  have HT := Lib.hid (show ∀ k, k < opCount bs → (opsOf bs)[k]? = some (opAt bs k) from fun k h => opsTo_get bs (n := opCount bs) (i := k) h)
  have hN : opCount bs ≤ 1000 := by unfold opCount; omega
  have HPL := Lib.hid (show (picksOf bs t).length = bs.length by simp [picksOf])
  clear ha hw hn ht
  go_enter Try.func3, Try.ntmps3
  go_wp2_with fail
  refine (H.out _).mono ?_
  rintro e w1 ⟨rfl, hE1⟩
  have HE1 := Lib.hid (show Ext w w1 from hE1)
  clear hE1
  go_wp2_with fail
  refine (H1.out _ HE1.out).mono ?_
  rintro e w2 ⟨v, rfl, hown, hE2⟩
  rw [opsOf_length] at hown
  obtain ⟨Al, cl, rfl⟩ := own_form hown
  have HL := Lib.hid (cellsAt_of_own hown)
  have HE2 := Lib.hid (HE1.out.trans hE2)
  clear hown hE2
  go_wp2_with fail
  refine (H2.out _ HE2.out).mono ?_
  rintro e w3 ⟨v, rfl, hown, hE3⟩
  rw [opsOf_length] at hown
  obtain ⟨Am, cm, rfl⟩ := own_form hown
  have HM := Lib.hid (cellsAt_of_own hown)
  have HL3 := Lib.hid (HL.out.ext hE3)
  have HE3 := Lib.hid (HE2.out.trans hE3)
  clear hown hE3
  generalize opCount bs = N at *
  go_wp2_with fail
  go_loopw [9] (fun i wr => ∃ k : Nat, k ≤ N ∧ i = .int .i64 k ∧ Ext w3 wr) (fun i _ => N - (intOf i).toNat)
  case atStart => exact ⟨0, Nat.zero_le _, rfl, Ext.refl _⟩
  case round =>
    obtain ⟨k, hk, rfl, hE⟩ := hrel
    have HE := Lib.hid (show Ext w3 wr from hE)
    clear hE
    by_cases hlt : k < N
    · obtain ⟨b, off, hAl, hbl, l0, l1, l2, l3, l4, l5⟩ := oprs_at (HL3.out.ext HE.out) (HT.out k hlt)
      obtain ⟨b', off', hAm, hbl', m0, m1, m2, m3, m4, m5⟩ := oprs_at (HM.out.ext HE.out) (HT.out k hlt)
      subst hAl hAm
      obtain ⟨s, hs⟩ := HP.out k
      generalize opAt bs k = o at *
      simp only [Opr.val] at hs
      have HS := Lib.hid hs
      clear hs
      go_wp2_with fail
      go_cut [10, 11] (fun s6 s7 wx => ∃ p q : Nat, s6 = .pointer (some ⟨p, 0, none⟩) ∧ s7 = .pointer (some ⟨q, 0, none⟩) ∧ wx.cell? ⟨p, 0, none⟩ = some (.int .i64 o.kind) ∧ wx.cell? ⟨p, 1, none⟩ = some (.int .i64 o.a) ∧ wx.cell? ⟨p, 2, none⟩ = some (.int .i64 o.b) ∧ wx.cell? ⟨p, 3, none⟩ = some (.int .i64 o.c) ∧ wx.cell? ⟨p, 4, none⟩ = some (.int .i64 o.n) ∧ wx.cell? ⟨p, 5, none⟩ = some (.complex .f64 o.re o.im) ∧ wx.cell? ⟨q, 0, none⟩ = some (.int .i64 o.kind) ∧ wx.cell? ⟨q, 1, none⟩ = some (.int .i64 o.a) ∧ wx.cell? ⟨q, 2, none⟩ = some (.int .i64 o.b) ∧ wx.cell? ⟨q, 3, none⟩ = some (.int .i64 o.c) ∧ wx.cell? ⟨q, 4, none⟩ = some (.int .i64 o.n) ∧ wx.cell? ⟨q, 5, none⟩ = some (.complex .f64 o.re o.im) ∧ p < wx.heap.size ∧ q < wx.heap.size ∧ Ext wr wx)
      case first =>
        refine wp_region_mixed [true, true, true, true, true, true, true, true, false, false, false, false] 4 12 (by kernel_rfl) (by kernel_rfl) (by kernel_rfl) ?_ (by decide) (by decide) (by decide) (by kernel_rfl) ?_
        · intro c a d v w h; cases d <;> exact h
        intro X00
        simp only [pickOps]
        repeat (go_big_quiet_step (fail))
        refine wpQuiet_nil (fun X0 => ?_)
        clear X00
        refine wpAnyM_two 8 9 _ _ (by kernel_rfl) rfl rfl rfl rfl (by decide) (by decide) (fun X1 K Q' hK => ?ordA) (fun X1 K Q' hK => ?ordB)
        case' ordA =>
          go_simp
          refine hK _ _ ?_ ?_
          · (repeat (first | (with_reducible assumption) | (with_reducible exact Ext.refl _) | (with_reducible exact Ext.more _ _ _ _) | apply Ext.alloc | refine Ext.setCell ?_ (by first | exact Nat.le_refl _ | exact Nat.le_add_right _ _ | assumption) _ | apply Ext.patch | apply Ext.drew | apply Ext.drewN))
          clear hK K Q'
          refine wpAnyM_one 9 _ (by kernel_rfl) rfl rfl (by decide) (fun X3 K Q' hK => ?_)
          go_simp
          refine hK _ _ ?_ ?_
          · (repeat (first | (with_reducible assumption) | (with_reducible exact Ext.refl _) | (with_reducible exact Ext.more _ _ _ _) | apply Ext.alloc | refine Ext.setCell ?_ (by first | exact Nat.le_refl _ | exact Nat.le_add_right _ _ | assumption) _ | apply Ext.patch | apply Ext.drew | apply Ext.drewN))
          clear hK K Q'
          have TN := World.two_new (wr.patch ⟨X0.blocks ++ X1.blocks, X1.drawn⟩) X3 (.cells #[.int .i64 0, .int .i64 0, .int .i64 0, .int .i64 0, .int .i64 0, .complex .f64 0 0] 28) (.cells #[.int .i64 0, .int .i64 0, .int .i64 0, .int .i64 0, .int .i64 0, .complex .f64 0 0] 28)
          have TE : Ext wr _ := Ext.trans ⟨_, rfl⟩ TN.2.2.2.2
          have TS : wr.heap.size ≤ (wr.patch ⟨X0.blocks ++ X1.blocks, X1.drawn⟩).heap.size := by rw [World.size_patch]; omega
          generalize (((wr.patch ⟨X0.blocks ++ X1.blocks, X1.drawn⟩).alloc (.cells #[.int .i64 0, .int .i64 0, .int .i64 0, .int .i64 0, .int .i64 0, .complex .f64 0 0] 28)).patch X3).alloc (.cells #[.int .i64 0, .int .i64 0, .int .i64 0, .int .i64 0, .int .i64 0, .complex .f64 0 0] 28) = W5 at *
          generalize (((wr.patch ⟨X0.blocks ++ X1.blocks, X1.drawn⟩).alloc (.cells #[.int .i64 0, .int .i64 0, .int .i64 0, .int .i64 0, .int .i64 0, .complex .f64 0 0] 28)).patch X3).heap.size = q5 at *
          generalize (wr.patch ⟨X0.blocks ++ X1.blocks, X1.drawn⟩).heap.size = p5 at *
          obtain ⟨t1, t2, t3, t4, _⟩ := TN
          have TQ : wr.heap.size ≤ q5 := by omega
        case' ordB =>
          go_simp
          refine hK _ _ ?_ ?_
          · (repeat (first | (with_reducible assumption) | (with_reducible exact Ext.refl _) | (with_reducible exact Ext.more _ _ _ _) | apply Ext.alloc | refine Ext.setCell ?_ (by first | exact Nat.le_refl _ | exact Nat.le_add_right _ _ | assumption) _ | apply Ext.patch | apply Ext.drew | apply Ext.drewN))
          clear hK K Q'
          refine wpAnyM_one 8 _ (by kernel_rfl) rfl rfl (by decide) (fun X3 K Q' hK => ?_)
          go_simp
          refine hK _ _ ?_ ?_
          · (repeat (first | (with_reducible assumption) | (with_reducible exact Ext.refl _) | (with_reducible exact Ext.more _ _ _ _) | apply Ext.alloc | refine Ext.setCell ?_ (by first | exact Nat.le_refl _ | exact Nat.le_add_right _ _ | assumption) _ | apply Ext.patch | apply Ext.drew | apply Ext.drewN))
          clear hK K Q'
          have TN := World.two_new (wr.patch ⟨X0.blocks ++ X1.blocks, X1.drawn⟩) X3 (.cells #[.int .i64 0, .int .i64 0, .int .i64 0, .int .i64 0, .int .i64 0, .complex .f64 0 0] 28) (.cells #[.int .i64 0, .int .i64 0, .int .i64 0, .int .i64 0, .int .i64 0, .complex .f64 0 0] 28)
          have TE : Ext wr _ := Ext.trans ⟨_, rfl⟩ TN.2.2.2.2
          have TS : wr.heap.size ≤ (wr.patch ⟨X0.blocks ++ X1.blocks, X1.drawn⟩).heap.size := by rw [World.size_patch]; omega
          generalize (((wr.patch ⟨X0.blocks ++ X1.blocks, X1.drawn⟩).alloc (.cells #[.int .i64 0, .int .i64 0, .int .i64 0, .int .i64 0, .int .i64 0, .complex .f64 0 0] 28)).patch X3).alloc (.cells #[.int .i64 0, .int .i64 0, .int .i64 0, .int .i64 0, .int .i64 0, .complex .f64 0 0] 28) = W5 at *
          generalize (((wr.patch ⟨X0.blocks ++ X1.blocks, X1.drawn⟩).alloc (.cells #[.int .i64 0, .int .i64 0, .int .i64 0, .int .i64 0, .int .i64 0, .complex .f64 0 0] 28)).patch X3).heap.size = q5 at *
          generalize (wr.patch ⟨X0.blocks ++ X1.blocks, X1.drawn⟩).heap.size = p5 at *
          obtain ⟨t1, t2, t3, t4, _⟩ := TN
          have TQ : wr.heap.size ≤ q5 := by omega
        all_goals
          have z0 := row_cell (l := [.int .i64 0, .int .i64 0, .int .i64 0, .int .i64 0, .int .i64 0, .complex .f64 0 0]) (i := 0) t1 rfl
          have z1 := row_cell (l := [.int .i64 0, .int .i64 0, .int .i64 0, .int .i64 0, .int .i64 0, .complex .f64 0 0]) (i := 1) t1 rfl
          have z2 := row_cell (l := [.int .i64 0, .int .i64 0, .int .i64 0, .int .i64 0, .int .i64 0, .complex .f64 0 0]) (i := 2) t1 rfl
          have z3 := row_cell (l := [.int .i64 0, .int .i64 0, .int .i64 0, .int .i64 0, .int .i64 0, .complex .f64 0 0]) (i := 3) t1 rfl
          have z4 := row_cell (l := [.int .i64 0, .int .i64 0, .int .i64 0, .int .i64 0, .int .i64 0, .complex .f64 0 0]) (i := 4) t1 rfl
          have z5 := row_cell (l := [.int .i64 0, .int .i64 0, .int .i64 0, .int .i64 0, .int .i64 0, .complex .f64 0 0]) (i := 5) t1 rfl
          have y0 := row_cell (l := [.int .i64 0, .int .i64 0, .int .i64 0, .int .i64 0, .int .i64 0, .complex .f64 0 0]) (i := 0) t2 rfl
          have y1 := row_cell (l := [.int .i64 0, .int .i64 0, .int .i64 0, .int .i64 0, .int .i64 0, .complex .f64 0 0]) (i := 1) t2 rfl
          have y2 := row_cell (l := [.int .i64 0, .int .i64 0, .int .i64 0, .int .i64 0, .int .i64 0, .complex .f64 0 0]) (i := 2) t2 rfl
          have y3 := row_cell (l := [.int .i64 0, .int .i64 0, .int .i64 0, .int .i64 0, .int .i64 0, .complex .f64 0 0]) (i := 3) t2 rfl
          have y4 := row_cell (l := [.int .i64 0, .int .i64 0, .int .i64 0, .int .i64 0, .int .i64 0, .complex .f64 0 0]) (i := 4) t2 rfl
          have y5 := row_cell (l := [.int .i64 0, .int .i64 0, .int .i64 0, .int .i64 0, .int .i64 0, .complex .f64 0 0]) (i := 5) t2 rfl
          have f0 := fun i => row_live (i := i) (l := [.int .i64 0, .int .i64 0, .int .i64 0, .int .i64 0, .int .i64 0, .complex .f64 0 0]) t1
          have f1 := fun i => row_live (i := i) (l := [.int .i64 0, .int .i64 0, .int .i64 0, .int .i64 0, .int .i64 0, .complex .f64 0 0]) t2
          have n1 : ¬ p5 = q5 := by omega
          have n2 : ¬ q5 = p5 := by omega
          have n3 : p5 < W5.heap.size := by omega
          clear t1 t2
          refine wpAnyM_one 10 _ (by kernel_rfl) rfl rfl (by decide) (fun X1 K Q' hK => ?_)
          go_simp
          refine hK _ _ ?_ ?_
          · (repeat (first | (with_reducible assumption) | (with_reducible exact Ext.refl _) | (with_reducible exact Ext.more _ _ _ _) | (with_reducible apply Ext.alloc) | (with_reducible apply Ext.patch) | (with_reducible apply Ext.drew) | (with_reducible apply Ext.drewN) | (with_reducible refine Ext.setCell ?_ (by first | assumption | exact Nat.le_refl _ | exact Nat.le_add_right _ _) _)))
          clear hK K Q'
          refine wpAnyM_one 11 _ (by kernel_rfl) rfl rfl (by decide) (fun X1 K Q' hK => ?_)
          go_simp
          refine hK _ _ ?_ ?_
          · (repeat (first | (with_reducible assumption) | (with_reducible exact Ext.refl _) | (with_reducible exact Ext.more _ _ _ _) | (with_reducible apply Ext.alloc) | (with_reducible apply Ext.patch) | (with_reducible apply Ext.drew) | (with_reducible apply Ext.drewN) | (with_reducible refine Ext.setCell ?_ (by first | assumption | exact Nat.le_refl _ | exact Nat.le_add_right _ _) _)))
          clear hK K Q'
          refine wpAnyM_done (by kernel_rfl) (fun X2 => ?_) _
          go_wp2_with fail
          go_meet
        · exact ⟨q5, p5, rfl, rfl, by go_simp, by go_simp, by go_simp, by go_simp, by go_simp, by go_simp, by go_simp, by go_simp, by go_simp, by go_simp, by go_simp, by go_simp, by go_simp, by go_simp, by (repeat (first | (with_reducible assumption) | (with_reducible exact Ext.refl _) | (with_reducible exact Ext.more _ _ _ _) | (with_reducible apply Ext.alloc) | (with_reducible apply Ext.patch) | (with_reducible apply Ext.drew) | (with_reducible apply Ext.drewN) | (with_reducible refine Ext.setCell ?_ (by first | assumption | exact Nat.le_refl _ | exact Nat.le_add_right _ _) _)))⟩
        · exact ⟨p5, q5, rfl, rfl, by go_simp, by go_simp, by go_simp, by go_simp, by go_simp, by go_simp, by go_simp, by go_simp, by go_simp, by go_simp, by go_simp, by go_simp, by go_simp, by go_simp, by (repeat (first | (with_reducible assumption) | (with_reducible exact Ext.refl _) | (with_reducible exact Ext.more _ _ _ _) | (with_reducible apply Ext.alloc) | (with_reducible apply Ext.patch) | (with_reducible apply Ext.drew) | (with_reducible apply Ext.drewN) | (with_reducible refine Ext.setCell ?_ (by first | assumption | exact Nat.le_refl _ | exact Nat.le_add_right _ _) _)))⟩
      case rest =>
        obtain ⟨p, q, rfl, rfl, p0, p1, p2, p3, p4, p5, q0, q1, q2, q3, q4, q5, hp, hq, hE2⟩ := hcut
        have HE2 := Lib.hid (HE.out.trans (show Ext wr wc from hE2))
        clear hE2 l0 l1 l2 l3 l4 l5 m0 m1 m2 m3 m4 m5
        have HW := Lib.hid (fun w' => word_refl o w')
        go_wp2_with fail
        refine wp_region_mixed [true, true, true, true, true, true, true, true, true, true, true, true, true, true, true, true, true, true, true, true, true, true, true, true, true, true, true, true, true, true, true, true, true, true, true, true, true, true, true, true, true] 0 41 (by kernel_rfl) (by kernel_rfl) (by kernel_rfl) ?_ (by decide) (by decide) (by decide) (by kernel_rfl) ?_
        · intro c a d v w h; cases d <;> exact h
        intro X00
        simp only [pickOps]
        repeat (go_big_quiet_step (first | (go_at_call 18; exact Calls.added (HS.out _)) | (go_at_call 19; exact Calls.added (HW.out _))))
        refine wpQuiet_nil (fun X0 => ?_)
        clear X00
        refine wpAnyM_done (by kernel_rfl) (fun X0' => ?_) _
        go_wp2_with fail
        go_roundw
        case rel => exact ⟨k + 1, by omega, by go_num, HE2.out.patch _⟩
        case measure => simp [intOf]; omega
    · obtain rfl : k = N := by omega
      have HEw := Lib.hid (HE3.out.trans HE.out)
      go_wp2_with fail
      refine (H.out _).mono ?_
      rintro e w4 ⟨rfl, hE4⟩
      have HE4 := Lib.hid (HEw.out.trans hE4)
      clear hE4
      go_wp2_with fail
      refine (H3.out _ HE4.out).mono ?_
      rintro e w5 ⟨v, rfl, hown, hE5⟩
      obtain ⟨A5, c5, rfl⟩ := own_form hown
      have HC5 := Lib.hid (cellsAt_of_own hown)
      have HE5 := Lib.hid (HE4.out.trans hE5)
      clear hown hE5
      go_wp2_with fail
      refine (H4.out _ HE5.out).mono ?_
      rintro e w6 ⟨v, rfl, hown, hE6⟩
      obtain ⟨A6, c6, rfl⟩ := own_form hown
      have HI := Lib.hid (ints_any A5 A6 c5 c6 (picksOf bs t) (picksOf bs t) w6 (HC5.out.ext hE6) (cellsAt_of_own hown) (by rw [HPL.out]; omega) (by rw [HPL.out]; omega))
      rw [HPL.out] at HI
      have HE6 := Lib.hid (HE5.out.trans hE6)
      clear hown hE6
      go_wp2_with fail
      refine HI.out.mono ?_
      rw [show decide True = true from rfl]
      rintro e w7 ⟨rfl, hE7⟩
      have HE7 := Lib.hid (HE6.out.trans hE7)
      clear hE7
      go_wp2_with fail
      refine (H5.out _).mono ?_
      rintro e w8 ⟨c, rfl, hs8, ho8, hE8⟩
      have HS8 := Lib.hid hs8
      have HO8 := Lib.hid ho8
      have HE8 := Lib.hid (HE7.out.trans hE8)
      clear hE8 hs8 ho8
      go_wp2_with fail
      refine (H6.out _).mono ?_
      rintro e w9 ⟨d, rfl, hs9, ho9, hE9⟩
      have HSm := Lib.hid (same_any c d w9 (HO8.out.ext hE9) ho9 (HS8.out.trans hs9.symm))
      have HE9 := Lib.hid (HE8.out.trans hE9)
      clear hs9 ho9 hE9
      go_wp2_with fail
      refine HSm.out.mono ?_
      rintro e w10 ⟨rfl, hE10⟩
      have HE10 := Lib.hid (HE9.out.trans hE10)
      clear hE10
      go_wp2_with fail
      go_ret
      exact Gives.bool rfl HE10.out
end Go.Proofs.Ytlddahifhefjiaa
