/-
  spolaw27.TaleMay.
-/
import Derived.Test.YtlddahifhefjiaaCheckAt
namespace Go.Proofs.Ytlddahifhefjiaa
open Go Go.RowKit
set_option linter.unusedVariables false

set_option maxRecDepth 100000 in
set_option maxHeartbeats 1000000 in
theorem mays_long (A : Option Addr) (la ca : Nat) (n : Int) (w : World) (h : 4100 < la) (ha : la ≤ 9223372036854775807) :
    Calls Try.prog 6 #[.slice A la ca, .int .i64 n] w (Gives (.bool true) w) := by
  have H := Lib.hid (fun w' => first_any w')
  go_enter Try.func6, Try.ntmps6
  go_wp2_with (go_at_call 15; refine (H.out _).mono ?_; rintro e w1 ⟨rfl, X, rfl⟩)
  go_ret
  exact Gives.bool rfl (by (repeat (first | (with_reducible assumption) | (with_reducible exact Ext.refl _) | (with_reducible exact Ext.more _ _ _ _) | apply Ext.alloc | refine Ext.setCell ?_ (by first | exact Nat.le_refl _ | exact Nat.le_add_right _ _ | assumption) _ | apply Ext.patch | apply Ext.drew | apply Ext.drewN)))

set_option maxRecDepth 100000 in
set_option maxHeartbeats 2000000 in
theorem mays_short (A : Option Addr) (ca : Nat) (bs : List Int) (n : Int) (w : World) (ha : CellsAt w A (bs.map (Value.int .u8))) (hca : bs.length ≤ ca) (hcam : ca ≤ 9223372036854775807) (hl : bs.length ≤ 4100) (hw : ∀ x ∈ bs, 0 ≤ x ∧ x ≤ 255) (hn : -9223372036854775808 ≤ n ∧ n ≤ 9223372036854775807) :
    Calls Try.prog 6 #[.slice A bs.length ca, .int .i64 n] w (Gives (.bool true) w) := by
  have H := Lib.hid (fun w' => first_any w')
  have H1 := Lib.hid (fun w' (he : Ext w w') => opsC A ca bs w' (ha.ext he) hca hcam (by omega) hw)
  have H3 := Lib.hid (fun w' (he : Ext w w') => picks_any A ca bs 3 w' (ha.ext he) (by omega) hw (by decide))
  have H5 := Lib.hid (fun w' => small_any n w' hn.1 hn.2)
  have HT := Lib.hid (show ∀ k, k < opCount bs → (opsOf bs)[k]? = some (opAt bs k) from fun k h => opsTo_get bs (n := opCount bs) (i := k) h)
  have HK := Lib.hid (fun i => opAt_small hw i)
  have HF := Lib.hid (fun i => opAt_fit bs i)
  have HZ := Lib.hid (show ∀ (k : Nat) (x : Int), (picksOf bs 3)[k]? = some x → 0 ≤ x ∧ x ≤ 3 from fun k x h => by
    unfold picksOf at h
    rw [List.getElem?_map] at h
    cases hb : bs[k]? with
    | none => simp [hb] at h
    | some y => simp [hb, pickOf] at h; omega)
  have hNq : (opCount bs : Int) = if 1000 < (bs.length : Int) / 4 then 1000 else (bs.length : Int) / 4 := by unfold opCount; split <;> omega
  have hN : opCount bs ≤ 1000 := by unfold opCount; omega
  have hPL : (picksOf bs 3).length = bs.length := by simp [picksOf]
  have HPL := Lib.hid hPL
  have HNQ := Lib.hid hNq
  clear ha hw hn hPL hNq
  go_enter Try.func6, Try.ntmps6
  go_wp2_with fail
  refine (H.out _).mono ?_
  rintro e w1 ⟨rfl, hE1⟩
  have HE1 := Lib.hid (show Ext w w1 from hE1)
  clear hE1
  go_wp2_with fail
  refine (H5.out _).mono ?_
  rintro e w2 ⟨c, rfl, hs, ho, hE2⟩
  have HE2 := Lib.hid (HE1.out.trans hE2)
  have HCK := Lib.hid (fun (o : Opr) (h1 : o.Small) (h2 : o.Fit) w' (he : Ext w2 w') => checkAt hs o h1 h2 w' (ho.ext he))
  have HC0 := Lib.hid (fun w' (he : Ext w2 w') => check_any c w' (ho.ext he))
  rw [sig_check hs] at HC0
  have h5 := (sig_parts hs).2.2.2.2.1
  unfold Cnf.val at HCK HC0 ⊢
  rw [h5] at HCK HC0 ⊢
  clear hs ho hE2
  go_wp2_with fail
  refine (HC0.out _ (by (repeat (first | (with_reducible assumption) | (with_reducible exact Ext.refl _) | (with_reducible exact Ext.more _ _ _ _) | (with_reducible apply Ext.alloc) | (with_reducible apply Ext.patch) | (with_reducible apply Ext.drew) | (with_reducible apply Ext.drewN) | (with_reducible refine Ext.setCell ?_ (by first | assumption | exact Nat.le_refl _ | exact Nat.le_add_right _ _) _))))).mono ?_
  rintro e w3 ⟨rfl, hE3'⟩
  have hE3 : Ext (w2.alloc (.cells #[.int .i64 c.frags, .int .i64 c.spine, .int .i64 c.globals, .int .i64 c.threads, .int .i64 c.locals, .int .i64 c.cache, .int .i64 c.stack, .int .i64 c.low, .slice c.A 5 c.cap] 37)) w3 := hE3'
  clear hE3'
  have g0 : w3.cell? ⟨w2.heap.size, 0, none⟩ = some (.int .i64 c.frags) := (ext_cell hE3 (by go_simp)).trans (by go_simp)
  have g1 : w3.cell? ⟨w2.heap.size, 1, none⟩ = some (.int .i64 c.spine) := (ext_cell hE3 (by go_simp)).trans (by go_simp)
  have g2 : w3.cell? ⟨w2.heap.size, 2, none⟩ = some (.int .i64 c.globals) := (ext_cell hE3 (by go_simp)).trans (by go_simp)
  have g3 : w3.cell? ⟨w2.heap.size, 3, none⟩ = some (.int .i64 c.threads) := (ext_cell hE3 (by go_simp)).trans (by go_simp)
  have g4 : w3.cell? ⟨w2.heap.size, 4, none⟩ = some (.int .i64 c.locals) := (ext_cell hE3 (by go_simp)).trans (by go_simp)
  have g5 : w3.cell? ⟨w2.heap.size, 5, none⟩ = some (.int .i64 c.cache) := (ext_cell hE3 (by go_simp)).trans (by go_simp)
  have g6 : w3.cell? ⟨w2.heap.size, 6, none⟩ = some (.int .i64 c.stack) := (ext_cell hE3 (by go_simp)).trans (by go_simp)
  have g7 : w3.cell? ⟨w2.heap.size, 7, none⟩ = some (.int .i64 c.low) := (ext_cell hE3 (by go_simp)).trans (by go_simp)
  have g8 : w3.cell? ⟨w2.heap.size, 8, none⟩ = some (.slice c.A 5 c.cap) := (ext_cell hE3 (by go_simp)).trans (by go_simp)
  have hz : w2.heap.size < w3.heap.size := Nat.lt_of_lt_of_le (by go_simp) hE3.size
  have HX3 := Lib.hid (show Ext w2 w3 from (show Ext w2 _ by (repeat (first | (with_reducible assumption) | (with_reducible exact Ext.refl _) | (with_reducible exact Ext.more _ _ _ _) | (with_reducible apply Ext.alloc) | (with_reducible apply Ext.patch) | (with_reducible apply Ext.drew) | (with_reducible apply Ext.drewN) | (with_reducible refine Ext.setCell ?_ (by first | assumption | exact Nat.le_refl _ | exact Nat.le_add_right _ _) _)))).trans hE3)
  have HE3 := Lib.hid (HE2.out.trans HX3.out)
  clear hE3
  go_wp2_with fail
  refine (H1.out _ HE3.out).mono ?_
  rintro e w4 ⟨v, rfl, hown, hE4⟩
  rw [opsOf_length] at hown
  obtain ⟨Al, cl, rfl⟩ := own_form hown
  have HL := Lib.hid (cellsAt_of_own hown)
  have HX4 := Lib.hid (show Ext w3 w4 from hE4)
  clear hown hE4
  generalize opCount bs = N at *
  have hif := HNQ.out.symm
  go_wp2_with fail
  go_loopw [7] (fun i wr => ∃ k : Nat, k ≤ N ∧ i = .int .i64 k ∧ Ext w4 wr) (fun i _ => N - (intOf i).toNat)
  case atStart => exact ⟨0, Nat.zero_le _, rfl, Ext.refl _⟩
  case round =>
    obtain ⟨k, hk, rfl, hE⟩ := hrel
    have HE := Lib.hid (show Ext w4 wr from hE)
    have HXr := Lib.hid (HX4.out.trans HE.out)
    clear hE
    by_cases hlt : k < N
    · obtain ⟨b, off, rfl, hbl, l0, l1, l2, l3, l4, l5⟩ := oprs_at (HL.out.ext HE.out) (HT.out k hlt)
      have hc := HCK.out (opAt bs k) (HK.out k) (HF.out k)
      generalize opAt bs k = o at *
      simp only [Opr.val] at hc
      have HC := Lib.hid hc
      clear hc
      have r0 := (ext_cell HXr.out hz).trans g0
      have r1 := (ext_cell HXr.out hz).trans g1
      have r2 := (ext_cell HXr.out hz).trans g2
      have r3 := (ext_cell HXr.out hz).trans g3
      have r4 := (ext_cell HXr.out hz).trans g4
      have r5 := (ext_cell HXr.out hz).trans g5
      have r6 := (ext_cell HXr.out hz).trans g6
      have r7 := (ext_cell HXr.out hz).trans g7
      have r8 := (ext_cell HXr.out hz).trans g8
      have hzr : w2.heap.size < wr.heap.size := Nat.lt_of_lt_of_le hz HXr.out.size
      have HXw := Lib.hid (HX3.out.trans HXr.out)
      clear g0 g1 g2 g3 g4 g5 g6 g7 g8
      go_wp2_with fail
      refine wp_region_mixed [true, true, true, true, true, true, true] 0 7 (by kernel_rfl) (by kernel_rfl) (by kernel_rfl) ?_ (by decide) (by decide) (by decide) (by kernel_rfl) ?_
      · intro c a d v w h; cases d <;> exact h
      intro X00
      simp only [pickOps]
      repeat (go_big_quiet_step ((go_at_call 32; exact Calls.added (HC.out _ (HXw.out.patch _)))))
      refine wpQuiet_nil (fun X0 => ?_)
      clear X00
      refine wpAnyM_done (by kernel_rfl) (fun X0' => ?_) _
      go_wp2_with fail
      go_roundw
      case rel => exact ⟨k + 1, by omega, by go_num, HE.out.patch _⟩
      case measure => simp [intOf]; omega
    · obtain rfl : k = N := by omega
      go_wp2_with fail
      refine (H3.out _ (HE3.out.trans HXr.out)).mono ?_
      rintro e w6 ⟨v, rfl, hown6, hE6⟩
      obtain ⟨Ap, cp, rfl⟩ := own_form hown6
      have HC6 := Lib.hid (cellsAt_of_own hown6)
      have HE6 := Lib.hid ((HE3.out.trans HXr.out).trans hE6)
      clear hown6 hE6
      go_wp2_with fail
      go_loopw [10] (fun i wr2 => ∃ k : Nat, k ≤ bs.length ∧ i = .int .i64 k ∧ Ext w6 wr2) (fun i _ => bs.length - (intOf i).toNat)
      case atStart => exact ⟨0, Nat.zero_le _, rfl, Ext.refl _⟩
      case round =>
        obtain ⟨j, hj, rfl, Y, rfl⟩ := hrel
        by_cases hlt2 : j < bs.length
        · obtain ⟨b, off, rfl, hbl, hc⟩ := words_at HC6.out (show j < (picksOf bs 3).length by rw [HPL.out]; exact hlt2)
          have q0 := hc j (by rw [HPL.out]; exact hlt2)
          have hzz := HZ.out j ((picksOf bs 3).getD j 0) (by rw [List.getD_eq_getElem?_getD, List.getElem?_eq_getElem (by rw [HPL.out]; exact hlt2)]; rfl)
          generalize (picksOf bs 3).getD j 0 = x at *
          have hx1 : decide (x < 0) = false := decide_eq_false (by omega)
          have hx2 : decide (3 < x) = false := decide_eq_false (by omega)
          clear hc hzz
          go_wp2_with fail
          go_roundw
          case rel => exact ⟨j + 1, by omega, by go_num, by (repeat (first | (with_reducible assumption) | (with_reducible exact Ext.refl _) | (with_reducible exact Ext.more _ _ _ _) | apply Ext.alloc | refine Ext.setCell ?_ (by first | exact Nat.le_refl _ | exact Nat.le_add_right _ _ | assumption) _ | apply Ext.patch | apply Ext.drew | apply Ext.drewN))⟩
          case measure => simp [intOf]; omega
        · obtain rfl : j = bs.length := by omega
          go_wp2_with fail
          refine (H.out _).mono ?_
          rintro e w7 ⟨rfl, hE7⟩
          have HE7 := Lib.hid hE7
          clear hE7
          go_wp2_with fail
          go_ret
          exact Gives.bool (by simp) ((HE6.out.patch Y).trans HE7.out)
end Go.Proofs.Ytlddahifhefjiaa
