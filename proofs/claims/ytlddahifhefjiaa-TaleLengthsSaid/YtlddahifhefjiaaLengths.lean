/-
  spolaw27.TaleLengths.
-/
import Derived.Test.YtlddahifhefjiaaTaleP
import Derived.Test.YtlddahifhefjiaaApp
namespace Go.Proofs.Ytlddahifhefjiaa
open Go Go.RowKit
set_option linter.unusedVariables false

theorem infoByte : (Try.prog.info? 5).map (fun i => (i.zero, i.size, i.bytes)) = some (some (.int .u8 0), 1, 1) := by kernel_rfl

set_option maxRecDepth 100000 in
set_option maxHeartbeats 1000000 in
theorem lengths_long (A B : Option Addr) (la lb ca cb : Nat) (w : World) (h : 3900 < la ∨ 200 < lb) (ha : la ≤ 9223372036854775807) (hb : lb ≤ 9223372036854775807) :
    Calls Try.prog 4 #[.slice A la ca, .slice B lb cb] w (Gives (.bool true) w) := by
  have H := Lib.hid (fun w' => first_any w')
  by_cases h1 : 3900 < la
  · go_enter Try.func4, Try.ntmps4
    go_wp2_with (go_at_call 15; refine (H.out _).mono ?_; rintro e w1 ⟨rfl, X, rfl⟩)
    go_ret
    exact Gives.bool rfl (by (repeat (first | (with_reducible exact Ext.refl _) | (with_reducible exact Ext.more _ _ _ _) | apply Ext.alloc | refine Ext.setCell ?_ (by first | exact Nat.le_refl _ | exact Nat.le_add_right _ _ | assumption) _ | apply Ext.patch | apply Ext.drew | apply Ext.drewN)))
  · have h2 : 200 < lb := by omega
    go_enter Try.func4, Try.ntmps4
    go_wp2_with (go_at_call 15; refine (H.out _).mono ?_; rintro e w1 ⟨rfl, X, rfl⟩)
    go_ret
    exact Gives.bool rfl (by (repeat (first | (with_reducible exact Ext.refl _) | (with_reducible exact Ext.more _ _ _ _) | apply Ext.alloc | refine Ext.setCell ?_ (by first | exact Nat.le_refl _ | exact Nat.le_add_right _ _ | assumption) _ | apply Ext.patch | apply Ext.drew | apply Ext.drewN)))

theorem opAt_take (bs ms : List Int) (q i : Nat) (h : i < q) (hq : q * 4 ≤ bs.length) : opAt (bs.take (q * 4) ++ ms) i = opAt bs i := by
  have e : ∀ j, j < q * 4 → (bs.take (q * 4) ++ ms).getD j 0 = bs.getD j 0 := fun j hj => by
    rw [List.getD_eq_getElem?_getD, List.getD_eq_getElem?_getD, List.getElem?_append_left (by rw [List.length_take]; omega), List.getElem?_take_of_lt hj]
  unfold opAt
  rw [e _ (by omega), e _ (by omega), e _ (by omega), e _ (by omega)]

set_option maxRecDepth 100000 in
set_option maxHeartbeats 2000000 in
theorem lengths_short (A B : Option Addr) (ca cb : Nat) (bs ms : List Int) (w : World) (ha : CellsAt w A (bs.map (Value.int .u8))) (hb : CellsAt w B (ms.map (Value.int .u8))) (hna : A = none → bs.length = 0 ∧ ca = 0) (hnb : B = none → ms.length = 0 ∧ cb = 0) (hca : bs.length ≤ ca) (hcam : ca ≤ 9223372036854775807) (hcb : ms.length ≤ cb) (hcbm : cb ≤ 9223372036854775807) (hl : bs.length ≤ 3900) (hm : ms.length ≤ 200) (hw : ∀ x ∈ bs, 0 ≤ x ∧ x ≤ 255) (hv : ∀ x ∈ ms, 0 ≤ x ∧ x ≤ 255) :
    Calls Try.prog 4 #[.slice A bs.length ca, .slice B ms.length cb] w (Gives (.bool true) w) := by
  obtain ⟨i0, hi, hz0, hz1, hz2⟩ := info_parts infoByte
  obtain ⟨q, hq⟩ : ∃ q, q = bs.length / 4 := ⟨_, rfl⟩
  have hqi : ((bs.length : Int) / 4) = (q : Int) := by omega
  have hq4 : q * 4 ≤ bs.length := by omega
  have hN : opCount bs = q := by unfold opCount; omega
  have hlt : (bs.take (q * 4)).length = q * 4 := by rw [List.length_take]; omega
  have hlen2 : (bs.take (q * 4) ++ ms).length = q * 4 + ms.length := by rw [List.length_append, hlt]
  have hNM : opCount (bs.take (q * 4) ++ ms) = min ((q * 4 + ms.length) / 4) 1000 := by unfold opCount; rw [hlen2]
  have hqM : q ≤ min ((q * 4 + ms.length) / 4) 1000 := by omega
  have H := Lib.hid (fun w' => first_any w')
  have H1 := Lib.hid (fun w' (he : Ext w w') => opsC A ca bs w' (ha.ext he) hca hcam (by omega) hw)
  have H2 := Lib.hid (show ∀ w' B' c' n, n = (bs.take (q * 4) ++ ms).length → CellsAt w' B' ((bs.take (q * 4) ++ ms).map (Value.int .u8)) → (bs.take (q * 4) ++ ms).length ≤ c' → c' ≤ 9223372036854775807 → Calls Try.prog 16 #[.slice B' n c'] w' (Made 28 6 (opsOf (bs.take (q * 4) ++ ms)).length ((opsOf (bs.take (q * 4) ++ ms)).flatMap Opr.cells) w') from fun w' B' c' n hn he h1 h2 => hn ▸ opsC B' c' (bs.take (q * 4) ++ ms) w' he h1 h2 (by omega) (fun x hx => by rcases List.mem_append.1 hx with hx | hx; exact hw x (List.mem_of_mem_take hx); exact hv x hx))
  have H3 := Lib.hid (fun w' (he : Ext w w') => picks_any A ca bs (-1) w' (ha.ext he) (by omega) hw (by decide))
  have HP := Lib.hid (fun i => print_at hw i)
  have HK := Lib.hid (fun i => (opAt_small hw i).1)
  have HT := Lib.hid (fun i h => opAt_take bs ms q i h hq4)
  have HZ := Lib.hid (show ∀ (k : Nat) (x : Int), (picksOf bs (-1))[k]? = some x → x = 0 from fun k x h => by
    unfold picksOf at h
    rw [List.getElem?_map] at h
    cases hb : bs[k]? with
    | none => simp [hb] at h
    | some y => simp [hb, pickOf] at h; exact h.symm)
  have HA := Lib.hid (show CellsAt w A ((bs.take (q * 4)).map (Value.int .u8)) by rw [List.map_take]; exact ha.take _)
  have HB := Lib.hid hb
  have HN := Lib.hid hN
  have HNM := Lib.hid hNM
  have HLT := Lib.hid hlt
  have HL2 := Lib.hid hlen2
  have HNA := Lib.hid hna
  have HNB := Lib.hid hnb
  have HQ := Lib.hid hq
  clear ha hb hw hv hN hNM hlt hlen2 hna hnb hq
  go_enter Try.func4, Try.ntmps4
  go_wp2_with fail
  refine (H.out _).mono ?_
  rintro e w1 ⟨rfl, hE1⟩
  have HE1 := Lib.hid (show Ext w w1 from hE1)
  clear hE1
  go_wp2_with fail
  refine (H1.out _ HE1.out).mono ?_
  rintro e w2 ⟨v, rfl, hown, hE2⟩
  rw [opsOf_length, HN.out] at hown
  obtain ⟨Al, cl, rfl⟩ := own_form hown
  have HL := Lib.hid (cellsAt_of_own hown)
  have HE2 := Lib.hid (HE1.out.trans hE2)
  clear hown hE2
  have HO := Lib.hid (own_empty w2 5 1 w2.heap.size (Nat.le_refl _))
  have hz2w := HE2.out.size
  have HAx := Lib.hid (HA.out.ext (HE2.out.alloc (.cells #[] 5)))
  have hT : ((bs.take (q * 4)).map (Value.int .u8)).length = q * 4 := by rw [List.length_map, HLT.out]
  obtain ⟨m1, hm1, hl1, hn1⟩ : ∃ m1, m1 = q * 4 ∧ ((bs.take (q * 4)).map (Value.int .u8)).length = m1 * 1 ∧ (A = none → m1 = 0 ∧ ca = 0) := ⟨q * 4, rfl, by omega, fun h => by have := HNA.out h; omega⟩
  have HM := Lib.hid hm1
  have hm2 : m1 ≤ 3900 := by omega
  have hL2 : (ms.map (Value.int .u8)).length = ms.length * 1 := by simp
  have HB3 := Lib.hid (fun w' (he : Ext w w') => HB.out.ext he)
  have hslice : ∀ w', (Instr.slice 22 (.slice A bs.length ca) none (some (.int .i64 (↑q * 4))) none).run Try.prog w' = .ok (.slice A m1 ca) w' := fun w' => by
    have := run_slice_head (P := Try.prog) 22 5 Try.underlying22 1 (fun _ => by kernel_rfl) A bs.length ca m1 (by omega) w'
    rw [HM.out] at this ⊢
    rw [← this]
    congr 1
  clear hT hm1
  go_wp2_with (first
    | (at_builtin; refine wpList_append_src rfl (.tmp 23) (.tmp 29) 22 rfl w2.heap.size 5 i0 (.int .u8 0) 1 1 Try.underlying22 hi hz0 hz1 hz2 rfl (by decide) _ _ _ rfl HO.out _ _ _ ((bs.take (q * 4)).map (Value.int .u8)) rfl hl1 HAx.out hn1 (bytes_one _ _) (by unfold maxLen; omega) (by omega) (by simp) ?_; intro v3 w3 hown3 hgrow3; have HE3 := Lib.hid (ext_grown (HE2.out.alloc (.cells #[] 5)) hgrow3 (fun k hk => by cases hk; exact hz2w)); have HF3 := Lib.hid (ext_grown (w := w2) ((Ext.refl w2).alloc (.cells #[] 5)) hgrow3 (fun k hk => by cases hk; exact Nat.le_refl _)); have HO3 := Lib.hid hown3; have hs3 := HE3.out.size; have hg3 : w2.heap.size ≤ w3.heap.size := (by have := hgrow3.size; simp at this; omega); clear hown3 hgrow3)
    | (at_builtin; refine wpList_append_src rfl (.tmp 30) (.tmp 31) 22 rfl w2.heap.size 5 i0 (.int .u8 0) 1 1 Try.underlying22 hi hz0 hz1 hz2 rfl (by decide) _ _ _ rfl HO3.out _ _ _ (ms.map (Value.int .u8)) rfl hL2 (HB3.out _ HE3.out) HNB.out (bytes_one _ _) (by unfold maxLen; omega) (by omega) hg3 ?_; intro v4 w4 hown4 hgrow4; have HE4 := Lib.hid (ext_grown HE3.out hgrow4 (fun k hk => by have := (HO3.out.lt k hk).1; omega)); have HF4 := Lib.hid (ext_grown (w := w2) HF3.out hgrow4 (fun k hk => (HO3.out.lt k hk).1)); have HO4 := Lib.hid hown4; obtain ⟨A4, c4, rfl⟩ := own_form hown4; clear hown4 hgrow4))
  have hC := H2.out w4 A4 c4 (m1 + ms.length) (by rw [HL2.out, HM.out]) (by have := cellsAt_of_own HO4.out; rw [List.nil_append, ← List.map_append] at this; exact this) (by have := (own_len HO4.out).1; rw [HL2.out, ← HM.out]; omega) (own_len HO4.out).2
  refine hC.mono ?_
  clear hC
  rintro e w5 ⟨v, rfl, hown5, hE5⟩
  rw [opsOf_length, HNM.out] at hown5
  obtain ⟨Am, cm, rfl⟩ := own_form hown5
  have HX := Lib.hid (cellsAt_of_own hown5)
  have HE5 := Lib.hid (HE4.out.trans hE5)
  have HL5 := Lib.hid (HL.out.ext (HF4.out.trans hE5))
  have HT5 := Lib.hid (fun k h => opsTo_get bs (n := opCount bs) (i := k) (by rw [HN.out]; exact h))
  have HT6 := Lib.hid (show ∀ k, k < q → (opsOf (bs.take (q * 4) ++ ms))[k]? = some (opAt bs k) from fun k h => by
    unfold opsOf
    rw [opsTo_get _ (by rw [HNM.out]; omega), HT.out k h])
  clear hown5 hE5 HO3 HO4 hl1 hL2 hn1 hslice hs3 hg3
  generalize min ((q * 4 + ms.length) / 4) 1000 = M at *
  go_wp2_with fail
  go_loopw [7] (fun i wr => ∃ k : Nat, k ≤ q ∧ i = .int .i64 k ∧ Ext w5 wr) (fun i _ => q - (intOf i).toNat)
  case atStart => exact ⟨0, Nat.zero_le _, rfl, Ext.refl _⟩
  case round =>
    obtain ⟨k, hk, rfl, hE⟩ := hrel
    have HE := Lib.hid (show Ext w5 wr from hE)
    clear hE
    by_cases hlt : k < q
    · obtain ⟨b, off, rfl, hbl, l0, l1, l2, l3, l4, l5⟩ := oprs_at (HL5.out.ext HE.out) (HT5.out k hlt)
      obtain ⟨b', off', rfl, hbl', m0, m1', m2, m3, m4, m5⟩ := oprs_at (HX.out.ext HE.out) (HT6.out k hlt)
      obtain ⟨s, hs⟩ := HP.out k
      obtain ⟨hk1, hk2⟩ := HK.out k
      generalize opAt bs k = o at *
      simp only [Opr.val] at hs
      have HS := Lib.hid hs
      clear hs
      go_wp2_with fail
      have hd1 : decide (o.kind < 1) = false := by simp; omega
      have hd2 : decide (17 < o.kind) = false := by simp; omega
      refine wp_region_mixed [true, true, true, true, true, true, true, true, true, true, true, true, true, true, true, true, true, true, true, true, true, true, true, true, true, true, true] 0 27 (by kernel_rfl) (by kernel_rfl) (by kernel_rfl) ?_ (by decide) (by decide) (by decide) (by kernel_rfl) ?_
      · intro c a d v w h; cases d <;> exact h
      intro X00
      simp only [pickOps]
      repeat (go_big_quiet_step (exact Calls.added (HS.out _)))
      refine wpQuiet_nil (fun X0 => ?_)
      clear X00
      refine wpAnyM_done (by kernel_rfl) (fun X0' => ?_) _
      go_wp2_with fail
      go_roundw
      case rel => exact ⟨k + 1, by omega, by go_num, HE.out.patch _⟩
      case measure => simp [intOf]; omega
    · obtain rfl : k = q := by omega
      go_wp2_with fail
      refine (H3.out _ (HE5.out.trans HE.out)).mono ?_
      rintro e w6 ⟨v, rfl, hown6, hE6⟩
      obtain ⟨Ap, cp, rfl⟩ := own_form hown6
      have HC6 := Lib.hid (cellsAt_of_own hown6)
      have HE6 := Lib.hid ((HE5.out.trans HE.out).trans hE6)
      have HPL := Lib.hid (show (picksOf bs (-1)).length = bs.length by simp [picksOf])
      clear hown6 hE6
      go_wp2_with fail
      go_loopw [9] (fun i wr => ∃ j : Nat, j ≤ bs.length ∧ i = .int .i64 j ∧ Ext w6 wr) (fun i _ => bs.length - (intOf i).toNat)
      case atStart => exact ⟨0, Nat.zero_le _, rfl, Ext.refl _⟩
      case round =>
        obtain ⟨j, hj, rfl, Y, rfl⟩ := hrel
        by_cases hlt2 : j < bs.length
        · obtain ⟨b, off, rfl, hbl, hc⟩ := words_at HC6.out (show j < (picksOf bs (-1)).length by rw [HPL.out]; exact hlt2)
          have g0 := hc j (by rw [HPL.out]; exact hlt2)
          have hz := HZ.out j ((picksOf bs (-1)).getD j 0) (by rw [List.getD_eq_getElem?_getD, List.getElem?_eq_getElem (by rw [HPL.out]; exact hlt2)]; rfl)
          rw [hz] at g0
          clear hc hz
          go_wp2_with fail
          go_roundw
          case rel => exact ⟨j + 1, by omega, by go_num, by (repeat (first | (with_reducible exact Ext.refl _) | (with_reducible exact Ext.more _ _ _ _) | apply Ext.alloc | refine Ext.setCell ?_ (by first | exact Nat.le_refl _ | exact Nat.le_add_right _ _ | assumption) _ | apply Ext.patch | apply Ext.drew | apply Ext.drewN))⟩
          case measure => simp [intOf]; omega
        · obtain rfl : j = bs.length := by omega
          go_wp2_with fail
          refine (H.out _).mono ?_
          rintro e w7 ⟨rfl, hE7⟩
          have HE7 := Lib.hid hE7
          clear hE7
          go_wp2_with fail
          go_ret
          exact Gives.bool (by simp) ((HE6.out.patch Y).trans HE7.out)
end Go.Proofs.Ytlddahifhefjiaa
