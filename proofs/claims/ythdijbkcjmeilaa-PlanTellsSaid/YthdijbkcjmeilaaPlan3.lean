/-
  plan.fields, plan.whole.
-/
import Derived.Test.YthdijbkcjmeilaaArea
import Derived.Test.YthdijbkcjmeilaaShape2
import Derived.Test.YthdijbkcjmeilaaRow
namespace Go.Proofs.Ythdijbkcjmeilaa
open Go Go.RowKit

set_option maxHeartbeats 1000000 in
theorem fields_any (s : Shp) (frag : Int) (b : Nat) (t : TypeId) (vs : List Value) (w : World) (hs : s.Ok w) (hb : w.heap[b]? = some (.cells vs.toArray t)) (hv : vs.length = 8) (hn : ∀ a, s.A = some a → 0 < s.refs.length → b ≠ a.block) :
    Calls Try.prog 37 #[s.val, .int .i64 frag, .pointer (some ⟨b, 0, none⟩)] w (fun e w' => e = .returned (.tuple #[]) ∧ ∃ X, w' = (w.putBlk b (.cells (putFields s frag vs s.refs.length).toArray t)).patch X) := by
  have hl : s.refs.length ≤ 140737488355328 := hs.max
  have hbs := (Array.getElem?_eq_some_iff.1 hb).1
  obtain ⟨arr, A, cap, refs⟩ := s
  unfold Shp.val
  simp only at hl hn ⊢
  go_enter Try.func37, Try.ntmps37
  go_wp2_with fail
  go_loopw [14] (fun i wr => ∃ k : Nat, k ≤ refs.length ∧ i = .int .i64 k ∧ ∃ w1, w1 = w.putBlk b (.cells (putFields ⟨arr, A, cap, refs⟩ frag vs k).toArray t) ∧ Ext (w1.alloc (.cells #[.bool arr, .slice A refs.length cap] 37)) wr) (fun i _ => refs.length - (intOf i).toNat)
  case atStart => exact ⟨0, Nat.zero_le _, rfl, w, (World.putBlk_self _ hb).symm, by (repeat (first | (with_reducible assumption) | (with_reducible exact Ext.refl _) | (with_reducible exact Ext.more _ _ _ _) | apply Ext.alloc | refine Ext.setCell ?_ (by first | exact Nat.le_refl _ | exact Nat.le_add_right _ _ | assumption) _ | apply Ext.patch | apply Ext.drew | apply Ext.drewN))⟩
  case round =>
    obtain ⟨k, hk, rfl, w1, hw1, X, rfl⟩ := hrel
    have hs1 : (⟨arr, A, cap, refs⟩ : Shp).Ok w1 := by rw [hw1]; exact hs.putBlk hn
    have HW := Lib.hid hw1
    have hsz : w.heap.size = w1.heap.size := by rw [hw1, World.size_putBlk]
    rw [hsz]
    have HZ := Lib.hid hsz
    by_cases hlt : k < refs.length
    · have HP := Lib.hid (fun w' (he : Ext w1 w') => place_any ⟨arr, A, cap, refs⟩ k w' (hs1.ext he) (by omega) (by omega))
      have HR := Lib.hid (show w1.heap[b]? = some (.cells (putFields ⟨arr, A, cap, refs⟩ frag vs k).toArray t) by rw [hw1, World.row_put _ hbs])
      have HB := Lib.hid (show b < w1.heap.size by rw [hw1, World.size_putBlk]; exact hbs)
      have HL := Lib.hid (putFields_length ⟨arr, A, cap, refs⟩ frag vs k)
      have HN := Lib.hid (@putFields_no ⟨arr, A, cap, refs⟩ frag vs k)
      have HY := Lib.hid (@putFields_yes ⟨arr, A, cap, refs⟩ frag vs k)
      obtain ⟨q, o, hA, hq, hcell⟩ := hs1.refs.cases (by simp; omega)
      have g0 := hcell k (.bool (refs.getD k false)) (by simp [List.getD, List.getElem?_eq_getElem hlt])
      have HX := Lib.hid hn
      simp only at hA
      unfold Shp.val Shp.place at HP
      subst hA
      simp only at HP
      generalize refs.getD k false = x at *
      clear hw1 hb hs hs1 hcell hn hbs hsz
      go_wp2_with fail
      refine (HP.out _ (by (repeat (first | (with_reducible assumption) | (with_reducible exact Ext.refl _) | (with_reducible exact Ext.more _ _ _ _) | apply Ext.alloc | refine Ext.setCell ?_ (by first | exact Nat.le_refl _ | exact Nat.le_add_right _ _ | assumption) _ | apply Ext.patch | apply Ext.drew | apply Ext.drewN)))).mono ?_
      cases hf : Shp.hasField ⟨arr, some ⟨q, o, none⟩, cap, refs⟩ k
      · rintro e w2 ⟨rfl, X2, rfl⟩
        have HT2 := Lib.hid (HN.out (by rw [hf]; simp))
        clear hf
        go_wp2_with fail
        go_roundw
        case rel => exact ⟨k + 1, by omega, by go_num, w1, by rw [HW.out, HT2.out], by (repeat (first | (with_reducible assumption) | (with_reducible exact Ext.refl _) | (with_reducible exact Ext.more _ _ _ _) | apply Ext.alloc | refine Ext.setCell ?_ (by first | exact Nat.le_refl _ | exact Nat.le_add_right _ _ | assumption) _ | apply Ext.patch | apply Ext.drew | apply Ext.drewN))⟩
        case measure => simp [intOf]; omega
      · rintro e w2 ⟨rfl, X2, rfl⟩
        by_cases hp : Shp.placeF k = frag
        · have HT2 := Lib.hid (HY.out ⟨hf, hp⟩)
          clear hf
          rw [hp]
          clear hp
          obtain ⟨m, hm, hm8⟩ : ∃ m : Nat, Shp.placeW k = m ∧ m < 8 := ⟨(Shp.placeW k).toNat, by have := Shp.placeW_bd k (by omega); omega, by have := Shp.placeW_bd k (by omega); omega⟩
          rw [hm]
          have HM := Lib.hid hm
          clear hm
          go_wp2_with fail
          have hb1 := HB.out
          have hc1 : w1.cell? ⟨b, m, none⟩ = some ((putFields ⟨arr, some ⟨q, o, none⟩, cap, refs⟩ frag vs k)[m]'(by rw [HL.out]; omega)) := row_cell HR.out (List.getElem?_eq_getElem _)
          have hf1 : w1.frozen? ⟨b, m, none⟩ = false := row_live HR.out
          generalize (putFields ⟨arr, some ⟨q, o, none⟩, cap, refs⟩ frag vs k)[m]'(by rw [HL.out]; omega) = z at hc1
          refine wp_forget (base := w1.alloc (.cells #[.bool arr, .slice (some ⟨q, o, none⟩) refs.length cap] 37)) (by (repeat (first | (with_reducible assumption) | (with_reducible exact Ext.refl _) | (with_reducible exact Ext.more _ _ _ _) | apply Ext.alloc | refine Ext.setCell ?_ (by first | exact Nat.le_refl _ | exact Nat.le_add_right _ _ | assumption) _ | apply Ext.patch | apply Ext.drew | apply Ext.drewN))) (fun Z => ?_)
          clear HP HN HY X X2
          obtain ⟨r1, r2, hbl⟩ : ∃ r1 r2, wBlank x = .complex .f64 r1 r2 := by cases x <;> exact ⟨_, _, rfl⟩
          have HBL := Lib.hid hbl
          clear hbl
          refine wp_region_mixed [true, true, true, true, true, true, false] 1 6 (by kernel_rfl) (by kernel_rfl) (by kernel_rfl) ?_ (by decide) (by decide) (by decide) (by kernel_rfl) ?_
          · intro c a d v w h; cases d <;> exact h
          intro X00
          simp only [pickOps]
          repeat (go_big_quiet_step ((go_at_call 53; exact Calls.added2 (blank_any _ _))))
          refine wpQuiet_nil (fun X0 => ?_)
          clear X00
          refine wpAnyM_last 6 _ (by kernel_rfl) (by kernel_rfl) rfl rfl (fun X1 K Q' hK => ?_)
          go_simp
          rw [HBL.out]; go_simp
          refine hK _ _ (fun X2 => ?_)
          clear hK K Q'
          go_wp2_with fail
          go_roundw
          case rel => exact ⟨k + 1, by omega, by go_num, w1.setCell ⟨b, m, none⟩ (.complex .f64 r1 r2), by rw [World.setCell_row _ HR.out, HT2.out, HM.out, HBL.out, List.setIfInBounds_toArray, Int.toNat_natCast, HW.out, World.putBlk_putBlk], by (repeat (first | (with_reducible assumption) | (with_reducible exact Ext.refl _) | (with_reducible exact Ext.more _ _ _ _) | apply Ext.alloc | refine Ext.setCell ?_ (by first | exact Nat.le_refl _ | exact Nat.le_add_right _ _ | assumption) _ | apply Ext.patch | apply Ext.drew | apply Ext.drewN))⟩
          case measure => simp [intOf]; omega
        · have HT2 := Lib.hid (HN.out (fun h => hp h.2))
          clear hf
          go_wp2_with fail
          go_roundw
          case rel => exact ⟨k + 1, by omega, by go_num, w1, by rw [HW.out, HT2.out], by (repeat (first | (with_reducible assumption) | (with_reducible exact Ext.refl _) | (with_reducible exact Ext.more _ _ _ _) | apply Ext.alloc | refine Ext.setCell ?_ (by first | exact Nat.le_refl _ | exact Nat.le_add_right _ _ | assumption) _ | apply Ext.patch | apply Ext.drew | apply Ext.drewN))⟩
          case measure => simp [intOf]; omega
    · obtain rfl : k = refs.length := by omega
      go_wp2_with fail
      refine bodyPost_end (results_none rfl _ _ _) rfl ⟨rfl, ?_⟩
      have he : Ext w1 ((w1.alloc (.cells #[.bool arr, .slice A refs.length cap] 37)).patch X) := by (repeat (first | (with_reducible assumption) | (with_reducible exact Ext.refl _) | (with_reducible exact Ext.more _ _ _ _) | apply Ext.alloc | refine Ext.setCell ?_ (by first | exact Nat.le_refl _ | exact Nat.le_add_right _ _ | assumption) _ | apply Ext.patch | apply Ext.drew | apply Ext.drewN))
      exact HW.out ▸ he
end Go.Proofs.Ythdijbkcjmeilaa
