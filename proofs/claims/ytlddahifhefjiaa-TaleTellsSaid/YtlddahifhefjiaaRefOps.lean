/-
  sporef25.Ops, Picks: the document's operations and picks.
-/
import Derived.Test.YtlddahifhefjiaaOneB
import Derived.Test.YtlddahifhefjiaaFirst27
namespace Go.Proofs.Ytlddahifhefjiaa
open Go Go.RowKit
set_option linter.unusedVariables false

set_option maxRecDepth 100000 in
set_option maxHeartbeats 2000000 in
theorem refOps_any (A : Option Addr) (cap : Nat) (bs : List Int) (w : World) (hb : CellsAt w A (bs.map (Value.int .u8))) (hcap : bs.length ≤ cap) (hmax : cap ≤ 9223372036854775807) (hlen : bs.length ≤ 140737488355328) (hw : ∀ x ∈ bs, 0 ≤ x ∧ x ≤ 255) :
    Calls Try.prog 17 #[.slice A bs.length cap] w (Made 28 6 (opsOf bs).length ((opsOf bs).flatMap Opr.cells) w) := by
  obtain ⟨i0, hi, hz0, hz1, hz2⟩ := info_parts infoOp
  have hN : opCount bs = min (bs.length / 4) 1000 := rfl
  have HO := Lib.hid (show opsOf bs = opsTo bs (opCount bs) from rfl)
  generalize opCount bs = N at *
  have HN := Lib.hid hN
  have hN1 : N ≤ 1000 := by omega
  have hN2 : N * 4 ≤ bs.length := by omega
  clear hN
  have HW := Lib.hid hw
  have HB := Lib.hid hb
  clear hw hb
  go_enter Try.func17, Try.ntmps17
  go_wp2_with fail
  go_loopw [3, 4] (fun v i wr => ∃ k : Nat, k ≤ N ∧ i = .int .i64 k ∧ wr.ownsRow w.heap.size 28 6 v k ((opsTo bs k).flatMap Opr.cells) ∧ Ext w wr) (fun _ i _ => N - (intOf i).toNat)
  case atStart => exact ⟨0, Nat.zero_le _, rfl, World.ownsRow_nil _ _ _ _, Ext.refl _⟩
  case round =>
    obtain ⟨k, hk, rfl, hown, hE⟩ := hrel
    have hsz := hE.size
    have HE := Lib.hid (show Ext w wr from hE)
    have HR := Lib.hid hown
    obtain ⟨Av, cv, rfl⟩ := own_form hown
    clear hE hown
    by_cases hlt : k < N
    · obtain ⟨b, off, rfl, hbl, hcell⟩ := bytes_at HB.out (show 4 * k < bs.length by omega)
      have hcut : ¬ cap = 4 * k := by omega
      have b0 := byte_in HW.out (show 4 * k < bs.length by omega)
      have b1 := byte_in HW.out (show 4 * k + 1 < bs.length by omega)
      have b2 := byte_in HW.out (show 4 * k + 2 < bs.length by omega)
      have b3 := byte_in HW.out (show 4 * k + 3 < bs.length by omega)
      have c0 := hcell (4 * k) (by omega)
      have c1 := hcell (4 * k + 1) (by omega)
      have c2 := hcell (4 * k + 2) (by omega)
      have c3 := hcell (4 * k + 3) (by omega)
      rw [← Nat.add_assoc] at c1 c2 c3
      have HX := Lib.hid (opsTo_succ bs k)
      have HP := Lib.hid (show opAt bs k = opOf (bs.getD (4 * k) 0) (bs.getD (4 * k + 1) 0) (bs.getD (4 * k + 2) 0) (bs.getD (4 * k + 3) 0) from rfl)
      have HC := Lib.hid (fun w' c (he : Ext w w') => one25_any b (off + 4 * k) c _ _ _ _ w' b0.1 b0.2 b1.1 b1.2 b2.1 b2.2 b3.1 b3.2 (Nat.lt_of_lt_of_le hbl he.size) ((he.below.cell (p := ⟨b, off + 4 * k, none⟩) hbl).trans c0) ((he.below.cell (p := ⟨b, off + 4 * k + 1, none⟩) hbl).trans c1) ((he.below.cell (p := ⟨b, off + 4 * k + 2, none⟩) hbl).trans c2) ((he.below.cell (p := ⟨b, off + 4 * k + 3, none⟩) hbl).trans c3))
      clear c0 c1 c2 c3 hcell
      generalize opOf (bs.getD (4 * k) 0) (bs.getD (4 * k + 1) 0) (bs.getD (4 * k + 2) 0) (bs.getD (4 * k + 3) 0) = o at *
      clear b0 b1 b2 b3
      simp only [Opr.val] at HC
      go_wp2_with (first
        | (go_at_call 79; refine (HC.out _ _ HE.out).mono ?_; rintro e w1 ⟨rfl, X, rfl⟩)
        | (at_builtin; refine wpList_append_own _ rfl _ _ 24 rfl w.heap.size 28 i0 (.agg #[.int .i64 0, .int .i64 0, .int .i64 0, .int .i64 0, .int .i64 0, .complex .f64 0 0]) 6 56 Try.underlying24 hi hz0 hz1 hz2 rfl (by decide) _ _ _ rfl ((own_ext HR.out ⟨X, rfl⟩).alloc _) ⟨(wr.patch X).heap.size, 0, none⟩ 1 1 o.cells rfl rfl (news_new _ o.cells 28) (oprs_one o) (by unfold maxLen; omega) (by omega) (by rw [World.size_alloc, World.size_patch]; omega) ?_; intro v' w2 hown' hgrow _))
      have HE2 := Lib.hid (ext_grown (w := w) ((HE.out.patch X).alloc _) hgrow (fun j hj => (HR.out.lt j hj).1))
      have HN' := Lib.hid hown'
      clear hown' hgrow
      go_roundw
      case rel => exact ⟨k + 1, by omega, by go_num, by rw [HX.out, List.flatMap_append, List.flatMap_cons, List.flatMap_nil, List.append_nil, HP.out]; exact HN'.out, HE2.out⟩
      case measure => simp [intOf]; omega
    · obtain rfl : k = N := by omega
      have HF := Lib.hid (show wr.ownsRow w.heap.size 28 6 (.slice Av k cv) (opsOf bs).length ((opsOf bs).flatMap Opr.cells) by rw [HO.out, opsTo_length]; exact HR.out)
      by_cases h1 : 4 * k + 3 < bs.length
      · have hk' : k = 1000 := by have := HN.out; omega
        have hb1 : ((4 : Int) * k + 3 < bs.length) := by omega
        have hb2 : ¬ ((k : Int) < 1000) := by omega
        have HK := Lib.hid hk'
        clear hk'
        go_wp2_with fail
        go_ret
        exact ⟨_, rfl, by rw [← opsOf_length]; exact HF.out, HE.out⟩
      · have hb1 : ¬ ((4 : Int) * k + 3 < bs.length) := by omega
        go_wp2_with fail
        go_ret
        exact ⟨_, rfl, by rw [← opsOf_length]; exact HF.out, HE.out⟩

set_option maxRecDepth 100000 in
set_option maxHeartbeats 2000000 in
theorem refPicks_any (A : Option Addr) (cap : Nat) (bs : List Int) (t : Int) (w : World) (hb : CellsAt w A (bs.map (Value.int .u8))) (hlen : bs.length ≤ 4100) (hw : ∀ x ∈ bs, 0 ≤ x ∧ x ≤ 255) (ht : -9223372036854775808 ≤ t ∧ t ≤ 9223372036854775807) :
    Calls Try.prog 22 #[.slice A bs.length cap, .int .i64 t] w (Made 3 1 bs.length ((picksOf bs t).map (Value.int .i64)) w) := by
  obtain ⟨i0, hi, hz0, hz1, hz2⟩ := info_parts infoInt
  obtain ⟨ht0, ht1⟩ := ht
  go_enter Try.func22, Try.ntmps22
  go_wp2
  go_loopw [5, 6] (fun v i wr => ∃ k : Nat, k ≤ bs.length ∧ i = .int .i64 k ∧ wr.ownsRow w.heap.size 3 1 v k ((picksOf (bs.take k) t).map (Value.int .i64)) ∧ Ext w wr) (fun _ i _ => bs.length - (intOf i).toNat)
  case atStart => exact ⟨0, Nat.zero_le _, rfl, World.ownsRow_nil _ _ _ _, Ext.refl _⟩
  case round =>
    obtain ⟨k, hk, rfl, hown, hE⟩ := hrel
    by_cases hlt : k < bs.length
    · obtain ⟨b, o, rfl, hbl, hcell⟩ := bytes_at hb hlt
      have hc0 := (hE.below.cell (p := ⟨b, o + k, none⟩) hbl).trans (hcell k hlt)
      have hx := hw _ (getD_mem3 hlt)
      have HP := Lib.hid (picks_snoc bs t hlt)
      generalize bs.getD k 0 = x at *
      obtain ⟨hx0, hx1⟩ := hx
      have hsz := hE.size
      have HE := Lib.hid hE
      have HO := Lib.hid hown
      clear hb hcell hw hE hown
      obtain ⟨y, hy, hcase⟩ : ∃ y, pickOf t x = y ∧ ((t < 1 ∧ y = 0) ∨ (255 < t ∧ y = x) ∨ (1 ≤ t ∧ t ≤ 255 ∧ y = x % (t + 1))) := by
        refine ⟨_, rfl, ?_⟩
        unfold pickOf
        split
        · left; omega
        · split
          · right; left; omega
          · right; right; omega
      have HY := Lib.hid hy
      clear hy
      rcases hcase with ⟨h1, rfl⟩ | ⟨h1, rfl⟩ | ⟨h1, h2, rfl⟩
      all_goals
        go_wp2_with (at_builtin; refine wpList_append_own _ rfl _ _ 32 rfl w.heap.size 3 i0 (.int .i64 0) 1 8 Try.underlying32 hi hz0 hz1 hz2 rfl (by decide) _ _ _ rfl (HO.out.alloc _) ⟨wr.heap.size, 0, none⟩ 1 1 [.int .i64 _] rfl rfl (cell_one_new _ _ _) (by simp [Value.oneCell']) (by unfold maxLen; omega) (by omega) (by simp; omega) ?_; intro v' w1 hown' hgrow _)
        have HR := Lib.hid (ext_grown (w := w) (HE.out.alloc _) hgrow (fun j hj => (HO.out.lt j hj).1))
        have HN := Lib.hid hown'
        clear hown' hgrow
        go_roundw
        case rel => exact ⟨k + 1, by omega, by go_num, by rw [HP.out, List.map_append, HY.out]; exact HN.out, HR.out⟩
        case measure => simp [intOf]; omega
    · obtain rfl : k = bs.length := by omega
      rw [List.take_of_length_le (Nat.le_refl _)] at hown
      obtain ⟨Av, cv, rfl⟩ := own_form hown
      go_wp2
      go_ret
      exact ⟨_, rfl, hown, hE⟩
end Go.Proofs.Ytlddahifhefjiaa
