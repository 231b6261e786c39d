/-
  sporef19.Print: of equal operations it is the same.
-/
import Derived.Test.YtlddahifhefjiaaChecked
import Derived.Test.YtlddahifhefjiaaTale
namespace Go.Proofs.Ytlddahifhefjiaa
open Go Go.RowKit
set_option linter.unusedVariables false

/-- The function hands back one string, in every world. -/
def Says (f : FuncId) (args : Array Value) (n : Nat) : Prop := ∃ s : ByteArray, s.size ≤ n ∧ ∀ w, Calls Try.prog f args w (Gives (.string s) w)

theorem conv1 (w : World) (n : Int) : (convert 22 9 (.slice (some ⟨w.heap.size, 0, none⟩) 1 1)).run Try.prog (w.alloc (.cells #[.int .u8 n] 5)) = .ok (.string ⟨#[UInt8.ofNat n.toNat]⟩) (w.alloc (.cells #[.int .u8 n] 5)) := by
  rw [run_convert_bytes_string _ _ _ _ _ _ _ Try.underlying22 Try.underlying5 Try.underlying9]
  have hl := run_loadCells_list (P := Try.prog) (w.alloc (.cells #[.int .u8 n] 5)) ⟨w.heap.size, 0, none⟩ ([n].map (Value.int .u8)) (fun j v hj => news_new w ([n].map (Value.int .u8)) 5 j v hj)
  simp only [List.length_map, List.length_cons, List.length_nil] at hl
  rw [run_bytesToString _ _ _ _ _ hl]
  rfl
theorem conv1p (w : World) (X : Extra) (n : Int) : (convert 22 9 (.slice (some ⟨w.heap.size, 0, none⟩) 1 1)).run Try.prog ((w.alloc (.cells #[.int .u8 n] 5)).patch X) = .ok (.string ⟨#[UInt8.ofNat n.toNat]⟩) ((w.alloc (.cells #[.int .u8 n] 5)).patch X) := by
  rw [run_convert_bytes_string _ _ _ _ _ _ _ Try.underlying22 Try.underlying5 Try.underlying9]
  have hl := run_loadCells_list (P := Try.prog) ((w.alloc (.cells #[.int .u8 n] 5)).patch X) ⟨w.heap.size, 0, none⟩ ([n].map (Value.int .u8)) (fun j v hj => by
    rw [← news_new w ([n].map (Value.int .u8)) 5 j v hj]
    have : ((⟨w.heap.size, 0, none⟩ : Addr).add j) = ⟨w.heap.size, j, none⟩ := by
      unfold Addr.add
      split
      · rename_i h; subst h; rfl
      · simp
    rw [this, World.cell?_patch _ _ _ _ (by simp)]
    rfl)
  simp only [List.length_map, List.length_cons, List.length_nil] at hl
  rw [run_bytesToString _ _ _ _ _ hl]
  rfl

set_option maxRecDepth 100000 in
theorem dec1_any (n : Int) (h0 : 0 ≤ n) (h1 : n < 10) : Says 81 #[.int .i64 n] 1 := by
  refine ⟨⟨#[UInt8.ofNat (48 + n).toNat]⟩, by simp [ByteArray.size], fun w => ?_⟩
  have hcv := conv1
  go_enter Try.func81, Try.ntmps81
  go_wp2
  go_ret
  exact Gives.mk rfl (by (repeat (first | (with_reducible assumption) | (with_reducible exact Ext.refl _) | (with_reducible exact Ext.more _ _ _ _) | apply Ext.alloc | refine Ext.setCell ?_ (by first | exact Nat.le_refl _ | exact Nat.le_add_right _ _ | assumption) _ | apply Ext.patch | apply Ext.drew | apply Ext.drewN)))

set_option maxRecDepth 100000 in
set_option maxHeartbeats 1000000 in
theorem dec_any (n : Int) (h0 : 0 ≤ n) (h1 : n < 100) : Says 81 #[.int .i64 n] 2 := by
  by_cases h9 : n < 10
  · obtain ⟨s, hs, h⟩ := dec1_any n h0 h9
    exact ⟨s, by omega, h⟩
  · obtain ⟨s, hs, h⟩ := dec1_any (n / 10) (by omega) (by omega)
    refine ⟨s ++ ⟨#[UInt8.ofNat (48 + n % 10).toNat]⟩, by rw [ByteArray.size_append]; show s.size + 1 ≤ 2; omega, fun w => ?_⟩
    have H := Lib.hid h
    have hcv := conv1p
    have w1 := IntWalk.i64_in (48 + n % 10) (by omega)
    have w2 := IntWalk.u8_in (48 + n % 10) (by omega)
    have hd : n.tdiv 10 = n / 10 := by rw [Int.tdiv_eq_ediv_of_nonneg h0]
    have hm : n.tmod 10 = n % 10 := by rw [Int.tmod_eq_emod_of_nonneg h0]
    have w3 := IntWalk.i64_in (n / 10) (by omega)
    clear h
    go_enter Try.func81, Try.ntmps81
    go_wp2_with fail
    refine wp_region_mixed [true, true, true, true, true, true, true, false, false, false, false] 4 9 (by kernel_rfl) (by kernel_rfl) (by kernel_rfl) ?_ (by decide) (by decide) (by decide) (by kernel_rfl) ?_
    · intro c a d v w h; cases d <;> exact h
    intro X00
    simp only [pickOps]
    repeat (go_big_quiet_step ((go_at_call 81; exact Calls.added (H.out _))))
    refine wpQuiet_nil (fun X0 => ?_)
    clear X00
    refine wpAnyM_one 7 _ (by kernel_rfl) rfl rfl (by decide) (fun X1 K Q' hK => ?_)
    go_simp
    refine hK _ _ ?_ ?_
    · (repeat (first | (with_reducible assumption) | (with_reducible exact Ext.refl _) | (with_reducible exact Ext.more _ _ _ _) | apply Ext.alloc | refine Ext.setCell ?_ (by first | exact Nat.le_refl _ | exact Nat.le_add_right _ _ | assumption) _ | apply Ext.patch | apply Ext.drew | apply Ext.drewN))
    clear hK K Q'
    refine wpAnyM_one 8 _ (by kernel_rfl) rfl rfl (by decide) (fun X1 K Q' hK => ?_)
    go_simp
    refine hK _ _ ?_ ?_
    · (repeat (first | (with_reducible assumption) | (with_reducible exact Ext.refl _) | (with_reducible exact Ext.more _ _ _ _) | apply Ext.alloc | refine Ext.setCell ?_ (by first | exact Nat.le_refl _ | exact Nat.le_add_right _ _ | assumption) _ | apply Ext.patch | apply Ext.drew | apply Ext.drewN))
    clear hK K Q'
    refine wpAnyM_tailL rfl (by kernel_rfl) (fun X2 => ?_)
    simp only [List.drop_succ_cons, List.drop_zero]
    go_wp2_with fail
    go_ret
    exact Gives.mk rfl (by (repeat (first | (with_reducible assumption) | (with_reducible exact Ext.refl _) | (with_reducible exact Ext.more _ _ _ _) | apply Ext.alloc | refine Ext.setCell ?_ (by first | exact Nat.le_refl _ | exact Nat.le_add_right _ _ | assumption) _ | apply Ext.patch | apply Ext.drew | apply Ext.drewN)))

/-- A digit. -/
def hexB (i : Nat) : UInt8 := (#[48, 49, 50, 51, 52, 53, 54, 55, 56, 57, 97, 98, 99, 100, 101, 102] : Array UInt8).getD i 0
theorem hexB_at (i : Nat) (h : i < (⟨#[48, 49, 50, 51, 52, 53, 54, 55, 56, 57, 97, 98, 99, 100, 101, 102]⟩ : ByteArray).size) : (⟨#[48, 49, 50, 51, 52, 53, 54, 55, 56, 57, 97, 98, 99, 100, 101, 102]⟩ : ByteArray)[i] = hexB i := by
  have h' : i < 16 := h
  rcases (show i = 0 ∨ i = 1 ∨ i = 2 ∨ i = 3 ∨ i = 4 ∨ i = 5 ∨ i = 6 ∨ i = 7 ∨ i = 8 ∨ i = 9 ∨ i = 10 ∨ i = 11 ∨ i = 12 ∨ i = 13 ∨ i = 14 ∨ i = 15 by omega) with rfl | rfl | rfl | rfl | rfl | rfl | rfl | rfl | rfl | rfl | rfl | rfl | rfl | rfl | rfl | rfl <;> rfl
def hexQ (u : Int) : Nat → Int
  | 0 => u / 1152921504606846976
  | 1 => u / 72057594037927936
  | 2 => u / 4503599627370496
  | 3 => u / 281474976710656
  | 4 => u / 17592186044416
  | 5 => u / 1099511627776
  | 6 => u / 68719476736
  | 7 => u / 4294967296
  | 8 => u / 268435456
  | 9 => u / 16777216
  | 10 => u / 1048576
  | 11 => u / 65536
  | 12 => u / 4096
  | 13 => u / 256
  | 14 => u / 16
  | _ => u
def hexL (u : Int) (j : Nat) : UInt8 := hexB (hexQ u j % 16).toNat
def hexC (u : Int) (k : Nat) : Obj := .cells ((List.range 16).map fun j => Value.int .u8 (if j < k then (hexL u j).toNat else 0)).toArray 227
theorem and15 (x : Int) (h0 : 0 ≤ x) (h1 : x ≤ 18446744073709551615) : bits .and .u64 x 15 = x % 16 := by
  have h := bits_and_u64_nat x.toNat 15 (by omega) (by omega)
  rw [Nat.and_two_pow_sub_one_eq_mod x.toNat 4, Int.toNat_of_nonneg h0] at h
  exact h.trans (by omega)
theorem conv16 (w : World) (l : List UInt8) (hl : l.length = 16) : (convert 22 9 (.slice (some ⟨w.heap.size, 0, none⟩) 16 16)).run Try.prog (w.alloc (.cells (l.map fun b => Value.int .u8 b.toNat).toArray 227)) = .ok (.string ⟨l.toArray⟩) (w.alloc (.cells (l.map fun b => Value.int .u8 b.toNat).toArray 227)) := by
  have := run_convert_bytes_back (P := Try.prog) (w.alloc (.cells (l.map fun b => Value.int .u8 b.toNat).toArray 227)) 22 9 5 ⟨w.heap.size, 0, none⟩ 16 l Try.underlying22 Try.underlying5 Try.underlying9 (fun j hj => news_new w (l.map fun b => Value.int .u8 b.toNat) 227 j _ (by simp [List.getElem?_eq_getElem hj]))
  rw [hl] at this
  exact this

set_option maxRecDepth 100000 in
set_option maxHeartbeats 2000000 in
theorem hex_any (u : Int) (h0 : 0 ≤ u) (h1 : u ≤ 18446744073709551615) : Says 83 #[.int .u64 u] 16 := by
  refine ⟨⟨((List.range 16).map (hexL u)).toArray⟩, by simp [ByteArray.size], fun w => ?_⟩
  have hcv := conv16 w ((List.range 16).map (hexL u)) rfl
  simp only [List.range, List.range.loop, List.map] at hcv
  have HCV := Lib.hid hcv
  clear hcv
  go_enter Try.func83, Try.ntmps83
  go_wp2
  go_loopw [4] (fun i wr => ∃ k : Nat, k ≤ 16 ∧ i = .int .i64 k ∧ wr = w.alloc (hexC u k)) (fun i _ => 16 - (intOf i).toNat)
  case atStart => exact ⟨0, by omega, rfl, rfl⟩
  case round =>
    obtain ⟨k, hk, rfl, rfl⟩ := hrel
    by_cases hlt : k < 16
    · rcases (show k = 0 ∨ k = 1 ∨ k = 2 ∨ k = 3 ∨ k = 4 ∨ k = 5 ∨ k = 6 ∨ k = 7 ∨ k = 8 ∨ k = 9 ∨ k = 10 ∨ k = 11 ∨ k = 12 ∨ k = 13 ∨ k = 14 ∨ k = 15 by omega) with rfl | rfl | rfl | rfl | rfl | rfl | rfl | rfl | rfl | rfl | rfl | rfl | rfl | rfl | rfl | rfl
      · have ha := and15 (u / 1152921504606846976) (by omega) (by omega)
        clear hk hlt
        simp only [hexC, List.range, List.range.loop, List.map]
        go_wp2
        go_roundw
        case rel => exact ⟨0 + 1, by omega, rfl, by rw [hexB_at]; rfl⟩
        case measure => simp [intOf]
      · have ha := and15 (u / 72057594037927936) (by omega) (by omega)
        clear hk hlt
        simp only [hexC, List.range, List.range.loop, List.map]
        go_wp2
        go_roundw
        case rel => exact ⟨1 + 1, by omega, rfl, by rw [hexB_at]; rfl⟩
        case measure => simp [intOf]
      · have ha := and15 (u / 4503599627370496) (by omega) (by omega)
        clear hk hlt
        simp only [hexC, List.range, List.range.loop, List.map]
        go_wp2
        go_roundw
        case rel => exact ⟨2 + 1, by omega, rfl, by rw [hexB_at]; rfl⟩
        case measure => simp [intOf]
      · have ha := and15 (u / 281474976710656) (by omega) (by omega)
        clear hk hlt
        simp only [hexC, List.range, List.range.loop, List.map]
        go_wp2
        go_roundw
        case rel => exact ⟨3 + 1, by omega, rfl, by rw [hexB_at]; rfl⟩
        case measure => simp [intOf]
      · have ha := and15 (u / 17592186044416) (by omega) (by omega)
        clear hk hlt
        simp only [hexC, List.range, List.range.loop, List.map]
        go_wp2
        go_roundw
        case rel => exact ⟨4 + 1, by omega, rfl, by rw [hexB_at]; rfl⟩
        case measure => simp [intOf]
      · have ha := and15 (u / 1099511627776) (by omega) (by omega)
        clear hk hlt
        simp only [hexC, List.range, List.range.loop, List.map]
        go_wp2
        go_roundw
        case rel => exact ⟨5 + 1, by omega, rfl, by rw [hexB_at]; rfl⟩
        case measure => simp [intOf]
      · have ha := and15 (u / 68719476736) (by omega) (by omega)
        clear hk hlt
        simp only [hexC, List.range, List.range.loop, List.map]
        go_wp2
        go_roundw
        case rel => exact ⟨6 + 1, by omega, rfl, by rw [hexB_at]; rfl⟩
        case measure => simp [intOf]
      · have ha := and15 (u / 4294967296) (by omega) (by omega)
        clear hk hlt
        simp only [hexC, List.range, List.range.loop, List.map]
        go_wp2
        go_roundw
        case rel => exact ⟨7 + 1, by omega, rfl, by rw [hexB_at]; rfl⟩
        case measure => simp [intOf]
      · have ha := and15 (u / 268435456) (by omega) (by omega)
        clear hk hlt
        simp only [hexC, List.range, List.range.loop, List.map]
        go_wp2
        go_roundw
        case rel => exact ⟨8 + 1, by omega, rfl, by rw [hexB_at]; rfl⟩
        case measure => simp [intOf]
      · have ha := and15 (u / 16777216) (by omega) (by omega)
        clear hk hlt
        simp only [hexC, List.range, List.range.loop, List.map]
        go_wp2
        go_roundw
        case rel => exact ⟨9 + 1, by omega, rfl, by rw [hexB_at]; rfl⟩
        case measure => simp [intOf]
      · have ha := and15 (u / 1048576) (by omega) (by omega)
        clear hk hlt
        simp only [hexC, List.range, List.range.loop, List.map]
        go_wp2
        go_roundw
        case rel => exact ⟨10 + 1, by omega, rfl, by rw [hexB_at]; rfl⟩
        case measure => simp [intOf]
      · have ha := and15 (u / 65536) (by omega) (by omega)
        clear hk hlt
        simp only [hexC, List.range, List.range.loop, List.map]
        go_wp2
        go_roundw
        case rel => exact ⟨11 + 1, by omega, rfl, by rw [hexB_at]; rfl⟩
        case measure => simp [intOf]
      · have ha := and15 (u / 4096) (by omega) (by omega)
        clear hk hlt
        simp only [hexC, List.range, List.range.loop, List.map]
        go_wp2
        go_roundw
        case rel => exact ⟨12 + 1, by omega, rfl, by rw [hexB_at]; rfl⟩
        case measure => simp [intOf]
      · have ha := and15 (u / 256) (by omega) (by omega)
        clear hk hlt
        simp only [hexC, List.range, List.range.loop, List.map]
        go_wp2
        go_roundw
        case rel => exact ⟨13 + 1, by omega, rfl, by rw [hexB_at]; rfl⟩
        case measure => simp [intOf]
      · have ha := and15 (u / 16) (by omega) (by omega)
        clear hk hlt
        simp only [hexC, List.range, List.range.loop, List.map]
        go_wp2
        go_roundw
        case rel => exact ⟨14 + 1, by omega, rfl, by rw [hexB_at]; rfl⟩
        case measure => simp [intOf]
      · have ha := and15 (u) (by omega) (by omega)
        clear hk hlt
        simp only [hexC, List.range, List.range.loop, List.map]
        go_wp2
        go_roundw
        case rel => exact ⟨15 + 1, by omega, rfl, by rw [hexB_at]; rfl⟩
        case measure => simp [intOf]
    · obtain rfl : k = 16 := by omega
      clear hk hlt
      simp only [hexC, List.range, List.range.loop, List.map]
      have hcv := HCV.out
      go_wp2
      go_ret
      exact Gives.mk rfl (by (repeat (first | (with_reducible assumption) | (with_reducible exact Ext.refl _) | (with_reducible exact Ext.more _ _ _ _) | apply Ext.alloc | refine Ext.setCell ?_ (by first | exact Nat.le_refl _ | exact Nat.le_add_right _ _ | assumption) _ | apply Ext.patch | apply Ext.drew | apply Ext.drewN)))

end Go.Proofs.Ytlddahifhefjiaa
