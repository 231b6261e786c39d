import Derived.Test.YtcpeoflomdhidaaGreatKW03
import Derived.Laws.AppendOwnNone
import Derived.Test.YtcpeoflomdhidaaGreatChecked
import Derived.Deep.RegionLaw
import Derived.Deep.AppendLies
/-
  Packed: Pool2, Stock, LineS, Line, Copy.
-/
open Go.Ext renaming alloc → zA, patch → zP, drew → zD, drewN → zN, more → zM, refl → zR, setCell → zS
open Nat renaming le_refl → zL, le_add_right → zK
/-
  pool: Low, Take, New.
-/
namespace Go
open Go.RowKit
theorem lowGo_stop (l : List Bool) (f i : Nat) : PoolS.lowGo l 0 f i = [] := by cases f <;> rfl
theorem lowGo_end (l : List Bool) (k i : Nat) : PoolS.lowGo l k 0 i = [] := rfl
theorem lowGo_yes {l : List Bool} {k f i : Nat} (hk : 0 < k) (h : l.getD i false = true) : PoolS.lowGo l k (f + 1) i = (i : Int) :: PoolS.lowGo l (k - 1) f (i + 1) := by
  rw [PoolS.lowGo, if_neg (by omega), if_pos h]
theorem lowGo_no {l : List Bool} {k f i : Nat} (hk : 0 < k) (h : l.getD i false = false) : PoolS.lowGo l k (f + 1) i = PoolS.lowGo l k f (i + 1) := by
  rw [PoolS.lowGo, if_neg (by omega), if_neg (by rw [h]; simp)]
namespace PoolS
theorem takes_snoc (p : PoolS) (acc : List Int) (k : Nat) : p.takes (acc ++ [(k : Int)]) = ⟨(p.takes acc).l.set k false⟩ := by
  unfold takes
  rw [List.foldl_append]
  rfl
theorem takes_len (p : PoolS) (acc : List Int) : (p.takes acc).l.length = p.l.length := by
  unfold takes
  simp only
  generalize p.l = l
  induction acc generalizing l with
  | nil => rfl
  | cons x acc ih => rw [List.foldl_cons, ih, List.length_set]
theorem takes_getD (p : PoolS) (acc : List Int) (q : Nat) (h : ∀ x ∈ acc, x.toNat ≠ q) : (p.takes acc).l.getD q false = p.l.getD q false := by
  unfold takes
  simp only
  generalize p.l = l
  induction acc generalizing l with
  | nil => rfl
  | cons x acc ih =>
    rw [List.foldl_cons, ih (fun y hy => h y (List.mem_cons_of_mem _ hy)), List.getD_eq_getElem?_getD, List.getElem?_set_ne (h x List.mem_cons_self), ← List.getD_eq_getElem?_getD]
theorem below_snoc {acc : List Int} {j : Nat} (h : ∀ x ∈ acc, x.toNat < j) : ∀ x ∈ acc ++ [(j : Int)], x.toNat < j + 1 := by
  intro x hx
  rcases List.mem_append.1 hx with hx | hx
  · have := h x hx; omega
  · simp at hx; subst hx; simp
theorem runGo_spec {l : List Bool} {k : Nat} : ∀ (j m a : Nat), runGo l k j m = some a → (∀ q, j ≤ q → q < j + m → l.getD q false = true) → m < k → j + m ≤ l.length → a + k ≤ l.length ∧ ∀ q, a ≤ q → q < a + k → l.getD q false = true
  | 0, _, _, h, _, _, _ => by cases h
  | j + 1, m, a, h, hq, hm, hl => by
    unfold runGo at h
    split at h
    · rename_i hj
      split at h
      · rename_i hk
        injection h with h
        subst h
        refine ⟨by omega, fun q h1 h2 => ?_⟩
        by_cases hqj : q = j
        · subst hqj; exact hj
        · exact hq q (by omega) (by omega)
      · refine runGo_spec j (m + 1) a h (fun q h1 h2 => ?_) (by omega) (by omega)
        by_cases hqj : q = j
        · subst hqj; exact hj
        · exact hq q (by omega) (by omega)
    · exact runGo_spec j 0 a h (fun q h1 h2 => by omega) (by omega) (by omega)
theorem run_spec {p : PoolS} {k : Int} {a : Nat} (h : p.run k = some a) : 1 ≤ k ∧ a + k.toNat ≤ p.l.length ∧ ∀ q, a ≤ q → q < a + k.toNat → p.l.getD q false = true := by
  unfold run at h
  split at h
  · cases h
  · exact ⟨by omega, runGo_spec _ 0 a h (fun q h1 h2 => by omega) (by omega) (by omega)⟩
def span (a k : Nat) : List Int := (List.range k).map fun j => ((a + j : Nat) : Int)
theorem span_succ (a k : Nat) : span a (k + 1) = span a k ++ [((a + k : Nat) : Int)] := by unfold span; rw [List.range_succ, List.map_append]; rfl
theorem span_len (a k : Nat) : (span a k).length = k := by simp [span]
theorem span_mem {a k : Nat} {x : Int} (h : x ∈ span a k) : ∃ j, j < k ∧ x = ((a + j : Nat) : Int) := by
  simp only [span, List.mem_map, List.mem_range] at h
  obtain ⟨j, hj, rfl⟩ := h
  exact ⟨j, hj, rfl⟩
end PoolS
end Go
namespace Go.Proofs.YtcpeoflomdhidaaGreat
open Go Go.RowKit
set_option linter.unusedVariables false
set_option linter.unnecessarySimpa false
set_option linter.unusedSimpArgs false
set_option maxHeartbeats 2000000

set_option maxRecDepth 100000 in
theorem pool_low (g : GW) (t b : Nat) (k : Int) (p : PoolS) (h : PoolAt g t b p) (ht : t ≠ 0) (hk2 : k ≤ 1099511627776) :
    Calls Tryz.prog 115 #[.pointer (some ⟨b, 0, none⟩), .int .i64 k] g.w (Makes g (fun x => x = t) (fun v g' => PoolAt g' t b (p.takes (p.lowOnes k)) ∧ Row g' 0 3 1 v (p.lowOnes k).length ((p.lowOnes k).map (Value.int .i64)))) := by
  obtain ⟨i0, hi, hz0, hz1, hz2⟩ := info_parts infoInt
  have HT := Lib.hid ht
  have hlen := h.len
  have HP := Lib.hid h
  clear h ht
  go_enter Tryz.func115, Tryz.ntmps115
  go_wp2_with fail
  go_loopw [5, 6] (fun v i wr => ∃ (j : Nat) (acc : List Int) (own : Nat → Nat), j ≤ p.l.length ∧ acc.length ≤ k.toNat ∧ acc.length ≤ j ∧ i = .int .i64 j ∧ Hid (p.lowOnes k = acc ++ PoolS.lowGo p.l (k.toNat - acc.length) (p.l.length - j) j) ∧ Hid (∀ x ∈ acc, x.toNat < j) ∧
    Hid (Mod (fun x => x = t) g ⟨own, wr⟩) ∧ Hid (PoolAt ⟨own, wr⟩ t b (p.takes acc)) ∧ Hid (Mine g ⟨own, wr⟩ 3 1 v acc.length (acc.map (Value.int .i64)))) (fun _ i _ => p.l.length - (intOf i).toNat)
  case atStart => exact ⟨0, [], g.own, Nat.zero_le _, Nat.zero_le _, Nat.le_refl _, rfl, Lib.hid rfl, Lib.hid (by simp), Lib.hid (Mod.refl _ _), HP, Lib.hid (Mine.nil _ _ _ _)⟩
  case round =>
    obtain ⟨j, acc, own, hj, hm, hmj, rfl, HL, HA, HM, HQ, HR⟩ := hrel
    have hQl := PoolS.takes_len p acc
    obtain ⟨A, c, hb, hr⟩ := HQ.out.ex
    have c0 := hb.cell (i := 0) rfl
    simp only at c0
    rw [hQl] at c0
    obtain ⟨A5, c5, hv5⟩ := own_form HR.out.row.row
    subst hv5
    clear hb hr
    have hQlH := Lib.hid hQl
    clear hQl
    by_cases hlt : j < p.l.length
    · by_cases hmk : acc.length < k.toNat
      · have hd : decide ((acc.length : Int) < k) = true := decide_eq_true (by omega)
        obtain ⟨r, c', hb', -, hrl, k0, -, -⟩ := HQ.out.place (k := j) (by rw [hQlH.out]; exact hlt)
        have c0' := hb'.cell (i := 0) rfl
        simp only at c0' k0 hrl
        rw [hQlH.out] at c0'
        rw [PoolS.takes_getD _ _ _ (fun x hx e => by have := HA.out x hx; omega)] at k0
        rw [c0'] at c0
        injection c0 with c0
        injection c0 with e1 _ e2
        subst e1 e2
        have c0 := c0'
        clear hb' c0'
        cases hx : p.l.getD j false
        · rw [hx] at k0
          have HN := Lib.hid (HL.out.trans (by rw [show p.l.length - j = (p.l.length - (j + 1)) + 1 by omega, lowGo_no (by omega) hx]))
          clear hx
          go_wp2_with fail
          go_roundw
          case rel => exact ⟨j + 1, acc, own, by omega, hm, by omega, by go_num, HN, Lib.hid (fun x hx => by have := HA.out x hx; omega), HM, HQ, HR⟩
          case measure => simp [intOf]; omega
        · rw [hx] at k0
          have HN := Lib.hid (HL.out.trans (by rw [show p.l.length - j = (p.l.length - (j + 1)) + 1 by omega, lowGo_yes (by omega) hx, List.append_cons, show k.toNat - acc.length - 1 = k.toNat - (acc ++ [(j : Int)]).length by simp; omega]))
          have HX := Lib.hid (show (p.takes acc).l.getD j false = true by rw [PoolS.takes_getD _ _ _ (fun x hx e => by have := HA.out x hx; omega)]; exact hx)
          clear hx
          go_wp2_with fail
          refine (pool_takes ⟨own, wr⟩ t b j _ HQ.out (by rw [hQlH.out]; exact hlt) HX.out).mono ?_
          rintro e w1 ⟨rfl, own1, m1, a1⟩
          have M1 := Lib.hid (Mod.trans HM.out m1)
          have Q1 := Lib.hid (PoolS.takes_snoc p acc j ▸ a1)
          have R1 := Lib.hid (HR.out.keep m1 (fun e => HT.out e.symm))
          clear m1 a1 c0 k0 hrl
          go_wp2_with (at_builtin; refine wpList_append_own_at _ rfl (.tmp 32) (.tmp 34) 62 rfl 0 3 i0 (.int .i64 0) 1 8 Tryz.underlying62 hi hz0 hz1 hz2 rfl (by decide) _ _ _ rfl (R1.out.row.row.alloc _) ⟨w1.heap.size, 0, none⟩ 1 1 [.int .i64 (j : Int)] rfl rfl (cell_one_new _ _ _) (by intro u hu; simp at hu; subst hu; rfl) (by unfold maxLen; omega) (by omega) (Nat.zero_le _) ?_; intro v2 w2 hown hgrow hnil hat)
          obtain ⟨own2, m2, r2, k2⟩ := R1.out.app M1.out (Ext.alloc (Ext.refl _) _) hown hgrow hat
          have M2 := Lib.hid m2
          have R2 := Lib.hid r2
          have Q2 := Lib.hid (Q1.out.keep k2 HT.out)
          clear m2 r2 k2 hown hgrow hnil hat
          go_wp2_with fail
          go_roundw
          case rel => exact ⟨j + 1, acc ++ [(j : Int)], own2, by omega, by simp; omega, by simp; omega, by go_num, HN, Lib.hid (PoolS.below_snoc HA.out), M2, Q2, Lib.hid ⟨R2.out.row.weak (by simp) (by simp), R2.out.new⟩⟩
          case measure => simp [intOf]; omega
      · have hd : decide ((acc.length : Int) < k) = false := decide_eq_false (by omega)
        have HN := Lib.hid (HL.out.trans (by rw [show k.toNat - acc.length = 0 by omega, lowGo_stop, List.append_nil]))
        go_wp2_with fail
        go_ret
        exact ⟨_, own, rfl, HM.out, by rw [HN.out]; exact HQ.out, by rw [HN.out]; exact HR.out.row⟩
    · obtain rfl : j = p.l.length := by omega
      have HN := Lib.hid (HL.out.trans (by rw [show p.l.length - p.l.length = 0 by omega, lowGo_end, List.append_nil]))
      go_wp2_with fail
      go_ret
      exact ⟨_, own, rfl, HM.out, by rw [HN.out]; exact HQ.out, by rw [HN.out]; exact HR.out.row⟩

def TookIt (t b : Nat) (p : PoolS) (l : List Int) (v : Value) (g' : GW) : Prop := ∃ s, v = .tuple #[s, .bool true] ∧ Row g' 0 3 1 s l.length (l.map (Value.int .i64)) ∧ PoolAt g' t b (p.takes l)
set_option maxRecDepth 100000 in
theorem pool_take_yes (g : GW) (t b : Nat) (k : Int) (l : List Int) (p : PoolS) (h : PoolAt g t b p) (ht : t ≠ 0) (hl : p.taken k = some l) :
    Calls Tryz.prog 201 #[.pointer (some ⟨b, 0, none⟩), .int .i64 k] g.w (Makes g (fun x => x = t) (TookIt t b p l)) := by
  obtain ⟨i0, hi, hz0, hz1, hz2⟩ := info_parts infoInt
  have hlen := h.len
  have hfr : p.free ≤ 1024 := Nat.le_trans List.countP_le_length hlen
  have hk : 1 ≤ k ∧ k ≤ p.free := by
    unfold PoolS.taken at hl
    split at hl
    · cases hl
    · omega
  obtain ⟨hk1, hk2⟩ := hk
  have HRun := Lib.hid (pool_run g t b k p h (by omega))
  obtain ⟨A, c, hb, hr⟩ := h.ex
  have c1 := hb.cell (i := 1) rfl
  have HT := Lib.hid ht
  have HP := Lib.hid h
  cases hrun : p.run k with
  | none =>
    obtain rfl : p.lowOnes k = l := by
      unfold PoolS.taken at hl
      rw [if_neg (by omega), hrun] at hl
      exact Option.some.inj hl
    have HL := Lib.hid (pool_low g t b k p h ht (by omega))
    rw [hrun] at HRun
    unfold runVal at HRun
    clear hb hr h ht hrun hl
    generalize p.free = f at *
    go_enter Tryz.func201, Tryz.ntmps201
    go_wp2_with fail
    refine (HRun.out).mono ?_
    rintro e w1 ⟨rfl, rfl⟩
    go_wp2_with fail
    refine HL.out.mono ?_
    rintro e w1 ⟨v, own1, rfl, m1, a1, r1⟩
    have M1 := Lib.hid m1
    have Q1 := Lib.hid a1
    have R1 := Lib.hid r1
    clear m1 a1 r1
    go_wp2_with fail
    go_ret2
    exact ⟨_, own1, rfl, M1.out, _, rfl, R1.out, Q1.out⟩
  | some a =>
    obtain rfl : PoolS.span a k.toNat = l := by
      unfold PoolS.taken at hl
      rw [if_neg (by omega), hrun] at hl
      exact Option.some.inj hl
    obtain ⟨-, ha, hq⟩ := PoolS.run_spec hrun
    have HQ0 := Lib.hid hq
    rw [hrun] at HRun
    unfold runVal at HRun
    clear hb hr h ht hrun hl hq
    generalize p.free = f at *
    obtain ⟨kn, rfl⟩ := Int.eq_ofNat_of_zero_le (show 0 ≤ k by omega)
    rw [Int.toNat_natCast] at *
    go_enter Tryz.func201, Tryz.ntmps201
    go_wp2_with fail
    refine (HRun.out).mono ?_
    rintro e w1 ⟨rfl, rfl⟩
    go_wp2_with fail
    go_loopw [8, 9] (fun v i wr => ∃ (j : Nat) (own : Nat → Nat), j ≤ kn ∧ i = .int .i64 ((a : Int) + j) ∧ Hid (Mod (fun x => x = t) g ⟨own, wr⟩) ∧ Hid (PoolAt ⟨own, wr⟩ t b (p.takes (PoolS.span a j))) ∧ Hid (Mine g ⟨own, wr⟩ 3 1 v j ((PoolS.span a j).map (Value.int .i64)))) (fun _ i _ => (a + kn - intOf i).toNat)
    case atStart => exact ⟨0, g.own, Nat.zero_le _, by simp, Lib.hid (Mod.refl _ _), HP, Lib.hid (Mine.nil _ _ _ _)⟩
    case round =>
      obtain ⟨j, own, hj, rfl, HM, HQ, HR⟩ := hrel
      obtain ⟨A5, c5, hv5⟩ := own_form HR.out.row.row
      subst hv5
      rw [show ((a : Int) + (j : Int)) = ((a + j : Nat) : Int) by omega]
      by_cases hlt : j < kn
      · have HX := Lib.hid (show (p.takes (PoolS.span a j)).l.getD (a + j) false = true by
          rw [PoolS.takes_getD _ _ _ (fun x hx e => by obtain ⟨i, hi, rfl⟩ := PoolS.span_mem hx; rw [Int.toNat_natCast] at e; omega)]
          exact HQ0.out _ (by omega) (by omega))
        have hd : decide (((a + j : Nat) : Int) < (a : Int) + kn) = true := decide_eq_true (by omega)
        go_wp2_with fail
        refine (pool_takes ⟨own, wr⟩ t b (a + j) _ HQ.out (by rw [PoolS.takes_len]; omega) HX.out).mono ?_
        rintro e w1 ⟨rfl, own1, m1, a1⟩
        have M1 := Lib.hid (Mod.trans HM.out m1)
        have Q1 := Lib.hid (show PoolAt ⟨own1, w1⟩ t b (p.takes (PoolS.span a (j + 1))) by rw [PoolS.span_succ, PoolS.takes_snoc]; exact a1)
        have R1 := Lib.hid (HR.out.keep m1 (fun e => HT.out e.symm))
        clear m1 a1
        go_wp2_with (at_builtin; refine wpList_append_own_at _ rfl (.tmp 42) (.tmp 44) 62 rfl 0 3 i0 (.int .i64 0) 1 8 Tryz.underlying62 hi hz0 hz1 hz2 rfl (by decide) _ _ _ rfl (R1.out.row.row.alloc _) ⟨w1.heap.size, 0, none⟩ 1 1 [.int .i64 ((a + j : Nat) : Int)] rfl rfl (cell_one_new _ _ _) (by intro u hu; simp at hu; subst hu; rfl) (by unfold maxLen; omega) (by omega) (Nat.zero_le _) ?_; intro v2 w2 hown hgrow hnil hat)
        obtain ⟨own2, m2, r2, k2⟩ := R1.out.app M1.out (Ext.alloc (Ext.refl _) _) hown hgrow hat
        have M2 := Lib.hid m2
        have R2 := Lib.hid r2
        have Q2 := Lib.hid (Q1.out.keep k2 HT.out)
        clear m2 r2 k2 hown hgrow hnil hat
        go_wp2_with fail
        go_roundw
        case rel => exact ⟨j + 1, own2, by omega, by go_num, M2, Q2, Lib.hid ⟨R2.out.row.weak rfl (by rw [PoolS.span_succ]; simp), R2.out.new⟩⟩
        case measure => simp [intOf]; omega
      · obtain rfl : j = kn := by omega
        have hd : decide (((a + j : Nat) : Int) < (a : Int) + j) = false := decide_eq_false (by omega)
        go_wp2_with fail
        go_ret2
        exact ⟨_, own, rfl, HM.out, _, rfl, HR.out.row.weak (PoolS.span_len _ _).symm rfl, HQ.out⟩

def PoolMade (n : Int) (t : Nat) (g : GW) (e : Ending) (w' : World) : Prop :=
  if 0 ≤ n ∧ n ≤ 1024 then ∃ own' b, e = .returned (.tuple #[.pointer (some ⟨b, 0, none⟩), .int .i64 0]) ∧ Mod (fun _ => False) g ⟨own', w'⟩ ∧ PoolAt ⟨own', w'⟩ t b ⟨List.replicate n.toNat true⟩
  else e = .returned (.tuple #[.pointer none, .int .i64 1]) ∧ Ext g.w w'
theorem fill_step {n k : Nat} (h : k < n) : (List.replicate k true ++ List.replicate (n - k) false).set k true = List.replicate (k + 1) true ++ List.replicate (n - (k + 1)) false := by
  rw [show n - k = (n - (k + 1)) + 1 by omega, List.replicate_succ, List.set_append_right _ _ (by simp), List.length_replicate, Nat.sub_self, List.set_cons_zero, List.replicate_succ', List.append_assoc]
  rfl
theorem pool_new (n : Int) (t : Nat) (g : GW) : Calls Tryz.prog 46 #[.int .i64 n] g.w (PoolMade n t g) := by
  obtain ⟨i0, hi, hz0, hz1, hz2⟩ := info_parts infoBool
  by_cases h0 : n < 0
  · have HV := Lib.hid (show ¬ (0 ≤ n ∧ n ≤ 1024) by omega)
    go_enter Tryz.func46, Tryz.ntmps46
    go_wp2_with fail
    go_ret2
    unfold PoolMade
    rw [if_neg HV.out]
    exact ⟨rfl, Ext.refl _⟩
  by_cases h1 : 1024 < n
  · have HV := Lib.hid (show ¬ (0 ≤ n ∧ n ≤ 1024) by omega)
    go_enter Tryz.func46, Tryz.ntmps46
    go_wp2_with fail
    go_ret2
    unfold PoolMade
    rw [if_neg HV.out]
    exact ⟨rfl, Ext.refl _⟩
  obtain ⟨k, rfl⟩ := Int.eq_ofNat_of_zero_le (show 0 ≤ n by omega)
  have HV := Lib.hid (show (0 : Int) ≤ k ∧ (k : Int) ≤ 1024 by omega)
  have hmk := run_made (P := Tryz.prog) 96 4 i0 _ 1 1 Tryz.underlying96 hi hz0 hz1 hz2 k (by omega) (by omega)
  simp only [Value.cells, made_one] at hmk
  have hk : k ≤ 1024 := by omega
  go_enter Tryz.func46, Tryz.ntmps46
  go_wp2_with fail
  obtain ⟨q1, q2⟩ := two_blocks g.w (.cells (List.replicate k (Value.bool false)).toArray 4) (.cells #[.slice (some ⟨g.w.heap.size, 0, none⟩) k k, .int .i64 k] 183)
  have HB := Lib.hid (Blk.made (g := g) (t := t) q2 (by omega))
  have HR := Lib.hid (Row.made (g := g) (t := t) (n := k) (size := 1) q1 (Nat.le_refl _) (by simp) (by omega))
  have HE := Lib.hid (Mod.ext (T := fun _ => False) (show Ext g.w ((g.w.alloc (.cells (List.replicate k (Value.bool false)).toArray 4)).alloc (.cells #[.slice (some ⟨g.w.heap.size, 0, none⟩) k k, .int .i64 k] 183)) by (repeat (first | (with_reducible (first | assumption | exact zR _ | exact zM _ _ _ _)) | apply zA | refine zS ?_ (by first | exact zL _ | exact zK _ _ | assumption) _ | apply zP | apply zD | apply zN))) t)
  have hsz : g.w.heap.size < ((g.w.alloc (.cells (List.replicate k (Value.bool false)).toArray 4)).alloc (.cells #[.slice (some ⟨g.w.heap.size, 0, none⟩) k k, .int .i64 k] 183)).heap.size := by rw [World.size_alloc, World.size_alloc]; omega
  clear q1 q2
  have c0 := HB.out.cell (i := 0) rfl
  simp only [GW.to] at c0
  go_loopw [22] (fun i wr => ∃ (j : Nat) (own : Nat → Nat), j ≤ k ∧ i = .int .i64 j ∧ Hid (Mod (fun _ => False) g ⟨own, wr⟩) ∧ Hid (Blk ⟨own, wr⟩ t (g.w.heap.size + 1) 183 [.slice (some ⟨g.w.heap.size, 0, none⟩) k k, .int .i64 k]) ∧ Hid (Row ⟨own, wr⟩ t 4 1 (.slice (some ⟨g.w.heap.size, 0, none⟩) k k) k ((List.replicate j true ++ List.replicate (k - j) false).map Value.bool))) (fun i _ => k - (intOf i).toNat)
  case atStart => exact ⟨0, _, Nat.zero_le _, rfl, HE, HB, Lib.hid (HR.out.weak rfl (by simp))⟩
  case round =>
    obtain ⟨j, own, hj, rfl, M, B, R⟩ := hrel
    clear c0 hsz HE HB HR
    by_cases hlt : j < k
    · obtain ⟨r, hr, hrl, ho, hcell, hfr⟩ := R.out.block (by omega)
      simp only [Option.some.injEq, Addr.mk.injEq, and_true] at hr
      obtain rfl := hr
      have k0 := hcell j (.bool false) (by rw [List.getElem?_map, List.getElem?_append_right (by simp), List.length_replicate, Nat.sub_self, List.getElem?_replicate, if_pos (by omega)]; rfl)
      have kf := hfr j
      simp only at k0 kf hrl
      have c0 := B.out.cell (i := 0) rfl
      simp only at c0
      clear hcell hfr ho
      go_wp2_with fail
      go_roundw
      case rel => exact ⟨j + 1, own, by omega, by go_num, Lib.hid (Mod.stn M.out (Nat.le_refl _)), Lib.hid (B.out.setOther j _ (by omega)), Lib.hid ((R.out.store j (.bool true)).weak rfl (by rw [← fill_step hlt, List.map_set]))⟩
      case measure => simp [intOf]; omega
    · obtain rfl : j = k := by omega
      go_wp2_with fail
      go_ret2
      unfold PoolMade
      rw [if_pos HV.out]
      refine ⟨own, _, rfl, M.out, ⟨⟨some ⟨g.w.heap.size, 0, none⟩, j, ?_, ?_⟩, by simpa using hk⟩⟩
      · have := B.out
        simpa [PoolS.free, List.countP_replicate] using this
      · have := R.out
        simpa using this
end Go.Proofs.YtcpeoflomdhidaaGreat

/-
  stock: what a thread keeps.
-/
namespace Go
open Go.RowKit
structure StockS where
  l : List Int
  most : Int
end Go
namespace Go.Proofs.YtcpeoflomdhidaaGreat
open Go Go.RowKit
set_option linter.unusedVariables false
set_option linter.unnecessarySimpa false
set_option linter.unusedSimpArgs false
set_option maxHeartbeats 2000000

structure StockAt (g : GW) (t b : Nat) (s : StockS) : Prop where
  ex : ∃ A c, Blk g t b 189 [.slice A s.l.length c, .int .i64 s.most] ∧ Row g t 3 1 (.slice A s.l.length c) s.l.length (s.l.map (Value.int .i64))
  most : 0 ≤ s.most ∧ s.most ≤ 8
  len : (s.l.length : Int) ≤ s.most
theorem StockAt.keep {S : Nat → Prop} {g g' : GW} {t b : Nat} {s : StockS} (h : StockAt g t b s) (d : Mod S g g') (hs : ¬ S t) : StockAt g' t b s := by
  obtain ⟨A, c, h1, h2⟩ := h.ex
  exact ⟨⟨A, c, h1.keep d hs, h2.keep d hs⟩, h.most, h.len⟩
theorem stock_drain (g : GW) (t b : Nat) (s : StockS) (h : StockAt g t b s) :
    Calls Tryz.prog 140 #[.pointer (some ⟨b, 0, none⟩)] g.w (Makes g (fun x => x = t) (fun v g' => StockAt g' t b ⟨[], s.most⟩ ∧ Row g' t 3 1 v s.l.length (s.l.map (Value.int .i64)))) := by
  obtain ⟨A, c, hb, hr⟩ := h.ex
  have c0 := hb.cell (i := 0) rfl
  have f0 := hb.live 0
  have hbl := hb.lt
  have HB := Lib.hid hb
  have HR := Lib.hid hr
  have HM := Lib.hid h.most
  clear hb hr h
  go_enter Tryz.func140, Tryz.ntmps140
  go_wp2_with fail
  go_ret
  exact ⟨_, g.own, rfl, Mod.st Mod.self HB.out.own, ⟨⟨none, 0, HB.out.set 0 _, Row.nil _ _ _ _⟩, HM.out, by simpa using HM.out.1⟩, HR.out.setOther _ _ (fun x hx => HR.out.ne_type HB.out (by decide) hx)⟩

theorem stock_new (n : Int) (t : Nat) (g : GW) (hn : 0 ≤ n ∧ n ≤ 8) : Calls Tryz.prog 50 #[.int .i64 n] g.w (fun e w' => ∃ b, e = .returned (.tuple #[.pointer (some ⟨b, 0, none⟩), .int .i64 0]) ∧ Mod (fun _ => False) g (g.to t w') ∧ StockAt (g.to t w') t b ⟨[], n⟩ ∧ Ext g.w w' ∧ g.w.heap.size ≤ b ∧ b < w'.heap.size) := by
  have HV := Lib.hid hn
  obtain ⟨h0, h1⟩ := hn
  go_enter Tryz.func50, Tryz.ntmps50
  go_wp2_with fail
  go_ret2
  have he : Ext g.w (g.w.alloc (.cells #[.slice none 0 0, .int .i64 n] 189)) := by (repeat (first | (with_reducible (first | assumption | exact zR _ | exact zM _ _ _ _)) | apply zA | refine zS ?_ (by first | exact zL _ | exact zK _ _ | assumption) _ | apply zP | apply zD | apply zN))
  exact ⟨_, rfl, Mod.ext he t, ⟨⟨none, 0, Blk.made (World.row_alloc_new _) (Nat.le_refl _), Row.nil _ _ _ _⟩, HV.out, HV.out.1⟩, he, Nat.le_refl _, by rw [World.size_alloc]; omega⟩

end Go.Proofs.YtcpeoflomdhidaaGreat

/-
  Requests in a line, as plain data, and as they stand in memory. No program here.
-/
namespace Go
open Go.RowKit
set_option linter.unusedVariables false
structure Ent where
  thread : Int
  frags : Int
  spine : Int
  state : Int
  cycles : Int
  at_ : Int
  got : List Int
  noted : Bool
structure EntM where
  e : Ent
  A : Option Addr
  cap : Nat
namespace EntM
def req (m : EntM) : List Value := [.int .i64 m.e.thread, .int .i64 m.e.frags, .int .i64 m.e.spine, .int .i64 m.e.state, .int .i64 m.e.cycles, .int .i64 m.e.at_, .slice m.A m.e.got.length m.cap]
def cells (m : EntM) : List Value := m.req ++ [.bool m.e.noted]
theorem cells_len (m : EntM) : m.cells.length = 8 := rfl
structure At (g : GW) (t : Nat) (m : EntM) : Prop where
  seg : Seg g t m.A (m.e.got.map (Value.int .i64))
  len : m.e.got.length ≤ 1024
theorem At.keep {S : Nat → Prop} {g g' : GW} {t : Nat} {m : EntM} (h : At g t m) (d : Mod S g g') (hs : ¬ S t) : At g' t m := ⟨h.seg.keep d hs, h.len⟩
end EntM
def placeOf (p : Ent → Bool) (l : List Ent) : Int := match l.findIdx? p with | some i => (i : Int) | none => -1
theorem placeOf_none {p : Ent → Bool} {l : List Ent} (h : ∀ e ∈ l, p e = false) : placeOf p l = -1 := by
  unfold placeOf
  rw [List.findIdx?_eq_none_iff.2 h]
theorem placeOf_some {p : Ent → Bool} {l : List Ent} {k : Nat} {e : Ent} (hk : l[k]? = some e) (hp : p e = true) (h : ∀ x ∈ l.take k, p x = false) : placeOf p l = k := by
  obtain ⟨hl, hx⟩ := List.getElem?_eq_some_iff.1 hk
  have : l.findIdx? p = some k := by
    rw [List.findIdx?_eq_some_iff_getElem]
    refine ⟨hl, by rw [hx]; exact hp, fun j hj => ?_⟩
    have := h l[j] (by rw [List.mem_take_iff_getElem]; exact ⟨j, by omega, rfl⟩)
    simp [this]
  unfold placeOf
  rw [this]
theorem placeOf_bd (p : Ent → Bool) (l : List Ent) : -1 ≤ placeOf p l ∧ placeOf p l < l.length := by
  unfold placeOf
  cases h : l.findIdx? p with
  | none => simp only; omega
  | some i =>
    obtain ⟨hl, _⟩ := List.findIdx?_eq_some_iff_getElem.1 h
    simp only; omega
def ofB (th : Int) (e : Ent) : Bool := e.thread == th
def waitB (e : Ent) : Bool := e.state == 0
end Go

/-
  line: who waits (of, at, Of, Add, Waits, New).
-/
namespace Go.Proofs.YtcpeoflomdhidaaGreat
open Go Go.RowKit
set_option linter.unusedVariables false
set_option linter.unnecessarySimpa false
set_option linter.unusedSimpArgs false
set_option maxHeartbeats 2000000

structure LineAt (g : GW) (t b : Nat) (L : List Ent) : Prop where
  ex : ∃ A c, ∃ ms : List EntM, Blk g t b 187 [.slice A L.length c] ∧ Row g t 198 8 (.slice A L.length c) L.length (ms.flatMap EntM.cells) ∧ ms.map EntM.e = L ∧ ∀ m ∈ ms, m.At g (t + 1)
  len : L.length ≤ 1000000
theorem LineAt.keep {S : Nat → Prop} {g g' : GW} {t b : Nat} {L : List Ent} (h : LineAt g t b L) (d : Mod S g g') (hs : ¬ S t) (hs1 : ¬ S (t + 1)) : LineAt g' t b L := by
  obtain ⟨A, c, ms, h1, h2, h3, h4⟩ := h.ex
  exact ⟨⟨A, c, ms, h1.keep d hs, h2.keep d hs, h3, fun m hm => (h4 m hm).keep d hs1⟩, h.len⟩

theorem ent_cells {w : World} {A : Option Addr} {ms : List EntM} (h : CellsAt w A (ms.flatMap EntM.cells)) {k : Nat} (hk : k < ms.length) : ∃ b o, A = some ⟨b, o, none⟩ ∧ b < w.heap.size ∧
    w.cell? ⟨b, o + k * 8, none⟩ = some (.int .i64 ms[k].e.thread) ∧ w.cell? ⟨b, o + k * 8 + 1, none⟩ = some (.int .i64 ms[k].e.frags) ∧ w.cell? ⟨b, o + k * 8 + 2, none⟩ = some (.int .i64 ms[k].e.spine) ∧ w.cell? ⟨b, o + k * 8 + 3, none⟩ = some (.int .i64 ms[k].e.state) ∧
    w.cell? ⟨b, o + k * 8 + 4, none⟩ = some (.int .i64 ms[k].e.cycles) ∧ w.cell? ⟨b, o + k * 8 + 5, none⟩ = some (.int .i64 ms[k].e.at_) ∧ w.cell? ⟨b, o + k * 8 + 6, none⟩ = some (.slice ms[k].A ms[k].e.got.length ms[k].cap) ∧ w.cell? ⟨b, o + k * 8 + 7, none⟩ = some (.bool ms[k].e.noted) := by
  obtain ⟨b, o, hA, hb, hc⟩ := h.cases (by rw [flat_size ms EntM.cells_len]; omega)
  have hx := List.getElem?_eq_getElem hk
  have q := fun (j : Nat) (v : Value) (hj : j < 8) (hv : (ms[k].cells)[j]? = some v) => hc (k * 8 + j) v (by rw [flat_at EntM.cells_len ms k j _ hx hj]; exact hv)
  refine ⟨b, o, hA, hb, ?_, ?_, ?_, ?_, ?_, ?_, ?_, ?_⟩
  · exact q 0 _ (by omega) rfl
  · have := q 1 _ (by omega) rfl; rwa [← Nat.add_assoc] at this
  · have := q 2 _ (by omega) rfl; rwa [← Nat.add_assoc] at this
  · have := q 3 _ (by omega) rfl; rwa [← Nat.add_assoc] at this
  · have := q 4 _ (by omega) rfl; rwa [← Nat.add_assoc] at this
  · have := q 5 _ (by omega) rfl; rwa [← Nat.add_assoc] at this
  · have := q 6 _ (by omega) rfl; rwa [← Nat.add_assoc] at this
  · have := q 7 _ (by omega) rfl; rwa [← Nat.add_assoc] at this

def IdxGot (p : Ent → Bool) (ms : List EntM) (w : World) (e : Ending) (w' : World) : Prop := Gives (.int .i64 (placeOf p (ms.map EntM.e))) w e w'
def Ent.wait (l : List Ent) : Nat := l.countP waitB
theorem line_waits (g : GW) (t b : Nat) (L : List Ent) (h : LineAt g t b L) :
    Calls Tryz.prog 83 #[.pointer (some ⟨b, 0, none⟩)] g.w (Gives (.int .i64 (Ent.wait L)) g.w) := by
  obtain ⟨A, c, ms, hb, hr, hm, -⟩ := h.ex
  have hml : ms.length = L.length := by rw [← hm, List.length_map]
  have hlen := h.len
  have c0 := hb.cell (i := 0) rfl
  have hbl := hb.lt
  have HC := Lib.hid hr.cells
  have HM := Lib.hid hm
  rw [← hml] at c0 hlen
  have HL := Lib.hid hml
  clear hr hm hb h hml
  go_enter Tryz.func83, Tryz.ntmps83
  go_wp2_with fail
  go_loopw [3, 11] (fun v i wr => ∃ (k : Nat), k ≤ ms.length ∧ i = .int .i64 k ∧ v = .int .i64 (Ent.wait (L.take k) : Nat) ∧ Hid (Ext g.w wr)) (fun _ i _ => ms.length - (intOf i).toNat)
  case atStart => exact ⟨0, Nat.zero_le _, rfl, rfl, Lib.hid (Ext.refl _)⟩
  case round =>
    obtain ⟨k, hk, rfl, rfl, HE⟩ := hrel
    by_cases hlt : k < ms.length
    · obtain ⟨q, o, hA, hq, g0, g1, g2, g3, g4, g5, g6, g7⟩ := ent_cells (HC.out.ext HE.out) hlt
      have hx := List.getElem?_eq_getElem hlt
      have hxe : L[k]? = some ms[k].e := by rw [← HM.out, List.getElem?_map, hx]; rfl
      have HS := Lib.hid (show Ent.wait (L.take (k + 1)) = Ent.wait (L.take k) + if waitB ms[k].e then 1 else 0 by
        unfold Ent.wait
        rw [List.take_add_one, hxe, List.countP_append]
        simp [List.countP_cons])
      have hw0 : Ent.wait (L.take k) ≤ k := Nat.le_trans List.countP_le_length (List.length_take_le _ _)
      generalize ms[k] = m at *
      generalize Ent.wait (L.take k) = n at *
      subst hA
      clear hx hxe
      cases hz : (m.e.state == 0)
      · have HN := Lib.hid (show Ent.wait (L.take (k + 1)) = n by rw [HS.out]; unfold waitB; rw [hz]; simp)
        go_wp2_with fail
        go_roundw
        case rel => exact ⟨k + 1, by omega, by go_num, by rw [HN.out], Lib.hid (HE.out.trans (by (repeat (first | (with_reducible (first | assumption | exact zR _ | exact zM _ _ _ _)) | apply zA | refine zS ?_ (by first | exact zL _ | exact zK _ _ | assumption) _ | apply zP | apply zD | apply zN))))⟩
        case measure => simp [intOf]; omega
      · have HN := Lib.hid (show Ent.wait (L.take (k + 1)) = n + 1 by rw [HS.out]; unfold waitB; rw [hz]; simp)
        go_wp2_with fail
        go_roundw
        case rel => exact ⟨k + 1, by omega, by go_num, by rw [HN.out]; go_num, Lib.hid (HE.out.trans (by (repeat (first | (with_reducible (first | assumption | exact zR _ | exact zM _ _ _ _)) | apply zA | refine zS ?_ (by first | exact zL _ | exact zK _ _ | assumption) _ | apply zP | apply zD | apply zN))))⟩
        case measure => simp [intOf]; omega
    · obtain rfl : k = ms.length := by omega
      have HN := Lib.hid (show L.take ms.length = L from List.take_of_length_le (by rw [HL.out]; exact Nat.le_refl _))
      go_wp2_with fail
      go_ret
      exact Gives.int (by rw [HN.out]; try rfl) HE.out
theorem line_new (t : Nat) (g : GW) : Calls Tryz.prog 49 #[] g.w (fun e w' => ∃ b, e = .returned (.pointer (some ⟨b, 0, none⟩)) ∧ Ext g.w w' ∧ LineAt (g.to t w') t b []) := by
  go_enter Tryz.func49, Tryz.ntmps49
  go_wp2_with fail
  go_ret
  exact ⟨_, rfl, by (repeat (first | (with_reducible (first | assumption | exact zR _ | exact zM _ _ _ _)) | apply zA | refine zS ?_ (by first | exact zL _ | exact zK _ _ | assumption) _ | apply zP | apply zD | apply zN)), ⟨none, 0, [], Blk.made (World.row_alloc_new _) (Nat.le_refl _), Row.nil _ _ _ _, rfl, by simp⟩, by simp⟩

def ReqOf (L : List Ent) (i : Int) (v : Value) (g' : GW) : Prop :=
  ∃ (r : List Value) (ok : Bool), v = .tuple #[.agg r.toArray, .bool ok] ∧ (i < 0 → ok = false ∧ r = [.int .i64 0, .int .i64 0, .int .i64 0, .int .i64 0, .int .i64 0, .int .i64 0, .slice none 0 0]) ∧
    (0 ≤ i → ok = true ∧ ∃ e A c, L[i.toNat]? = some e ∧ r = [.int .i64 e.thread, .int .i64 e.frags, .int .i64 e.spine, .int .i64 e.state, .int .i64 e.cycles, .int .i64 e.at_, .slice A e.got.length c] ∧ Row g' 0 3 1 (.slice A e.got.length c) e.got.length (e.got.map (Value.int .i64)))
set_option maxRecDepth 100000 in
theorem line_at (g : GW) (t b : Nat) (i : Int) (L : List Ent) (h : LineAt g t b L) (hi1 : i < L.length) :
    Calls Tryz.prog 196 #[.pointer (some ⟨b, 0, none⟩), .int .i64 i] g.w (Makes g (fun _ => False) (ReqOf L i)) := by
  by_cases h0 : i < 0
  · clear h hi1
    have HI := Lib.hid h0
    go_enter Tryz.func196, Tryz.ntmps196
    go_wp2_with fail
    refine bodyPost_ret (v := .tuple #[.agg #[.int .i64 0, .int .i64 0, .int .i64 0, .int .i64 0, .int .i64 0, .int .i64 0, .slice none 0 0], .bool false]) (by simp [results, Tryz.results196, go_sem]) rfl ?_
    exact ⟨_, _, rfl, Mod.ext (show Ext g.w _ by (repeat (first | (with_reducible (first | assumption | exact zR _ | exact zM _ _ _ _)) | apply zA | refine zS ?_ (by first | exact zL _ | exact zK _ _ | assumption) _ | apply zP | apply zD | apply zN))) 0, [.int .i64 0, .int .i64 0, .int .i64 0, .int .i64 0, .int .i64 0, .int .i64 0, .slice none 0 0], false, rfl, fun _ => ⟨rfl, rfl⟩, fun hh => by have := HI.out; omega⟩
  · obtain ⟨k, rfl⟩ := Int.eq_ofNat_of_zero_le (show 0 ≤ i by omega)
    obtain ⟨A, c, ms, hb, hr, hm, hat⟩ := h.ex
    have hml : ms.length = L.length := by rw [← hm, List.length_map]
    have hlen := h.len
    have c0 := hb.cell (i := 0) rfl
    have hbl := hb.lt
    have hkm : k < ms.length := by omega
    obtain ⟨q, o, hA, hq, g0, g1, g2, g3, g4, g5, g6, g7⟩ := ent_cells hr.cells hkm
    have hx := List.getElem?_eq_getElem hkm
    have hmm := hat _ (List.getElem_mem hkm)
    have HX := Lib.hid (show L[k]? = some ms[k].e by rw [← hm, List.getElem?_map, hx]; rfl)
    generalize ms[k] = m at *
    have HCl := Lib.hid (fun w' (he : Ext g.w w') => cloneIntN m.A m.cap m.e.got.length m.e.got 0 (g.to 9 w') rfl (hmm.seg.cells.ext he) (by have := hmm.len; omega))
    subst hA
    clear hr hm hat hmm hx hb h h0
    generalize L.length = n at *
    go_enter Tryz.func196, Tryz.ntmps196
    go_wp2_with fail
    refine (HCl.out _ (by (repeat (first | (with_reducible (first | assumption | exact zR _ | exact zM _ _ _ _)) | apply zA | refine zS ?_ (by first | exact zL _ | exact zK _ _ | assumption) _ | apply zP | apply zD | apply zN)))).mono ?_
    rintro e w1 ⟨A', c', rfl, m1, r1, he1, f1⟩
    have E1 := Lib.hid (show Ext _ w1 from he1)
    obtain ⟨q1, q2⟩ := two_blocks g.w (.cells #[.int .i64 0, .int .i64 0, .int .i64 0, .int .i64 0, .int .i64 0, .int .i64 0, .slice none 0 0] 167) (.cells #[.int .i64 m.e.thread, .int .i64 m.e.frags, .int .i64 m.e.spine, .int .i64 m.e.state, .int .i64 m.e.cycles, .int .i64 m.e.at_, .slice m.A m.e.got.length m.cap] 167)
    have B1 := Lib.hid ((Blk.made (g := g) (t := 9) q1 (Nat.le_refl _)).keep m1 id)
    have B2 := Lib.hid ((Blk.made (g := g) (t := 9) q2 (by omega)).keep m1 id)
    have R1 := Lib.hid r1
    have M1 := Lib.hid ((Mod.ext (T := fun _ => False) (show Ext g.w ((g.w.alloc (.cells #[.int .i64 0, .int .i64 0, .int .i64 0, .int .i64 0, .int .i64 0, .int .i64 0, .slice none 0 0] 167)).alloc (.cells #[.int .i64 m.e.thread, .int .i64 m.e.frags, .int .i64 m.e.spine, .int .i64 m.e.state, .int .i64 m.e.cycles, .int .i64 m.e.at_, .slice m.A m.e.got.length m.cap] 167)) by (repeat (first | (with_reducible (first | assumption | exact zR _ | exact zM _ _ _ _)) | apply zA | refine zS ?_ (by first | exact zL _ | exact zK _ _ | assumption) _ | apply zP | apply zD | apply zN))) 9).trans m1)
    clear q1 q2 m1 r1 he1 f1
    obtain ⟨d0, d1, d2, d3, d4, d5, d6, dl⟩ := B1.out.c7
    have df0 := B1.out.live 0
    have df1 := B1.out.live 1
    have df2 := B1.out.live 2
    have df3 := B1.out.live 3
    have df4 := B1.out.live 4
    have df5 := B1.out.live 5
    have df6 := B1.out.live 6
    (try simp only [GW.to] at d0 d1 d2 d3 d4 d5 d6 df0 df1 df2 df3 df4 df5 df6 dl)
    obtain ⟨e0, e1, e2, e3, e4, e5, e6, el⟩ := B2.out.c7
    have ef6 := B2.out.live 6
    (try simp only [GW.to] at e0 e1 e2 e3 e4 e5 e6 ef6 el)
    go_wp2_with fail
    refine bodyPost_ret (v := .tuple #[.agg #[.int .i64 m.e.thread, .int .i64 m.e.frags, .int .i64 m.e.spine, .int .i64 m.e.state, .int .i64 m.e.cycles, .int .i64 m.e.at_, .slice A' m.e.got.length c'], .bool true]) (by simp [results, Tryz.results196, go_sem, d0, d1, d2, d3, d4, d5, d6]) rfl ?_
    have M9 : Mod (fun _ => False) g ⟨_, _⟩ := Mod.stn (Mod.stn (Mod.stn (Mod.stn (Mod.stn (Mod.stn (Mod.stn (Mod.stn (b := g.w.heap.size + 1) (i := 6) (v := .slice A' m.e.got.length c') M1.out (by omega)) (b := g.w.heap.size) (i := 0) (v := .int .i64 m.e.thread) (by omega)) (b := g.w.heap.size) (i := 1) (v := .int .i64 m.e.frags) (by omega)) (b := g.w.heap.size) (i := 2) (v := .int .i64 m.e.spine) (by omega)) (b := g.w.heap.size) (i := 3) (v := .int .i64 m.e.state) (by omega)) (b := g.w.heap.size) (i := 4) (v := .int .i64 m.e.cycles) (by omega)) (b := g.w.heap.size) (i := 5) (v := .int .i64 m.e.at_) (by omega)) (b := g.w.heap.size) (i := 6) (v := .slice A' m.e.got.length c') (by omega)
    have T9 : Mod (fun x => x = 9) ⟨_, w1⟩ ⟨_, _⟩ := Mod.st (Mod.st (Mod.st (Mod.st (Mod.st (Mod.st (Mod.st (Mod.st (b := g.w.heap.size + 1) (i := 6) (v := .slice A' m.e.got.length c') (Mod.refl _ _) B2.out.own) (b := g.w.heap.size) (i := 0) (v := .int .i64 m.e.thread) B1.out.own) (b := g.w.heap.size) (i := 1) (v := .int .i64 m.e.frags) B1.out.own) (b := g.w.heap.size) (i := 2) (v := .int .i64 m.e.spine) B1.out.own) (b := g.w.heap.size) (i := 3) (v := .int .i64 m.e.state) B1.out.own) (b := g.w.heap.size) (i := 4) (v := .int .i64 m.e.cycles) B1.out.own) (b := g.w.heap.size) (i := 5) (v := .int .i64 m.e.at_) B1.out.own) (b := g.w.heap.size) (i := 6) (v := .slice A' m.e.got.length c') B1.out.own
    refine ⟨_, _, rfl, M9, [.int .i64 m.e.thread, .int .i64 m.e.frags, .int .i64 m.e.spine, .int .i64 m.e.state, .int .i64 m.e.cycles, .int .i64 m.e.at_, .slice A' m.e.got.length c'], true, rfl, fun hh => by omega, fun _ => ⟨rfl, m.e, A', c', by rw [Int.toNat_natCast]; exact HX.out, rfl, R1.out.keep T9 (by decide)⟩⟩
def Ent.asked (th fr sp : Int) : Ent := ⟨th, fr, sp, 0, 0, -1, [], false⟩
end Go.Proofs.YtcpeoflomdhidaaGreat

/-
  conf.Copy.
-/
namespace Go.Proofs.YtcpeoflomdhidaaGreat
open Go Go.RowKit
set_option linter.unusedVariables false
set_option linter.unnecessarySimpa false
set_option linter.unusedSimpArgs false
set_option maxHeartbeats 2000000
theorem infoShape : (Tryz.prog.info? 98).map (fun i => (i.zero, i.size, i.bytes)) = some (some (.agg #[.bool false, .slice none 0 0]), 2, 32) := by kernel_rfl
def Copied (c : Cnf) (t : Nat) (g : GW) (e : Ending) (w' : World) : Prop := ∃ c' : Cnf, e = .returned c'.val ∧ c'.Same c ∧ CnfAt (g.to t w') t c' ∧ Ext g.w w'
set_option maxRecDepth 100000 in
theorem copy_any (c : Cnf) (t : Nat) (g : GW) (hc : c.Ok g.w) (hmax : c.shapes.length ≤ 1000000) : Calls Tryz.prog 48 #[c.val] g.w (Copied c t g) := by
  obtain ⟨i0, hi, hz0, hz1, hz2⟩ := info_parts infoShape
  have HC := Lib.hid hc
  unfold Cnf.val
  clear hc
  go_enter Tryz.func48, Tryz.ntmps48
  go_wp2_with fail
  obtain ⟨q1, q2⟩ := two_blocks g.w (.cells #[.int .i64 c.frags, .int .i64 c.spine, .int .i64 c.globals, .int .i64 c.threads, .int .i64 c.locals, .int .i64 c.cache, .int .i64 c.stack, .int .i64 c.low, .slice c.A c.shapes.length c.cap] 24) (.cells #[.int .i64 0, .int .i64 0, .int .i64 0, .int .i64 0, .int .i64 0, .int .i64 0, .int .i64 0, .int .i64 0, .slice none 0 0] 24)
  have HB1 := Lib.hid (Blk.made (g := g) (t := 9) q1 (Nat.le_refl _))
  have HB2 := Lib.hid (Blk.made (g := g) (t := 9) q2 (by omega))
  have HE := Lib.hid (Mod.ext (T := fun _ => False) (show Ext g.w ((g.w.alloc (.cells #[.int .i64 c.frags, .int .i64 c.spine, .int .i64 c.globals, .int .i64 c.threads, .int .i64 c.locals, .int .i64 c.cache, .int .i64 c.stack, .int .i64 c.low, .slice c.A c.shapes.length c.cap] 24)).alloc (.cells #[.int .i64 0, .int .i64 0, .int .i64 0, .int .i64 0, .int .i64 0, .int .i64 0, .int .i64 0, .int .i64 0, .slice none 0 0] 24)) by (repeat (first | (with_reducible (first | assumption | exact zR _ | exact zM _ _ _ _)) | apply zA | refine zS ?_ (by first | exact zL _ | exact zK _ _ | assumption) _ | apply zP | apply zD | apply zN))) 9)
  clear q1 q2
  have HMX := Lib.hid hmax
  generalize hnl : c.shapes.length = nl at *
  have HNL := Lib.hid hnl
  clear hnl
  go_loopw [3, 9] (fun v i wr => ∃ (k : Nat) (own : Nat → Nat) (ss : List Shp), k ≤ nl ∧ i = .int .i64 k ∧ Hid (ss.map Shp.data = (c.shapes.take k).map Shp.data) ∧ Hid (Mod (fun _ => False) g ⟨own, wr⟩) ∧ Hid (∀ s ∈ ss, ShpAt ⟨own, wr⟩ 1 s ∧ ∀ a, s.A = some a → g.w.heap.size ≤ a.block) ∧ Hid (Mine g ⟨own, wr⟩ 98 2 v k (ss.flatMap Shp.cells)) ∧
    Hid (Blk ⟨own, wr⟩ 9 g.w.heap.size 24 [.int .i64 c.frags, .int .i64 c.spine, .int .i64 c.globals, .int .i64 c.threads, .int .i64 c.locals, .int .i64 c.cache, .int .i64 c.stack, .int .i64 c.low, .slice c.A nl c.cap]) ∧ Hid (Blk ⟨own, wr⟩ 9 (g.w.heap.size + 1) 24 [.int .i64 0, .int .i64 0, .int .i64 0, .int .i64 0, .int .i64 0, .int .i64 0, .int .i64 0, .int .i64 0, .slice none 0 0])) (fun _ i _ => nl - (intOf i).toNat)
  case atStart => exact ⟨0, _, [], Nat.zero_le _, rfl, Lib.hid rfl, HE, Lib.hid (by simp), Lib.hid (Mine.nil _ _ _ _), HB1, HB2⟩
  case round =>
    obtain ⟨k, own, ss, hk, rfl, HS, M, HA, R, B1, B2⟩ := hrel
    clear HE HB1 HB2
    obtain ⟨A5, c5, hv5⟩ := own_form R.out.row.row
    subst hv5
    by_cases hlt : k < nl
    · obtain ⟨b, o, hA, hb, g0, g1⟩ := shapes_at (HC.out.cells.ext M.out.toExt) (k := k) (by rw [HNL.out]; exact hlt)
      have hsk := (HC.out.shapes _ (List.getElem_mem (by rw [HNL.out]; exact hlt : k < c.shapes.length))).ext M.out.toExt
      have hx := List.getElem?_eq_getElem (by rw [HNL.out]; exact hlt : k < c.shapes.length)
      generalize c.shapes[k]'(by rw [HNL.out]; exact hlt) = s at *
      have HSK := Lib.hid (fun w' (he : Ext wr w') => copied_any s w' (hsk.ext he))
      have HX := Lib.hid hx
      obtain ⟨arr, As, caps, refs⟩ := s
      unfold Shp.val at HSK
      simp only at g0 g1 HSK hb
      rw [hA] at B1 ⊢
      clear hx hsk hA
      go_wp2_with fail
      refine (HSK.out _ (by (repeat (first | (with_reducible (first | assumption | exact zR _ | exact zM _ _ _ _)) | apply zA | refine zS ?_ (by first | exact zL _ | exact zK _ _ | assumption) _ | apply zP | apply zD | apply zN)))).mono ?_
      rintro e w1 ⟨s', rfl, ha, hr, hfr, hok, hE1⟩
      obtain ⟨arr', A', cap', refs'⟩ := s'
      simp only at ha hr hfr hok
      obtain rfl := ha
      obtain rfl := hr
      have E1 := Lib.hid (show Ext wr w1 from (show Ext wr _ by (repeat (first | (with_reducible (first | assumption | exact zR _ | exact zM _ _ _ _)) | apply zA | refine zS ?_ (by first | exact zL _ | exact zK _ _ | assumption) _ | apply zP | apply zD | apply zN))).trans hE1)
      have O1 := Lib.hid hok
      have F1 := Lib.hid (show ∀ a, A' = some a → wr.heap.size ≤ a.block from fun a ha => Nat.le_trans (by go_simp) (hfr a ha))
      have N1 := Lib.hid (show Mod (fun _ => False) ⟨own, wr⟩ ((⟨own, wr⟩ : GW).to 1 w1) from Mod.ext E1.out 1)
      have M1 := Lib.hid (M.out.trans N1.out)
      have R1 := Lib.hid (R.out.keep N1.out id)
      clear hE1 hok hfr g0 g1 hb
      go_wp2_with (at_builtin; refine wpList_append_own_at _ rfl (.tmp 13) (.tmp 16) 22 rfl 0 98 i0 _ 2 32 Tryz.underlying22 hi hz0 hz1 hz2 rfl (by decide) _ _ _ rfl (R1.out.row.row.alloc _) ⟨w1.heap.size, 0, none⟩ 1 1 [.bool arr', .slice A' refs'.length cap'] rfl rfl (news_new _ _ _) (by intro u hu; simp at hu; rcases hu with rfl | rfl <;> rfl) (by unfold maxLen; omega) (by omega) (Nat.zero_le _) ?_; intro v2 w2 hown hgrow hnil hat)
      obtain ⟨own2, m2, r2, k2⟩ := R1.out.app M1.out (Ext.alloc (Ext.refl _) _) hown hgrow hat
      have M2 := Lib.hid m2
      have R2 := Lib.hid r2
      have K2 := Lib.hid k2
      clear m2 r2 k2 hown hgrow hnil hat
      go_wp2_with fail
      go_roundw
      case rel =>
        refine ⟨k + 1, own2, ss ++ [⟨arr', A', cap', refs'⟩], by omega, by go_num, Lib.hid ?_, M2, Lib.hid ?_, Lib.hid ⟨R2.out.row.weak rfl (by rw [List.flatMap_append]; rfl), R2.out.new⟩, Lib.hid ((B1.out.keep N1.out id).keep K2.out (by decide)), Lib.hid ((B2.out.keep N1.out id).keep K2.out (by decide))⟩
        · rw [List.map_append, HS.out, List.take_add_one, HX.out, List.map_append]; rfl
        · intro s hs
          rcases List.mem_append.1 hs with hs | hs
          · exact ⟨((HA.out s hs).1.keep N1.out id).keep K2.out (by decide), (HA.out s hs).2⟩
          · simp only [List.mem_singleton] at hs
            subst hs
            exact ⟨ShpAt.keep (g := (⟨own, wr⟩ : GW).to 1 w1) ⟨⟨O1.out.refs, fun a ha _ => GW.to_new (F1.out a ha)⟩, O1.out.len, O1.out.max⟩ K2.out (by decide), fun a ha => Nat.le_trans M.out.size (F1.out a ha)⟩
      case measure => simp [intOf]; omega
    · obtain rfl : k = nl := by omega
      have c0 := B1.out.cell (i := 0) rfl
      have c1 := B1.out.cell (i := 1) rfl
      have c2 := B1.out.cell (i := 2) rfl
      have c3 := B1.out.cell (i := 3) rfl
      have c4 := B1.out.cell (i := 4) rfl
      have c5' := B1.out.cell (i := 5) rfl
      have c6 := B1.out.cell (i := 6) rfl
      have c7 := B1.out.cell (i := 7) rfl
      have c8 := B1.out.cell (i := 8) rfl
      have f8 := B1.out.live 8
      have d0 := B2.out.cell (i := 0) rfl
      have d1 := B2.out.cell (i := 1) rfl
      have d2 := B2.out.cell (i := 2) rfl
      have d3 := B2.out.cell (i := 3) rfl
      have d4 := B2.out.cell (i := 4) rfl
      have d5 := B2.out.cell (i := 5) rfl
      have d6 := B2.out.cell (i := 6) rfl
      have d7 := B2.out.cell (i := 7) rfl
      have d8 := B2.out.cell (i := 8) rfl
      have e0 := B2.out.live 0
      have e1 := B2.out.live 1
      have e2 := B2.out.live 2
      have e3 := B2.out.live 3
      have e4 := B2.out.live 4
      have e5 := B2.out.live 5
      have e6 := B2.out.live 6
      have e7 := B2.out.live 7
      have e8 := B2.out.live 8
      have l1 := B1.out.lt
      have l2 := B2.out.lt
      simp only at c0 c1 c2 c3 c4 c5' c6 c7 c8 f8 d0 d1 d2 d3 d4 d5 d6 d7 d8 e0 e1 e2 e3 e4 e5 e6 e7 e8 l1 l2
      go_wp2_with fail
      refine bodyPost_ret (v := .agg #[.int .i64 c.frags, .int .i64 c.spine, .int .i64 c.globals, .int .i64 c.threads, .int .i64 c.locals, .int .i64 c.cache, .int .i64 c.stack, .int .i64 c.low, .slice A5 k c5]) (by simp [results, Tryz.results48, go_sem, d0, d1, d2, d3, d4, d5, d6, d7, d8]) rfl ?_
      clear c0 c1 c2 c3 c4 c5' c6 c7 c8 f8 d0 d1 d2 d3 d4 d5 d6 d7 d8 e0 e1 e2 e3 e4 e5 e6 e7 e8
      have hss : ss.length = k := by have := congrArg List.length HS.out; simp only [List.length_map, List.length_take, HNL.out] at this; omega
      have M9 : Mod (fun _ => False) g ⟨own, _⟩ := Mod.stn (Mod.stn (Mod.stn (Mod.stn (Mod.stn (Mod.stn (Mod.stn (Mod.stn (Mod.stn (Mod.stn (b := g.w.heap.size) (i := 8) (v := .slice A5 k c5) M.out (Nat.le_refl _)) (b := g.w.heap.size + 1) (i := 0) (v := .int .i64 c.frags) (by omega)) (b := g.w.heap.size + 1) (i := 1) (v := .int .i64 c.spine) (by omega)) (b := g.w.heap.size + 1) (i := 2) (v := .int .i64 c.globals) (by omega)) (b := g.w.heap.size + 1) (i := 3) (v := .int .i64 c.threads) (by omega)) (b := g.w.heap.size + 1) (i := 4) (v := .int .i64 c.locals) (by omega)) (b := g.w.heap.size + 1) (i := 5) (v := .int .i64 c.cache) (by omega)) (b := g.w.heap.size + 1) (i := 6) (v := .int .i64 c.stack) (by omega)) (b := g.w.heap.size + 1) (i := 7) (v := .int .i64 c.low) (by omega)) (b := g.w.heap.size + 1) (i := 8) (v := .slice A5 k c5) (by omega)
      have T9 : Mod (fun x => x = 9) ⟨own, wr⟩ ⟨own, _⟩ := Mod.st (Mod.st (Mod.st (Mod.st (Mod.st (Mod.st (Mod.st (Mod.st (Mod.st (Mod.st (b := g.w.heap.size) (i := 8) (v := .slice A5 k c5) (Mod.refl _ _) B1.out.own) (b := g.w.heap.size + 1) (i := 0) (v := .int .i64 c.frags) B2.out.own) (b := g.w.heap.size + 1) (i := 1) (v := .int .i64 c.spine) B2.out.own) (b := g.w.heap.size + 1) (i := 2) (v := .int .i64 c.globals) B2.out.own) (b := g.w.heap.size + 1) (i := 3) (v := .int .i64 c.threads) B2.out.own) (b := g.w.heap.size + 1) (i := 4) (v := .int .i64 c.locals) B2.out.own) (b := g.w.heap.size + 1) (i := 5) (v := .int .i64 c.cache) B2.out.own) (b := g.w.heap.size + 1) (i := 6) (v := .int .i64 c.stack) B2.out.own) (b := g.w.heap.size + 1) (i := 7) (v := .int .i64 c.low) B2.out.own) (b := g.w.heap.size + 1) (i := 8) (v := .slice A5 k c5) B2.out.own
      refine ⟨⟨c.frags, c.spine, c.globals, c.threads, c.locals, c.cache, c.stack, c.low, A5, c5, ss⟩, by unfold Cnf.val; simp only [hss], ⟨rfl, rfl, rfl, rfl, rfl, rfl, rfl, rfl, by rw [HS.out, List.take_of_length_le (by rw [HNL.out]; exact Nat.le_refl _)]⟩, ?_, M9.toExt⟩
      have hR := R.out.keep T9 (by decide)
      refine ⟨⟨hR.row.cells, fun a ha _ => GW.to_new (hR.new a.block (by simp only at ha; rw [ha]; rfl))⟩, fun s hs => ?_, ?_, ?_⟩
      · obtain ⟨h1, h2⟩ := HA.out s hs
        have h3 := h1.keep T9 (by decide)
        exact ⟨⟨h3.seg.cells, fun a ha _ => GW.to_new (h2 a ha)⟩, h3.len, h3.max⟩
      · obtain ⟨A', c', hv, hn1, _⟩ := hR.row.form
        injection hv with _ _ hv
        subst hv
        simp only [hss]
        exact hn1
      · simp only [hss]; omega
end Go.Proofs.YtcpeoflomdhidaaGreat

