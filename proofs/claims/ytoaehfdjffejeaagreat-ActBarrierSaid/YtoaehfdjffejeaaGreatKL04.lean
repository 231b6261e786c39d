import Derived.Test.YtoaehfdjffejeaaGreatKL03
import Derived.Laws.AppendOwnNone
/-
  Packed: Pool2, Stock, LineS.
-/
open Go.Ext renaming alloc → zA, patch → zP, drew → zD, drewN → zN, more → zM, refl → zR, setCell → zS
open Nat renaming le_refl → zL, le_add_right → zK
/-
  pool: Low, Take, New.
-/
namespace Go
open Go.RowKit
theorem lowGo_stop (l : List Bool) (f i : Nat) : PoolS.lowGo l 0 f i = [] := by cases f <;> rfl
theorem lowGo_end (l : List Bool) (k i : Nat) : PoolS.lowGo l k 0 i = [] := rfl
theorem lowGo_yes {l : List Bool} {k f i : Nat} (hk : 0 < k) (h : l.getD i false = true) : PoolS.lowGo l k (f + 1) i = (i : Int) :: PoolS.lowGo l (k - 1) f (i + 1) := by
  rw [PoolS.lowGo, if_neg (by omega), if_pos h]
theorem lowGo_no {l : List Bool} {k f i : Nat} (hk : 0 < k) (h : l.getD i false = false) : PoolS.lowGo l k (f + 1) i = PoolS.lowGo l k f (i + 1) := by
  rw [PoolS.lowGo, if_neg (by omega), if_neg (by rw [h]; simp)]
namespace PoolS
theorem takes_snoc (p : PoolS) (acc : List Int) (k : Nat) : p.takes (acc ++ [(k : Int)]) = ⟨(p.takes acc).l.set k false⟩ := by
  unfold takes
  rw [List.foldl_append]
  rfl
theorem takes_len (p : PoolS) (acc : List Int) : (p.takes acc).l.length = p.l.length := by
  unfold takes
  simp only
  generalize p.l = l
  induction acc generalizing l with
  | nil => rfl
  | cons x acc ih => rw [List.foldl_cons, ih, List.length_set]
theorem takes_getD (p : PoolS) (acc : List Int) (q : Nat) (h : ∀ x ∈ acc, x.toNat ≠ q) : (p.takes acc).l.getD q false = p.l.getD q false := by
  unfold takes
  simp only
  generalize p.l = l
  induction acc generalizing l with
  | nil => rfl
  | cons x acc ih =>
    rw [List.foldl_cons, ih (fun y hy => h y (List.mem_cons_of_mem _ hy)), List.getD_eq_getElem?_getD, List.getElem?_set_ne (h x List.mem_cons_self), ← List.getD_eq_getElem?_getD]
theorem below_snoc {acc : List Int} {j : Nat} (h : ∀ x ∈ acc, x.toNat < j) : ∀ x ∈ acc ++ [(j : Int)], x.toNat < j + 1 := by
  intro x hx
  rcases List.mem_append.1 hx with hx | hx
  · have := h x hx; omega
  · simp at hx; subst hx; simp
theorem runGo_spec {l : List Bool} {k : Nat} : ∀ (j m a : Nat), runGo l k j m = some a → (∀ q, j ≤ q → q < j + m → l.getD q false = true) → m < k → j + m ≤ l.length → a + k ≤ l.length ∧ ∀ q, a ≤ q → q < a + k → l.getD q false = true
  | 0, _, _, h, _, _, _ => by cases h
  | j + 1, m, a, h, hq, hm, hl => by
    unfold runGo at h
    split at h
    · rename_i hj
      split at h
      · rename_i hk
        injection h with h
        subst h
        refine ⟨by omega, fun q h1 h2 => ?_⟩
        by_cases hqj : q = j
        · subst hqj; exact hj
        · exact hq q (by omega) (by omega)
      · refine runGo_spec j (m + 1) a h (fun q h1 h2 => ?_) (by omega) (by omega)
        by_cases hqj : q = j
        · subst hqj; exact hj
        · exact hq q (by omega) (by omega)
    · exact runGo_spec j 0 a h (fun q h1 h2 => by omega) (by omega) (by omega)
theorem run_spec {p : PoolS} {k : Int} {a : Nat} (h : p.run k = some a) : 1 ≤ k ∧ a + k.toNat ≤ p.l.length ∧ ∀ q, a ≤ q → q < a + k.toNat → p.l.getD q false = true := by
  unfold run at h
  split at h
  · cases h
  · exact ⟨by omega, runGo_spec _ 0 a h (fun q h1 h2 => by omega) (by omega) (by omega)⟩
def span (a k : Nat) : List Int := (List.range k).map fun j => ((a + j : Nat) : Int)
theorem span_succ (a k : Nat) : span a (k + 1) = span a k ++ [((a + k : Nat) : Int)] := by unfold span; rw [List.range_succ, List.map_append]; rfl
theorem span_len (a k : Nat) : (span a k).length = k := by simp [span]
theorem span_mem {a k : Nat} {x : Int} (h : x ∈ span a k) : ∃ j, j < k ∧ x = ((a + j : Nat) : Int) := by
  simp only [span, List.mem_map, List.mem_range] at h
  obtain ⟨j, hj, rfl⟩ := h
  exact ⟨j, hj, rfl⟩
end PoolS
end Go
namespace Go.Proofs.YtoaehfdjffejeaaGreat
open Go Go.RowKit
set_option linter.unusedVariables false
set_option linter.unnecessarySimpa false
set_option linter.unusedSimpArgs false
set_option maxHeartbeats 2000000

set_option maxRecDepth 100000 in
theorem pool_low (g : GW) (t b : Nat) (k : Int) (p : PoolS) (h : PoolAt g t b p) (ht : t ≠ 0) (hk2 : k ≤ 1099511627776) :
    Calls Tryz.prog 170 #[.pointer (some ⟨b, 0, none⟩), .int .i64 k] g.w (Makes g (fun x => x = t) (fun v g' => PoolAt g' t b (p.takes (p.lowOnes k)) ∧ Row g' 0 3 1 v (p.lowOnes k).length ((p.lowOnes k).map (Value.int .i64)))) := by
  obtain ⟨i0, hi, hz0, hz1, hz2⟩ := info_parts infoInt
  have HT := Lib.hid ht
  have hlen := h.len
  have HP := Lib.hid h
  clear h ht
  go_enter Tryz.func170, Tryz.ntmps170
  go_wp2_with fail
  go_loopw [5, 6] (fun v i wr => ∃ (j : Nat) (acc : List Int) (own : Nat → Nat), j ≤ p.l.length ∧ acc.length ≤ k.toNat ∧ acc.length ≤ j ∧ i = .int .i64 j ∧ Hid (p.lowOnes k = acc ++ PoolS.lowGo p.l (k.toNat - acc.length) (p.l.length - j) j) ∧ Hid (∀ x ∈ acc, x.toNat < j) ∧
    Hid (Mod (fun x => x = t) g ⟨own, wr⟩) ∧ Hid (PoolAt ⟨own, wr⟩ t b (p.takes acc)) ∧ Hid (Mine g ⟨own, wr⟩ 3 1 v acc.length (acc.map (Value.int .i64)))) (fun _ i _ => p.l.length - (intOf i).toNat)
  case atStart => exact ⟨0, [], g.own, Nat.zero_le _, Nat.zero_le _, Nat.le_refl _, rfl, Lib.hid rfl, Lib.hid (by simp), Lib.hid (Mod.refl _ _), HP, Lib.hid (Mine.nil _ _ _ _)⟩
  case round =>
    obtain ⟨j, acc, own, hj, hm, hmj, rfl, HL, HA, HM, HQ, HR⟩ := hrel
    have hQl := PoolS.takes_len p acc
    obtain ⟨A, c, hb, hr⟩ := HQ.out.ex
    have c0 := hb.cell (i := 0) rfl
    simp only at c0
    rw [hQl] at c0
    obtain ⟨A5, c5, hv5⟩ := own_form HR.out.row.row
    subst hv5
    clear hb hr
    have hQlH := Lib.hid hQl
    clear hQl
    by_cases hlt : j < p.l.length
    · by_cases hmk : acc.length < k.toNat
      · have hd : decide ((acc.length : Int) < k) = true := decide_eq_true (by omega)
        obtain ⟨r, c', hb', -, hrl, k0, -, -⟩ := HQ.out.place (k := j) (by rw [hQlH.out]; exact hlt)
        have c0' := hb'.cell (i := 0) rfl
        simp only at c0' k0 hrl
        rw [hQlH.out] at c0'
        rw [PoolS.takes_getD _ _ _ (fun x hx e => by have := HA.out x hx; omega)] at k0
        rw [c0'] at c0
        injection c0 with c0
        injection c0 with e1 _ e2
        subst e1 e2
        have c0 := c0'
        clear hb' c0'
        cases hx : p.l.getD j false
        · rw [hx] at k0
          have HN := Lib.hid (HL.out.trans (by rw [show p.l.length - j = (p.l.length - (j + 1)) + 1 by omega, lowGo_no (by omega) hx]))
          clear hx
          go_wp2_with fail
          go_roundw
          case rel => exact ⟨j + 1, acc, own, by omega, hm, by omega, by go_num, HN, Lib.hid (fun x hx => by have := HA.out x hx; omega), HM, HQ, HR⟩
          case measure => simp [intOf]; omega
        · rw [hx] at k0
          have HN := Lib.hid (HL.out.trans (by rw [show p.l.length - j = (p.l.length - (j + 1)) + 1 by omega, lowGo_yes (by omega) hx, List.append_cons, show k.toNat - acc.length - 1 = k.toNat - (acc ++ [(j : Int)]).length by simp; omega]))
          have HX := Lib.hid (show (p.takes acc).l.getD j false = true by rw [PoolS.takes_getD _ _ _ (fun x hx e => by have := HA.out x hx; omega)]; exact hx)
          clear hx
          go_wp2_with fail
          refine (pool_takes ⟨own, wr⟩ t b j _ HQ.out (by rw [hQlH.out]; exact hlt) HX.out).mono ?_
          rintro e w1 ⟨rfl, own1, m1, a1⟩
          have M1 := Lib.hid (Mod.trans HM.out m1)
          have Q1 := Lib.hid (PoolS.takes_snoc p acc j ▸ a1)
          have R1 := Lib.hid (HR.out.keep m1 (fun e => HT.out e.symm))
          clear m1 a1 c0 k0 hrl
          go_wp2_with (at_builtin; refine wpList_append_own_at _ rfl (.tmp 32) (.tmp 34) 62 rfl 0 3 i0 (.int .i64 0) 1 8 Tryz.underlying62 hi hz0 hz1 hz2 rfl (by decide) _ _ _ rfl (R1.out.row.row.alloc _) ⟨w1.heap.size, 0, none⟩ 1 1 [.int .i64 (j : Int)] rfl rfl (cell_one_new _ _ _) (by intro u hu; simp at hu; subst hu; rfl) (by unfold maxLen; omega) (by omega) (Nat.zero_le _) ?_; intro v2 w2 hown hgrow hnil hat)
          obtain ⟨own2, m2, r2, k2⟩ := R1.out.app M1.out (Ext.alloc (Ext.refl _) _) hown hgrow hat
          have M2 := Lib.hid m2
          have R2 := Lib.hid r2
          have Q2 := Lib.hid (Q1.out.keep k2 HT.out)
          clear m2 r2 k2 hown hgrow hnil hat
          go_wp2_with fail
          go_roundw
          case rel => exact ⟨j + 1, acc ++ [(j : Int)], own2, by omega, by simp; omega, by simp; omega, by go_num, HN, Lib.hid (PoolS.below_snoc HA.out), M2, Q2, Lib.hid ⟨R2.out.row.weak (by simp) (by simp), R2.out.new⟩⟩
          case measure => simp [intOf]; omega
      · have hd : decide ((acc.length : Int) < k) = false := decide_eq_false (by omega)
        have HN := Lib.hid (HL.out.trans (by rw [show k.toNat - acc.length = 0 by omega, lowGo_stop, List.append_nil]))
        go_wp2_with fail
        go_ret
        exact ⟨_, own, rfl, HM.out, by rw [HN.out]; exact HQ.out, by rw [HN.out]; exact HR.out.row⟩
    · obtain rfl : j = p.l.length := by omega
      have HN := Lib.hid (HL.out.trans (by rw [show p.l.length - p.l.length = 0 by omega, lowGo_end, List.append_nil]))
      go_wp2_with fail
      go_ret
      exact ⟨_, own, rfl, HM.out, by rw [HN.out]; exact HQ.out, by rw [HN.out]; exact HR.out.row⟩

def TookIt (t b : Nat) (p : PoolS) (l : List Int) (v : Value) (g' : GW) : Prop := ∃ s, v = .tuple #[s, .bool true] ∧ Row g' 0 3 1 s l.length (l.map (Value.int .i64)) ∧ PoolAt g' t b (p.takes l)
set_option maxRecDepth 100000 in
theorem pool_take_yes (g : GW) (t b : Nat) (k : Int) (l : List Int) (p : PoolS) (h : PoolAt g t b p) (ht : t ≠ 0) (hl : p.taken k = some l) :
    Calls Tryz.prog 191 #[.pointer (some ⟨b, 0, none⟩), .int .i64 k] g.w (Makes g (fun x => x = t) (TookIt t b p l)) := by
  obtain ⟨i0, hi, hz0, hz1, hz2⟩ := info_parts infoInt
  have hlen := h.len
  have hfr : p.free ≤ 1024 := Nat.le_trans List.countP_le_length hlen
  have hk : 1 ≤ k ∧ k ≤ p.free := by
    unfold PoolS.taken at hl
    split at hl
    · cases hl
    · omega
  obtain ⟨hk1, hk2⟩ := hk
  have HRun := Lib.hid (pool_run g t b k p h (by omega))
  obtain ⟨A, c, hb, hr⟩ := h.ex
  have c1 := hb.cell (i := 1) rfl
  have HT := Lib.hid ht
  have HP := Lib.hid h
  cases hrun : p.run k with
  | none =>
    obtain rfl : p.lowOnes k = l := by
      unfold PoolS.taken at hl
      rw [if_neg (by omega), hrun] at hl
      exact Option.some.inj hl
    have HL := Lib.hid (pool_low g t b k p h ht (by omega))
    rw [hrun] at HRun
    unfold runVal at HRun
    clear hb hr h ht hrun hl
    generalize p.free = f at *
    go_enter Tryz.func191, Tryz.ntmps191
    go_wp2_with fail
    refine (HRun.out).mono ?_
    rintro e w1 ⟨rfl, rfl⟩
    go_wp2_with fail
    refine HL.out.mono ?_
    rintro e w1 ⟨v, own1, rfl, m1, a1, r1⟩
    have M1 := Lib.hid m1
    have Q1 := Lib.hid a1
    have R1 := Lib.hid r1
    clear m1 a1 r1
    go_wp2_with fail
    go_ret2
    exact ⟨_, own1, rfl, M1.out, _, rfl, R1.out, Q1.out⟩
  | some a =>
    obtain rfl : PoolS.span a k.toNat = l := by
      unfold PoolS.taken at hl
      rw [if_neg (by omega), hrun] at hl
      exact Option.some.inj hl
    obtain ⟨-, ha, hq⟩ := PoolS.run_spec hrun
    have HQ0 := Lib.hid hq
    rw [hrun] at HRun
    unfold runVal at HRun
    clear hb hr h ht hrun hl hq
    generalize p.free = f at *
    obtain ⟨kn, rfl⟩ := Int.eq_ofNat_of_zero_le (show 0 ≤ k by omega)
    rw [Int.toNat_natCast] at *
    go_enter Tryz.func191, Tryz.ntmps191
    go_wp2_with fail
    refine (HRun.out).mono ?_
    rintro e w1 ⟨rfl, rfl⟩
    go_wp2_with fail
    go_loopw [8, 9] (fun v i wr => ∃ (j : Nat) (own : Nat → Nat), j ≤ kn ∧ i = .int .i64 ((a : Int) + j) ∧ Hid (Mod (fun x => x = t) g ⟨own, wr⟩) ∧ Hid (PoolAt ⟨own, wr⟩ t b (p.takes (PoolS.span a j))) ∧ Hid (Mine g ⟨own, wr⟩ 3 1 v j ((PoolS.span a j).map (Value.int .i64)))) (fun _ i _ => (a + kn - intOf i).toNat)
    case atStart => exact ⟨0, g.own, Nat.zero_le _, by simp, Lib.hid (Mod.refl _ _), HP, Lib.hid (Mine.nil _ _ _ _)⟩
    case round =>
      obtain ⟨j, own, hj, rfl, HM, HQ, HR⟩ := hrel
      obtain ⟨A5, c5, hv5⟩ := own_form HR.out.row.row
      subst hv5
      rw [show ((a : Int) + (j : Int)) = ((a + j : Nat) : Int) by omega]
      by_cases hlt : j < kn
      · have HX := Lib.hid (show (p.takes (PoolS.span a j)).l.getD (a + j) false = true by
          rw [PoolS.takes_getD _ _ _ (fun x hx e => by obtain ⟨i, hi, rfl⟩ := PoolS.span_mem hx; rw [Int.toNat_natCast] at e; omega)]
          exact HQ0.out _ (by omega) (by omega))
        have hd : decide (((a + j : Nat) : Int) < (a : Int) + kn) = true := decide_eq_true (by omega)
        go_wp2_with fail
        refine (pool_takes ⟨own, wr⟩ t b (a + j) _ HQ.out (by rw [PoolS.takes_len]; omega) HX.out).mono ?_
        rintro e w1 ⟨rfl, own1, m1, a1⟩
        have M1 := Lib.hid (Mod.trans HM.out m1)
        have Q1 := Lib.hid (show PoolAt ⟨own1, w1⟩ t b (p.takes (PoolS.span a (j + 1))) by rw [PoolS.span_succ, PoolS.takes_snoc]; exact a1)
        have R1 := Lib.hid (HR.out.keep m1 (fun e => HT.out e.symm))
        clear m1 a1
        go_wp2_with (at_builtin; refine wpList_append_own_at _ rfl (.tmp 42) (.tmp 44) 62 rfl 0 3 i0 (.int .i64 0) 1 8 Tryz.underlying62 hi hz0 hz1 hz2 rfl (by decide) _ _ _ rfl (R1.out.row.row.alloc _) ⟨w1.heap.size, 0, none⟩ 1 1 [.int .i64 ((a + j : Nat) : Int)] rfl rfl (cell_one_new _ _ _) (by intro u hu; simp at hu; subst hu; rfl) (by unfold maxLen; omega) (by omega) (Nat.zero_le _) ?_; intro v2 w2 hown hgrow hnil hat)
        obtain ⟨own2, m2, r2, k2⟩ := R1.out.app M1.out (Ext.alloc (Ext.refl _) _) hown hgrow hat
        have M2 := Lib.hid m2
        have R2 := Lib.hid r2
        have Q2 := Lib.hid (Q1.out.keep k2 HT.out)
        clear m2 r2 k2 hown hgrow hnil hat
        go_wp2_with fail
        go_roundw
        case rel => exact ⟨j + 1, own2, by omega, by go_num, M2, Q2, Lib.hid ⟨R2.out.row.weak rfl (by rw [PoolS.span_succ]; simp), R2.out.new⟩⟩
        case measure => simp [intOf]; omega
      · obtain rfl : j = kn := by omega
        have hd : decide (((a + j : Nat) : Int) < (a : Int) + j) = false := decide_eq_false (by omega)
        go_wp2_with fail
        go_ret2
        exact ⟨_, own, rfl, HM.out, _, rfl, HR.out.row.weak (PoolS.span_len _ _).symm rfl, HQ.out⟩

def PoolMade (n : Int) (t : Nat) (g : GW) (e : Ending) (w' : World) : Prop :=
  if 0 ≤ n ∧ n ≤ 1024 then ∃ own' b, e = .returned (.tuple #[.pointer (some ⟨b, 0, none⟩), .int .i64 0]) ∧ Mod (fun _ => False) g ⟨own', w'⟩ ∧ PoolAt ⟨own', w'⟩ t b ⟨List.replicate n.toNat true⟩
  else e = .returned (.tuple #[.pointer none, .int .i64 1]) ∧ Ext g.w w'
theorem fill_step {n k : Nat} (h : k < n) : (List.replicate k true ++ List.replicate (n - k) false).set k true = List.replicate (k + 1) true ++ List.replicate (n - (k + 1)) false := by
  rw [show n - k = (n - (k + 1)) + 1 by omega, List.replicate_succ, List.set_append_right _ _ (by simp), List.length_replicate, Nat.sub_self, List.set_cons_zero, List.replicate_succ', List.append_assoc]
  rfl
theorem pool_new (n : Int) (t : Nat) (g : GW) : Calls Tryz.prog 74 #[.int .i64 n] g.w (PoolMade n t g) := by
  obtain ⟨i0, hi, hz0, hz1, hz2⟩ := info_parts infoBool
  by_cases h0 : n < 0
  · have HV := Lib.hid (show ¬ (0 ≤ n ∧ n ≤ 1024) by omega)
    go_enter Tryz.func74, Tryz.ntmps74
    go_wp2_with fail
    go_ret2
    unfold PoolMade
    rw [if_neg HV.out]
    exact ⟨rfl, Ext.refl _⟩
  by_cases h1 : 1024 < n
  · have HV := Lib.hid (show ¬ (0 ≤ n ∧ n ≤ 1024) by omega)
    go_enter Tryz.func74, Tryz.ntmps74
    go_wp2_with fail
    go_ret2
    unfold PoolMade
    rw [if_neg HV.out]
    exact ⟨rfl, Ext.refl _⟩
  obtain ⟨k, rfl⟩ := Int.eq_ofNat_of_zero_le (show 0 ≤ n by omega)
  have HV := Lib.hid (show (0 : Int) ≤ k ∧ (k : Int) ≤ 1024 by omega)
  have hmk := run_made (P := Tryz.prog) 71 4 i0 _ 1 1 Tryz.underlying71 hi hz0 hz1 hz2 k (by omega) (by omega)
  simp only [Value.cells, made_one] at hmk
  have hk : k ≤ 1024 := by omega
  go_enter Tryz.func74, Tryz.ntmps74
  go_wp2_with fail
  obtain ⟨q1, q2⟩ := two_blocks g.w (.cells (List.replicate k (Value.bool false)).toArray 4) (.cells #[.slice (some ⟨g.w.heap.size, 0, none⟩) k k, .int .i64 k] 185)
  have HB := Lib.hid (Blk.made (g := g) (t := t) q2 (by omega))
  have HR := Lib.hid (Row.made (g := g) (t := t) (n := k) (size := 1) q1 (Nat.le_refl _) (by simp) (by omega))
  have HE := Lib.hid (Mod.ext (T := fun _ => False) (show Ext g.w ((g.w.alloc (.cells (List.replicate k (Value.bool false)).toArray 4)).alloc (.cells #[.slice (some ⟨g.w.heap.size, 0, none⟩) k k, .int .i64 k] 185)) by (repeat (first | (with_reducible (first | assumption | exact zR _ | exact zM _ _ _ _)) | apply zA | refine zS ?_ (by first | exact zL _ | exact zK _ _ | assumption) _ | apply zP | apply zD | apply zN))) t)
  have hsz : g.w.heap.size < ((g.w.alloc (.cells (List.replicate k (Value.bool false)).toArray 4)).alloc (.cells #[.slice (some ⟨g.w.heap.size, 0, none⟩) k k, .int .i64 k] 185)).heap.size := by rw [World.size_alloc, World.size_alloc]; omega
  clear q1 q2
  have c0 := HB.out.cell (i := 0) rfl
  simp only [GW.to] at c0
  go_loopw [22] (fun i wr => ∃ (j : Nat) (own : Nat → Nat), j ≤ k ∧ i = .int .i64 j ∧ Hid (Mod (fun _ => False) g ⟨own, wr⟩) ∧ Hid (Blk ⟨own, wr⟩ t (g.w.heap.size + 1) 185 [.slice (some ⟨g.w.heap.size, 0, none⟩) k k, .int .i64 k]) ∧ Hid (Row ⟨own, wr⟩ t 4 1 (.slice (some ⟨g.w.heap.size, 0, none⟩) k k) k ((List.replicate j true ++ List.replicate (k - j) false).map Value.bool))) (fun i _ => k - (intOf i).toNat)
  case atStart => exact ⟨0, _, Nat.zero_le _, rfl, HE, HB, Lib.hid (HR.out.weak rfl (by simp))⟩
  case round =>
    obtain ⟨j, own, hj, rfl, M, B, R⟩ := hrel
    clear c0 hsz HE HB HR
    by_cases hlt : j < k
    · obtain ⟨r, hr, hrl, ho, hcell, hfr⟩ := R.out.block (by omega)
      simp only [Option.some.injEq, Addr.mk.injEq, and_true] at hr
      obtain rfl := hr
      have k0 := hcell j (.bool false) (by rw [List.getElem?_map, List.getElem?_append_right (by simp), List.length_replicate, Nat.sub_self, List.getElem?_replicate, if_pos (by omega)]; rfl)
      have kf := hfr j
      simp only at k0 kf hrl
      have c0 := B.out.cell (i := 0) rfl
      simp only at c0
      clear hcell hfr ho
      go_wp2_with fail
      go_roundw
      case rel => exact ⟨j + 1, own, by omega, by go_num, Lib.hid (Mod.stn M.out (Nat.le_refl _)), Lib.hid (B.out.setOther j _ (by omega)), Lib.hid ((R.out.store j (.bool true)).weak rfl (by rw [← fill_step hlt, List.map_set]))⟩
      case measure => simp [intOf]; omega
    · obtain rfl : j = k := by omega
      go_wp2_with fail
      go_ret2
      unfold PoolMade
      rw [if_pos HV.out]
      refine ⟨own, _, rfl, M.out, ⟨⟨some ⟨g.w.heap.size, 0, none⟩, j, ?_, ?_⟩, by simpa using hk⟩⟩
      · have := B.out
        simpa [PoolS.free, List.countP_replicate] using this
      · have := R.out
        simpa using this
end Go.Proofs.YtoaehfdjffejeaaGreat

/-
  stock: what a thread keeps.
-/
namespace Go
open Go.RowKit
structure StockS where
  l : List Int
  most : Int
end Go
namespace Go.Proofs.YtoaehfdjffejeaaGreat
open Go Go.RowKit
set_option linter.unusedVariables false
set_option linter.unnecessarySimpa false
set_option linter.unusedSimpArgs false
set_option maxHeartbeats 2000000

structure StockAt (g : GW) (t b : Nat) (s : StockS) : Prop where
  ex : ∃ A c, Blk g t b 193 [.slice A s.l.length c, .int .i64 s.most] ∧ Row g t 3 1 (.slice A s.l.length c) s.l.length (s.l.map (Value.int .i64))
  most : 0 ≤ s.most ∧ s.most ≤ 8
  len : (s.l.length : Int) ≤ s.most
theorem StockAt.keep {S : Nat → Prop} {g g' : GW} {t b : Nat} {s : StockS} (h : StockAt g t b s) (d : Mod S g g') (hs : ¬ S t) : StockAt g' t b s := by
  obtain ⟨A, c, h1, h2⟩ := h.ex
  exact ⟨⟨A, c, h1.keep d hs, h2.keep d hs⟩, h.most, h.len⟩
theorem StockAt.pt {g : GW} {t b : Nat} {s : StockS} (h : StockAt g t b s) (X : Extra) : StockAt (g.pt X) t b s := h.keep (S := fun _ => False) (Mod.pt (Mod.refl _ _) X) id

theorem stock_room (g : GW) (t b : Nat) (s : StockS) (h : StockAt g t b s) :
    Calls Tryz.prog 171 #[.pointer (some ⟨b, 0, none⟩)] g.w (Gives (.int .i64 (s.most - s.l.length)) g.w) := by
  obtain ⟨A, c, hb, hr⟩ := h.ex
  have c0 := hb.cell (i := 0) rfl
  have c1 := hb.cell (i := 1) rfl
  have hbl := hb.lt
  obtain ⟨h1, h2⟩ := h.most
  have h3 := h.len
  clear hb hr h
  generalize s.l.length = n at *
  generalize s.most = m at *
  have hw := IntWalk.i64_in (m - n) (by omega)
  go_enter Tryz.func171, Tryz.ntmps171
  go_wp2_with fail
  refine wp_region_mixed [true, true, true, true, true, true, true, true, true, true, true] 0 11 (by kernel_rfl) (by kernel_rfl) (by kernel_rfl) ?_ (by decide) (by decide) (by decide) (by kernel_rfl) ?_
  · intro c a d v w h; cases d <;> exact h
  intro X00
  simp only [pickOps]
  repeat (go_big_quiet_step (fail))
  refine wpQuiet_nil (fun X0 => ?_)
  clear X00
  refine wpAnyM_done (by kernel_rfl) (fun X0' => ?_) _
  go_wp2_with fail
  go_ret
  exact Gives.int rfl (by (repeat (first | (with_reducible (first | assumption | exact zR _ | exact zM _ _ _ _)) | apply zA | refine zS ?_ (by first | exact zL _ | exact zK _ _ | assumption) _ | apply zP | apply zD | apply zN)))

theorem stock_drain (g : GW) (t b : Nat) (s : StockS) (h : StockAt g t b s) :
    Calls Tryz.prog 86 #[.pointer (some ⟨b, 0, none⟩)] g.w (Makes g (fun x => x = t) (fun v g' => StockAt g' t b ⟨[], s.most⟩ ∧ Row g' t 3 1 v s.l.length (s.l.map (Value.int .i64)))) := by
  obtain ⟨A, c, hb, hr⟩ := h.ex
  have c0 := hb.cell (i := 0) rfl
  have f0 := hb.live 0
  have hbl := hb.lt
  have HB := Lib.hid hb
  have HR := Lib.hid hr
  have HM := Lib.hid h.most
  clear hb hr h
  go_enter Tryz.func86, Tryz.ntmps86
  go_wp2_with fail
  go_ret
  exact ⟨_, g.own, rfl, Mod.st Mod.self HB.out.own, ⟨⟨none, 0, HB.out.set 0 _, Row.nil _ _ _ _⟩, HM.out, by simpa using HM.out.1⟩, HR.out.setOther _ _ (fun x hx => HR.out.ne_type HB.out (by decide) hx)⟩

theorem stock_new (n : Int) (t : Nat) (g : GW) (hn : 0 ≤ n ∧ n ≤ 8) : Calls Tryz.prog 77 #[.int .i64 n] g.w (fun e w' => ∃ b, e = .returned (.tuple #[.pointer (some ⟨b, 0, none⟩), .int .i64 0]) ∧ Mod (fun _ => False) g (g.to t w') ∧ StockAt (g.to t w') t b ⟨[], n⟩ ∧ Ext g.w w' ∧ g.w.heap.size ≤ b ∧ b < w'.heap.size) := by
  have HV := Lib.hid hn
  obtain ⟨h0, h1⟩ := hn
  go_enter Tryz.func77, Tryz.ntmps77
  go_wp2_with fail
  go_ret2
  have he : Ext g.w (g.w.alloc (.cells #[.slice none 0 0, .int .i64 n] 193)) := by (repeat (first | (with_reducible (first | assumption | exact zR _ | exact zM _ _ _ _)) | apply zA | refine zS ?_ (by first | exact zL _ | exact zK _ _ | assumption) _ | apply zP | apply zD | apply zN))
  exact ⟨_, rfl, Mod.ext he t, ⟨⟨none, 0, Blk.made (World.row_alloc_new _) (Nat.le_refl _), Row.nil _ _ _ _⟩, HV.out, HV.out.1⟩, he, Nat.le_refl _, by rw [World.size_alloc]; omega⟩

theorem stock_take_no (g : GW) (t b : Nat) (k : Int) (s : StockS) (h : StockAt g t b s) (hk : k < 1 ∨ (s.l.length : Int) < k) :
    Calls Tryz.prog 164 #[.pointer (some ⟨b, 0, none⟩), .int .i64 k] g.w (fun e w' => e = .returned (.tuple #[.slice none 0 0, .bool false]) ∧ g.w = w') := by
  obtain ⟨A, c, hb, hr⟩ := h.ex
  have c0 := hb.cell (i := 0) rfl
  clear hb hr h
  generalize s.l.length = n at *
  by_cases h1 : k < 1
  · clear hk
    go_enter Tryz.func164, Tryz.ntmps164
    go_wp2_with fail
    go_ret2
    exact ⟨rfl, rfl⟩
  · have h2 : (n : Int) < k := by omega
    clear hk
    go_enter Tryz.func164, Tryz.ntmps164
    go_wp2_with fail
    go_ret2
    exact ⟨rfl, rfl⟩

theorem stock_take_yes (g : GW) (t b k : Nat) (s : StockS) (h : StockAt g t b s) (ht : t ≠ 0) (hk : 1 ≤ k) (hk2 : k ≤ s.l.length) :
    Calls Tryz.prog 164 #[.pointer (some ⟨b, 0, none⟩), .int .i64 k] g.w (Makes g (fun x => x = t) (fun v g' => ∃ x, v = .tuple #[x, .bool true] ∧ StockAt g' t b ⟨s.l.drop k, s.most⟩ ∧ Row g' 0 3 1 x k ((s.l.take k).map (Value.int .i64)))) := by
  obtain ⟨A, c, hb, hr⟩ := h.ex
  obtain ⟨r, rfl, hrl, -, -, -⟩ := hr.block (by omega)
  obtain ⟨A', c', hv, hnc, hc63, -⟩ := hr.form
  injection hv with e1 _ e3
  subst e3
  have hm1 := h.most
  have hm2 := h.len
  have HT := Lib.hid ht
  have H := Lib.hid h
  have HB := Lib.hid hb
  have HR := Lib.hid hr
  have c0 := hb.cell (i := 0) rfl
  have f0 := hb.live 0
  have hbl := hb.lt
  have HC1 := Lib.hid (fun w' (he : Ext g.w w') => cloneIntN (some ⟨r, 0, none⟩) c k (s.l.take k) 0 ⟨g.own, w'⟩ (by simp; omega) (by rw [List.map_take]; exact (hr.cells.ext he).take k) (by omega))
  have HL2 := Lib.hid (show (s.l.drop k).length = s.l.length - k by simp)
  generalize hn : s.l.length = n at *
  have HN := Lib.hid hn
  clear hb hr h hn e1 ht
  have hd1 : ¬ ((n : Int) < k) := by omega
  by_cases hkc : k = c
  · subst hkc
    go_enter Tryz.func164, Tryz.ntmps164
    go_wp2_with fail
    refine (HC1.out _ (Ext.refl _)).mono ?_
    rintro e w1 ⟨A1, c1, rfl, m1, r1, he1, fr1⟩
    have M1 := Lib.hid m1
    have R1 := Lib.hid r1
    have HE1 := Lib.hid (show Ext g.w w1 from he1)
    have d0 := (HE1.out.cell hbl).trans c0
    have e0 := (HE1.out.live hbl).trans f0
    have hbl1 := Nat.lt_of_lt_of_le hbl HE1.out.size
    clear m1 r1 he1 fr1 c0 f0
    go_wp2_with fail
    have hnk : k = n := by omega
    subst hnk
    have HD : s.l.drop k = [] := List.drop_eq_nil_of_le (by rw [HN.out]; exact Nat.le_refl _)
    have HC2 := Lib.hid (cloneIntN (some ⟨r, 0, none⟩) 0 0 [] t (GW.to g 0 w1) rfl (CellsAt.nil _ _) (by omega))
    refine HC2.out.mono ?_
    rintro e w2 ⟨A2, c2, rfl, m2, r2, he2, fr2⟩
    have M2 := Lib.hid m2
    have R2 := Lib.hid r2
    have HE2 := Lib.hid (show Ext w1 w2 from he2)
    have B2 := Lib.hid ((HB.out.keep M1.out id).keep m2 id)
    have HA2 := Lib.hid (show ∀ x, (Value.slice A2 0 c2).ownBlock = some x → b ≠ x from fun x hx => r2.ne_type B2.out (by decide) hx)
    have g0 := (HE2.out.cell hbl1).trans d0
    have gf := (HE2.out.live hbl1).trans e0
    have hbl2 := Nat.lt_of_lt_of_le hbl1 HE2.out.size
    have X1 := Lib.hid (R1.out.ext he2 t)
    clear m2 r2 he2 fr2 d0 e0
    go_wp2_with fail
    go_ret2
    refine ⟨_, ((g.to 0 w1).to t w2).own, rfl, (Mod.st (g := g) (((M1.out.trans M2.out).mono (fun x hx => hx.elim))) B2.out.own), _, rfl, ⟨⟨A2, c2, ?_, ?_⟩, hm1, ?_⟩, ?_⟩
    · simp only [HD]; exact B2.out.set 0 _
    · simp only [HD]; exact R2.out.setOther 0 _ HA2.out
    · simp only [HD]; simpa using hm1.1
    · exact (X1.out.setOther 0 _ (fun x hx => X1.out.ne_type B2.out (by decide) hx)).weak rfl rfl
  · go_enter Tryz.func164, Tryz.ntmps164
    go_wp2_with fail
    refine (HC1.out _ (Ext.refl _)).mono ?_
    rintro e w1 ⟨A1, c1, rfl, m1, r1, he1, fr1⟩
    have M1 := Lib.hid m1
    have R1 := Lib.hid r1
    have HE1 := Lib.hid (show Ext g.w w1 from he1)
    have d0 := (HE1.out.cell hbl).trans c0
    have e0 := (HE1.out.live hbl).trans f0
    have hbl1 := Nat.lt_of_lt_of_le hbl HE1.out.size
    clear m1 r1 he1 fr1 c0 f0
    go_wp2_with fail
    have HC2 := Lib.hid (cloneIntN (some ⟨r, k, none⟩) (c - k) (n - k) (s.l.drop k) t (GW.to g 0 w1) HL2.out (by rw [List.map_drop]; have := (HR.out.cells.ext HE1.out).sub k; simp only [Option.map, Addr.add] at this; rw [if_neg (by omega), Nat.zero_add] at this; exact this) (by omega))
    refine HC2.out.mono ?_
    rintro e w2 ⟨A2, c2, rfl, m2, r2, he2, fr2⟩
    have M2 := Lib.hid m2
    have R2 := Lib.hid r2
    have HE2 := Lib.hid (show Ext w1 w2 from he2)
    have B2 := Lib.hid ((HB.out.keep M1.out id).keep m2 id)
    have HA2 := Lib.hid (show ∀ x, (Value.slice A2 (n - k) c2).ownBlock = some x → b ≠ x from fun x hx => r2.ne_type B2.out (by decide) hx)
    have g0 := (HE2.out.cell hbl1).trans d0
    have gf := (HE2.out.live hbl1).trans e0
    have hbl2 := Nat.lt_of_lt_of_le hbl1 HE2.out.size
    have X1 := Lib.hid (R1.out.ext he2 t)
    clear m2 r2 he2 fr2 d0 e0
    go_wp2_with fail
    go_ret2
    refine ⟨_, ((g.to 0 w1).to t w2).own, rfl, (Mod.st (g := g) (((M1.out.trans M2.out).mono (fun x hx => hx.elim))) B2.out.own), _, rfl, ⟨⟨A2, c2, ?_, ?_⟩, hm1, ?_⟩, ?_⟩
    · simp only [HL2.out]; exact B2.out.set 0 _
    · simp only [HL2.out]; exact R2.out.setOther 0 _ HA2.out
    · simp only [HL2.out]; omega
    · exact (X1.out.setOther 0 _ (fun x hx => X1.out.ne_type B2.out (by decide) hx)).weak rfl rfl

set_option maxRecDepth 100000 in
theorem stock_put (g : GW) (t b : Nat) (A : Option Addr) (c : Nat) (l : List Int) (s : StockS) (h : StockAt g t b s) (hl : CellsAt g.w A (l.map (Value.int .i64))) (hA : A = none → l = [] ∧ c = 0) (hm : (s.l.length : Int) + l.length ≤ s.most) :
    Calls Tryz.prog 172 #[.pointer (some ⟨b, 0, none⟩), .slice A l.length c] g.w (Does (.bool true) g (fun x => x = t) (fun g' => StockAt g' t b ⟨s.l ++ l, s.most⟩)) := by
  obtain ⟨i0, hi, hz0, hz1, hz2⟩ := info_parts infoInt
  obtain ⟨A0, c', hb, hr⟩ := h.ex
  have hm1 := h.most
  have HRoom := Lib.hid (stock_room g t b s h)
  have HB := Lib.hid hb
  have HR := Lib.hid hr
  have HM := Lib.hid h.most
  have c0 := hb.cell (i := 0) rfl
  have f0 := hb.live 0
  have hbl := hb.lt
  have hd : decide (s.most - (s.l.length : Int) < (l.length : Int)) = false := decide_eq_false (by omega)
  generalize hn : s.l.length = n at *
  have HN := Lib.hid hn
  clear hb hr h hn
  cases A with
  | none =>
    obtain ⟨rfl, rfl⟩ := hA rfl
    clear hA hl
    simp only [List.length_nil, List.append_nil] at hd hm ⊢
    go_enter Tryz.func172, Tryz.ntmps172
    go_wp2_with fail
    refine HRoom.out.mono ?_
    rintro e w1 ⟨rfl, X1, rfl⟩
    have R1 := Lib.hid (HR.out.ptx X1)
    go_wp2_with (at_builtin; refine wpList_append_own_none rfl (.tmp 14) (.tmp 15) 62 rfl 0 3 i0 1 Tryz.underlying62 hi _ _ _ rfl R1.out.row rfl ?_)
    go_ret
    (try rw [World.patch_patch])
    refine Does.of (GW.pt ⟨g.own, _⟩ _) rfl rfl (Mod.pt (Mod.st Mod.self HB.out.own) _) (StockAt.pt (s := ⟨s.l, s.most⟩) ⟨⟨A0, c', ?_, ?_⟩, HM.out, ?_⟩ _)
    · simp only [HN.out]
      exact HB.out.set 0 _
    · simp only [HN.out]
      exact HR.out.setOther 0 _ (fun x hx => HR.out.ne_type HB.out (by decide) hx)
    · simp only [HN.out]; omega
  | some ad =>
    have HL := Lib.hid hl
    clear hA hl
    generalize hm' : l.length = m at *
    have HM' := Lib.hid hm'
    clear hm'
    go_enter Tryz.func172, Tryz.ntmps172
    go_wp2_with fail
    refine HRoom.out.mono ?_
    rintro e w1 ⟨rfl, X1, rfl⟩
    have R1 := Lib.hid (HR.out.ptx X1)
    have B1 := Lib.hid (HB.out.pt X1)
    have L1 := Lib.hid (HL.out.patch X1)
    go_wp2_with (at_builtin; refine wpList_append_own_at _ rfl (.tmp 14) (.tmp 15) 62 rfl 0 3 i0 (.int .i64 0) 1 8 Tryz.underlying62 hi hz0 hz1 hz2 rfl (by decide) _ _ _ rfl R1.out.row ad m c (l.map (Value.int .i64)) rfl (by simp [HM'.out]) (cells_add L1.out) (by intro u hu; simp at hu; obtain ⟨_, _, rfl⟩ := hu; rfl) (by unfold maxLen; omega) (by omega) (Nat.zero_le _) ?_; intro v2 w2 hown hgrow hnil hat; obtain ⟨A2, c2, rfl⟩ := own_form hown; have R2 := Lib.hid (R1.out.grown (g := g.pt X1) hown hat); have B2 := Lib.hid (B1.out.grown (t' := t) hgrow (fun x hx => R1.out.ne_type B1.out (by decide) hx)); have M2 := Lib.hid ((Mod.pt (Mod.refl (fun x => x = t) g) X1).trans (Mod.grown hgrow t (fun k hk hl => R1.out.own k hk))); have d0 := B2.out.cell (i := 0) rfl; have e0 := B2.out.live 0; have hbl2 := B2.out.lt; simp only [GW.to] at d0 e0 hbl2; clear hown hgrow hnil hat c0 f0 hbl)
    go_ret
    refine ⟨rfl, _, Mod.st (g := g) M2.out B2.out.own, ⟨⟨A2, c2, ?_, ?_⟩, HM.out, ?_⟩⟩
    · simp only [List.length_append, HN.out, HM'.out]
      exact B2.out.set 0 _
    · simp only [List.length_append, HN.out, HM'.out]
      exact (R2.out.setOther 0 _ (fun x hx => R2.out.ne_type B2.out (by decide) hx)).weak rfl (by simp)
    · simp only [List.length_append, HN.out, HM'.out]; omega
end Go.Proofs.YtoaehfdjffejeaaGreat

/-
  Requests in a line, as plain data, and as they stand in memory. No program here.
-/
namespace Go
open Go.RowKit
set_option linter.unusedVariables false
structure Ent where
  thread : Int
  frags : Int
  spine : Int
  state : Int
  cycles : Int
  at_ : Int
  got : List Int
  noted : Bool
structure EntM where
  e : Ent
  A : Option Addr
  cap : Nat
namespace EntM
def req (m : EntM) : List Value := [.int .i64 m.e.thread, .int .i64 m.e.frags, .int .i64 m.e.spine, .int .i64 m.e.state, .int .i64 m.e.cycles, .int .i64 m.e.at_, .slice m.A m.e.got.length m.cap]
def cells (m : EntM) : List Value := m.req ++ [.bool m.e.noted]
theorem cells_len (m : EntM) : m.cells.length = 8 := rfl
structure At (g : GW) (t : Nat) (m : EntM) : Prop where
  seg : Seg g t m.A (m.e.got.map (Value.int .i64))
  len : m.e.got.length ≤ 1024
theorem At.keep {S : Nat → Prop} {g g' : GW} {t : Nat} {m : EntM} (h : At g t m) (d : Mod S g g') (hs : ¬ S t) : At g' t m := ⟨h.seg.keep d hs, h.len⟩
end EntM
def placeOf (p : Ent → Bool) (l : List Ent) : Int := match l.findIdx? p with | some i => (i : Int) | none => -1
theorem placeOf_none {p : Ent → Bool} {l : List Ent} (h : ∀ e ∈ l, p e = false) : placeOf p l = -1 := by
  unfold placeOf
  rw [List.findIdx?_eq_none_iff.2 h]
theorem placeOf_some {p : Ent → Bool} {l : List Ent} {k : Nat} {e : Ent} (hk : l[k]? = some e) (hp : p e = true) (h : ∀ x ∈ l.take k, p x = false) : placeOf p l = k := by
  obtain ⟨hl, hx⟩ := List.getElem?_eq_some_iff.1 hk
  have : l.findIdx? p = some k := by
    rw [List.findIdx?_eq_some_iff_getElem]
    refine ⟨hl, by rw [hx]; exact hp, fun j hj => ?_⟩
    have := h l[j] (by rw [List.mem_take_iff_getElem]; exact ⟨j, by omega, rfl⟩)
    simp [this]
  unfold placeOf
  rw [this]
theorem placeOf_bd (p : Ent → Bool) (l : List Ent) : -1 ≤ placeOf p l ∧ placeOf p l < l.length := by
  unfold placeOf
  cases h : l.findIdx? p with
  | none => simp only; omega
  | some i =>
    obtain ⟨hl, _⟩ := List.findIdx?_eq_some_iff_getElem.1 h
    simp only; omega
def ofB (th : Int) (e : Ent) : Bool := e.thread == th
def waitB (e : Ent) : Bool := e.state == 0
end Go

