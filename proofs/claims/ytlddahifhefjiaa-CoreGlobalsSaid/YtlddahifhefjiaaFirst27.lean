/-
  sporef.Ints; spolaw27.first.
-/
import Derived.Test.YtlddahifhefjiaaTale2
import Derived.Test.YtlddahifhefjiaaPicks
import Derived.Test.YtlddahifhefjiaaSmall
namespace Go
theorem take_succ_eq {α : Type} {l m : List α} {k : Nat} {x y : α} (h : l.take k = m.take k) (hx : l[k]? = some x) (hy : m[k]? = some y) (he : x = y) : l.take (k + 1) = m.take (k + 1) := by
  rw [List.take_add_one, List.take_add_one, h, hx, hy, he]
theorem sig_check {c : Cnf} {n : Int} (h : c.sig = smallSig n) : c.check = 0 := by
  have q32 := partOf_bd n (b := 32) (by decide)
  have q40 := partOf_bd n (b := 40) (by decide)
  have q3 := partOf_bd n (b := 3) (by decide)
  have q4 := partOf_bd n (b := 4) (by decide)
  obtain ⟨fr, sp, gl, th, lo, ca, st, lw, A, cap, shapes⟩ := c
  simp only [Cnf.sig, smallSig, Prod.mk.injEq, List.cons.injEq, and_true] at h
  obtain ⟨⟨rfl, rfl, rfl, rfl, rfl, rfl, rfl, rfl⟩, hs⟩ := h
  have hl : shapes.length = 5 := by have := congrArg List.length hs; simpa using this
  have hb : badIn shapes = false := by
    refine badIn_no (fun s hs' => ?_)
    have hm : (s.arr, s.refs) ∈ shapes.map (fun s => (s.arr, s.refs)) := List.mem_map.2 ⟨s, hs', rfl⟩
    rw [hs] at hm
    simp only [List.mem_cons, List.not_mem_nil, or_false, Prod.mk.injEq] at hm
    unfold Shp.may
    rcases hm with ⟨h1, h2⟩ | ⟨h1, h2⟩ | ⟨h1, h2⟩ | ⟨h1, h2⟩ | ⟨h1, h2⟩ <;> rw [h1, h2] <;> decide
  have hr : (Cnf.mk (16 + partOf n 32) (24 + partOf n 40) 2 3 3 (partOf n 3) (1 + partOf n 4) (partOf n 4) A cap shapes).rangedTo 8 = true := by
    simp [Cnf.rangedTo, Cnf.ranges, within]
    omega
  unfold Cnf.check
  rw [hr, hb, hl]
  simp [within]
  omega
theorem ints_len_ne {l m : List Int} (h : l.length ≠ m.length) : decide (l = m) = false := by
  rw [decide_eq_false_iff_not]
  rintro rfl
  exact h rfl
end Go
namespace Go.Proofs.Ytlddahifhefjiaa
open Go Go.RowKit
set_option linter.unusedVariables false

set_option maxRecDepth 100000 in
set_option maxHeartbeats 1000000 in
theorem ints_any (A B : Option Addr) (ca cb : Nat) (l m : List Int) (w : World) (ha : CellsAt w A (l.map (Value.int .i64))) (hb : CellsAt w B (m.map (Value.int .i64))) (hl : l.length ≤ 140737488355328) (hm : m.length ≤ 140737488355328) :
    Calls Try.prog 20 #[.slice A l.length ca, .slice B m.length cb] w (Gives (.bool (decide (l = m))) w) := by
  by_cases hlm : l.length = m.length
  · go_enter Try.func20, Try.ntmps20
    rw [hlm]
    go_wp2
    go_loopw [5] (fun i wr => ∃ k : Nat, k ≤ m.length ∧ i = .int .i64 k ∧ l.take k = m.take k ∧ Ext w wr) (fun i _ => m.length - (intOf i).toNat)
    case atStart => exact ⟨0, Nat.zero_le _, rfl, rfl, Ext.refl _⟩
    case round =>
      obtain ⟨k, hk, rfl, ht, X, rfl⟩ := hrel
      have HT := Lib.hid ht
      clear ht
      by_cases hlt : k < m.length
      · obtain ⟨b, o, rfl, hbl, hcb⟩ := words_at hb hlt
        obtain ⟨a, p, rfl, hal, hca⟩ := words_at ha (show k < l.length by omega)
        have g1 := hca k (by omega)
        have g2 := hcb k hlt
        have HX := Lib.hid (show l[k]? = some (l.getD k 0) by rw [List.getD_eq_getElem?_getD, List.getElem?_eq_getElem (by omega)]; rfl)
        have HY := Lib.hid (show m[k]? = some (m.getD k 0) by rw [List.getD_eq_getElem?_getD, List.getElem?_eq_getElem hlt]; rfl)
        generalize l.getD k 0 = x at *
        generalize m.getD k 0 = y at *
        have HL := Lib.hid hlm
        clear ha hb hca hcb hlm
        by_cases hxy : x = y
        · have HS := Lib.hid (take_succ_eq HT.out HX.out HY.out hxy)
          have hne : (x != y) = false := by simp [hxy]
          clear hxy
          go_wp2
          go_quiet (fail)
          go_wp2
          go_roundw
          case rel => exact ⟨k + 1, by omega, by go_num, HS.out, by (repeat (first | (with_reducible assumption) | (with_reducible exact Ext.refl _) | (with_reducible exact Ext.more _ _ _ _) | apply Ext.alloc | refine Ext.setCell ?_ (by first | exact Nat.le_refl _ | exact Nat.le_add_right _ _ | assumption) _ | apply Ext.patch | apply Ext.drew | apply Ext.drewN))⟩
          case measure => simp [intOf]; omega
        · have HS := Lib.hid (show decide (l = m) = false from decide_eq_false (fun e => hxy (by have h1 := HX.out; rw [e, HY.out] at h1; injection h1 with h1; exact h1.symm)))
          have hne : (x != y) = true := by simp [hxy]
          clear hxy
          go_wp2
          go_quiet (fail)
          go_wp2
          go_ret
          exact Gives.bool HS.out.symm (by (repeat (first | (with_reducible assumption) | (with_reducible exact Ext.refl _) | (with_reducible exact Ext.more _ _ _ _) | apply Ext.alloc | refine Ext.setCell ?_ (by first | exact Nat.le_refl _ | exact Nat.le_add_right _ _ | assumption) _ | apply Ext.patch | apply Ext.drew | apply Ext.drewN)))
      · obtain rfl : k = m.length := by omega
        have HS := Lib.hid (show decide (l = m) = true from decide_eq_true (by have h1 := HT.out; rwa [List.take_of_length_le (by omega), List.take_of_length_le (by omega)] at h1))
        have HL := Lib.hid hlm
        clear hlm ha hb
        go_wp2
        go_ret
        exact Gives.bool HS.out.symm (by (repeat (first | (with_reducible assumption) | (with_reducible exact Ext.refl _) | (with_reducible exact Ext.more _ _ _ _) | apply Ext.alloc | refine Ext.setCell ?_ (by first | exact Nat.le_refl _ | exact Nat.le_add_right _ _ | assumption) _ | apply Ext.patch | apply Ext.drew | apply Ext.drewN)))
  · have HS := Lib.hid (ints_len_ne hlm)
    have hne : ((l.length : Int) != (m.length : Int)) = true := by simp; omega
    clear hlm ha hb
    go_enter Try.func20, Try.ntmps20
    go_wp2
    go_ret
    exact Gives.bool HS.out.symm (by (repeat (first | (with_reducible assumption) | (with_reducible exact Ext.refl _) | (with_reducible exact Ext.more _ _ _ _) | apply Ext.alloc | refine Ext.setCell ?_ (by first | exact Nat.le_refl _ | exact Nat.le_add_right _ _ | assumption) _ | apply Ext.patch | apply Ext.drew | apply Ext.drewN)))

theorem opsC (A : Option Addr) (cap : Nat) (bs : List Int) (w : World) (hb : CellsAt w A (bs.map (Value.int .u8))) (hcap : bs.length ≤ cap) (hmax : cap ≤ 9223372036854775807) (hlen : bs.length ≤ 140737488355328) (hw : ∀ x ∈ bs, 0 ≤ x ∧ x ≤ 255) :
    Calls Try.prog 16 #[.slice A bs.length cap] w (Made 28 6 (opsOf bs).length ((opsOf bs).flatMap Opr.cells) w) :=
  (ops_any A cap bs w hb hcap hmax hlen hw).mono fun _ _ ⟨v, h1, h2, h3⟩ => ⟨v, h1, h2, ext_of_below h3⟩

set_option maxRecDepth 100000 in
set_option maxHeartbeats 1000000 in
theorem first_any (w : World) : Calls Try.prog 15 #[] w (Gives (.bool true) w) := by
  go_enter Try.func15, Try.ntmps15
  go_wp2_with fail
  refine (opsC (some ⟨w.heap.size, 0, none⟩) 7 [0, 1, 0, 0, 9, 9, 9] _ (cellsAt_new _ _ _ _ rfl) (by decide) (by decide) (by decide) (by decide)).mono ?_
  rintro e w1 ⟨v, rfl, hown, hE⟩
  rw [show opsOf [0, 1, 0, 0, 9, 9, 9] = [⟨1, 1, 0, 0, 0, 0, 0⟩] from rfl] at hown
  obtain ⟨g, cap, rfl⟩ := ownsRow_succ (k := 0) hown
  have hc := cellsAt_of_own hown
  have c0 : w1.cell? ⟨g, 0, none⟩ = some (.int .i64 1) := by
    obtain ⟨b, o, h1, _, h2⟩ := hc 0 (.int .i64 1) rfl
    injection h1 with h1
    simp only [Addr.mk.injEq, and_true] at h1
    obtain ⟨rfl, rfl⟩ := h1
    exact h2
  have c1 : w1.cell? ⟨g, 1, none⟩ = some (.int .i64 1) := by
    obtain ⟨b, o, h1, _, h2⟩ := hc 1 (.int .i64 1) rfl
    injection h1 with h1
    simp only [Addr.mk.injEq, and_true] at h1
    obtain ⟨rfl, rfl⟩ := h1
    exact h2
  have HE := Lib.hid (Ext.trans ((Ext.refl w).alloc _) hE)
  clear hown hc hE
  go_wp2_with fail
  refine (small_any 0 _ (by decide) (by decide)).mono ?_
  rintro e w2 ⟨c, rfl, hsig, hok, hE2⟩
  have HS := Lib.hid hsig
  have HE2 := Lib.hid hE2
  clear hsig hE2
  go_wp2_with fail
  refine (check_any c _ hok).mono ?_
  rw [sig_check HS.out]
  rintro e w3 ⟨rfl, hE3⟩
  have HE3 := Lib.hid (show Ext w2 w3 from hE3)
  clear hE3
  go_wp2_with fail
  refine (picks_any (some ⟨w3.heap.size, 0, none⟩) 2 [0, 5] 3 _ (cellsAt_new _ _ _ _ rfl) (by decide) (by decide) (by decide)).mono ?_
  rintro e w4 ⟨v, rfl, hown4, hE4⟩
  obtain ⟨g4, cap4, rfl⟩ := ownsRow_succ (k := 1) hown4
  have HC4 := Lib.hid (cellsAt_of_own hown4)
  have HE4 := Lib.hid hE4
  clear hown4 hE4
  go_wp2_with fail
  refine (ints_any (some ⟨g4, 0, none⟩) (some ⟨w4.heap.size, 0, none⟩) cap4 2 [0, 1] [0, 1] _ (HC4.out.alloc _) (cellsAt_new _ _ _ _ rfl) (by decide) (by decide)).mono ?_
  rintro e w5 ⟨rfl, hE5⟩
  have HE5 := Lib.hid hE5
  clear hE5
  go_wp2_with fail
  go_ret
  exact Gives.bool rfl ((HE.out.trans HE2.out).trans ((HE3.out.alloc _).trans ((HE4.out.alloc _).trans HE5.out)))
end Go.Proofs.Ytlddahifhefjiaa
