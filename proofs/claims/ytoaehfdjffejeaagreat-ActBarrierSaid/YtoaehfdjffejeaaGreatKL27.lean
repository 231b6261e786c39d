import Derived.Test.YtoaehfdjffejeaaGreatKL26
import Derived.RangeFuncBox
import Derived.RangeFuncBound
import Derived.RangeFuncCalls
import Derived.RangeFuncLeaves
import Derived.Shelf.Abstract
import Derived.Shelf.RegionOpen
import Derived.WalkKit
import Derived.OwnWalkIn
import Derived.TacticsInMore
import Derived.LoopNIn
import Derived.LoopIn
import Derived.Maps.AppendAt
import Derived.Sort.QuietIn
import Derived.Test.YtoaehfdjffejeaaGreatChecked
/-
  Packed: ActX, ActY, ActRB, Sit, ActQ, ActQB, Chunk, Tale1, Tale2.
-/
open Go.Ext renaming alloc → zA, patch → zP, drew → zD, drewN → zN, more → zM, refl → zR, setCell → zS
open Nat renaming le_refl → zL, le_add_right → zK
/-
  act.Locals; spolaw23.first.
-/
namespace Go.Proofs.YtoaehfdjffejeaaGreat
open Go Go.RowKit
set_option linter.unusedVariables false
set_option linter.unnecessarySimpa false
set_option linter.unusedSimpArgs false
set_option maxHeartbeats 4000000
set_option maxRecDepth 100000
theorem act_locals (g : GW) (t b : Nat) (A : AcS) (p : AcP) (H : AcAt g t b A p) (hl : A.locals.length ≤ 1000000) (n : Nat) (hn : A.locals.length = n) : Calls Tryz.prog 10 #[.pointer (some ⟨b, 0, none⟩)] g.w (ClonedRow 9 34 2 n (A.locals.flatMap LVal.cells) g) := by
  subst hn
  have HC := Lib.hid (clone_vals p.locA p.locC A.locals 9 g H.r.loc.cells hl)
  obtain ⟨a0, a1, a2, a3, a4, a5, a6, a7, a8, a9, a10, a11, a12, a13, a14, a15, a16, a17, a18, al⟩ := H.blk.c19
  (try simp only [GW.to] at a0 a1 a2 a3 a4 a5 a6 a7 a8 a9 a10 a11 a12 a13 a14 a15 a16 a17 a18 al)
  clear H
  go_enter Tryz.func10, Tryz.ntmps10
  go_wp2_with fail
  refine HC.out.mono ?_
  rintro e w1 ⟨A', c', rfl, m1, r1, hE1, hf1, hc1⟩
  go_wp2_with fail
  go_ret
  exact ⟨A', c', rfl, m1, r1, hE1, hf1, hc1⟩
theorem wsame (a b : Nat) (w : World) : Calls Tryz.prog 11 #[.complex .f64 a b, .complex .f64 a b] w (fun e w' => e = .returned (.bool true) ∧ w = w') := by
  have h := word_any (a, b) (a, b) w
  rw [show sameW (a, b) (a, b) = true by simp [sameW]] at h
  exact h
def firstCnt (A : Option Addr) : Bool := match (first23W A).stepR with
  | none => false
  | some x => match x.2.stepR with
    | none => false
    | some y => match y.2.stepR with
      | none => false
      | some z => z.2.K.hand.count == 2 && (z.2.K.sp.count == 0 && (z.2.K.mem.count == 0 && (z.2.K.n == 0 && z.1.1.own == 1 && (z.1.1.e == 0 && (z.1.1.v.z == (4617315517961601024, 0) && (z.1.2 && (!x.1.2 && !y.1.2)))))))
theorem first_cnt : firstCnt = fun _ => true := by kernel_rfl
theorem first_runs (A : Option Addr) : ∃ x y z : AcR, (first23W A).stepR = some x ∧ x.2.stepR = some y ∧ y.2.stepR = some z ∧ z.2.K.hand.count = 2 ∧ z.2.K.sp.count = 0 ∧ z.2.K.mem.count = 0 ∧ z.2.K.n = 0 ∧ z.1.1.own = 1 ∧ z.1.1.e = 0 ∧ z.1.1.v.z = (4617315517961601024, 0) ∧ z.1.2 = true ∧ x.1.2 = false ∧ y.1.2 = false := by
  have h := congrFun first_cnt A
  unfold firstCnt at h
  cases hx : (first23W A).stepR with
  | none => rw [hx] at h; cases h
  | some x =>
    rw [hx] at h
    simp only at h
    cases hy : x.2.stepR with
    | none => rw [hy] at h; cases h
    | some y =>
      rw [hy] at h
      simp only at h
      cases hz : y.2.stepR with
      | none => rw [hz] at h; cases h
      | some z =>
        rw [hz] at h
        simp only [Bool.and_eq_true, beq_iff_eq, Bool.not_eq_true'] at h
        obtain ⟨h1, h2, h3, ⟨h4, h5⟩, h6, h7, h8, h9, h10⟩ := h
        exact ⟨x, y, z, rfl, hy, hz, h1, h2, h3, h4, h5, h6, h7, h8, h9, h10⟩
theorem apart5 : AcApart 500 100 := ⟨by decide, by decide, by decide⟩
theorem first23_any (w : World) : Calls Tryz.prog 6 #[] w (Gives (.bool true) w) := by
  have q1 := World.row_alloc_new w (o := .cells #[.bool false, .slice none 0 0] 73)
  have hok : (c23 (some ⟨w.heap.size, 0, none⟩)).Ok (w.alloc (.cells #[.bool false, .slice none 0 0] 73)) :=
    ⟨CellsAt.mk (Array.getElem?_eq_some_iff.1 q1).1 (fun i v hi => by rw [Nat.zero_add]; exact row_cell (l := [.bool false, .slice none 0 0]) q1 hi), fun s hs => by rw [List.mem_singleton.1 hs]; exact ⟨CellsAt.nil _ _, by simp, by simp⟩, Nat.le_refl _, (show 1 ≤ 140737488355328 by decide)⟩
  have HE := Lib.hid (show Ext w (w.alloc (.cells #[.bool false, .slice none 0 0] 73)) by (repeat (first | (with_reducible (first | assumption | exact zR _ | exact zM _ _ _ _)) | apply zA | refine zS ?_ (by first | exact zL _ | exact zK _ _ | assumption) _ | apply zP | apply zD | apply zN)))
  have HM := Lib.hid (core_new (c23 (some ⟨w.heap.size, 0, none⟩)) 100 ⟨fun _ => 0, _⟩ hok (by omega) (fun k _ => Or.inl (show 0 < 100 by omega)))
  clear q1 hok
  go_enter Tryz.func6, Tryz.ntmps6
  go_wp2_with fail
  refine HM.out.mono ?_
  rintro e w1 hh
  unfold CoreMade at hh
  rw [if_pos (c23_check _)] at hh
  obtain ⟨own1, k, rfl, m1, h1⟩ := hh
  generalize (some ⟨w.heap.size, 0, none⟩ : Option Addr) = A at *
  have M1 := Lib.hid m1
  obtain ⟨bm, bs, bt, bp, bsp, bh, cm, h1⟩ := h1
  letI : TbId := ⟨⟨bt⟩⟩
  have H1 := Lib.hid h1
  clear m1 h1 HM
  have m2' : ∃ own2, Mod (fun _ => False) ⟨own1, w1⟩ ⟨own2, w1.alloc (.cells #[.int .i64 12, .int .i64 0, .int .i64 0, .int .i64 0, .int .i64 0, .complex .f64 4617315517961601024 0] 26)⟩ := Mod.ofExt (show Ext w1 _ by (repeat (first | (with_reducible (first | assumption | exact zR _ | exact zM _ _ _ _)) | apply zA | refine zS ?_ (by first | exact zL _ | exact zK _ _ | assumption) _ | apply zP | apply zD | apply zN))) own1
  obtain ⟨own2, m2⟩ := m2'
  have HC2 := cellsAt_new w1 ([⟨12, 0, 0, 0, 0, 4617315517961601024, 0⟩].flatMap Opr.cells) 26 _ rfl
  have HN := Lib.hid (show Calls Tryz.prog 24 #[.int .i64 0, .int .i64 1, .slice (some ⟨w1.heap.size, 0, none⟩) 1 1] (w1.alloc (.cells #[.int .i64 12, .int .i64 0, .int .i64 0, .int .i64 0, .int .i64 0, .complex .f64 4617315517961601024 0] 26)) (ActMade 0 1 [⟨12, 0, 0, 0, 0, 4617315517961601024, 0⟩] 500 ⟨own2, _⟩) from act_new1 0 _ 1 [⟨12, 0, 0, 0, 0, 4617315517961601024, 0⟩] 500 (by omega) ⟨own2, _⟩ HC2 (by decide))
  clear HC2
  go_wp2_with fail
  refine HN.out.mono ?_
  rintro e w3 ⟨own3, b, p, rfl, m3, h3⟩
  have M3 := Lib.hid (((M1.out.trans m2).trans m3).mono (S := acT 500 100) (fun _ => False.elim))
  have H3 := Lib.hid (AcIn.at_ (show AcIn ⟨own3, w3⟩ 500 100 b k (first23W A) p bm bs bt bp bsp bh cm from ⟨h3, H1.out.keep (m2.trans m3) (fun _ => False.elim), rfl⟩))
  have HPH := Lib.hid (show Calls Tryz.prog 8 #[.pointer (some ⟨b, 0, none⟩)] w3 (fun e w' => e = .returned (.int .i64 0) ∧ w3 = w') from act_phase ⟨own3, w3⟩ 500 b _ p h3)
  clear m2 m3 h3 M1 H1 HN
  go_wp2_with fail
  refine HPH.out.mono ?_
  rintro e w' ⟨rfl, rfl⟩
  clear HPH
  obtain ⟨⟨⟨x1, x2⟩, x3⟩, ⟨⟨y1, y2⟩, y3⟩, ⟨⟨⟨zo, zw, ze, ⟨zr, zz⟩⟩, z2⟩, z3⟩, hx, hy, hz, e1, e2, e3, e4, e5, e6, e7, e8, e9, e10⟩ := first_runs A
  simp only at hx hy hz e1 e2 e3 e4 e5 e6 e7 e8 e9 e10
  subst e5 e6 e7 e8 e9 e10
  have HS := Lib.hid (show Calls Tryz.prog 9 #[.pointer (some ⟨b, 0, none⟩), .pointer (some ⟨k, 0, none⟩)] w3 (Does (.tuple #[.agg #[.int .i64 ((x1)).op, .int .i64 ((x1)).own, .int .i64 ((x1)).e, .bool ((x1)).v.ref, .complex .f64 ((x1)).v.z.1 ((x1)).v.z.2], .bool false]) ⟨own3, w3⟩ (acT 500 100) (fun g' => AcWAt g' 500 100 b k x3)) from act_step (g := ⟨own3, w3⟩) apart5 H3.out _ hx)
  (try simp only at HS)
  go_wp2_with fail
  refine HS.out.mono ?_
  rintro e w4 ⟨rfl, own4, m4, h4⟩
  have M4 := Lib.hid (M3.out.trans m4)
  have H4 := Lib.hid h4
  clear m4 h4 HS M3 H3
  go_upto_region 6 with fail
  have m6' : ∃ own2, Mod (fun _ => False) ⟨own4, w4⟩ ⟨own2, w4.alloc (.cells #[.int .i64 (x1).op, .int .i64 (x1).own, .int .i64 (x1).e, .bool (x1).v.ref, .complex .f64 (x1).v.z.1 (x1).v.z.2] 36)⟩ := Mod.ofExt (show Ext w4 _ by (repeat (first | (with_reducible (first | assumption | exact zR _ | exact zM _ _ _ _)) | apply zA | refine zS ?_ (by first | exact zL _ | exact zK _ _ | assumption) _ | apply zP | apply zD | apply zN))) own4
  obtain ⟨own6, m6⟩ := m6'
  obtain ⟨p6, bm6, bs6, bt6, bp6, bsp6, bh6, cm6, h6⟩ := H4.out
  have M6 := Lib.hid (M4.out.trans (m6.mono (S := acT 500 100) (fun _ => False.elim)))
  have H6 := Lib.hid (AcIn.at_ (show AcIn ⟨own6, _⟩ 500 100 b k _ _ _ _ _ _ _ _ _ from h6.keep0 m6))
  generalize w4.alloc (.cells #[.int .i64 (x1).op, .int .i64 (x1).own, .int .i64 (x1).e, .bool (x1).v.ref, .complex .f64 (x1).v.z.1 (x1).v.z.2] 36) = w6 at *
  clear m6 h6 M4 H4
  have HS := Lib.hid (show Calls Tryz.prog 9 #[.pointer (some ⟨b, 0, none⟩), .pointer (some ⟨k, 0, none⟩)] w6 (Does (.tuple #[.agg #[.int .i64 ((y1)).op, .int .i64 ((y1)).own, .int .i64 ((y1)).e, .bool ((y1)).v.ref, .complex .f64 ((y1)).v.z.1 ((y1)).v.z.2], .bool false]) ⟨own6, w6⟩ (acT 500 100) (fun g' => AcWAt g' 500 100 b k y3)) from act_step (g := ⟨own6, w6⟩) apart5 H6.out _ hy)
  (try simp only at HS)
  go_wp2_with fail
  refine HS.out.mono ?_
  rintro e w5 ⟨rfl, own5, m5, h5⟩
  have M5 := Lib.hid (M6.out.trans m5)
  have H5 := Lib.hid h5
  clear m5 h5 HS M6 H6
  go_upto_region 7 with fail
  have m7' : ∃ own2, Mod (fun _ => False) ⟨own5, w5⟩ ⟨own2, w5.alloc (.cells #[.int .i64 (y1).op, .int .i64 (y1).own, .int .i64 (y1).e, .bool (y1).v.ref, .complex .f64 (y1).v.z.1 (y1).v.z.2] 36)⟩ := Mod.ofExt (show Ext w5 _ by (repeat (first | (with_reducible (first | assumption | exact zR _ | exact zM _ _ _ _)) | apply zA | refine zS ?_ (by first | exact zL _ | exact zK _ _ | assumption) _ | apply zP | apply zD | apply zN))) own5
  obtain ⟨own7, m7⟩ := m7'
  obtain ⟨p7, bm7, bs7, bt7, bp7, bsp7, bh7, cm7, h7⟩ := H5.out
  have M7 := Lib.hid (M5.out.trans (m7.mono (S := acT 500 100) (fun _ => False.elim)))
  have H7 := Lib.hid (AcIn.at_ (show AcIn ⟨own7, _⟩ 500 100 b k _ _ _ _ _ _ _ _ _ from h7.keep0 m7))
  generalize w5.alloc (.cells #[.int .i64 (y1).op, .int .i64 (y1).own, .int .i64 (y1).e, .bool (y1).v.ref, .complex .f64 (y1).v.z.1 (y1).v.z.2] 36) = w7 at *
  clear m7 h7 M5 H5
  have HS := Lib.hid (show Calls Tryz.prog 9 #[.pointer (some ⟨b, 0, none⟩), .pointer (some ⟨k, 0, none⟩)] w7 (Does (.tuple #[.agg #[.int .i64 ((⟨zo, 1, 0, ⟨zr, (4617315517961601024, 0)⟩⟩ : ResS)).op, .int .i64 ((⟨zo, 1, 0, ⟨zr, (4617315517961601024, 0)⟩⟩ : ResS)).own, .int .i64 ((⟨zo, 1, 0, ⟨zr, (4617315517961601024, 0)⟩⟩ : ResS)).e, .bool ((⟨zo, 1, 0, ⟨zr, (4617315517961601024, 0)⟩⟩ : ResS)).v.ref, .complex .f64 ((⟨zo, 1, 0, ⟨zr, (4617315517961601024, 0)⟩⟩ : ResS)).v.z.1 ((⟨zo, 1, 0, ⟨zr, (4617315517961601024, 0)⟩⟩ : ResS)).v.z.2], .bool true]) ⟨own7, w7⟩ (acT 500 100) (fun g' => AcWAt g' 500 100 b k z3)) from act_step (g := ⟨own7, w7⟩) apart5 H7.out _ hz)
  (try simp only at HS)
  go_wp2_with fail
  refine HS.out.mono ?_
  rintro e w8 ⟨rfl, own8, m8, h8⟩
  have M8 := Lib.hid (M7.out.trans m8)
  have H8 := Lib.hid h8
  clear m8 h8 HS M7 H7
  go_upto_region 8 with fail
  obtain ⟨own9, m9, V9⟩ := start1 ⟨own8, w8⟩ 36 [.int .i64 zo, .int .i64 1, .int .i64 0, .bool zr, .complex .f64 4617315517961601024 0]
  have m9' : Mod (fun _ => False) (⟨own8, w8⟩ : GW) ⟨own9, w8.alloc (.cells #[.int .i64 zo, .int .i64 1, .int .i64 0, .bool zr, .complex .f64 4617315517961601024 0] 36)⟩ := m9
  have V9' := Lib.hid (show Blk ⟨own9, w8.alloc (.cells #[.int .i64 zo, .int .i64 1, .int .i64 0, .bool zr, .complex .f64 4617315517961601024 0] 36)⟩ 9 w8.heap.size 36 [.int .i64 zo, .int .i64 1, .int .i64 0, .bool zr, .complex .f64 4617315517961601024 0] from V9)
  obtain ⟨p9, bm9, bs9, bt9, bp9, bsp9, bh9, cm9, h9⟩ := H8.out
  have M9 := Lib.hid (M8.out.trans (m9'.mono (S := acT 500 100) (fun _ => False.elim)))
  have H9 := Lib.hid (h9.keep0 m9')
  clear m9 V9 h9 m9' H8 M8
  generalize w8.alloc (.cells #[.int .i64 zo, .int .i64 1, .int .i64 0, .bool zr, .complex .f64 4617315517961601024 0] 36) = w9 at *
  generalize w8.heap.size = q9 at *
  have HW := Lib.hid (fun w => wsame 4617315517961601024 0 w)
  have HCT := Lib.hid (show Calls Tryz.prog 25 #[.pointer (some ⟨k, 0, none⟩)] w9 (Gives (.int .i64 2) w9) from by
    have h := core_count ⟨own9, w9⟩ 100 k z3.K ⟨bm9, bs9, bt9, bp9, bsp9, bh9, cm9, H9.out.c⟩ (by rw [e3]; decide) (by rw [e4]; decide) (by rw [e2]; decide) (by rw [e1]; decide)
    rw [show CoreS.count z3.K = 2 by unfold CoreS.count; rw [e1, e2, e3, e4]; rfl] at h
    exact h)
  obtain ⟨v0, v1, v2, v3, v4, vl⟩ := V9'.out.c5
  (try simp only [GW.to] at v0 v1 v2 v3 v4 vl)
  go_wp2_with fail
  refine (HW.out _).mono ?_
  rintro e w' ⟨rfl, rfl⟩
  go_wp2_with fail
  refine HCT.out.mono ?_
  rintro e w10 ⟨rfl, hX⟩
  have E10 := Lib.hid (show Ext w9 w10 from hX)
  clear hX
  go_wp2_with fail
  go_ret
  exact Gives.bool rfl (HE.out.trans ((M9.out.nothing (fun j _ hj => by simp only [acT] at hj; omega)).toExt.trans E10.out))
end Go.Proofs.YtoaehfdjffejeaaGreat

/-
  spolaw23.pair.
-/
namespace Go.Proofs.YtoaehfdjffejeaaGreat
open Go Go.RowKit
set_option linter.unusedVariables false
set_option linter.unnecessarySimpa false
set_option linter.unusedSimpArgs false
set_option maxHeartbeats 4000000
set_option maxRecDepth 100000
def PairMade (l : List Opr) (w : World) (e : Ending) (w' : World) : Prop :=
  ∃ w0 own' k x y A A1 A2 tb, e = .returned (.tuple #[.pointer (some ⟨k, 0, none⟩), .pointer (some ⟨x, 0, none⟩), .pointer (some ⟨y, 0, none⟩)]) ∧ Ext w w0 ∧ Mod (fun _ => False) ⟨fun _ => 0, w0⟩ ⟨own', w'⟩ ∧ @AcWAt ⟨⟨tb⟩⟩ ⟨own', w'⟩ 500 100 x k (pairW A A1 A2 l)
theorem pair_any (Al : Option Addr) (cap : Nat) (l : List Opr) (w : World) (n : Nat) (hn : l.length = n) (hl : n ≤ 1000000) (hc : CellsAt w Al (l.flatMap Opr.cells)) : Calls Tryz.prog 7 #[.slice Al n cap, .slice none 0 0] w (PairMade l w) := by
  subst hn
  go_enter Tryz.func7, Tryz.ntmps7
  go_upto_region 2 with fail
  have hz1 : (w.alloc (.cells #[.bool true, .bool true, .bool false] 4)).heap.size = w.heap.size + 1 := World.size_alloc _ _
  have hz2 : ((w.alloc (.cells #[.bool true, .bool true, .bool false] 4)).alloc (.cells #[.bool true] 4)).heap.size = w.heap.size + 1 + 1 := by simp [World.size_alloc]
  have hz3 : (((w.alloc (.cells #[.bool true, .bool true, .bool false] 4)).alloc (.cells #[.bool true] 4)).alloc (.cells #[.bool false, .slice (some ⟨w.heap.size, 0, none⟩) 3 3, .bool true, .slice (some ⟨w.heap.size + 1, 0, none⟩) 1 1] 73)).heap.size = w.heap.size + 1 + 1 + 1 := by simp [World.size_alloc]
  have HOK := Lib.hid (show (cPair (some ⟨w.heap.size + 1 + 1, 0, none⟩) (some ⟨w.heap.size, 0, none⟩) (some ⟨w.heap.size + 1, 0, none⟩)).Ok ((((w.alloc (.cells #[.bool true, .bool true, .bool false] 4)).alloc (.cells #[.bool true] 4)).alloc (.cells #[.bool false, .slice (some ⟨w.heap.size, 0, none⟩) 3 3, .bool true, .slice (some ⟨w.heap.size + 1, 0, none⟩) 1 1] 73)).alloc (.cells #[.int .i64 40, .int .i64 40, .int .i64 2, .int .i64 2, .int .i64 3, .int .i64 0, .int .i64 9, .int .i64 0, .slice (some ⟨w.heap.size + 1 + 1, 0, none⟩) 2 2] 46)) from by
    refine ⟨?_, fun s hs => ?_, by simp [cPair], by simp [cPair]⟩
    · exact (cellsAt_new ((w.alloc (.cells #[.bool true, .bool true, .bool false] 4)).alloc (.cells #[.bool true] 4)) [.bool false, .slice (some ⟨w.heap.size, 0, none⟩) 3 3, .bool true, .slice (some ⟨w.heap.size + 1, 0, none⟩) 1 1] _ _ hz2.symm).alloc _
    · simp only [cPair, List.mem_cons, List.not_mem_nil, or_false] at hs
      rcases hs with rfl | rfl
      · exact ⟨(((cellsAt_new w [.bool true, .bool true, .bool false] _ _ rfl).alloc _).alloc _).alloc _, by simp, by simp⟩
      · exact ⟨((cellsAt_new (w.alloc (.cells #[.bool true, .bool true, .bool false] 4)) [.bool true] _ _ hz1.symm).alloc _).alloc _, by simp, by simp⟩)
  have HB := Lib.hid (show Blk ⟨fun _ => 0, ((((w.alloc (.cells #[.bool true, .bool true, .bool false] 4)).alloc (.cells #[.bool true] 4)).alloc (.cells #[.bool false, .slice (some ⟨w.heap.size, 0, none⟩) 3 3, .bool true, .slice (some ⟨w.heap.size + 1, 0, none⟩) 1 1] 73)).alloc (.cells #[.int .i64 40, .int .i64 40, .int .i64 2, .int .i64 2, .int .i64 3, .int .i64 0, .int .i64 9, .int .i64 0, .slice (some ⟨w.heap.size + 1 + 1, 0, none⟩) 2 2] 46))⟩ 0 (w.heap.size + 1 + 1 + 1) 46 [.int .i64 40, .int .i64 40, .int .i64 2, .int .i64 2, .int .i64 3, .int .i64 0, .int .i64 9, .int .i64 0, .slice (some ⟨w.heap.size + 1 + 1, 0, none⟩) 2 2] from ⟨by
    show ((((w.alloc (.cells #[.bool true, .bool true, .bool false] 4)).alloc (.cells #[.bool true] 4)).alloc (.cells #[.bool false, .slice (some ⟨w.heap.size, 0, none⟩) 3 3, .bool true, .slice (some ⟨w.heap.size + 1, 0, none⟩) 1 1] 73)).alloc (.cells #[.int .i64 40, .int .i64 40, .int .i64 2, .int .i64 2, .int .i64 3, .int .i64 0, .int .i64 9, .int .i64 0, .slice (some ⟨w.heap.size + 1 + 1, 0, none⟩) 2 2] 46)).heap[w.heap.size + 1 + 1 + 1]? = _
    rw [← hz3]
    exact World.row_alloc_new _, rfl⟩)
  have HE0 := Lib.hid (show Ext w ((((w.alloc (.cells #[.bool true, .bool true, .bool false] 4)).alloc (.cells #[.bool true] 4)).alloc (.cells #[.bool false, .slice (some ⟨w.heap.size, 0, none⟩) 3 3, .bool true, .slice (some ⟨w.heap.size + 1, 0, none⟩) 1 1] 73)).alloc (.cells #[.int .i64 40, .int .i64 40, .int .i64 2, .int .i64 2, .int .i64 3, .int .i64 0, .int .i64 9, .int .i64 0, .slice (some ⟨w.heap.size + 1 + 1, 0, none⟩) 2 2] 46)) by (repeat (first | (with_reducible (first | assumption | exact zR _ | exact zM _ _ _ _)) | apply zA | refine zS ?_ (by first | exact zL _ | exact zK _ _ | assumption) _ | apply zP | apply zD | apply zN)))
  generalize ((((w.alloc (.cells #[.bool true, .bool true, .bool false] 4)).alloc (.cells #[.bool true] 4)).alloc (.cells #[.bool false, .slice (some ⟨w.heap.size, 0, none⟩) 3 3, .bool true, .slice (some ⟨w.heap.size + 1, 0, none⟩) 1 1] 73)).alloc (.cells #[.int .i64 40, .int .i64 40, .int .i64 2, .int .i64 2, .int .i64 3, .int .i64 0, .int .i64 9, .int .i64 0, .slice (some ⟨w.heap.size + 1 + 1, 0, none⟩) 2 2] 46)) = w0 at *
  clear hz1 hz2 hz3
  have HM := Lib.hid (show Calls Tryz.prog 23 #[(cPair (some ⟨w.heap.size + 1 + 1, 0, none⟩) (some ⟨w.heap.size, 0, none⟩) (some ⟨w.heap.size + 1, 0, none⟩)).val] w0 (CoreMade (cPair (some ⟨w.heap.size + 1 + 1, 0, none⟩) (some ⟨w.heap.size, 0, none⟩) (some ⟨w.heap.size + 1, 0, none⟩)) 100 ⟨fun _ => 0, w0⟩) from core_new (cPair (some ⟨w.heap.size + 1 + 1, 0, none⟩) (some ⟨w.heap.size, 0, none⟩) (some ⟨w.heap.size + 1, 0, none⟩)) 100 ⟨fun _ => 0, w0⟩ HOK.out (by omega) (fun k _ => Or.inl (show 0 < 100 by omega)))
  unfold Cnf.val at HM
  generalize w.heap.size = hs0 at *
  obtain ⟨f0, f1, f2, f3, f4, f5, f6, f7, f8, fl⟩ := HB.out.c9
  (try simp only [GW.to] at f0 f1 f2 f3 f4 f5 f6 f7 f8 fl)
  go_wp2_with fail
  refine HM.out.mono ?_
  rintro e w1 hh
  unfold CoreMade at hh
  rw [if_pos (cPair_check _ _ _)] at hh
  obtain ⟨own1, k, rfl, m1, h1⟩ := hh
  clear HOK HB HM f0 f1 f2 f3 f4 f5 f6 f7 f8 fl
  generalize (some ⟨hs0 + 1 + 1, 0, none⟩ : Option Addr) = A at *
  generalize (some ⟨hs0, 0, none⟩ : Option Addr) = A1 at *
  generalize (some ⟨hs0 + 1, 0, none⟩ : Option Addr) = A2 at *
  have M1 := Lib.hid m1
  obtain ⟨bm, bs, bt, bp, bsp, bh, cm, h1⟩ := h1
  letI : TbId := ⟨⟨bt⟩⟩
  have H1 := Lib.hid h1
  have HN := Lib.hid (show Calls Tryz.prog 24 #[.int .i64 0, .int .i64 3, .slice Al l.length cap] w1 (ActMade 0 3 l 500 ⟨own1, w1⟩) from act_new3 0 Al cap l 500 (by omega) ⟨own1, w1⟩ (hc.ext (HE0.out.trans m1.toExt)) hl)
  clear m1 h1 hc
  go_wp2_with fail
  refine HN.out.mono ?_
  rintro e w2 ⟨own2, x, p, rfl, m2, h2⟩
  have M2 := Lib.hid (M1.out.trans m2)
  have H2 := Lib.hid (show AcIn ⟨own2, w2⟩ 500 100 x k (pairW A A1 A2 l) p bm bs bt bp bsp bh cm from ⟨h2, H1.out.keep m2 (fun _ => False.elim), rfl⟩)
  clear m2 h2 M1 H1 HN
  have HN := Lib.hid (show Calls Tryz.prog 24 #[.int .i64 1, .int .i64 3, .slice none 0 0] w2 (ActMade 1 3 [] 600 ⟨own2, w2⟩) from act_new3 1 none 0 [] 600 (by omega) ⟨own2, w2⟩ (CellsAt.nil _ _) (by decide))
  go_wp2_with fail
  refine HN.out.mono ?_
  rintro e w3 ⟨own3, y, p3, rfl, m3, h3⟩
  have M3 := Lib.hid (M2.out.trans m3)
  have H3 := Lib.hid (H2.out.keep0 m3)
  clear m3 h3 M2 H2 HN
  obtain ⟨c0, c1, c2, c3, c4, c5, c6, c7, c8, c9, c10, c11, c12, cl⟩ := H3.out.c.blk.c13
  (try simp only [GW.to] at c0 c1 c2 c3 c4 c5 c6 c7 c8 c9 c10 c11 c12 cl)
  obtain ⟨s0, s1, s2, sl⟩ := H3.out.c.sh.c3
  (try simp only [GW.to] at s0 s1 s2 sl)
  have HT := Lib.hid (fun w => shade_table bt w)
  go_wp2_with fail
  refine (HT.out _).mono ?_
  rintro e w4 ⟨rfl, hE⟩
  obtain ⟨own4, m4⟩ : ∃ ownZ, Mod (fun _ => False) (⟨own3, w3⟩ : GW) ⟨ownZ, w4⟩ := by
    obtain ⟨X2, rfl⟩ := hE
    exact ⟨((⟨own3, w3⟩ : GW).pt X2).own, (show Mod (fun _ => False) (⟨own3, w3⟩ : GW) ((⟨own3, w3⟩ : GW).pt X2) from Mod.pt (Mod.refl _ _) _)⟩
  have M4 := Lib.hid (M3.out.trans m4)
  have H4 := Lib.hid (H3.out.keep0 m4)
  clear m4 hE M3 H3 c0 c1 c2 c3 c4 c5 c6 c7 c8 c9 c10 c11 c12 cl s0 s1 s2 sl HT
  obtain ⟨c0, c1, c2, c3, c4, c5, c6, c7, c8, c9, c10, c11, c12, cl⟩ := H4.out.c.blk.c13
  (try simp only [GW.to] at c0 c1 c2 c3 c4 c5 c6 c7 c8 c9 c10 c11 c12 cl)
  go_wp2_with fail
  refine bodyPost_ret (v := .tuple #[.pointer (some ⟨k, 0, none⟩), .pointer (some ⟨x, 0, none⟩), .pointer (some ⟨y, 0, none⟩)]) (by simp [results, Tryz.results7, go_sem]) rfl ?_
  exact ⟨w0, own4, k, x, y, A, A1, A2, bt, rfl, HE0.out, M4.out, H4.out.at_⟩
end Go.Proofs.YtoaehfdjffejeaaGreat

/-
  act: the runs of the three laws, as plain data. No program here.
-/
namespace Go.Proofs.YtoaehfdjffejeaaGreat
open Go Go.RowKit
set_option linter.unusedVariables false
set_option maxRecDepth 1000000
def AcW.postR (W : AcW) (s : Int) (flip : Bool) : Option AcW := if AcW.cntOk W.K.hand.count then some (W.post s flip) else none
-- ActColours
def colStages : Nat → Int → AcW → Option AcW
  | 0, _, W => some W
  | k + 1, s, W => match (if decide (1 < s) then W.postR s false else some W) with
    | none => none
    | some U => match AcW.awaitR 6 s U with
      | none => none
      | some V => colStages k (s + 1) V
def colStart (A A1 A2 : Option Addr) (status : Int) : Option AcW := match (pairW A A1 A2 [opNew 0]).stepR with
  | none => none
  | some x => match (if decide (0 < status) then x.2.postR 1 true else some x.2) with
    | none => none
    | some V => colStages status.toNat 1 V
def colDone (status : Int) (x : AcR) : Bool := x.1.1.e == 0 && (x.1.1.v.z == zRef 39 && (x.2.K.sp.tab.head 39 && (x.2.K.sp.tab.black 39 true == decide (3 ≤ status) && (x.2.a.sense == decide (0 < status) && x.2.a.status == status))))
def colRun (status : Int) : Nat → AcW → Bool
  | 0, _ => false
  | n + 1, W => match W.stepR with
    | none => false
    | some x => if x.1.2 then colDone status x else if decide ((0 : Int) < W.K.sp.tab.cnt 2) && x.2.K.sp.tab.head 39 then false else colRun status n x.2
def colAll (A A1 A2 : Option Addr) (status : Int) : Bool := match colStart A A1 A2 status with
  | none => false
  | some W => colRun status 30 W
-- ActLeaves
def leaveOps (asked : Bool) (n : Nat) : List Opr := (List.range n).map (fun (i : Nat) => opNew ((i : Int) % 3)) ++ (if asked then [⟨18, 0, 0, 0, 0, 0, 0⟩, opNew 0] else [])
def leaveRun : Nat → Int → AcW → Option (Int × AcW)
  | 0, d, W => some (d, W)
  | n + 1, d, W => if W.a.phase == 4 then some (d, W) else match W.stepR with
    | none => none
    | some x => leaveRun n (if x.1.2 then d + 1 else d) x.2
def leaveDone (asked : Bool) (n : Nat) (d : Int) (W : AcW) : Bool :=
  W.a.locals.length == 3 && (W.a.locals.all (fun v => !v.ref && v.z == (0, 0)) && (match W.stepR with
    | none => false
    | some x => x.2.a.phase == 4 && (d == (n : Int) + (if asked then 1 else 0) && (x.2.K.hand.own 0 == -1 && (x.2.K.sp.tab.cnt 1 == 0 && (x.2.K.sp.tab.cnt 2 == n && !x.1.2))))))
def leaveAll (A A1 A2 : Option Addr) (asked : Bool) (n : Nat) : Bool := match leaveRun 2000 0 (pairW A A1 A2 (leaveOps asked n)) with
  | none => false
  | some (d, W) => leaveDone asked n d W
-- ActBarrier
def barOps : List Opr := [opNew 0, opNew 1, opNew 2, ⟨4, 0, 1, 0, 0, 0, 0⟩, ⟨13, 1, 0, 0, 0, 0, 0⟩, ⟨4, 0, 2, 0, 0, 0, 0⟩]
def barPre : Nat → Nat → AcW → Option AcW
  | 0, _, W => some W
  | k + 1, i, W => match W.untilR 60 with
    | none => none
    | some x => if x.1.2 && (x.1.1.e == 0 && (decide (3 ≤ i) || x.1.1.v.z == zRef (39 - i))) then barPre k (i + 1) x.2 else none
def barStages : Nat → Int → AcW → Option AcW
  | 0, _, W => some W
  | k + 1, s, W => match (if decide (1 < s) then W.postR s false else some W) with
    | none => none
    | some V => if s == 3 then some V else match AcW.awaitR 6 s V with
      | none => none
      | some U => if U.a.status == s then barStages k (s + 1) U else none
def barMid (A A1 A2 : Option Addr) (status : Int) : Option AcW := match barPre 5 0 (pairW A A1 A2 barOps) with
  | none => none
  | some W => match (if decide (0 < status) then W.postR 1 true else some W) with
    | none => none
    | some V => barStages status.toNat 1 V
def blk (W : AcW) (i : Int) : Bool := W.K.sp.tab.black i true
def barLow (status : Int) (W : AcW) : Bool := match W.untilR 20 with
  | none => false
  | some x => x.1.2 && (x.1.1.e == 0 && (blk x.2 38 == (status == 1 || status == 2) && (blk x.2 37 == (status == 1 || status == 2) && !blk x.2 39)))
def barTr (status : Int) (W : AcW) : Option AcW := match AcW.awaitR 9 3 W with
  | none => none
  | some V => if V.a.status == 3 && (blk V 39 && (!blk V 38 && blk V 37)) then (if status == 4 then (match V.postR 4 false with
    | none => none
    | some U => AcW.awaitR 6 4 U) else some V) else none
def barHigh (status : Int) (W : AcW) : Bool := match barTr status W with
  | none => false
  | some V => match V.untilR 20 with
    | none => false
    | some x => x.1.2 && (x.1.1.e == 0 && (blk x.2 38 == (status == 3) && x.2.a.status == status))
def barAll (A A1 A2 : Option Addr) (status : Int) : Bool := match barMid A A1 A2 status with
  | none => false
  | some W => if decide (3 ≤ status) then barHigh status W else barLow status W
end Go.Proofs.YtoaehfdjffejeaaGreat

/-
  A run's situation, for the laws of act; until.
-/
namespace Go.Proofs.YtoaehfdjffejeaaGreat
open Go Go.RowKit
set_option linter.unusedVariables false
set_option linter.unnecessarySimpa false
set_option linter.unusedSimpArgs false
set_option maxHeartbeats 4000000
set_option maxRecDepth 100000

structure Sit [TbId] (w0 : World) (g : GW) (b k : Nat) (W : AcW) : Prop where
  m : Mod (fun x => acT 500 100 x ∨ x = 9) ⟨fun _ => 0, w0⟩ g
  h : AcWAt g 500 100 b k W
section
variable {w0 : World} {g g' : GW} {b k : Nat} {W : AcW}
theorem Sit.keep [TbId] (h : Sit w0 g b k W) (m : Mod (fun _ => False) g g') : Sit w0 g' b k W := by
  obtain ⟨p, bm, bs, bt, bp, bsp, bh, cm, h2⟩ := h.h
  exact ⟨h.m.trans (m.mono (fun _ => False.elim)), (h2.keep0 m).at_⟩
theorem Sit.keep9 [TbId] (h : Sit w0 g b k W) (m : Mod (fun x => x = 9) g g') : Sit w0 g' b k W := by
  obtain ⟨p, bm, bs, bt, bp, bsp, bh, cm, h2⟩ := h.h
  exact ⟨h.m.trans (m.mono (fun x hx => Or.inr hx)), (h2.keep m (by omega) (fun x (hx : x = 9) => by omega) (fun x (hx : x = 9) => by omega)).at_⟩
theorem Sit.fin [TbId] (h : Sit w0 g b k W) : Ext w0 g.w := (h.m.nothing (fun j _ (hj : acT 500 100 0 ∨ (0 : Nat) = 9) => by simp only [acT] at hj; omega)).toExt
def resD (r : ResS × Bool) : Value := .tuple #[.agg #[.int .i64 r.1.op, .int .i64 r.1.own, .int .i64 r.1.e, .bool r.1.v.ref, .complex .f64 r.1.v.z.1 r.1.v.z.2], .bool r.2]
theorem sit_step [TbId] (h : Sit w0 g b k W) (r : AcR) (hr : W.stepR = some r) : Calls Tryz.prog 9 #[.pointer (some ⟨b, 0, none⟩), .pointer (some ⟨k, 0, none⟩)] g.w (Does (resD r.1) g (acT 500 100) (fun g' => Sit w0 g' b k r.2)) := by
  refine (act_step apart5 h.h r hr).mono ?_
  rintro e w' ⟨rfl, own', m', h'⟩
  exact ⟨rfl, own', m', ⟨h.m.trans (m'.mono (fun x hx => Or.inl hx)), h'⟩⟩
theorem sit_phase [TbId] (h : Sit w0 g b k W) : Calls Tryz.prog 8 #[.pointer (some ⟨b, 0, none⟩)] g.w (fun e w' => e = .returned (.int .i64 W.a.phase) ∧ g.w = w') := by
  obtain ⟨p, bm, bs, bt, bp, bsp, bh, cm, h2⟩ := h.h
  exact act_phase g 500 b W.a p h2.a
theorem sit_status [TbId] (h : Sit w0 g b k W) : Calls Tryz.prog 18 #[.pointer (some ⟨b, 0, none⟩)] g.w (fun e w' => e = .returned (.int .i64 W.a.status) ∧ g.w = w') := by
  obtain ⟨p, bm, bs, bt, bp, bsp, bh, cm, h2⟩ := h.h
  exact act_status g 500 b W.a p h2.a
theorem sit_sense [TbId] (h : Sit w0 g b k W) : Calls Tryz.prog 22 #[.pointer (some ⟨b, 0, none⟩)] g.w (fun e w' => e = .returned (.bool W.a.sense) ∧ g.w = w') := by
  obtain ⟨p, bm, bs, bt, bp, bsp, bh, cm, h2⟩ := h.h
  exact act_sense g 500 b W.a p h2.a
theorem sit_locals [TbId] (h : Sit w0 g b k W) (n : Nat) (hn : W.a.locals.length = n) (hl : n ≤ 1000) : Calls Tryz.prog 10 #[.pointer (some ⟨b, 0, none⟩)] g.w (ClonedRow 9 34 2 n (W.a.locals.flatMap LVal.cells) g) := by
  obtain ⟨p, bm, bs, bt, bp, bsp, bh, cm, h2⟩ := h.h
  exact act_locals g 500 b W.a p h2.a (by omega) n hn
theorem sit_core [TbId] (h : Sit w0 g b k W) : ∃ bs bh, g.w.cell? ⟨k, 10, none⟩ = some (.pointer (some ⟨bs, 0, none⟩)) ∧ g.w.cell? ⟨k, 12, none⟩ = some (.pointer (some ⟨bh, 0, none⟩)) ∧ k < g.w.heap.size ∧ g.w.cell? ⟨bs, 0, none⟩ = some (.pointer (some ⟨TbId.tb, 0, none⟩)) ∧ bs < g.w.heap.size ∧
    (∀ (s : Int) (flip : Bool), AcW.cntOk W.K.hand.count = true → Calls Tryz.prog 17 #[.pointer (some ⟨bh, 0, none⟩), .int .i64 s, .bool flip] g.w (Does (.bool (HandS.knownB s)) g (acT 500 100) (fun g' => Sit w0 g' b k (W.post s flip)))) ∧
    (∀ i : Int, Calls Tryz.prog 14 #[.pointer (some ⟨bh, 0, none⟩), .int .i64 i] g.w (fun e w' => e = .returned (.int .i64 (W.K.hand.own i)) ∧ g.w = w')) := by
  obtain ⟨p, bm, bs, bt, bp, bsp, bh, cm, h2⟩ := h.h
  have hb : bt = TbId.tb := h2.tbl
  refine ⟨bs, bh, h2.c.blk.cell (i := 10) rfl, h2.c.blk.cell (i := 12) rfl, h2.c.blk.lt, by rw [← hb]; exact h2.c.sh.cell (i := 0) rfl, h2.c.sh.lt, fun s flip hc => ?_, fun i => hand_status g (100 + 63) bh i W.K.hand h2.c.hand⟩
  refine (hand_post g (100 + 63) bh s flip W.K.hand h2.c.hand (of_decide_eq_true hc)).mono ?_
  rintro e w' ⟨rfl, own', m', h'⟩
  exact ⟨rfl, own', m'.mono (fun x hx => acT_hand hx), ⟨h.m.trans (m'.mono (fun x hx => Or.inl (acT_hand hx))), (h2.hand apart5 m' h').at_⟩⟩
theorem sit_tab [TbId] (h : Sit w0 g b k W) : TabAt g (100 + 50) TbId.tb W.K.sp.tab := by
  obtain ⟨p, bm, bs, bt, bp, bsp, bh, cm, h2⟩ := h.h
  have hb : bt = TbId.tb := h2.tbl
  rw [← hb]
  exact h2.c.sp.tab
theorem sit_counts [TbId] (h : Sit w0 g b k W) : Calls Tryz.prog 13 #[.pointer (some ⟨TbId.tb, 0, none⟩)] g.w (Gives (.tuple #[.int .i64 (W.K.sp.tab.cnt 0), .int .i64 (W.K.sp.tab.cnt 1), .int .i64 (W.K.sp.tab.cnt 2)]) g.w) := tab_counts g _ _ _ (sit_tab h)
theorem sit_head [TbId] (h : Sit w0 g b k W) (i : Int) : Calls Tryz.prog 21 #[.pointer (some ⟨TbId.tb, 0, none⟩), .int .i64 i] g.w (fun e w' => e = .returned (.bool (W.K.sp.tab.head i)) ∧ g.w = w') := tab_head g _ _ i _ (sit_tab h)
theorem sit_black [TbId] (h : Sit w0 g b k W) (i : Int) (s : Bool) : Calls Tryz.prog 20 #[.pointer (some ⟨TbId.tb, 0, none⟩), .int .i64 i, .bool s] g.w (fun e w' => e = .returned (.bool (W.K.sp.tab.black i s)) ∧ g.w = w') := tab_black g _ _ i s _ (sit_tab h)
theorem Mod.ofGives {T : Nat → Prop} {g : GW} {w' : World} (he : Ext g.w w') : ∃ own', Mod (fun _ => False) g ⟨own', w'⟩ := Mod.ofExt he g.own
end
theorem sit_until [TbId] (n : Nat) (hn : n ≤ 1000) (w0 : World) (g : GW) (b k : Nat) (W : AcW) (h : Sit w0 g b k W) (r : AcR) (hr : W.untilR n = some r) : Calls Tryz.prog 15 #[.pointer (some ⟨b, 0, none⟩), .pointer (some ⟨k, 0, none⟩), .int .i64 n] g.w (Does (resD r.1) g (acT 500 100) (fun g' => Sit w0 g' b k r.2)) := by
  have HS := Lib.hid h
  have HR := Lib.hid hr
  clear h hr
  go_enter Tryz.func15, Tryz.ntmps15
  go_upto_region 1 with fail
  obtain ⟨own1, m1, R1⟩ := start1 g 36 resZ
  unfold resZ at m1 R1
  generalize (g.w.alloc (.cells #[.int .i64 0, .int .i64 0, .int .i64 0, .bool false, .complex .f64 0 0] 36)) = w1 at *
  have M1 := Lib.hid (m1.mono (S := acT 500 100) (fun _ => False.elim))
  have S1 := Lib.hid (HS.out.keep m1)
  have R1' := Lib.hid R1
  clear m1 R1
  go_wp2_with fail
  go_loopw [8] (fun i wr => ∃ (j : Nat) (own : Nat → Nat) (V : AcW), j ≤ n ∧ i = .int .i64 j ∧ Hid (Mod (acT 500 100) g ⟨own, wr⟩) ∧ Hid (Sit w0 ⟨own, wr⟩ b k V) ∧ Hid (Blk ⟨own, wr⟩ 9 g.w.heap.size 36 [.int .i64 0, .int .i64 0, .int .i64 0, .bool false, .complex .f64 0 0]) ∧ Hid (V.untilR (n - j) = some r)) (fun i _ => n - (intOf i).toNat)
  case atStart => exact ⟨0, own1, W, Nat.zero_le _, rfl, M1, S1, R1', HR⟩
  case round =>
    obtain ⟨j, own3, V, hj, rfl, M3, S3, R3, U3⟩ := hrel
    obtain ⟨w3, rfl⟩ : ∃ w3 : World, w3 = wr := ⟨_, rfl⟩
    by_cases hlt : j < n
    · obtain ⟨q, hq⟩ : ∃ q, n - j = q + 1 := ⟨n - j - 1, by omega⟩
      have hu := U3.out
      rw [hq] at hu
      unfold AcW.untilR at hu
      have hlt' : (j : Int) < (n : Int) := by omega
      cases hx : V.stepR with
      | none => rw [hx] at hu; cases hu
      | some x =>
        rw [hx] at hu
        simp only at hu
        obtain ⟨⟨xr, xb⟩, xW⟩ := x
        simp only at hu
        have HST := Lib.hid (show Calls Tryz.prog 9 #[.pointer (some ⟨b, 0, none⟩), .pointer (some ⟨k, 0, none⟩)] w3 (Does (.tuple #[.agg #[.int .i64 xr.op, .int .i64 xr.own, .int .i64 xr.e, .bool xr.v.ref, .complex .f64 xr.v.z.1 xr.v.z.2], .bool xb]) ⟨own3, w3⟩ (acT 500 100) (fun g' => Sit w0 g' b k xW)) from sit_step S3.out _ hx)
        clear hx
        go_wp2_with fail
        refine HST.out.mono ?_
        rintro e w4 ⟨rfl, own4, m4, s4⟩
        have M4 := Lib.hid (M3.out.trans m4)
        have S4 := Lib.hid s4
        have R4 := Lib.hid (R3.out.keep m4 (fun h => by unfold acT at h; omega))
        clear m4 s4 HST M3 S3 R3 U3 R1' M1 S1
        go_upto_region 5 with fail
        obtain ⟨own5, m5, V5⟩ := start1 ⟨own4, w4⟩ 36 [.int .i64 xr.op, .int .i64 xr.own, .int .i64 xr.e, .bool xr.v.ref, .complex .f64 xr.v.z.1 xr.v.z.2]
        have m5' : Mod (fun _ => False) (⟨own4, w4⟩ : GW) ⟨own5, w4.alloc (.cells #[.int .i64 xr.op, .int .i64 xr.own, .int .i64 xr.e, .bool xr.v.ref, .complex .f64 xr.v.z.1 xr.v.z.2] 36)⟩ := m5
        have B5 := Lib.hid (show Blk ⟨own5, w4.alloc (.cells #[.int .i64 xr.op, .int .i64 xr.own, .int .i64 xr.e, .bool xr.v.ref, .complex .f64 xr.v.z.1 xr.v.z.2] 36)⟩ 9 w4.heap.size 36 [.int .i64 xr.op, .int .i64 xr.own, .int .i64 xr.e, .bool xr.v.ref, .complex .f64 xr.v.z.1 xr.v.z.2] from V5)
        have S5 := Lib.hid (S4.out.keep m5')
        clear m5 V5
        have M5 := Lib.hid (M4.out.trans (m5'.mono (S := acT 500 100) (fun _ => False.elim)))
        have R5 := Lib.hid (R4.out.keep m5' id)
        clear m5' M4 R4 S4
        generalize w4.alloc (.cells #[.int .i64 xr.op, .int .i64 xr.own, .int .i64 xr.e, .bool xr.v.ref, .complex .f64 xr.v.z.1 xr.v.z.2] 36) = w5 at *
        generalize w4.heap.size = q5 at *
        cases xb
        · simp only [Bool.false_eq_true, if_false] at hu
          go_wp2_with fail
          go_roundw
          case rel => exact ⟨j + 1, own5, xW, by omega, by go_num, M5, S5, R5, Lib.hid (by rw [show n - (j + 1) = q by omega]; exact hu)⟩
          case measure => simp [intOf]; omega
        · simp only [if_true] at hu
          injection hu with hu
          subst hu
          obtain ⟨x0, x1, x2, x3, x4, xl⟩ := B5.out.c5
          (try simp only [GW.to] at x0 x1 x2 x3 x4 xl)
          obtain ⟨r0, r1, r2, r3, r4, rl⟩ := R5.out.c5
          have rf0 := R5.out.live 0
          have rf1 := R5.out.live 1
          have rf2 := R5.out.live 2
          have rf3 := R5.out.live 3
          have rf4 := R5.out.live 4
          (try simp only [GW.to] at r0 r1 r2 r3 r4 rf0 rf1 rf2 rf3 rf4 rl)
          go_wp2_with fail
          obtain ⟨Mf, mf, Rf⟩ := put_res M5.out R5.out (Nat.le_refl _) (xr.op) (xr.own) (xr.e) (xr.v.ref) (xr.v.z.1) (xr.v.z.2)
          generalize ((((((w5).setCell ⟨g.w.heap.size, 0, none⟩ (.int .i64 (xr.op))).setCell ⟨g.w.heap.size, 1, none⟩ (.int .i64 (xr.own))).setCell ⟨g.w.heap.size, 2, none⟩ (.int .i64 (xr.e))).setCell ⟨g.w.heap.size, 3, none⟩ (.bool (xr.v.ref))).setCell ⟨g.w.heap.size, 4, none⟩ (.complex .f64 (xr.v.z.1) (xr.v.z.2))) = wf at *
          obtain ⟨f0, f1, f2, f3, f4, fl⟩ := Rf.c5
          (try simp only [GW.to] at f0 f1 f2 f3 f4 fl)
          refine bodyPost_ret (v := .tuple #[.agg #[.int .i64 (xr.op), .int .i64 (xr.own), .int .i64 (xr.e), .bool (xr.v.ref), .complex .f64 (xr.v.z.1) (xr.v.z.2)], .bool true]) (by simp [results, Tryz.results15, go_sem, f0, f1, f2, f3, f4]) rfl ?_
          exact Does.of ⟨own5, wf⟩ rfl rfl Mf (show Sit w0 ⟨own5, wf⟩ b k xW from by
            obtain ⟨p, bm, bs, bt, bp, bsp, bh, cm, h2⟩ := S5.out.h
            exact ⟨HS.out.m.trans (Mf.mono (fun x hx => Or.inl hx)), (h2.keep mf (by omega) (fun x (hx : x = 9) => by omega) (fun x (hx : x = 9) => by omega)).at_⟩)
    · obtain rfl : j = n := by omega
      have hu := U3.out
      rw [Nat.sub_self] at hu
      unfold AcW.untilR at hu
      injection hu with hu
      subst hu
      clear U3 R1' M1 S1
      obtain ⟨r0, r1, r2, r3, r4, rl⟩ := R3.out.c5
      have rf0 := R3.out.live 0
      have rf1 := R3.out.live 1
      have rf2 := R3.out.live 2
      have rf3 := R3.out.live 3
      have rf4 := R3.out.live 4
      (try simp only [GW.to] at r0 r1 r2 r3 r4 rf0 rf1 rf2 rf3 rf4 rl)
      go_wp2_with fail
      obtain ⟨Mf, mf, Rf⟩ := put_res M3.out R3.out (Nat.le_refl _) (0) (0) (0) (false) (0) (0)
      generalize ((((((w3).setCell ⟨g.w.heap.size, 0, none⟩ (.int .i64 (0))).setCell ⟨g.w.heap.size, 1, none⟩ (.int .i64 (0))).setCell ⟨g.w.heap.size, 2, none⟩ (.int .i64 (0))).setCell ⟨g.w.heap.size, 3, none⟩ (.bool (false))).setCell ⟨g.w.heap.size, 4, none⟩ (.complex .f64 (0) (0))) = wf at *
      obtain ⟨f0, f1, f2, f3, f4, fl⟩ := Rf.c5
      (try simp only [GW.to] at f0 f1 f2 f3 f4 fl)
      refine bodyPost_ret (v := .tuple #[.agg #[.int .i64 (0), .int .i64 (0), .int .i64 (0), .bool (false), .complex .f64 (0) (0)], .bool false]) (by simp [results, Tryz.results15, go_sem, f0, f1, f2, f3, f4]) rfl ?_
      exact Does.of ⟨own3, wf⟩ rfl rfl Mf (show Sit w0 ⟨own3, wf⟩ b k V from by
        obtain ⟨p, bm, bs, bt, bp, bsp, bh, cm, h2⟩ := S3.out.h
        exact ⟨HS.out.m.trans (Mf.mono (fun x hx => Or.inl hx)), (h2.keep mf (by omega) (fun x (hx : x = 9) => by omega) (fun x (hx : x = 9) => by omega)).at_⟩)
end Go.Proofs.YtoaehfdjffejeaaGreat

/-
  act: the runs of ActBarrier, ActColours, ActLeaves, reckoned. No program here.
-/
namespace Go.Proofs.YtoaehfdjffejeaaGreat
open Go Go.RowKit
set_option linter.unusedVariables false
set_option maxRecDepth 1000000
theorem col_all0 : (fun A A1 A2 => (List.range 5).all fun (s : Nat) => colAll A A1 A2 s) = fun _ _ _ => true := by kernel_rfl
theorem bar_all0 : (fun A A1 A2 => (List.range 5).all fun (s : Nat) => barAll A A1 A2 s) = fun _ _ _ => true := by kernel_rfl
theorem col_all (A A1 A2 : Option Addr) (s : Nat) (h : s < 5) : colAll A A1 A2 s = true := List.all_eq_true.1 (congrFun (congrFun (congrFun col_all0 A) A1) A2) s (List.mem_range.2 h)
theorem bar_all (A A1 A2 : Option Addr) (s : Nat) (h : s < 5) : barAll A A1 A2 s = true := List.all_eq_true.1 (congrFun (congrFun (congrFun bar_all0 A) A1) A2) s (List.mem_range.2 h)
theorem leave_f0 : (fun A A1 A2 => leaveAll A A1 A2 false 0) = fun _ _ _ => true := by kernel_rfl
theorem leave_t0 : (fun A A1 A2 => leaveAll A A1 A2 true 0) = fun _ _ _ => true := by kernel_rfl
theorem leave_f1 : (fun A A1 A2 => leaveAll A A1 A2 false 1) = fun _ _ _ => true := by kernel_rfl
theorem leave_t1 : (fun A A1 A2 => leaveAll A A1 A2 true 1) = fun _ _ _ => true := by kernel_rfl
theorem leave_f2 : (fun A A1 A2 => leaveAll A A1 A2 false 2) = fun _ _ _ => true := by kernel_rfl
theorem leave_t2 : (fun A A1 A2 => leaveAll A A1 A2 true 2) = fun _ _ _ => true := by kernel_rfl
theorem leave_f3 : (fun A A1 A2 => leaveAll A A1 A2 false 3) = fun _ _ _ => true := by kernel_rfl
theorem leave_t3 : (fun A A1 A2 => leaveAll A A1 A2 true 3) = fun _ _ _ => true := by kernel_rfl
theorem leave_f4 : (fun A A1 A2 => leaveAll A A1 A2 false 4) = fun _ _ _ => true := by kernel_rfl
theorem leave_t4 : (fun A A1 A2 => leaveAll A A1 A2 true 4) = fun _ _ _ => true := by kernel_rfl
theorem leave_f5 : (fun A A1 A2 => leaveAll A A1 A2 false 5) = fun _ _ _ => true := by kernel_rfl
theorem leave_t5 : (fun A A1 A2 => leaveAll A A1 A2 true 5) = fun _ _ _ => true := by kernel_rfl
theorem leave_f6 : (fun A A1 A2 => leaveAll A A1 A2 false 6) = fun _ _ _ => true := by kernel_rfl
theorem leave_t6 : (fun A A1 A2 => leaveAll A A1 A2 true 6) = fun _ _ _ => true := by kernel_rfl
theorem leave_f7 : (fun A A1 A2 => leaveAll A A1 A2 false 7) = fun _ _ _ => true := by kernel_rfl
theorem leave_t7 : (fun A A1 A2 => leaveAll A A1 A2 true 7) = fun _ _ _ => true := by kernel_rfl
theorem leave_f8 : (fun A A1 A2 => leaveAll A A1 A2 false 8) = fun _ _ _ => true := by kernel_rfl
theorem leave_t8 : (fun A A1 A2 => leaveAll A A1 A2 true 8) = fun _ _ _ => true := by kernel_rfl
theorem leave_f9 : (fun A A1 A2 => leaveAll A A1 A2 false 9) = fun _ _ _ => true := by kernel_rfl
theorem leave_t9 : (fun A A1 A2 => leaveAll A A1 A2 true 9) = fun _ _ _ => true := by kernel_rfl
theorem leave_f10 : (fun A A1 A2 => leaveAll A A1 A2 false 10) = fun _ _ _ => true := by kernel_rfl
theorem leave_t10 : (fun A A1 A2 => leaveAll A A1 A2 true 10) = fun _ _ _ => true := by kernel_rfl
theorem leave_f11 : (fun A A1 A2 => leaveAll A A1 A2 false 11) = fun _ _ _ => true := by kernel_rfl
theorem leave_t11 : (fun A A1 A2 => leaveAll A A1 A2 true 11) = fun _ _ _ => true := by kernel_rfl
theorem leave_f12 : (fun A A1 A2 => leaveAll A A1 A2 false 12) = fun _ _ _ => true := by kernel_rfl
theorem leave_t12 : (fun A A1 A2 => leaveAll A A1 A2 true 12) = fun _ _ _ => true := by kernel_rfl
theorem leave_f13 : (fun A A1 A2 => leaveAll A A1 A2 false 13) = fun _ _ _ => true := by kernel_rfl
theorem leave_t13 : (fun A A1 A2 => leaveAll A A1 A2 true 13) = fun _ _ _ => true := by kernel_rfl
theorem leave_f14 : (fun A A1 A2 => leaveAll A A1 A2 false 14) = fun _ _ _ => true := by kernel_rfl
theorem leave_t14 : (fun A A1 A2 => leaveAll A A1 A2 true 14) = fun _ _ _ => true := by kernel_rfl
theorem leave_f15 : (fun A A1 A2 => leaveAll A A1 A2 false 15) = fun _ _ _ => true := by kernel_rfl
theorem leave_t15 : (fun A A1 A2 => leaveAll A A1 A2 true 15) = fun _ _ _ => true := by kernel_rfl
theorem leave_f16 : (fun A A1 A2 => leaveAll A A1 A2 false 16) = fun _ _ _ => true := by kernel_rfl
theorem leave_t16 : (fun A A1 A2 => leaveAll A A1 A2 true 16) = fun _ _ _ => true := by kernel_rfl
theorem leave_f17 : (fun A A1 A2 => leaveAll A A1 A2 false 17) = fun _ _ _ => true := by kernel_rfl
theorem leave_t17 : (fun A A1 A2 => leaveAll A A1 A2 true 17) = fun _ _ _ => true := by kernel_rfl
theorem leave_f18 : (fun A A1 A2 => leaveAll A A1 A2 false 18) = fun _ _ _ => true := by kernel_rfl
theorem leave_t18 : (fun A A1 A2 => leaveAll A A1 A2 true 18) = fun _ _ _ => true := by kernel_rfl
theorem leave_f19 : (fun A A1 A2 => leaveAll A A1 A2 false 19) = fun _ _ _ => true := by kernel_rfl
theorem leave_t19 : (fun A A1 A2 => leaveAll A A1 A2 true 19) = fun _ _ _ => true := by kernel_rfl
theorem leave_f20 : (fun A A1 A2 => leaveAll A A1 A2 false 20) = fun _ _ _ => true := by kernel_rfl
theorem leave_t20 : (fun A A1 A2 => leaveAll A A1 A2 true 20) = fun _ _ _ => true := by kernel_rfl
end Go.Proofs.YtoaehfdjffejeaaGreat

/-
  act: the runs of ActLeaves, together. No program here.
-/
namespace Go.Proofs.YtoaehfdjffejeaaGreat
open Go Go.RowKit
theorem leave_all (A A1 A2 : Option Addr) (asked : Bool) (n : Nat) (h : n < 21) : leaveAll A A1 A2 asked n = true := by
  cases asked
  · match n, h with
    | 0, _ => exact congrFun (congrFun (congrFun leave_f0 A) A1) A2
    | 1, _ => exact congrFun (congrFun (congrFun leave_f1 A) A1) A2
    | 2, _ => exact congrFun (congrFun (congrFun leave_f2 A) A1) A2
    | 3, _ => exact congrFun (congrFun (congrFun leave_f3 A) A1) A2
    | 4, _ => exact congrFun (congrFun (congrFun leave_f4 A) A1) A2
    | 5, _ => exact congrFun (congrFun (congrFun leave_f5 A) A1) A2
    | 6, _ => exact congrFun (congrFun (congrFun leave_f6 A) A1) A2
    | 7, _ => exact congrFun (congrFun (congrFun leave_f7 A) A1) A2
    | 8, _ => exact congrFun (congrFun (congrFun leave_f8 A) A1) A2
    | 9, _ => exact congrFun (congrFun (congrFun leave_f9 A) A1) A2
    | 10, _ => exact congrFun (congrFun (congrFun leave_f10 A) A1) A2
    | 11, _ => exact congrFun (congrFun (congrFun leave_f11 A) A1) A2
    | 12, _ => exact congrFun (congrFun (congrFun leave_f12 A) A1) A2
    | 13, _ => exact congrFun (congrFun (congrFun leave_f13 A) A1) A2
    | 14, _ => exact congrFun (congrFun (congrFun leave_f14 A) A1) A2
    | 15, _ => exact congrFun (congrFun (congrFun leave_f15 A) A1) A2
    | 16, _ => exact congrFun (congrFun (congrFun leave_f16 A) A1) A2
    | 17, _ => exact congrFun (congrFun (congrFun leave_f17 A) A1) A2
    | 18, _ => exact congrFun (congrFun (congrFun leave_f18 A) A1) A2
    | 19, _ => exact congrFun (congrFun (congrFun leave_f19 A) A1) A2
    | 20, _ => exact congrFun (congrFun (congrFun leave_f20 A) A1) A2
    | n + 21, h => exact absurd h (by omega)
  · match n, h with
    | 0, _ => exact congrFun (congrFun (congrFun leave_t0 A) A1) A2
    | 1, _ => exact congrFun (congrFun (congrFun leave_t1 A) A1) A2
    | 2, _ => exact congrFun (congrFun (congrFun leave_t2 A) A1) A2
    | 3, _ => exact congrFun (congrFun (congrFun leave_t3 A) A1) A2
    | 4, _ => exact congrFun (congrFun (congrFun leave_t4 A) A1) A2
    | 5, _ => exact congrFun (congrFun (congrFun leave_t5 A) A1) A2
    | 6, _ => exact congrFun (congrFun (congrFun leave_t6 A) A1) A2
    | 7, _ => exact congrFun (congrFun (congrFun leave_t7 A) A1) A2
    | 8, _ => exact congrFun (congrFun (congrFun leave_t8 A) A1) A2
    | 9, _ => exact congrFun (congrFun (congrFun leave_t9 A) A1) A2
    | 10, _ => exact congrFun (congrFun (congrFun leave_t10 A) A1) A2
    | 11, _ => exact congrFun (congrFun (congrFun leave_t11 A) A1) A2
    | 12, _ => exact congrFun (congrFun (congrFun leave_t12 A) A1) A2
    | 13, _ => exact congrFun (congrFun (congrFun leave_t13 A) A1) A2
    | 14, _ => exact congrFun (congrFun (congrFun leave_t14 A) A1) A2
    | 15, _ => exact congrFun (congrFun (congrFun leave_t15 A) A1) A2
    | 16, _ => exact congrFun (congrFun (congrFun leave_t16 A) A1) A2
    | 17, _ => exact congrFun (congrFun (congrFun leave_t17 A) A1) A2
    | 18, _ => exact congrFun (congrFun (congrFun leave_t18 A) A1) A2
    | 19, _ => exact congrFun (congrFun (congrFun leave_t19 A) A1) A2
    | 20, _ => exact congrFun (congrFun (congrFun leave_t20 A) A1) A2
    | n + 21, h => exact absurd h (by omega)
end Go.Proofs.YtoaehfdjffejeaaGreat

/-
  slices.Chunk at []byte by fours: the closure's contract.
-/
namespace Go.Proofs.YtoaehfdjffejeaaGreat
open Go Go.RowKit Go.Shelf
set_option linter.unusedVariables false
attribute [local go_sem] Oper.semAt_some

def chunkLen (len x : Nat) : Nat := min 4 (len - 4 * x)
def chunkOf (b off len x : Nat) : Value := .slice (some ⟨b, off + 4 * x, none⟩) (chunkLen len x) (chunkLen len x)
end Go.Proofs.YtoaehfdjffejeaaGreat

/-
  tale.one: the operation of four bytes. (The walks are printed by a program.)
-/
namespace Go.Proofs.YtoaehfdjffejeaaGreat
open Go Go.RowKit
set_option linter.unusedVariables false

end Go.Proofs.YtoaehfdjffejeaaGreat

/-
  tale.Ops: an operation of each four bytes, a thousand at most.
-/
namespace Go
open Go.RowKit
set_option linter.unusedVariables false
theorem oprs_one (o : Opr) : ∀ u ∈ o.cells, u.oneCell' = true := by
  intro u hu
  simp only [Opr.cells, List.mem_cons, List.not_mem_nil, or_false] at hu
  rcases hu with rfl | rfl | rfl | rfl | rfl | rfl <;> rfl
end Go
namespace Go.Proofs.YtoaehfdjffejeaaGreat
open Go Go.RowKit Go.Shelf
set_option linter.unusedVariables false
attribute [local go_sem] Oper.semAt_some

def Held (w : World) (bs : List Int) (ini : List Nat) (W : World) : Prop :=
  (∃ v, Boxed W w.heap.size 23 v ∧ W.ownsRow w.heap.size 26 6 v ini.length ((ini.map (opAtOf bs)).flatMap Opr.cells) ∧ True) ∧ Below w.heap.size w W
def OpsX (w : World) (bs : List Int) (c : Code) (pre : List Nat) (W : World) : Prop :=
  c = .exit 0 ∧ ∃ ini x, pre = ini ++ [x] ∧ Held w bs ini W ∧ ini.length ≤ 1000 ∧ (∀ y ∈ ini, 4 * y + 4 ≤ bs.length) ∧ (ini.length = 1000 ∨ bs.length < 4 * x + 4)
end Go.Proofs.YtoaehfdjffejeaaGreat

