import Derived.Test.YtoaehfdjffejeaaGreatKL25
import Derived.Test.YtoaehfdjffejeaaGreatChecked
import Derived.Laws.Externs
/-
  Packed: ActO, ActT, ShadeC, Core2, Print, Bits, Small.
-/
open Go.Ext renaming alloc → zA, patch → zP, drew → zD, drewN → zN, more → zM, refl → zR, setCell → zS
open Nat renaming le_refl → zL, le_add_right → zK
/-
  act: within.
-/
namespace Go
open Go.RowKit
theorem oflat_get (l : List Opr) (k j : Nat) (o : Opr) (v : Value) (h : l[k]? = some o) (hv : o.cells[j]? = some v) : (l.flatMap Opr.cells)[k * 6 + j]? = some v := by
  induction l generalizing k with
  | nil => simp at h
  | cons x l ih =>
    have hx : x.cells.length = 6 := rfl
    cases k with
    | zero =>
      simp at h
      subst h
      rw [Nat.zero_mul, Nat.zero_add, List.flatMap_cons, List.getElem?_append_left (by have := (List.getElem?_eq_some_iff.1 hv).1; exact this)]
      exact hv
    | succ k =>
      rw [List.flatMap_cons, List.getElem?_append_right (by omega), hx, show (k + 1) * 6 + j - 6 = k * 6 + j from by omega]
      exact ih k (by simpa using h)
end Go
namespace Go.Proofs.YtoaehfdjffejeaaGreat
open Go Go.RowKit
set_option linter.unusedVariables false
set_option linter.unnecessarySimpa false
set_option linter.unusedSimpArgs false
set_option maxHeartbeats 2000000
set_option maxRecDepth 100000

section
variable {g : GW} {t b B k : Nat} {W : AcW} {p : AcP} {bm bs bt bp bsp bh : Nat} {cm : Cnf}
structure AcW.BdW (W : AcW) : Prop where
  next : 0 ≤ W.a.next ∧ W.a.next ≤ 1099511627776
  hand : 0 ≤ W.K.hand.count ∧ W.K.hand.count ≤ 1099511627776
  sp : 0 ≤ W.K.sp.count ∧ W.K.sp.count ≤ 1099511627776
  mem : 0 ≤ W.K.mem.count ∧ W.K.mem.count ≤ 1099511627776
  n : 0 ≤ W.K.n ∧ W.K.n ≤ 1099511627776
  line : W.K.sp.line.length < 1000000
theorem act_starts [TbId] (P : AcApart t B) (hd : W.BdW) (hck : W.K.c.check = 0) (hl : (W.a.locals.length : Int) = W.K.c.locals) (H : AcIn g t B b k W p bm bs bt bp bsp bh cm) (ok oa ob oc on : Int) (x y : Nat) (hk : AcW.kindR ⟨ok, oa, ob, oc, on, x, y⟩ = true) (r : AcR) (h : W.starts ⟨ok, oa, ob, oc, on, x, y⟩ = some r) :
    Calls Tryz.prog 54 #[.pointer (some ⟨b, 0, none⟩), .pointer (some ⟨k, 0, none⟩), .agg #[.int .i64 ok, .int .i64 oa, .int .i64 ob, .int .i64 oc, .int .i64 on, .complex .f64 x y]] g.w (Does (resV r.1) g (acT t B) (fun g' => AcWAt g' t B b k r.2)) := by
  have hk' : ok = 1 ∨ ok = 4 ∨ ok = 12 ∨ ok = 13 ∨ ok = 18 := by
    unfold AcW.kindR at hk
    simpa only [Bool.or_eq_true, beq_iff_eq] using hk
  have ho : opOk W.K.c ⟨ok, oa, ob, oc, on, x, y⟩ = true := by
    cases ho : opOk W.K.c ⟨ok, oa, ob, oc, on, x, y⟩
    · unfold AcW.starts at h
      rw [if_pos ho] at h
      cases h
    · rfl
  unfold AcW.starts at h
  rw [if_neg (by rw [ho]; simp)] at h
  rcases hk' with rfl | rfl | rfl | rfl | rfl
  · rw [if_neg (show ¬ (W.a.operandsE ⟨1, oa, ob, oc, on, x, y⟩ ≠ 0) from fun h => h rfl)] at h
    exact act_starts_1 P hd.next H hck oa ob oc on x y ho hd.sp hd.line r h
  · have hab : (0 ≤ oa ∧ oa < W.K.c.locals) ∧ (0 ≤ ob ∧ ob < W.K.c.locals) := by
      have h1 : (inL W.K.c oa && inL W.K.c ob) = true := ho
      rw [Bool.and_eq_true] at h1
      exact ⟨inL_of h1.1, inL_of h1.2⟩
    exact act_starts_4 P hd.mem hd.next H hck oa ob oc on x y ho (by omega) (by omega) r h
  · rw [if_neg (show ¬ (W.a.operandsE ⟨12, oa, ob, oc, on, x, y⟩ ≠ 0) from fun h => h rfl)] at h
    have ha : 0 ≤ oa ∧ oa < W.K.c.locals := inL_of ho
    injection h with h
    subst h
    exact act_starts_12 P hd.next H hck oa ob oc on x y ho (by omega)
  · rw [if_neg (show ¬ (W.a.operandsE ⟨13, oa, ob, oc, on, x, y⟩ ≠ 0) from fun h => h rfl)] at h
    have ha : 0 ≤ oa ∧ oa < W.K.c.locals := inL_of ho
    injection h with h
    subst h
    exact act_starts_13 P hd.next H hck oa ob oc on x y ho (by omega)
  · rw [if_neg (show ¬ (W.a.operandsE ⟨18, oa, ob, oc, on, x, y⟩ ≠ 0) from fun h => h rfl)] at h
    injection h with h
    exact act_starts_18 P H hck oa ob oc on x y ho hd.sp r h
theorem act_stores_o [TbId] (P : AcApart t B) (hd : W.BdW) (H : AcIn g t B b k W p bm bs bt bp bsp bh cm) (r : AcR) (h : W.stores = some r) :
    Calls Tryz.prog 61 #[.pointer (some ⟨b, 0, none⟩), .pointer (some ⟨k, 0, none⟩)] g.w (Does (resV r.1) g (acT t B) (fun g' => AcWAt g' t B b k r.2)) := by
  unfold AcW.stores at h
  by_cases h4 : W.a.at_ = 4
  · rw [if_pos h4] at h
    injection h with h
    subst h
    exact act_storesOld P hd.n h4 H
  rw [if_neg h4] at h
  by_cases h5 : W.a.at_ = 5
  · rw [if_pos h5] at h
    injection h with h
    subst h
    exact act_storesNew P hd.n h5 H
  rw [if_neg h5] at h
  by_cases h6 : W.a.at_ = 6
  · rw [if_pos h6] at h
    split at h
    case isTrue hin =>
      injection h with h
      subst h
      exact act_storesWrite P hd.mem hd.next h6 hin H
    case isFalse => cases h
  rw [if_neg h6] at h
  split at h
  case isTrue hin =>
    rw [Bool.and_eq_true] at hin
    injection h with h
    subst h
    exact act_storesRead P hd.mem h4 h5 h6 hin.1 hin.2 H
  case isFalse => cases h
theorem act_within [TbId] (P : AcApart t B) (hd : W.BdW) (hck : W.K.c.check = 0) (hl : (W.a.locals.length : Int) = W.K.c.locals) (hl2 : W.a.locals.length ≤ 1000) (hop : W.a.next < W.a.ops.length) (hw : W.okW = true) (H : AcIn g t B b k W p bm bs bt bp bsp bh cm) (r : AcR) (h : W.within = some r) :
    Calls Tryz.prog 28 #[.pointer (some ⟨b, 0, none⟩), .pointer (some ⟨k, 0, none⟩)] g.w (Does (resV r.1) g (acT t B) (fun g' => AcWAt g' t B b k r.2)) := by
  have HH := Lib.hid H
  have HP := Lib.hid P
  have hPt := P.ht
  have hPb := P.hb
  have hPa := P.apart
  obtain ⟨i, hi⟩ : ∃ i : Nat, W.a.next = i := ⟨W.a.next.toNat, by have := hd.next; omega⟩
  have hil : i < W.a.ops.length := by omega
  obtain ⟨o, ho⟩ : ∃ o, W.a.op = o := ⟨_, rfl⟩
  have hoi : W.a.ops[i]? = some o := by
    rw [← ho]
    unfold AcS.op
    rw [hi, Int.toNat_natCast, List.getD_eq_getElem?_getD, List.getElem?_eq_getElem hil]
    rfl
  obtain ⟨ok, oa, ob, oc, on, x, y⟩ := o
  go_enter Tryz.func28, Tryz.ntmps28
  go_upto_region 1 with fail
  obtain ⟨own0, m0, R0⟩ := start1 g 36 resZ
  unfold resZ at m0 R0
  generalize (g.w.alloc (.cells #[.int .i64 0, .int .i64 0, .int .i64 0, .bool false, .complex .f64 0 0] 36)) = w0 at *
  have H0 := Lib.hid (HH.out.keep0 m0)
  have M0 := Lib.hid (m0.mono (S := acT t B) (fun _ => False.elim))
  have R0' := Lib.hid R0
  clear m0 R0
  obtain ⟨q, oo, hA, hq, hcell⟩ := H0.out.a.r.ops.cells.cases (by have := oflat_get W.a.ops i 0 ⟨ok, oa, ob, oc, on, x, y⟩ _ hoi rfl; have := (List.getElem?_eq_some_iff.1 this).1; omega)
  have k0 := hcell (i * 6 + 0) _ (oflat_get W.a.ops i 0 ⟨ok, oa, ob, oc, on, x, y⟩ _ hoi rfl)
  have k1 := hcell (i * 6 + 1) _ (oflat_get W.a.ops i 1 ⟨ok, oa, ob, oc, on, x, y⟩ _ hoi rfl)
  have k2 := hcell (i * 6 + 2) _ (oflat_get W.a.ops i 2 ⟨ok, oa, ob, oc, on, x, y⟩ _ hoi rfl)
  have k3 := hcell (i * 6 + 3) _ (oflat_get W.a.ops i 3 ⟨ok, oa, ob, oc, on, x, y⟩ _ hoi rfl)
  have k4 := hcell (i * 6 + 4) _ (oflat_get W.a.ops i 4 ⟨ok, oa, ob, oc, on, x, y⟩ _ hoi rfl)
  have k5 := hcell (i * 6 + 5) _ (oflat_get W.a.ops i 5 ⟨ok, oa, ob, oc, on, x, y⟩ _ hoi rfl)
  simp only [← Nat.add_assoc, Nat.add_zero] at k0 k1 k2 k3 k4 k5 hq
  clear hcell hoi
  obtain ⟨a0, a1, a2, a3, a4, a5, a6, a7, a8, a9, a10, a11, a12, a13, a14, a15, a16, a17, a18, al⟩ := H0.out.a.blk.c19
  (try simp only [GW.to] at a0 a1 a2 a3 a4 a5 a6 a7 a8 a9 a10 a11 a12 a13 a14 a15 a16 a17 a18 al)
  rw [hA] at a1
  rw [hi] at a6
  clear hA H
  generalize W.a.ops.length = nl at *
  refine wp_region_mixed [true, true, true, true, true, true, true, true, true, true, false, false] 2 11 (by kernel_rfl) (by kernel_rfl) (by kernel_rfl) ?_ (by decide) (by decide) (by decide) (by kernel_rfl) ?_
  · intro c a d v w h; cases d <;> exact h
  intro X00
  simp only [pickOps]
  repeat (go_big_quiet_step (fail))
  refine wpQuiet_nil (fun X0 => ?_)
  clear X00
  refine wpAnyM_one 10 _ (by kernel_rfl) rfl rfl (by decide) (fun X1 K Q' hK => ?_)
  go_simp
  refine hK _ _ ?_ ?_
  · (repeat (first | (with_reducible (first | assumption | exact zR _ | exact zM _ _ _ _)) | apply zA | refine zS ?_ (by first | exact zL _ | exact zK _ _ | assumption) _ | apply zP | apply zD | apply zN))
  clear hK K Q'
  refine wpAnyM_tailL rfl (by kernel_rfl) (fun X2 => ?_)
  simp only [List.drop_succ_cons, List.drop_zero]
  go_upto_region 2 with fail
  obtain ⟨own1, m1, N1, hN⟩ := new_blk own0 w0 ⟨X0.blocks ++ X1.blocks, X1.drawn⟩ X2 26 [.int .i64 ok, .int .i64 oa, .int .i64 ob, .int .i64 oc, .int .i64 on, .complex .f64 x y]
  have M1 := Lib.hid (M0.out.trans (m1.mono (S := acT t B) (fun _ => False.elim)))
  have H1 := Lib.hid (H0.out.keep0 m1)
  have R1 := Lib.hid (R0'.out.keep m1 id)
  clear k0 k1 k2 k3 k4 k5 hq a0 a1 a2 a3 a4 a5 a6 a7 a8 a9 a10 a11 a12 a13 a14 a15 a16 a17 a18 al m1 M0 H0 R0' hN
  generalize ((w0.patch ⟨X0.blocks ++ X1.blocks, X1.drawn⟩).alloc (.cells #[.int .i64 ok, .int .i64 oa, .int .i64 ob, .int .i64 oc, .int .i64 on, .complex .f64 x y] 26)).patch X2 = w1 at *
  generalize (w0.patch ⟨X0.blocks ++ X1.blocks, X1.drawn⟩).heap.size = qn at *
  clear X0 X1 X2
  obtain ⟨x0, x1, x2, x3, x4, x5, xl⟩ := N1.c6
  (try simp only [GW.to] at x0 x1 x2 x3 x4 x5 xl)
  clear N1
  unfold AcW.okW at hw
  rw [ho] at hw
  simp only [Bool.and_eq_true, Bool.or_eq_true, bne_iff_ne, ne_eq] at hw
  obtain ⟨hwk, hw9, hw1, hw2, hw8, hw7⟩ := hw
  obtain ⟨⟨rr, rb⟩, rW⟩ := r
  unfold AcW.within at h
  rw [ho] at h
  have hnx := hd.next
  by_cases h0 : W.a.at_ = 0
  · rw [if_pos h0] at h
    have HCL := Lib.hid (show Calls Tryz.prog 54 #[.pointer (some ⟨b, 0, none⟩), .pointer (some ⟨k, 0, none⟩), .agg #[.int .i64 ok, .int .i64 oa, .int .i64 ob, .int .i64 oc, .int .i64 on, .complex .f64 x y]] w1 (Does (.tuple #[.agg #[.int .i64 rr.op, .int .i64 rr.own, .int .i64 rr.e, .bool rr.v.ref, .complex .f64 rr.v.z.1 rr.v.z.2], .bool rb]) ⟨own1, w1⟩ (acT t B) (fun g' => AcWAt g' t B b k rW)) from act_starts (g := ⟨own1, w1⟩) P hd hck hl H1.out ok oa ob oc on x y hwk ((rr, rb), rW) h)
    obtain ⟨a0, a1, a2, a3, a4, a5, a6, a7, a8, a9, a10, a11, a12, a13, a14, a15, a16, a17, a18, al⟩ := H1.out.a.blk.c19
    (try simp only [GW.to] at a0 a1 a2 a3 a4 a5 a6 a7 a8 a9 a10 a11 a12 a13 a14 a15 a16 a17 a18 al)
    rw [h0] at a11
    clear h hw1 hw2 hw7 hw8 hw9 h0
    go_wp2_with fail
    refine HCL.out.mono ?_
    rintro e w7 ⟨rfl, own7, m7, h7⟩
    have M7 := Lib.hid (M1.out.trans m7)
    have H7 := Lib.hid h7
    have R7 := Lib.hid (R1.out.keep m7 (fun h => by unfold acT at h; omega))
    clear M1 H1 R1 m7 h7 HCL
    obtain ⟨r0, r1, r2, r3, r4, rl⟩ := R7.out.c5
    have rf0 := R7.out.live 0
    have rf1 := R7.out.live 1
    have rf2 := R7.out.live 2
    have rf3 := R7.out.live 3
    have rf4 := R7.out.live 4
    (try simp only [GW.to] at r0 r1 r2 r3 r4 rf0 rf1 rf2 rf3 rf4 rl)
    go_wp2_with fail
    obtain ⟨Mf, mf, Rf⟩ := put_res M7.out R7.out (Nat.le_refl _) (rr.op) (rr.own) (rr.e) (rr.v.ref) (rr.v.z.1) (rr.v.z.2)
    generalize ((((((w7).setCell ⟨g.w.heap.size, 0, none⟩ (.int .i64 (rr.op))).setCell ⟨g.w.heap.size, 1, none⟩ (.int .i64 (rr.own))).setCell ⟨g.w.heap.size, 2, none⟩ (.int .i64 (rr.e))).setCell ⟨g.w.heap.size, 3, none⟩ (.bool (rr.v.ref))).setCell ⟨g.w.heap.size, 4, none⟩ (.complex .f64 (rr.v.z.1) (rr.v.z.2))) = wf at *
    obtain ⟨f0, f1, f2, f3, f4, fl⟩ := Rf.c5
    (try simp only [GW.to] at f0 f1 f2 f3 f4 fl)
    refine bodyPost_ret (v := .tuple #[.agg #[.int .i64 (rr.op), .int .i64 (rr.own), .int .i64 (rr.e), .bool (rr.v.ref), .complex .f64 (rr.v.z.1) (rr.v.z.2)], .bool rb]) (by simp [results, Tryz.results28, go_sem, f0, f1, f2, f3, f4]) rfl ?_
    obtain ⟨p5, bm5, bs5, bt5, bp5, bsp5, bh5, cm5, h8⟩ := H7.out
    exact Does.of ⟨own7, wf⟩ rfl rfl Mf ((h8.keep mf (by omega) (fun x (hx : x = 9) => by omega) (fun x (hx : x = 9) => by omega)).at_)
  rw [if_neg h0] at h
  by_cases h1 : W.a.at_ = 1
  · rw [if_pos h1] at h
    have hob := inL_of (hw1.resolve_left (fun hh => hh h1))
    have HCL := Lib.hid (show Calls Tryz.prog 55 #[.pointer (some ⟨b, 0, none⟩), .pointer (some ⟨k, 0, none⟩), .agg #[.int .i64 ok, .int .i64 oa, .int .i64 ob, .int .i64 oc, .int .i64 on, .complex .f64 x y]] w1 (Does (.tuple #[.agg #[.int .i64 rr.op, .int .i64 rr.own, .int .i64 rr.e, .bool rr.v.ref, .complex .f64 rr.v.z.1 rr.v.z.2], .bool rb]) ⟨own1, w1⟩ (acT t B) (fun g' => AcWAt g' t B b k rW)) from act_finds_o (g := ⟨own1, w1⟩) P hd.mem hd.next H1.out ok oa ob oc on x y (by omega) ((rr, rb), rW) h)
    obtain ⟨a0, a1, a2, a3, a4, a5, a6, a7, a8, a9, a10, a11, a12, a13, a14, a15, a16, a17, a18, al⟩ := H1.out.a.blk.c19
    (try simp only [GW.to] at a0 a1 a2 a3 a4 a5 a6 a7 a8 a9 a10 a11 a12 a13 a14 a15 a16 a17 a18 al)
    rw [h1] at a11
    clear h hw1 hw2 hw7 hw8 hw9 h0 h1
    go_wp2_with fail
    refine HCL.out.mono ?_
    rintro e w7 ⟨rfl, own7, m7, h7⟩
    have M7 := Lib.hid (M1.out.trans m7)
    have H7 := Lib.hid h7
    have R7 := Lib.hid (R1.out.keep m7 (fun h => by unfold acT at h; omega))
    clear M1 H1 R1 m7 h7 HCL
    obtain ⟨r0, r1, r2, r3, r4, rl⟩ := R7.out.c5
    have rf0 := R7.out.live 0
    have rf1 := R7.out.live 1
    have rf2 := R7.out.live 2
    have rf3 := R7.out.live 3
    have rf4 := R7.out.live 4
    (try simp only [GW.to] at r0 r1 r2 r3 r4 rf0 rf1 rf2 rf3 rf4 rl)
    go_wp2_with fail
    obtain ⟨Mf, mf, Rf⟩ := put_res M7.out R7.out (Nat.le_refl _) (rr.op) (rr.own) (rr.e) (rr.v.ref) (rr.v.z.1) (rr.v.z.2)
    generalize ((((((w7).setCell ⟨g.w.heap.size, 0, none⟩ (.int .i64 (rr.op))).setCell ⟨g.w.heap.size, 1, none⟩ (.int .i64 (rr.own))).setCell ⟨g.w.heap.size, 2, none⟩ (.int .i64 (rr.e))).setCell ⟨g.w.heap.size, 3, none⟩ (.bool (rr.v.ref))).setCell ⟨g.w.heap.size, 4, none⟩ (.complex .f64 (rr.v.z.1) (rr.v.z.2))) = wf at *
    obtain ⟨f0, f1, f2, f3, f4, fl⟩ := Rf.c5
    (try simp only [GW.to] at f0 f1 f2 f3 f4 fl)
    refine bodyPost_ret (v := .tuple #[.agg #[.int .i64 (rr.op), .int .i64 (rr.own), .int .i64 (rr.e), .bool (rr.v.ref), .complex .f64 (rr.v.z.1) (rr.v.z.2)], .bool rb]) (by simp [results, Tryz.results28, go_sem, f0, f1, f2, f3, f4]) rfl ?_
    obtain ⟨p5, bm5, bs5, bt5, bp5, bsp5, bh5, cm5, h8⟩ := H7.out
    exact Does.of ⟨own7, wf⟩ rfl rfl Mf ((h8.keep mf (by omega) (fun x (hx : x = 9) => by omega) (fun x (hx : x = 9) => by omega)).at_)
  rw [if_neg h1] at h
  by_cases h2 : W.a.at_ = 2
  · rw [if_pos h2] at h
    have hoa := inL_of (hw2.resolve_left (fun hh => hh h2))
    unfold AcW.reads at h
    split at h
    case isFalse => cases h
    case isTrue hc =>
      rw [Bool.and_eq_true] at hc
      injection h with h
      have HCL := Lib.hid (show Calls Tryz.prog 56 #[.pointer (some ⟨b, 0, none⟩), .pointer (some ⟨k, 0, none⟩), .agg #[.int .i64 ok, .int .i64 oa, .int .i64 ob, .int .i64 oc, .int .i64 on, .complex .f64 x y]] w1 (Does (.tuple #[.agg #[.int .i64 rr.op, .int .i64 rr.own, .int .i64 rr.e, .bool rr.v.ref, .complex .f64 rr.v.z.1 rr.v.z.2], .bool rb]) ⟨own1, w1⟩ (acT t B) (fun g' => AcWAt g' t B b k rW)) from act_reads (g := ⟨own1, w1⟩) P hd.mem hd.next H1.out ok oa ob oc on x y (by omega) hc.1 hc.2 ((rr, rb), rW) h)
      obtain ⟨a0, a1, a2, a3, a4, a5, a6, a7, a8, a9, a10, a11, a12, a13, a14, a15, a16, a17, a18, al⟩ := H1.out.a.blk.c19
      (try simp only [GW.to] at a0 a1 a2 a3 a4 a5 a6 a7 a8 a9 a10 a11 a12 a13 a14 a15 a16 a17 a18 al)
      rw [h2] at a11
      clear h hw1 hw2 hw7 hw8 hw9 h0 h1 h2
      go_wp2_with fail
      refine HCL.out.mono ?_
      rintro e w7 ⟨rfl, own7, m7, h7⟩
      have M7 := Lib.hid (M1.out.trans m7)
      have H7 := Lib.hid h7
      have R7 := Lib.hid (R1.out.keep m7 (fun h => by unfold acT at h; omega))
      clear M1 H1 R1 m7 h7 HCL
      obtain ⟨r0, r1, r2, r3, r4, rl⟩ := R7.out.c5
      have rf0 := R7.out.live 0
      have rf1 := R7.out.live 1
      have rf2 := R7.out.live 2
      have rf3 := R7.out.live 3
      have rf4 := R7.out.live 4
      (try simp only [GW.to] at r0 r1 r2 r3 r4 rf0 rf1 rf2 rf3 rf4 rl)
      go_wp2_with fail
      obtain ⟨Mf, mf, Rf⟩ := put_res M7.out R7.out (Nat.le_refl _) (rr.op) (rr.own) (rr.e) (rr.v.ref) (rr.v.z.1) (rr.v.z.2)
      generalize ((((((w7).setCell ⟨g.w.heap.size, 0, none⟩ (.int .i64 (rr.op))).setCell ⟨g.w.heap.size, 1, none⟩ (.int .i64 (rr.own))).setCell ⟨g.w.heap.size, 2, none⟩ (.int .i64 (rr.e))).setCell ⟨g.w.heap.size, 3, none⟩ (.bool (rr.v.ref))).setCell ⟨g.w.heap.size, 4, none⟩ (.complex .f64 (rr.v.z.1) (rr.v.z.2))) = wf at *
      obtain ⟨f0, f1, f2, f3, f4, fl⟩ := Rf.c5
      (try simp only [GW.to] at f0 f1 f2 f3 f4 fl)
      refine bodyPost_ret (v := .tuple #[.agg #[.int .i64 (rr.op), .int .i64 (rr.own), .int .i64 (rr.e), .bool (rr.v.ref), .complex .f64 (rr.v.z.1) (rr.v.z.2)], .bool rb]) (by simp [results, Tryz.results28, go_sem, f0, f1, f2, f3, f4]) rfl ?_
      obtain ⟨p5, bm5, bs5, bt5, bp5, bsp5, bh5, cm5, h8⟩ := H7.out
      exact Does.of ⟨own7, wf⟩ rfl rfl Mf ((h8.keep mf (by omega) (fun x (hx : x = 9) => by omega) (fun x (hx : x = 9) => by omega)).at_)
  rw [if_neg h2] at h
  by_cases h7 : W.a.at_ = 7
  · rw [if_pos h7] at h
    have hwr := hw7.resolve_left (fun hh => hh h7)
    unfold AcW.wrOk at hwr
    split at hwr
    case h_2 => cases hwr
    case h_1 av cx cy l hwe =>
      rw [hwe] at h
      simp only at h
      split at h
      case isFalse => cases h
      case isTrue hin =>
        injection h with h
        have HCL := Lib.hid (show Calls Tryz.prog 57 #[.pointer (some ⟨b, 0, none⟩), .pointer (some ⟨k, 0, none⟩)] w1 (Does (.tuple #[.agg #[.int .i64 rr.op, .int .i64 rr.own, .int .i64 rr.e, .bool rr.v.ref, .complex .f64 rr.v.z.1 rr.v.z.2], .bool rb]) ⟨own1, w1⟩ (acT t B) (fun g' => AcWAt g' t B b k rW)) from (by have h9 := act_makes (g := ⟨own1, w1⟩) P hd.mem H1.out av cx cy l hwe hin; rw [h] at h9; exact h9))
        obtain ⟨a0, a1, a2, a3, a4, a5, a6, a7, a8, a9, a10, a11, a12, a13, a14, a15, a16, a17, a18, al⟩ := H1.out.a.blk.c19
        (try simp only [GW.to] at a0 a1 a2 a3 a4 a5 a6 a7 a8 a9 a10 a11 a12 a13 a14 a15 a16 a17 a18 al)
        rw [h7] at a11
        clear h hw1 hw2 hw7 hw8 hw9 h0 h1 h2 h7
        go_wp2_with fail
        refine HCL.out.mono ?_
        rintro e w7 ⟨rfl, own7, m7, h7⟩
        have M7 := Lib.hid (M1.out.trans m7)
        have H7 := Lib.hid h7
        have R7 := Lib.hid (R1.out.keep m7 (fun h => by unfold acT at h; omega))
        clear M1 H1 R1 m7 h7 HCL
        obtain ⟨r0, r1, r2, r3, r4, rl⟩ := R7.out.c5
        have rf0 := R7.out.live 0
        have rf1 := R7.out.live 1
        have rf2 := R7.out.live 2
        have rf3 := R7.out.live 3
        have rf4 := R7.out.live 4
        (try simp only [GW.to] at r0 r1 r2 r3 r4 rf0 rf1 rf2 rf3 rf4 rl)
        go_wp2_with fail
        obtain ⟨Mf, mf, Rf⟩ := put_res M7.out R7.out (Nat.le_refl _) (rr.op) (rr.own) (rr.e) (rr.v.ref) (rr.v.z.1) (rr.v.z.2)
        generalize ((((((w7).setCell ⟨g.w.heap.size, 0, none⟩ (.int .i64 (rr.op))).setCell ⟨g.w.heap.size, 1, none⟩ (.int .i64 (rr.own))).setCell ⟨g.w.heap.size, 2, none⟩ (.int .i64 (rr.e))).setCell ⟨g.w.heap.size, 3, none⟩ (.bool (rr.v.ref))).setCell ⟨g.w.heap.size, 4, none⟩ (.complex .f64 (rr.v.z.1) (rr.v.z.2))) = wf at *
        obtain ⟨f0, f1, f2, f3, f4, fl⟩ := Rf.c5
        (try simp only [GW.to] at f0 f1 f2 f3 f4 fl)
        refine bodyPost_ret (v := .tuple #[.agg #[.int .i64 (rr.op), .int .i64 (rr.own), .int .i64 (rr.e), .bool (rr.v.ref), .complex .f64 (rr.v.z.1) (rr.v.z.2)], .bool rb]) (by simp [results, Tryz.results28, go_sem, f0, f1, f2, f3, f4]) rfl ?_
        obtain ⟨p5, bm5, bs5, bt5, bp5, bsp5, bh5, cm5, h8⟩ := H7.out
        exact Does.of ⟨own7, wf⟩ rfl rfl Mf ((h8.keep mf (by omega) (fun x (hx : x = 9) => by omega) (fun x (hx : x = 9) => by omega)).at_)
  rw [if_neg h7] at h
  by_cases h8 : W.a.at_ = 8
  · rw [if_pos h8] at h
    have hoa := inL_of (hw8.resolve_left (fun hh => hh h8))
    split at h
    case isFalse => cases h
    case isTrue hc =>
      obtain ⟨hg, hst, hb0, hb1⟩ := hc
      obtain ⟨gi, gl, hgl⟩ := List.exists_cons_of_ne_nil hg
      rw [hgl] at hst hb0 hb1
      simp only [List.headD_cons] at hst hb0 hb1
      injection h with h
      have HCL := Lib.hid (show Calls Tryz.prog 58 #[.pointer (some ⟨b, 0, none⟩), .pointer (some ⟨k, 0, none⟩), .agg #[.int .i64 ok, .int .i64 oa, .int .i64 ob, .int .i64 oc, .int .i64 on, .complex .f64 x y]] w1 (Does (.tuple #[.agg #[.int .i64 rr.op, .int .i64 rr.own, .int .i64 rr.e, .bool rr.v.ref, .complex .f64 rr.v.z.1 rr.v.z.2], .bool rb]) ⟨own1, w1⟩ (acT t B) (fun g' => AcWAt g' t B b k rW)) from (by have h9 := act_bears (g := ⟨own1, w1⟩) P hd.sp hd.next H1.out ok oa ob oc on x y (by omega) gi gl hgl hst ⟨hb0, hb1⟩; rw [h] at h9; exact h9))
      obtain ⟨a0, a1, a2, a3, a4, a5, a6, a7, a8, a9, a10, a11, a12, a13, a14, a15, a16, a17, a18, al⟩ := H1.out.a.blk.c19
      (try simp only [GW.to] at a0 a1 a2 a3 a4 a5 a6 a7 a8 a9 a10 a11 a12 a13 a14 a15 a16 a17 a18 al)
      rw [h8] at a11
      clear h hw1 hw2 hw7 hw8 hw9 h0 h1 h2 h7 h8
      go_wp2_with fail
      refine HCL.out.mono ?_
      rintro e w7 ⟨rfl, own7, m7, h7⟩
      have M7 := Lib.hid (M1.out.trans m7)
      have H7 := Lib.hid h7
      have R7 := Lib.hid (R1.out.keep m7 (fun h => by unfold acT at h; omega))
      clear M1 H1 R1 m7 h7 HCL
      obtain ⟨r0, r1, r2, r3, r4, rl⟩ := R7.out.c5
      have rf0 := R7.out.live 0
      have rf1 := R7.out.live 1
      have rf2 := R7.out.live 2
      have rf3 := R7.out.live 3
      have rf4 := R7.out.live 4
      (try simp only [GW.to] at r0 r1 r2 r3 r4 rf0 rf1 rf2 rf3 rf4 rl)
      go_wp2_with fail
      obtain ⟨Mf, mf, Rf⟩ := put_res M7.out R7.out (Nat.le_refl _) (rr.op) (rr.own) (rr.e) (rr.v.ref) (rr.v.z.1) (rr.v.z.2)
      generalize ((((((w7).setCell ⟨g.w.heap.size, 0, none⟩ (.int .i64 (rr.op))).setCell ⟨g.w.heap.size, 1, none⟩ (.int .i64 (rr.own))).setCell ⟨g.w.heap.size, 2, none⟩ (.int .i64 (rr.e))).setCell ⟨g.w.heap.size, 3, none⟩ (.bool (rr.v.ref))).setCell ⟨g.w.heap.size, 4, none⟩ (.complex .f64 (rr.v.z.1) (rr.v.z.2))) = wf at *
      obtain ⟨f0, f1, f2, f3, f4, fl⟩ := Rf.c5
      (try simp only [GW.to] at f0 f1 f2 f3 f4 fl)
      refine bodyPost_ret (v := .tuple #[.agg #[.int .i64 (rr.op), .int .i64 (rr.own), .int .i64 (rr.e), .bool (rr.v.ref), .complex .f64 (rr.v.z.1) (rr.v.z.2)], .bool rb]) (by simp [results, Tryz.results28, go_sem, f0, f1, f2, f3, f4]) rfl ?_
      obtain ⟨p5, bm5, bs5, bt5, bp5, bsp5, bh5, cm5, h8⟩ := H7.out
      exact Does.of ⟨own7, wf⟩ rfl rfl Mf ((h8.keep mf (by omega) (fun x (hx : x = 9) => by omega) (fun x (hx : x = 9) => by omega)).at_)
  rw [if_neg h8, if_neg hw9] at h
  by_cases h10 : W.a.at_ = 10
  · rw [if_pos h10] at h
    injection h with h
    have HG := Lib.hid (act_goes (g := ⟨own1, w1⟩) P hd.hand hl2 H1.out.at_)
    obtain ⟨a0, a1, a2, a3, a4, a5, a6, a7, a8, a9, a10, a11, a12, a13, a14, a15, a16, a17, a18, al⟩ := H1.out.a.blk.c19
    (try simp only [GW.to] at a0 a1 a2 a3 a4 a5 a6 a7 a8 a9 a10 a11 a12 a13 a14 a15 a16 a17 a18 al)
    rw [h10] at a11
    clear hw1 hw2 hw7 hw8 hw9 h0 h1 h2 h7 h8 h10
    go_wp2_with fail
    refine HG.out.mono ?_
    rintro e w2 ⟨rfl, own2, m2, h2⟩
    obtain ⟨p2, bm2, bs2, bt2, bp2, bsp2, bh2, cm2, h2⟩ := h2
    have M2 := Lib.hid (M1.out.trans m2)
    have H2 := Lib.hid h2
    have R2 := Lib.hid (R1.out.keep m2 (fun h => by unfold acT at h; omega))
    clear m2 h2 HG M1 H1 R1 a0 a1 a2 a3 a4 a5 a6 a7 a8 a9 a10 a11 a12 a13 a14 a15 a16 a17 a18 al x0 x1 x2 x3 x4 x5 xl
    have hr : W.goes.a.res LVal.zero 0 = rr := congrArg (fun q => q.1.1) h
    have hrb : true = rb := congrArg (fun q => q.1.2) h
    have hrw : (⟨W.goes.a.done, W.goes.K⟩ : AcW) = rW := congrArg (fun q => q.2) h
    subst hrb
    have HDN := Lib.hid (show Calls Tryz.prog 60 #[.pointer (some ⟨b, 0, none⟩), .agg #[.bool false, .complex .f64 0 0], .int .i64 0] w2 (Does (.tuple #[.agg #[.int .i64 rr.op, .int .i64 rr.own, .int .i64 rr.e, .bool rr.v.ref, .complex .f64 rr.v.z.1 rr.v.z.2], .bool true]) ⟨own2, w2⟩ (acO t) (fun g' => AcAt g' t b W.goes.a.done p2)) from act_done2 ⟨own2, w2⟩ t b _ p2 LVal.zero 0 rr hPt H2.out.a hnx hr)
    clear hr h
    go_wp2_with fail
    refine HDN.out.mono ?_
    rintro e w7 ⟨rfl, own7, m7, h7⟩
    have M7 := Lib.hid (M2.out.trans (m7.mono (S := acT t B) (fun x hx => acT_own hx)))
    have H7 := Lib.hid (H2.out.own HP.out m7 h7)
    have R7 := Lib.hid (R2.out.keep m7 (fun h => by unfold acO at h; omega))
    clear M2 H2 R2 m7 h7 HDN
    obtain ⟨r0, r1, r2, r3, r4, rl⟩ := R7.out.c5
    have rf0 := R7.out.live 0
    have rf1 := R7.out.live 1
    have rf2 := R7.out.live 2
    have rf3 := R7.out.live 3
    have rf4 := R7.out.live 4
    (try simp only [GW.to] at r0 r1 r2 r3 r4 rf0 rf1 rf2 rf3 rf4 rl)
    go_wp2_with fail
    obtain ⟨Mf, mf, Rf⟩ := put_res M7.out R7.out (Nat.le_refl _) (rr.op) (rr.own) (rr.e) (rr.v.ref) (rr.v.z.1) (rr.v.z.2)
    generalize ((((((w7).setCell ⟨g.w.heap.size, 0, none⟩ (.int .i64 (rr.op))).setCell ⟨g.w.heap.size, 1, none⟩ (.int .i64 (rr.own))).setCell ⟨g.w.heap.size, 2, none⟩ (.int .i64 (rr.e))).setCell ⟨g.w.heap.size, 3, none⟩ (.bool (rr.v.ref))).setCell ⟨g.w.heap.size, 4, none⟩ (.complex .f64 (rr.v.z.1) (rr.v.z.2))) = wf at *
    obtain ⟨f0, f1, f2, f3, f4, fl⟩ := Rf.c5
    (try simp only [GW.to] at f0 f1 f2 f3 f4 fl)
    refine bodyPost_ret (v := .tuple #[.agg #[.int .i64 (rr.op), .int .i64 (rr.own), .int .i64 (rr.e), .bool (rr.v.ref), .complex .f64 (rr.v.z.1) (rr.v.z.2)], .bool true]) (by simp [results, Tryz.results28, go_sem, f0, f1, f2, f3, f4]) rfl ?_
    exact Does.of ⟨own7, wf⟩ rfl rfl Mf (by rw [← hrw]; exact (H7.out.keep mf (by omega) (fun x (hx : x = 9) => by omega) (fun x (hx : x = 9) => by omega)).at_)
  rw [if_neg h10] at h
  have z0 : (W.a.at_ == 0) = false := beq_eq_false_iff_ne.2 h0
  have z1 : (W.a.at_ == 1) = false := beq_eq_false_iff_ne.2 h1
  have z2 : (W.a.at_ == 2) = false := beq_eq_false_iff_ne.2 h2
  have z7 : (W.a.at_ == 7) = false := beq_eq_false_iff_ne.2 h7
  have z8 : (W.a.at_ == 8) = false := beq_eq_false_iff_ne.2 h8
  have z9 : (W.a.at_ == 9) = false := beq_eq_false_iff_ne.2 hw9
  have z10 : (W.a.at_ == 10) = false := beq_eq_false_iff_ne.2 h10
  have HCL := Lib.hid (show Calls Tryz.prog 61 #[.pointer (some ⟨b, 0, none⟩), .pointer (some ⟨k, 0, none⟩)] w1 (Does (.tuple #[.agg #[.int .i64 rr.op, .int .i64 rr.own, .int .i64 rr.e, .bool rr.v.ref, .complex .f64 rr.v.z.1 rr.v.z.2], .bool rb]) ⟨own1, w1⟩ (acT t B) (fun g' => AcWAt g' t B b k rW)) from act_stores_o (g := ⟨own1, w1⟩) P hd H1.out ((rr, rb), rW) h)
  obtain ⟨a0, a1, a2, a3, a4, a5, a6, a7, a8, a9, a10, a11, a12, a13, a14, a15, a16, a17, a18, al⟩ := H1.out.a.blk.c19
  (try simp only [GW.to] at a0 a1 a2 a3 a4 a5 a6 a7 a8 a9 a10 a11 a12 a13 a14 a15 a16 a17 a18 al)
  clear h hw1 hw2 hw7 hw8 hw9 h0 h1 h2 h7 h8 h10
  go_wp2_with fail
  refine HCL.out.mono ?_
  rintro e w7 ⟨rfl, own7, m7, h7⟩
  have M7 := Lib.hid (M1.out.trans m7)
  have H7 := Lib.hid h7
  have R7 := Lib.hid (R1.out.keep m7 (fun h => by unfold acT at h; omega))
  clear M1 H1 R1 m7 h7 HCL
  obtain ⟨r0, r1, r2, r3, r4, rl⟩ := R7.out.c5
  have rf0 := R7.out.live 0
  have rf1 := R7.out.live 1
  have rf2 := R7.out.live 2
  have rf3 := R7.out.live 3
  have rf4 := R7.out.live 4
  (try simp only [GW.to] at r0 r1 r2 r3 r4 rf0 rf1 rf2 rf3 rf4 rl)
  go_wp2_with fail
  obtain ⟨Mf, mf, Rf⟩ := put_res M7.out R7.out (Nat.le_refl _) (rr.op) (rr.own) (rr.e) (rr.v.ref) (rr.v.z.1) (rr.v.z.2)
  generalize ((((((w7).setCell ⟨g.w.heap.size, 0, none⟩ (.int .i64 (rr.op))).setCell ⟨g.w.heap.size, 1, none⟩ (.int .i64 (rr.own))).setCell ⟨g.w.heap.size, 2, none⟩ (.int .i64 (rr.e))).setCell ⟨g.w.heap.size, 3, none⟩ (.bool (rr.v.ref))).setCell ⟨g.w.heap.size, 4, none⟩ (.complex .f64 (rr.v.z.1) (rr.v.z.2))) = wf at *
  obtain ⟨f0, f1, f2, f3, f4, fl⟩ := Rf.c5
  (try simp only [GW.to] at f0 f1 f2 f3 f4 fl)
  refine bodyPost_ret (v := .tuple #[.agg #[.int .i64 (rr.op), .int .i64 (rr.own), .int .i64 (rr.e), .bool (rr.v.ref), .complex .f64 (rr.v.z.1) (rr.v.z.2)], .bool rb]) (by simp [results, Tryz.results28, go_sem, f0, f1, f2, f3, f4]) rfl ?_
  obtain ⟨p5, bm5, bs5, bt5, bp5, bsp5, bh5, cm5, h8⟩ := H7.out
  exact Does.of ⟨own7, wf⟩ rfl rfl Mf ((h8.keep mf (by omega) (fun x (hx : x = 9) => by omega) (fun x (hx : x = 9) => by omega)).at_)
end
end Go.Proofs.YtoaehfdjffejeaaGreat

/-
  act: Step.
-/
namespace Go.Proofs.YtoaehfdjffejeaaGreat
open Go Go.RowKit
set_option linter.unusedVariables false
set_option linter.unnecessarySimpa false
set_option linter.unusedSimpArgs false
set_option maxHeartbeats 2000000
set_option maxRecDepth 100000

section
variable {g : GW} {t b B k : Nat} {W : AcW}
theorem act_step [TbId] (P : AcApart t B) (H : AcWAt g t B b k W) (r : AcR) (h : W.stepR = some r) :
    Calls Tryz.prog 9 #[.pointer (some ⟨b, 0, none⟩), .pointer (some ⟨k, 0, none⟩)] g.w (Does (resV r.1) g (acT t B) (fun g' => AcWAt g' t B b k r.2)) := by
  unfold AcW.stepR at h
  cases hR : W.okR
  · rw [hR] at h; cases h
  rw [hR, if_pos rfl] at h
  unfold AcW.okR at hR
  simp only [Bool.and_eq_true, Bool.or_eq_true, bne_iff_ne, ne_eq, decide_eq_true_eq, beq_iff_eq] at hR
  obtain ⟨h3, hw, hl2, hol, hck⟩ := hR
  unfold AcW.step at h
  cases hbd : W.bdB
  · rw [hbd, if_pos rfl] at h; cases h
  rw [if_neg (by rw [hbd]; simp)] at h
  have hd := bdB_of hbd
  obtain ⟨p, bm, bs, bt, bp, bsp, bh, cm, H⟩ := H
  have HH := Lib.hid H
  have HP := Lib.hid P
  have hPt := P.ht
  have hPb := P.hb
  have hPa := P.apart
  go_enter Tryz.func9, Tryz.ntmps9
  go_upto_region 1 with fail
  obtain ⟨own0, M0, R0⟩ := start1 g 36 resZ
  unfold resZ at M0 R0
  generalize (g.w.alloc (.cells #[.int .i64 0, .int .i64 0, .int .i64 0, .bool false, .complex .f64 0 0] 36)) = w0 at *
  have M0' := Lib.hid M0
  have R0' := Lib.hid R0
  clear M0 R0
  have H0 := Lib.hid (HH.out.keep0 M0'.out)
  have M0 := Lib.hid (M0'.out.mono (S := acT t B) (fun _ => False.elim))
  obtain ⟨a0, a1, a2, a3, a4, a5, a6, a7, a8, a9, a10, a11, a12, a13, a14, a15, a16, a17, a18, al⟩ := H0.out.a.blk.c19
  (try simp only [GW.to] at a0 a1 a2 a3 a4 a5 a6 a7 a8 a9 a10 a11 a12 a13 a14 a15 a16 a17 a18 al)
  clear H M0'
  by_cases h0 : W.a.phase = 0
  · rw [if_pos h0] at h
    injection h with h
    have HJ := Lib.hid (fun X => hand_join ((⟨own0, w0⟩ : GW).pt X) (B + 63) bh W.a.t W.K.hand (H0.out.pt X).c.hand hd.hand)
    obtain ⟨c0, c1, c2, c3, c4, c5, c6, c7, c8, c9, c10, c11, c12, cl⟩ := H0.out.c.blk.c13
    (try simp only [GW.to] at c0 c1 c2 c3 c4 c5 c6 c7 c8 c9 c10 c11 c12 cl)
    rw [h0] at a3
    cases hj : W.K.hand.mayJoin W.a.t
    · have HD := Lib.hid (show W.joins = { a := { W.a with phase := 4 }, K := { W.K with hand := W.K.hand.join W.a.t } } by unfold AcW.joins; rw [hj]; rfl)
      rw [show W.K.hand.joined W.a.t = .tuple #[.int .i64 0, .bool false, .bool false] by unfold HandS.joined; rw [hj]; rfl] at HJ
      clear hj h0 h3 hw
      go_upto_region 3 with fail
      refine wp_region_split_any [] [true, true, true, true, true, true, true, true] 8 ?sp_o 7 ?sp1 ?sp2 ?spE ?sp3 ?sp4 ?sp5 ?sp6 ?sp7 ?sp8 ?sp9 ?sp10 ?sp11 ?sp12
      case sp10 => exact rfl
      case sp1 => kernel_rfl
      case sp2 => kernel_rfl
      case spE => kernel_rfl
      case sp3 => kernel_rfl
      case sp4 => (intro c a d v w h; cases d <;> exact h)
      case sp5 => decide
      case sp6 => decide
      case sp7 => decide
      case sp8 => kernel_rfl
      case sp9 => kernel_rfl
      case sp11 => exact rfl
      intro X00
      simp only [pickOps, movesAct, moveOf, List.getElem?_toArray, List.getElem?_cons_zero, List.getElem?_cons_succ]
      (try go_simp)
      repeat (go_big_quiet_step (fail))
      refine wpQuiet_nil (fun X0 K Q' hK => ?_)
      clear X00
      (try go_simp)
      refine (HJ.out _).mono ?_
      rintro e w1 ⟨rfl, own1, m1, h1⟩
      have P1 := (Mod.pt (Mod.refl _ _) _).trans m1
      have M1 := Lib.hid (M0.out.trans (P1.mono (S := acT t B) (fun x hx => acT_hand hx)))
      have H1 := Lib.hid (H0.out.hand HP.out P1 h1)
      have R1 := Lib.hid (R0'.out.keep P1 (by omega))
      clear P1 m1 h1 HJ H0 M0 R0'
      clear a0 a1 a2 a3 a4 a5 a6 a7 a8 a9 a10 a11 a12 a13 a14 a15 a16 a17 a18 al
      clear c0 c1 c2 c3 c4 c5 c6 c7 c8 c9 c10 c11 c12 cl
      obtain ⟨a0, a1, a2, a3, a4, a5, a6, a7, a8, a9, a10, a11, a12, a13, a14, a15, a16, a17, a18, al⟩ := H1.out.a.blk.c19
      have af3 := H1.out.a.blk.live 3
      (try simp only [GW.to] at a0 a1 a2 a3 a4 a5 a6 a7 a8 a9 a10 a11 a12 a13 a14 a15 a16 a17 a18 af3 al)
      (try go_simp)
      refine hK _ _ ?_
      clear hK K Q'
      refine wpAny_pure_step (v := .tuple #[.int .i64 0, .bool false, .bool false]) 9 _ rfl ?sp2 ?sp3 ?sp4 ?sp5 rfl (fun w => rfl) ?_
      case sp2 => kernel_rfl
      case sp3 => kernel_rfl
      case sp4 => kernel_rfl
      case sp5 => (intro c a d v w h; cases d <;> exact h)
      (try go_simp)
      refine wpAny_pure_step (v := .int .i64 0) 10 _ rfl ?sp2 ?sp3 ?sp4 ?sp5 rfl (fun w => rfl) ?_
      case sp2 => kernel_rfl
      case sp3 => kernel_rfl
      case sp4 => kernel_rfl
      case sp5 => (intro c a d v w h; cases d <;> exact h)
      (try go_simp)
      refine wpAny_pure_step (v := .bool false) 11 _ rfl ?sp2 ?sp3 ?sp4 ?sp5 rfl (fun w => rfl) ?_
      case sp2 => kernel_rfl
      case sp3 => kernel_rfl
      case sp4 => kernel_rfl
      case sp5 => (intro c a d v w h; cases d <;> exact h)
      (try go_simp)
      refine wpAny_pure_step (v := .bool false) 12 _ rfl ?sp2 ?sp3 ?sp4 ?sp5 rfl (fun w => rfl) ?_
      case sp2 => kernel_rfl
      case sp3 => kernel_rfl
      case sp4 => kernel_rfl
      case sp5 => (intro c a d v w h; cases d <;> exact h)
      (try go_simp)
      refine wpAny_loud_step 13 _ (by kernel_rfl) rfl rfl (fun K Q' hK => ?_)
      (try go_simp)
      refine hK _ _ ?_
      clear hK K Q'
      refine wpAny_loud_step 14 _ (by kernel_rfl) rfl rfl (fun K Q' hK => ?_)
      (try go_simp)
      refine hK _ _ ?_
      clear hK K Q'
      refine wpAny_loud_step 15 _ (by kernel_rfl) rfl rfl (fun K Q' hK => ?_)
      (try go_simp)
      refine hK _ _ ?_
      clear hK K Q'
      refine wpAny_done (by kernel_rfl) ?_ _
      have H2 := Lib.hid (H1.out.set HP.out 3 (.int .i64 4) { W.a with phase := 4 } rfl ⟨rfl, rfl, rfl, rfl, rfl, rfl⟩)
      have m2 : Mod (fun x => x = t) (⟨own1, w1⟩ : GW) ⟨own1, w1.setCell ⟨b, 3, none⟩ (.int .i64 4)⟩ := Mod.st (Mod.refl _ _) H1.out.a.blk.own
      have M2 := Lib.hid (M1.out.trans (m2.mono (S := acT t B) (fun x hx => acT_t hx)))
      have R2 := Lib.hid (R1.out.keep m2 (by omega))
      go_upto_region 16 with fail
      generalize w1.setCell ⟨b, 3, none⟩ (.int .i64 4) = w2 at *
      clear m2 M1 H1 R1
      obtain ⟨r0, r1, r2, r3, r4, rl⟩ := R2.out.c5
      have rf0 := R2.out.live 0
      have rf1 := R2.out.live 1
      have rf2 := R2.out.live 2
      have rf3 := R2.out.live 3
      have rf4 := R2.out.live 4
      (try simp only [GW.to] at r0 r1 r2 r3 r4 rf0 rf1 rf2 rf3 rf4 rl)
      go_wp2_with fail
      obtain ⟨Mf, mf, Rf⟩ := put_res M2.out R2.out (Nat.le_refl _) (0) (0) (0) (false) (0) (0)
      generalize ((((((w2).setCell ⟨g.w.heap.size, 0, none⟩ (.int .i64 (0))).setCell ⟨g.w.heap.size, 1, none⟩ (.int .i64 (0))).setCell ⟨g.w.heap.size, 2, none⟩ (.int .i64 (0))).setCell ⟨g.w.heap.size, 3, none⟩ (.bool (false))).setCell ⟨g.w.heap.size, 4, none⟩ (.complex .f64 (0) (0))) = wf at *
      obtain ⟨f0, f1, f2, f3, f4, fl⟩ := Rf.c5
      (try simp only [GW.to] at f0 f1 f2 f3 f4 fl)
      refine bodyPost_ret (v := .tuple #[.agg #[.int .i64 (0), .int .i64 (0), .int .i64 (0), .bool (false), .complex .f64 (0) (0)], .bool false]) (by simp [results, Tryz.results9, go_sem, f0, f1, f2, f3, f4]) rfl ?_
      exact Does.of ⟨own1, wf⟩ rfl (by rw [← h]; rfl) Mf (by rw [← h, show W.joins.no.2 = W.joins from rfl, HD.out]; exact (H2.out.keep mf (by omega) (fun x (hx : x = 9) => by omega) (fun x (hx : x = 9) => by omega)).at_)
    · have HD := Lib.hid (show W.joins = { a := { W.a with status := W.K.hand.status, sense := W.K.hand.sense, phase := 1, pc := 0 }, K := { W.K with hand := W.K.hand.join W.a.t } } by unfold AcW.joins; rw [hj]; rfl)
      rw [show W.K.hand.joined W.a.t = .tuple #[.int .i64 W.K.hand.status, .bool W.K.hand.sense, .bool true] by unfold HandS.joined; rw [hj]; rfl] at HJ
      generalize W.K.hand.status = st at *
      generalize W.K.hand.sense = se at *
      clear hj h0 h3 hw
      go_upto_region 3 with fail
      refine wp_region_split_any [] [true, true, true, true, true, true, true, true] 8 ?sp_ox1 7 ?sp1x1 ?sp2x1 ?spEx1 ?sp3x1 ?sp4x1 ?sp5x1 ?sp6x1 ?sp7x1 ?sp8x1 ?sp9x1 ?sp10x1 ?sp11x1 ?sp12x1
      case sp10x1 => exact rfl
      case sp1x1 => kernel_rfl
      case sp2x1 => kernel_rfl
      case spEx1 => kernel_rfl
      case sp3x1 => kernel_rfl
      case sp4x1 => (intro c a d v w h; cases d <;> exact h)
      case sp5x1 => decide
      case sp6x1 => decide
      case sp7x1 => decide
      case sp8x1 => kernel_rfl
      case sp9x1 => kernel_rfl
      case sp11x1 => exact rfl
      intro X00
      simp only [pickOps, movesAct, moveOf, List.getElem?_toArray, List.getElem?_cons_zero, List.getElem?_cons_succ]
      (try go_simp)
      repeat (go_big_quiet_step (fail))
      refine wpQuiet_nil (fun X0 K Q' hK => ?_)
      clear X00
      (try go_simp)
      refine (HJ.out _).mono ?_
      rintro e w1 ⟨rfl, own1, m1, h1⟩
      have P1 := (Mod.pt (Mod.refl _ _) _).trans m1
      have M1 := Lib.hid (M0.out.trans (P1.mono (S := acT t B) (fun x hx => acT_hand hx)))
      have H1 := Lib.hid (H0.out.hand HP.out P1 h1)
      have R1 := Lib.hid (R0'.out.keep P1 (by omega))
      clear P1 m1 h1 HJ H0 M0 R0'
      clear a0 a1 a2 a3 a4 a5 a6 a7 a8 a9 a10 a11 a12 a13 a14 a15 a16 a17 a18 al
      clear c0 c1 c2 c3 c4 c5 c6 c7 c8 c9 c10 c11 c12 cl
      obtain ⟨a0, a1, a2, a3, a4, a5, a6, a7, a8, a9, a10, a11, a12, a13, a14, a15, a16, a17, a18, al⟩ := H1.out.a.blk.c19
      have af3 := H1.out.a.blk.live 3
      have af4 := H1.out.a.blk.live 4
      have af5 := H1.out.a.blk.live 5
      have af7 := H1.out.a.blk.live 7
      (try simp only [GW.to] at a0 a1 a2 a3 a4 a5 a6 a7 a8 a9 a10 a11 a12 a13 a14 a15 a16 a17 a18 af3 af4 af5 af7 al)
      (try go_simp)
      refine hK _ _ ?_
      clear hK K Q'
      refine wpAny_pure_step (v := .tuple #[.int .i64 st, .bool se, .bool true]) 9 _ rfl ?sp2 ?sp3 ?sp4 ?sp5 rfl (fun w => rfl) ?_
      case sp2 => kernel_rfl
      case sp3 => kernel_rfl
      case sp4 => kernel_rfl
      case sp5 => (intro c a d v w h; cases d <;> exact h)
      (try go_simp)
      refine wpAny_pure_step (v := .int .i64 st) 10 _ rfl ?sp2 ?sp3 ?sp4 ?sp5 rfl (fun w => rfl) ?_
      case sp2 => kernel_rfl
      case sp3 => kernel_rfl
      case sp4 => kernel_rfl
      case sp5 => (intro c a d v w h; cases d <;> exact h)
      (try go_simp)
      refine wpAny_pure_step (v := .bool se) 11 _ rfl ?sp2 ?sp3 ?sp4 ?sp5 rfl (fun w => rfl) ?_
      case sp2 => kernel_rfl
      case sp3 => kernel_rfl
      case sp4 => kernel_rfl
      case sp5 => (intro c a d v w h; cases d <;> exact h)
      (try go_simp)
      refine wpAny_pure_step (v := .bool true) 12 _ rfl ?sp2 ?sp3 ?sp4 ?sp5 rfl (fun w => rfl) ?_
      case sp2 => kernel_rfl
      case sp3 => kernel_rfl
      case sp4 => kernel_rfl
      case sp5 => (intro c a d v w h; cases d <;> exact h)
      (try go_simp)
      refine wpAny_loud_step 13 _ (by kernel_rfl) rfl rfl (fun K Q' hK => ?_)
      (try go_simp)
      refine hK _ _ ?_
      clear hK K Q'
      refine wpAny_loud_step 14 _ (by kernel_rfl) rfl rfl (fun K Q' hK => ?_)
      (try go_simp)
      refine hK _ _ ?_
      clear hK K Q'
      refine wpAny_loud_step 15 _ (by kernel_rfl) rfl rfl (fun K Q' hK => ?_)
      (try go_simp)
      refine hK _ _ ?_
      clear hK K Q'
      refine wpAny_done (by kernel_rfl) ?_ _
      have H2 := Lib.hid ((((H1.out.set HP.out 4 (.int .i64 st) { W.a with status := st } rfl ⟨rfl, rfl, rfl, rfl, rfl, rfl⟩).set HP.out 5 (.bool se) { W.a with status := st, sense := se } rfl ⟨rfl, rfl, rfl, rfl, rfl, rfl⟩).set HP.out 3 (.int .i64 1) { W.a with status := st, sense := se, phase := 1 } rfl ⟨rfl, rfl, rfl, rfl, rfl, rfl⟩).set HP.out 7 (.int .i64 0) { W.a with status := st, sense := se, phase := 1, pc := 0 } rfl ⟨rfl, rfl, rfl, rfl, rfl, rfl⟩)
      have m2 : Mod (fun x => x = t) (⟨own1, w1⟩ : GW) ⟨own1, (((w1.setCell ⟨b, 4, none⟩ (.int .i64 st)).setCell ⟨b, 5, none⟩ (.bool se)).setCell ⟨b, 3, none⟩ (.int .i64 1)).setCell ⟨b, 7, none⟩ (.int .i64 0)⟩ := Mod.st (Mod.st (Mod.st (Mod.st (Mod.refl _ _) H1.out.a.blk.own) H1.out.a.blk.own) H1.out.a.blk.own) H1.out.a.blk.own
      have M2 := Lib.hid (M1.out.trans (m2.mono (S := acT t B) (fun x hx => acT_t hx)))
      have R2 := Lib.hid (R1.out.keep m2 (by omega))
      go_upto_region 16 with fail
      generalize (((w1.setCell ⟨b, 4, none⟩ (.int .i64 st)).setCell ⟨b, 5, none⟩ (.bool se)).setCell ⟨b, 3, none⟩ (.int .i64 1)).setCell ⟨b, 7, none⟩ (.int .i64 0) = w2 at *
      clear m2 M1 H1 R1
      obtain ⟨r0, r1, r2, r3, r4, rl⟩ := R2.out.c5
      have rf0 := R2.out.live 0
      have rf1 := R2.out.live 1
      have rf2 := R2.out.live 2
      have rf3 := R2.out.live 3
      have rf4 := R2.out.live 4
      (try simp only [GW.to] at r0 r1 r2 r3 r4 rf0 rf1 rf2 rf3 rf4 rl)
      go_wp2_with fail
      obtain ⟨Mf, mf, Rf⟩ := put_res M2.out R2.out (Nat.le_refl _) (0) (0) (0) (false) (0) (0)
      generalize ((((((w2).setCell ⟨g.w.heap.size, 0, none⟩ (.int .i64 (0))).setCell ⟨g.w.heap.size, 1, none⟩ (.int .i64 (0))).setCell ⟨g.w.heap.size, 2, none⟩ (.int .i64 (0))).setCell ⟨g.w.heap.size, 3, none⟩ (.bool (false))).setCell ⟨g.w.heap.size, 4, none⟩ (.complex .f64 (0) (0))) = wf at *
      obtain ⟨f0, f1, f2, f3, f4, fl⟩ := Rf.c5
      (try simp only [GW.to] at f0 f1 f2 f3 f4 fl)
      refine bodyPost_ret (v := .tuple #[.agg #[.int .i64 (0), .int .i64 (0), .int .i64 (0), .bool (false), .complex .f64 (0) (0)], .bool false]) (by simp [results, Tryz.results9, go_sem, f0, f1, f2, f3, f4]) rfl ?_
      exact Does.of ⟨own1, wf⟩ rfl (by rw [← h]; rfl) Mf (by rw [← h, show W.joins.no.2 = W.joins from rfl, HD.out]; exact (H2.out.keep mf (by omega) (fun x (hx : x = 9) => by omega) (fun x (hx : x = 9) => by omega)).at_)
  rw [if_neg h0] at h
  by_cases h1 : W.a.phase = 1
  · rw [if_pos h1] at h
    split at h
    case isFalse => cases h
    case isTrue hg =>
      injection h with h
      have HB := Lib.hid (act_border (g := ⟨own0, w0⟩) P hbd hg hl2 hol H0.out.at_)
      rw [h1] at a3
      clear h0 h1 h3 hw hg hbd
      go_wp2_with fail
      refine HB.out.mono ?_
      rintro e w1 ⟨rfl, own1, m1, h1⟩
      obtain ⟨p1, bm1, bs1, bt1, bp1, bsp1, bh1, cm1, h1⟩ := h1
      have M1 := Lib.hid (M0.out.trans m1)
      have H1 := Lib.hid h1
      have R1 := Lib.hid (R0'.out.keep m1 (fun h => by unfold acT at h; omega))
      clear m1 h1 HB H0 M0 R0'
      clear a0 a1 a2 a3 a4 a5 a6 a7 a8 a9 a10 a11 a12 a13 a14 a15 a16 a17 a18 al
      obtain ⟨r0, r1, r2, r3, r4, rl⟩ := R1.out.c5
      have rf0 := R1.out.live 0
      have rf1 := R1.out.live 1
      have rf2 := R1.out.live 2
      have rf3 := R1.out.live 3
      have rf4 := R1.out.live 4
      (try simp only [GW.to] at r0 r1 r2 r3 r4 rf0 rf1 rf2 rf3 rf4 rl)
      go_wp2_with fail
      obtain ⟨Mf, mf, Rf⟩ := put_res M1.out R1.out (Nat.le_refl _) (0) (0) (0) (false) (0) (0)
      generalize ((((((w1).setCell ⟨g.w.heap.size, 0, none⟩ (.int .i64 (0))).setCell ⟨g.w.heap.size, 1, none⟩ (.int .i64 (0))).setCell ⟨g.w.heap.size, 2, none⟩ (.int .i64 (0))).setCell ⟨g.w.heap.size, 3, none⟩ (.bool (false))).setCell ⟨g.w.heap.size, 4, none⟩ (.complex .f64 (0) (0))) = wf at *
      obtain ⟨f0, f1, f2, f3, f4, fl⟩ := Rf.c5
      (try simp only [GW.to] at f0 f1 f2 f3 f4 fl)
      refine bodyPost_ret (v := .tuple #[.agg #[.int .i64 (0), .int .i64 (0), .int .i64 (0), .bool (false), .complex .f64 (0) (0)], .bool false]) (by simp [results, Tryz.results9, go_sem, f0, f1, f2, f3, f4]) rfl ?_
      exact Does.of ⟨own1, wf⟩ rfl (by rw [← h]; rfl) Mf (by rw [← h]; exact (H1.out.keep mf (by omega) (fun x (hx : x = 9) => by omega) (fun x (hx : x = 9) => by omega)).at_)
  rw [if_neg h1] at h
  by_cases h2 : W.a.phase = 2
  · rw [if_pos h2] at h
    split at h
    case isFalse => cases h
    case isTrue hg =>
      rw [Bool.and_eq_true] at hg
      obtain ⟨hg1, hg2⟩ := hg
      have hop : W.a.next < W.a.ops.length := of_decide_eq_true hg1
      have hlo : (W.a.locals.length : Int) = W.K.c.locals := of_decide_eq_true hg2
      have hwk := hw.resolve_left (fun hh => hh h2)
      have eo := IntWalk.i64_in (W.a.own + 1) (by have := hd.own; omega)
      have H1 := Lib.hid (show AcIn ⟨own0, w0.setCell ⟨b, 10, none⟩ (.int .i64 (W.a.own + 1))⟩ t B b k W.up p bm bs bt bp bsp bh cm from H0.out.set HP.out 10 (.int .i64 (W.a.own + 1)) { W.a with own := W.a.own + 1 } rfl ⟨rfl, rfl, rfl, rfl, rfl, rfl⟩)
      have m1 : Mod (fun x => x = t) (⟨own0, w0⟩ : GW) ⟨own0, w0.setCell ⟨b, 10, none⟩ (.int .i64 (W.a.own + 1))⟩ := Mod.st (Mod.refl _ _) H0.out.a.blk.own
      have M1 := Lib.hid (M0.out.trans (m1.mono (S := acT t B) (fun x hx => acT_t hx)))
      have R1 := Lib.hid (R0'.out.keep m1 (by omega))
      have af10 := H0.out.a.blk.live 10
      rw [h2] at a3
      clear m1 h0 h1 h3 hw hg1 hg2 hbd h2
      obtain ⟨hd1, hd2⟩ := hd.own
      go_upto_region 12 with fail
      generalize w0.setCell ⟨b, 10, none⟩ (.int .i64 (W.a.own + 1)) = w1 at *
      clear M0 H0 R0' eo af10
      clear a0 a1 a2 a3 a4 a5 a6 a7 a8 a9 a10 a11 a12 a13 a14 a15 a16 a17 a18 al
      obtain ⟨⟨rr, rb⟩, rW⟩ := r
      have HWI := Lib.hid (show Calls Tryz.prog 28 #[.pointer (some ⟨b, 0, none⟩), .pointer (some ⟨k, 0, none⟩)] w1 (Does (.tuple #[.agg #[.int .i64 rr.op, .int .i64 rr.own, .int .i64 rr.e, .bool rr.v.ref, .complex .f64 rr.v.z.1 rr.v.z.2], .bool rb]) ⟨own0, w1⟩ (acT t B) (fun g' => AcWAt g' t B b k rW)) from act_within (g := ⟨own0, w1⟩) (W := W.up) P ⟨hd.next, hd.hand, hd.sp, hd.mem, hd.n, hd.line⟩ hck hlo hl2 hop hwk H1.out ((rr, rb), rW) h)
      clear h
      go_wp2_with fail
      refine HWI.out.mono ?_
      rintro e w7 ⟨rfl, own7, m7, h7⟩
      have M7 := Lib.hid (M1.out.trans m7)
      have H7 := Lib.hid h7
      have R7 := Lib.hid (R1.out.keep m7 (fun h => by unfold acT at h; omega))
      clear M1 H1 R1 m7 h7 HWI
      obtain ⟨r0, r1, r2, r3, r4, rl⟩ := R7.out.c5
      have rf0 := R7.out.live 0
      have rf1 := R7.out.live 1
      have rf2 := R7.out.live 2
      have rf3 := R7.out.live 3
      have rf4 := R7.out.live 4
      (try simp only [GW.to] at r0 r1 r2 r3 r4 rf0 rf1 rf2 rf3 rf4 rl)
      go_wp2_with fail
      obtain ⟨Mf, mf, Rf⟩ := put_res M7.out R7.out (Nat.le_refl _) (rr.op) (rr.own) (rr.e) (rr.v.ref) (rr.v.z.1) (rr.v.z.2)
      generalize ((((((w7).setCell ⟨g.w.heap.size, 0, none⟩ (.int .i64 (rr.op))).setCell ⟨g.w.heap.size, 1, none⟩ (.int .i64 (rr.own))).setCell ⟨g.w.heap.size, 2, none⟩ (.int .i64 (rr.e))).setCell ⟨g.w.heap.size, 3, none⟩ (.bool (rr.v.ref))).setCell ⟨g.w.heap.size, 4, none⟩ (.complex .f64 (rr.v.z.1) (rr.v.z.2))) = wf at *
      obtain ⟨f0, f1, f2, f3, f4, fl⟩ := Rf.c5
      (try simp only [GW.to] at f0 f1 f2 f3 f4 fl)
      refine bodyPost_ret (v := .tuple #[.agg #[.int .i64 (rr.op), .int .i64 (rr.own), .int .i64 (rr.e), .bool (rr.v.ref), .complex .f64 (rr.v.z.1) (rr.v.z.2)], .bool rb]) (by simp [results, Tryz.results9, go_sem, f0, f1, f2, f3, f4]) rfl ?_
      obtain ⟨p5, bm5, bs5, bt5, bp5, bsp5, bh5, cm5, h8⟩ := H7.out
      exact Does.of ⟨own7, wf⟩ rfl rfl Mf ((h8.keep mf (by omega) (fun x (hx : x = 9) => by omega) (fun x (hx : x = 9) => by omega)).at_)
  rw [if_neg h2, if_neg h3] at h
  by_cases h4 : W.a.phase = 4
  · rw [if_pos h4] at h
    injection h with h
    rw [h4] at a3
    clear h0 h1 h2 h3 hw
    go_upto_region 16 with fail
    clear a0 a1 a2 a3 a4 a5 a6 a7 a8 a9 a10 a11 a12 a13 a14 a15 a16 a17 a18 al
    have M1 := M0
    have R1 := R0'
    have H1 := H0
    clear M0 R0' H0
    generalize w0 = w1 at *
    obtain ⟨r0, r1, r2, r3, r4, rl⟩ := R1.out.c5
    have rf0 := R1.out.live 0
    have rf1 := R1.out.live 1
    have rf2 := R1.out.live 2
    have rf3 := R1.out.live 3
    have rf4 := R1.out.live 4
    (try simp only [GW.to] at r0 r1 r2 r3 r4 rf0 rf1 rf2 rf3 rf4 rl)
    go_wp2_with fail
    obtain ⟨Mf, mf, Rf⟩ := put_res M1.out R1.out (Nat.le_refl _) (0) (0) (0) (false) (0) (0)
    generalize ((((((w1).setCell ⟨g.w.heap.size, 0, none⟩ (.int .i64 (0))).setCell ⟨g.w.heap.size, 1, none⟩ (.int .i64 (0))).setCell ⟨g.w.heap.size, 2, none⟩ (.int .i64 (0))).setCell ⟨g.w.heap.size, 3, none⟩ (.bool (false))).setCell ⟨g.w.heap.size, 4, none⟩ (.complex .f64 (0) (0))) = wf at *
    obtain ⟨f0, f1, f2, f3, f4, fl⟩ := Rf.c5
    (try simp only [GW.to] at f0 f1 f2 f3 f4 fl)
    refine bodyPost_ret (v := .tuple #[.agg #[.int .i64 (0), .int .i64 (0), .int .i64 (0), .bool (false), .complex .f64 (0) (0)], .bool false]) (by simp [results, Tryz.results9, go_sem, f0, f1, f2, f3, f4]) rfl ?_
    exact Does.of ⟨own0, wf⟩ rfl (by rw [← h]; rfl) Mf (by rw [← h]; exact (H1.out.keep mf (by omega) (fun x (hx : x = 9) => by omega) (fun x (hx : x = 9) => by omega)).at_)
  rw [if_neg h4] at h
  cases h
end
end Go.Proofs.YtoaehfdjffejeaaGreat

/-
  shade: Count.
-/
namespace Go.Proofs.YtoaehfdjffejeaaGreat
open Go Go.RowKit
set_option linter.unusedVariables false
theorem shade_count (g : GW) (t b bt bp : Nat) (n : Int) (h : Blk g t b 58 [.pointer (some ⟨bt, 0, none⟩), .pointer (some ⟨bp, 0, none⟩), .int .i64 n]) :
    Calls Tryz.prog 47 #[.pointer (some ⟨b, 0, none⟩)] g.w (fun e w' => e = .returned (.int .i64 n) ∧ g.w = w') := by
  have c2 := h.cell (i := 2) rfl
  clear h
  go_enter Tryz.func47, Tryz.ntmps47
  go_wp2_with fail
  go_ret
  exact ⟨rfl, rfl⟩
end Go.Proofs.YtoaehfdjffejeaaGreat

/-
  core: Count; space.Wants; spolaw22.first.
-/
namespace Go.Proofs.YtoaehfdjffejeaaGreat
open Go Go.RowKit
set_option linter.unusedVariables false
set_option linter.unnecessarySimpa false
set_option linter.unusedSimpArgs false
set_option maxHeartbeats 4000000
def CoreS.count (K : CoreS) : Int := K.mem.count + K.n + K.sp.count + K.hand.count
theorem core_count (g : GW) (B b : Nat) (K : CoreS) (h : CoreAt g B b K) (h1 : 0 ≤ K.mem.count ∧ K.mem.count ≤ 1099511627776) (h2 : 0 ≤ K.n ∧ K.n ≤ 1099511627776) (h3 : 0 ≤ K.sp.count ∧ K.sp.count ≤ 1099511627776) (h4 : 0 ≤ K.hand.count ∧ K.hand.count ≤ 1099511627776) :
    Calls Tryz.prog 25 #[.pointer (some ⟨b, 0, none⟩)] g.w (Gives (.int .i64 (CoreS.count K)) g.w) := by
  obtain ⟨bm, bs, bt, bp, bsp, bh, cm, h⟩ := h
  obtain ⟨_, _⟩ := h1
  obtain ⟨_, _⟩ := h2
  obtain ⟨_, _⟩ := h3
  obtain ⟨_, _⟩ := h4
  have H := Lib.hid h
  have HV := Lib.hid (show CoreS.count K = K.mem.count + K.n + K.sp.count + K.hand.count from rfl)
  have HM := Lib.hid (fun X => same_gives (mem_count (g.pt X) (B + 62) bm K.mem (H.out.mem.pt X)))
  have HS := Lib.hid (fun X => same_gives (shade_count (g.pt X) (B + 60) bs bt bp K.n (H.out.sh.pt X)))
  have HP := Lib.hid (fun X => same_gives (space_count (g.pt X) B bsp bt K.sp (H.out.sp.keep (Mod.pt (Mod.refl (fun _ => False) _) X) (fun x hx => hx.elim))))
  have HH := Lib.hid (fun X => same_gives (hand_count (g.pt X) (B + 63) bh K.hand (H.out.hand.keep (Mod.pt (Mod.refl (fun _ => False) _) X) id)))
  obtain ⟨a0, a1, a2, a3, a4, a5, a6, a7, a8, a9, a10, a11, a12, al⟩ := h.blk.c13
  (try simp only [GW.to] at a0 a1 a2 a3 a4 a5 a6 a7 a8 a9 a10 a11 a12 al)
  clear h
  generalize CoreS.count K = v at *
  generalize K.mem.count = x1 at *
  generalize K.n = x2 at *
  generalize K.sp.count = x3 at *
  generalize K.hand.count = x4 at *
  go_enter Tryz.func25, Tryz.ntmps25
  go_wp2_with fail
  refine wp_region_mixed [true, true, true, true, true, true, true, true, true, true, true, true, true, true, true, true, true, true, true, true, true, true, true, true] 0 24 (by kernel_rfl) (by kernel_rfl) (by kernel_rfl) ?_ (by decide) (by decide) (by decide) (by kernel_rfl) ?_
  · intro c a d v w h; cases d <;> exact h
  intro X00
  simp only [pickOps]
  repeat (go_big_quiet_step (first | (go_at_call 46; exact Calls.added (HM.out _)) | (go_at_call 47; exact Calls.added (HS.out _)) | (go_at_call 48; exact Calls.added (HP.out _)) | (go_at_call 49; exact Calls.added (HH.out _))))
  refine wpQuiet_nil (fun X0 => ?_)
  clear X00
  refine wpAnyM_done (by kernel_rfl) (fun X0' => ?_) _
  go_wp2_with fail
  go_ret
  exact Gives.int (by rw [HV.out]) (by (repeat (first | (with_reducible (first | assumption | exact zR _ | exact zM _ _ _ _)) | apply zA | refine zS ?_ (by first | exact zL _ | exact zK _ _ | assumption) _ | apply zP | apply zD | apply zN)))
def cOne (A : Option Addr) : Cnf := ⟨4, 0, 0, 1, 1, 0, 1, 0, A, 1, [⟨false, none, 0, []⟩]⟩
def cNil : Cnf := ⟨0, 0, 0, 0, 0, 0, 0, 0, none, 0, []⟩
end Go.Proofs.YtoaehfdjffejeaaGreat

/-
  sporef19.Print: of equal operations it is the same.
-/
namespace Go.Proofs.YtoaehfdjffejeaaGreat
open Go Go.RowKit
set_option linter.unusedVariables false

def Says (f : FuncId) (args : Array Value) (n : Nat) : Prop := ∃ s : ByteArray, s.size ≤ n ∧ ∀ w, Calls Tryz.prog f args w (Gives (.string s) w)

def hexB (i : Nat) : UInt8 := (#[48, 49, 50, 51, 52, 53, 54, 55, 56, 57, 97, 98, 99, 100, 101, 102] : Array UInt8).getD i 0
def hexQ (u : Int) : Nat → Int
  | 0 => u / 1152921504606846976
  | 1 => u / 72057594037927936
  | 2 => u / 4503599627370496
  | 3 => u / 281474976710656
  | 4 => u / 17592186044416
  | 5 => u / 1099511627776
  | 6 => u / 68719476736
  | 7 => u / 4294967296
  | 8 => u / 268435456
  | 9 => u / 16777216
  | 10 => u / 1048576
  | 11 => u / 65536
  | 12 => u / 4096
  | 13 => u / 256
  | 14 => u / 16
  | _ => u
def hexL (u : Int) (j : Nat) : UInt8 := hexB (hexQ u j % 16).toNat
end Go.Proofs.YtoaehfdjffejeaaGreat

/-
  Bits of floats: sporef1.bits, Bits; sporef.part, Word.
-/
namespace Go.Proofs.YtoaehfdjffejeaaGreat
open Go Go.RowKit
set_option linter.unusedVariables false

theorem f64bits (b : Nat) (w : World) : (callFunc 65 #[.float .f64 b]).run Tryz.prog w = .ok (.value (.int .u64 b)) w :=
  run_callFunc_extern (e := Extern.MathFloatBits.float64bits) Tryz.func65 (by kernel_rfl) (by kernel_rfl) (by kernel_rfl) (by kernel_rfl) _ _

def canon (b : Nat) : Int := if 18437736874454810624 < IntKind.u64.wrap ((b : Int) * 2) then 9221120237041090560 else b
theorem canon_yes {b : Nat} (h : 18437736874454810624 < IntKind.u64.wrap ((b : Int) * 2)) : canon b = 9221120237041090560 := if_pos h
theorem canon_no {b : Nat} (h : ¬ 18437736874454810624 < IntKind.u64.wrap ((b : Int) * 2)) : canon b = b := if_neg h
set_option maxRecDepth 100000 in
theorem part64_any (b : Nat) (w : World) : Calls Tryz.prog 31 #[.float .f64 b] w fun e w' => e = .returned (.int .u64 (canon b)) ∧ w = w' := by
  have hf := f64bits
  by_cases h : 18437736874454810624 < IntKind.u64.wrap ((b : Int) * 2)
  · have HV := Lib.hid (canon_yes h)
    go_enter Tryz.func31, Tryz.ntmps31
    go_wp2
    go_ret
    exact ⟨by rw [HV.out]; rfl, rfl⟩
  · have HV := Lib.hid (canon_no h)
    go_enter Tryz.func31, Tryz.ntmps31
    go_wp2
    go_ret
    exact ⟨by rw [HV.out]; rfl, rfl⟩

def sameW (p q : Nat × Nat) : Bool := decide (canon p.1 = canon q.1) && decide (canon p.2 = canon q.2)
theorem word_any (p q : Nat × Nat) (w : World) : Calls Tryz.prog 11 #[.complex .f64 p.1 p.2, .complex .f64 q.1 q.2] w fun e w' => e = .returned (.bool (sameW p q)) ∧ w = w' := by
  have H := Lib.hid (fun b w => part64_any b w)
  have HW := Lib.hid (show sameW p q = (decide (canon p.1 = canon q.1) && decide (canon p.2 = canon q.2)) from rfl)
  by_cases h1 : canon p.1 = canon q.1
  · have H1 := Lib.hid h1
    have b1 : (canon p.1 == canon q.1) = true := by simp [h1]
    clear h1
    by_cases h2 : canon p.2 = canon q.2
    · have H2 := Lib.hid h2
      have b2 : (canon p.2 == canon q.2) = true := by simp [h2]
      clear h2
      go_enter Tryz.func11, Tryz.ntmps11
      go_wp2_with (go_at_call 31; refine (H.out _ _).mono ?_; rintro e w1 ⟨rfl, rfl⟩)
      go_ret
      exact ⟨by rw [HW.out, H1.out, H2.out]; simp, rfl⟩
    · have H2 := Lib.hid h2
      have b2 : (canon p.2 == canon q.2) = false := by simp [h2]
      clear h2
      go_enter Tryz.func11, Tryz.ntmps11
      go_wp2_with (go_at_call 31; refine (H.out _ _).mono ?_; rintro e w1 ⟨rfl, rfl⟩)
      go_ret
      exact ⟨by rw [HW.out]; simp [H2.out], rfl⟩
  · have H1 := Lib.hid h1
    have b1 : (canon p.1 == canon q.1) = false := by simp [h1]
    clear h1
    go_enter Tryz.func11, Tryz.ntmps11
    go_wp2_with (go_at_call 31; refine (H.out _ _).mono ?_; rintro e w1 ⟨rfl, rfl⟩)
    go_ret
    exact ⟨by rw [HW.out]; simp [H1.out], rfl⟩
end Go.Proofs.YtoaehfdjffejeaaGreat

/-
  tale.Small: a small configuration.
-/
namespace Go
theorem cellsAt_new (w : World) (cs : List Value) (t : TypeId) (n : Nat) (h : n = w.heap.size) : CellsAt (w.alloc (.cells cs.toArray t)) (some ⟨n, 0, none⟩) cs := by
  subst h
  refine CellsAt.mk (by simp) (fun i v hi => ?_)
  rw [Nat.zero_add, World.cell?_alloc_new]
  simpa using hi
def partOf (n by_ : Int) : Int := if n < 0 then 0 else n % by_
def nineTo (k : Nat) : List Bool := (List.range 9).map fun j => decide (j < k) && decide (j % 3 ≠ 2)
def Cnf.sig (c : Cnf) : List Int × List (Bool × List Bool) := ([c.frags, c.spine, c.globals, c.threads, c.locals, c.cache, c.stack, c.low], c.shapes.map fun s => (s.arr, s.refs))
def smallSig (n : Int) : List Int × List (Bool × List Bool) := ([16 + partOf n 32, 24 + partOf n 40, 2, 3, 3, partOf n 3, 1 + partOf n 4, partOf n 4],
  [(false, [true, true, false]), (false, [true, true, false, true, true, false, true, true, false]), (true, [true]), (true, [false]), (false, [])])
def SmallGot (n : Int) (w : World) (e : Ending) (w' : World) : Prop := ∃ c : Cnf, e = .returned c.val ∧ c.sig = smallSig n ∧ c.Ok w' ∧ Ext w w'
end Go
namespace Go.Proofs.YtoaehfdjffejeaaGreat
open Go Go.RowKit
set_option linter.unusedVariables false

def nineC (k : Nat) : Obj := .cells ((nineTo k).map Value.bool).toArray 4

end Go.Proofs.YtoaehfdjffejeaaGreat

