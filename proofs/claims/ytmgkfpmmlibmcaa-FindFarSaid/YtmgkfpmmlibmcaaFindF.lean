/-
  find: New; the head.
-/
import Derived.Test.YtmgkfpmmlibmcaaFindS
import Derived.Test.YtmgkfpmmlibmcaaShape2
import Derived.Deep.DeepCutAuto
namespace Go.Proofs.Ytmgkfpmmlibmcaa
open Go Go.RowKit
set_option linter.unusedVariables false
set_option linter.unnecessarySimpa false
set_option linter.unusedSimpArgs false
set_option maxHeartbeats 2000000
def FindMade (c : Cnf) (head k : Int) (array : Bool) (frag : Int) (t : Nat) (g : GW) (e : Ending) (w' : World) : Prop := ∃ own' b cm, e = .returned (.pointer (some ⟨b, 0, none⟩)) ∧ Mod (fun _ => False) g ⟨own', w'⟩ ∧ FindAt ⟨own', w'⟩ t b (FindS.fresh cm head k array frag) ∧ cm.Same c
theorem find_field (c : Cnf) (head k : Int) (t : Nat) (g : GW) (hc : c.Ok g.w) (hmax : c.shapes.length ≤ 1000000) : Calls Try.prog 22 #[c.val, .int .i64 head, .int .i64 k] g.w (FindMade c head k false head t g) := by
  have HC := Lib.hid (copy_any c (t + 1) (g.to 9 (g.w.alloc (.cells #[.int .i64 c.frags, .int .i64 c.spine, .int .i64 c.globals, .int .i64 c.threads, .int .i64 c.locals, .int .i64 c.cache, .int .i64 c.stack, .int .i64 c.low, .slice c.A c.shapes.length c.cap] 24))) (hc.ext (by (repeat (first | (with_reducible assumption) | (with_reducible exact Ext.refl _) | (with_reducible exact Ext.more _ _ _ _) | apply Ext.alloc | refine Ext.setCell ?_ (by first | exact Nat.le_refl _ | exact Nat.le_add_right _ _ | assumption) _ | apply Ext.patch | apply Ext.drew | apply Ext.drewN)))) hmax)
  have HE0 := Lib.hid (Mod.ext (T := fun _ => False) (g := g) (show Ext g.w (g.w.alloc (.cells #[.int .i64 c.frags, .int .i64 c.spine, .int .i64 c.globals, .int .i64 c.threads, .int .i64 c.locals, .int .i64 c.cache, .int .i64 c.stack, .int .i64 c.low, .slice c.A c.shapes.length c.cap] 24)) by (repeat (first | (with_reducible assumption) | (with_reducible exact Ext.refl _) | (with_reducible exact Ext.more _ _ _ _) | apply Ext.alloc | refine Ext.setCell ?_ (by first | exact Nat.le_refl _ | exact Nat.le_add_right _ _ | assumption) _ | apply Ext.patch | apply Ext.drew | apply Ext.drewN))) 9)
  unfold Cnf.val at HC ⊢
  clear hc
  go_enter Try.func22, Try.ntmps22
  go_wp2_with fail
  refine HC.out.mono ?_
  rintro e w1 ⟨cm, rfl, hs, hm, hE⟩
  have HS := Lib.hid hs
  have HM := Lib.hid hm
  have HE1 := Lib.hid (Mod.ext (T := fun _ => False) (g := g.to 9 (g.w.alloc (.cells #[.int .i64 c.frags, .int .i64 c.spine, .int .i64 c.globals, .int .i64 c.threads, .int .i64 c.locals, .int .i64 c.cache, .int .i64 c.stack, .int .i64 c.low, .slice c.A c.shapes.length c.cap] 24))) hE (t + 1))
  clear hs hm hE
  unfold Cnf.val
  go_wp2_with fail
  go_ret
  have m2 : Mod (fun _ => False) ((g.to 9 (g.w.alloc (.cells #[.int .i64 c.frags, .int .i64 c.spine, .int .i64 c.globals, .int .i64 c.threads, .int .i64 c.locals, .int .i64 c.cache, .int .i64 c.stack, .int .i64 c.low, .slice c.A c.shapes.length c.cap] 24))).to (t + 1) w1) _ := Mod.ext (T := fun _ => False) (show Ext w1 (w1.alloc (.cells (FindS.fresh cm head k false head).cells.toArray 130)) by (repeat (first | (with_reducible assumption) | (with_reducible exact Ext.refl _) | (with_reducible exact Ext.more _ _ _ _) | apply Ext.alloc | refine Ext.setCell ?_ (by first | exact Nat.le_refl _ | exact Nat.le_add_right _ _ | assumption) _ | apply Ext.patch | apply Ext.drew | apply Ext.drewN))) t
  exact ⟨_, w1.heap.size, cm, rfl, (HE0.out.trans HE1.out).trans m2, ⟨Blk.new ((g.to 9 (g.w.alloc (.cells #[.int .i64 c.frags, .int .i64 c.spine, .int .i64 c.globals, .int .i64 c.threads, .int .i64 c.locals, .int .i64 c.cache, .int .i64 c.stack, .int .i64 c.low, .slice c.A c.shapes.length c.cap] 24))).to (t + 1) w1) t 130 (FindS.fresh cm head k false head).cells, HM.out.keep m2 id⟩, HS.out⟩
theorem find_elem (c : Cnf) (head k : Int) (t : Nat) (g : GW) (hc : c.Ok g.w) (hmax : c.shapes.length ≤ 1000000) : Calls Try.prog 29 #[c.val, .int .i64 head, .int .i64 k] g.w (FindMade c head k true 0 t g) := by
  have HC := Lib.hid (copy_any c (t + 1) (g.to 9 (g.w.alloc (.cells #[.int .i64 c.frags, .int .i64 c.spine, .int .i64 c.globals, .int .i64 c.threads, .int .i64 c.locals, .int .i64 c.cache, .int .i64 c.stack, .int .i64 c.low, .slice c.A c.shapes.length c.cap] 24))) (hc.ext (by (repeat (first | (with_reducible assumption) | (with_reducible exact Ext.refl _) | (with_reducible exact Ext.more _ _ _ _) | apply Ext.alloc | refine Ext.setCell ?_ (by first | exact Nat.le_refl _ | exact Nat.le_add_right _ _ | assumption) _ | apply Ext.patch | apply Ext.drew | apply Ext.drewN)))) hmax)
  have HE0 := Lib.hid (Mod.ext (T := fun _ => False) (g := g) (show Ext g.w (g.w.alloc (.cells #[.int .i64 c.frags, .int .i64 c.spine, .int .i64 c.globals, .int .i64 c.threads, .int .i64 c.locals, .int .i64 c.cache, .int .i64 c.stack, .int .i64 c.low, .slice c.A c.shapes.length c.cap] 24)) by (repeat (first | (with_reducible assumption) | (with_reducible exact Ext.refl _) | (with_reducible exact Ext.more _ _ _ _) | apply Ext.alloc | refine Ext.setCell ?_ (by first | exact Nat.le_refl _ | exact Nat.le_add_right _ _ | assumption) _ | apply Ext.patch | apply Ext.drew | apply Ext.drewN))) 9)
  unfold Cnf.val at HC ⊢
  clear hc
  go_enter Try.func29, Try.ntmps29
  go_wp2_with fail
  refine HC.out.mono ?_
  rintro e w1 ⟨cm, rfl, hs, hm, hE⟩
  have HS := Lib.hid hs
  have HM := Lib.hid hm
  have HE1 := Lib.hid (Mod.ext (T := fun _ => False) (g := g.to 9 (g.w.alloc (.cells #[.int .i64 c.frags, .int .i64 c.spine, .int .i64 c.globals, .int .i64 c.threads, .int .i64 c.locals, .int .i64 c.cache, .int .i64 c.stack, .int .i64 c.low, .slice c.A c.shapes.length c.cap] 24))) hE (t + 1))
  clear hs hm hE
  unfold Cnf.val
  go_wp2_with fail
  go_ret
  have m2 : Mod (fun _ => False) ((g.to 9 (g.w.alloc (.cells #[.int .i64 c.frags, .int .i64 c.spine, .int .i64 c.globals, .int .i64 c.threads, .int .i64 c.locals, .int .i64 c.cache, .int .i64 c.stack, .int .i64 c.low, .slice c.A c.shapes.length c.cap] 24))).to (t + 1) w1) _ := Mod.ext (T := fun _ => False) (show Ext w1 (w1.alloc (.cells (FindS.fresh cm head k true 0).cells.toArray 130)) by (repeat (first | (with_reducible assumption) | (with_reducible exact Ext.refl _) | (with_reducible exact Ext.more _ _ _ _) | apply Ext.alloc | refine Ext.setCell ?_ (by first | exact Nat.le_refl _ | exact Nat.le_add_right _ _ | assumption) _ | apply Ext.patch | apply Ext.drew | apply Ext.drewN))) t
  exact ⟨_, w1.heap.size, cm, rfl, (HE0.out.trans HE1.out).trans m2, ⟨Blk.new ((g.to 9 (g.w.alloc (.cells #[.int .i64 c.frags, .int .i64 c.spine, .int .i64 c.globals, .int .i64 c.threads, .int .i64 c.locals, .int .i64 c.cache, .int .i64 c.stack, .int .i64 c.low, .slice c.A c.shapes.length c.cap] 24))).to (t + 1) w1) t 130 (FindS.fresh cm head k true 0).cells, HM.out.keep m2 id⟩, HS.out⟩
/-- The head of a thing of the other kind. -/
theorem find_first_kind (g : GW) (t b : Nat) (S : FindS) (p q : Nat) (kd md : Int) (arr : Bool) (refs : List Bool) (h : FindAt g t b S) (ht : ∀ w, Calls Try.prog 198 #[.complex .f64 p q] w (Gives (.tuple #[.int .i64 kd, .int .i64 md, .bool true]) w)) (hat : S.c.shapeAt kd = some (arr, refs)) (hne : arr ≠ S.array) :
    Calls Try.prog 161 #[.pointer (some ⟨b, 0, none⟩), .complex .f64 p q] g.w (Does (.bool false) g (fun x => x = t) (fun g' => FindAt g' t b (S.ends 4))) := by
  have HSH := Lib.hid (fun w' (he : Ext g.w w') => shape_any S.c kd w' (h.cnf.ok.ext he))
  unfold Cnf.val at HSH
  have H := Lib.hid h
  have HT := Lib.hid (ht g.w)
  clear h ht
  go_enter Try.func161, Try.ntmps161
  go_wp2_with fail
  refine HT.out.mono ?_
  rintro e w1 ⟨rfl, hE⟩
  have HE1 := Lib.hid (Mod.ext (T := fun _ => False) (g := g) (show Ext g.w w1 from hE) 0)
  have H1 := Lib.hid (H.out.keep HE1.out id id)
  have HX1 := Lib.hid (show Ext g.w w1 from hE)
  clear hE HT
  have k0 := H1.out.blk.cell (i := 0) rfl
  have k1 := H1.out.blk.cell (i := 1) rfl
  have k2 := H1.out.blk.cell (i := 2) rfl
  have k3 := H1.out.blk.cell (i := 3) rfl
  have k4 := H1.out.blk.cell (i := 4) rfl
  have k5 := H1.out.blk.cell (i := 5) rfl
  have k6 := H1.out.blk.cell (i := 6) rfl
  have k7 := H1.out.blk.cell (i := 7) rfl
  have k8 := H1.out.blk.cell (i := 8) rfl
  have hl := H1.out.blk.lt
  simp only [GW.to] at k0 k1 k2 k3 k4 k5 k6 k7 k8 hl
  go_wp2_with fail
  refine (HSH.out _ HX1.out).mono ?_
  rintro e w2 ⟨s', rfl, hs, hfr, hok, hE⟩
  have HS := Lib.hid (hs.trans (by rw [hat]; rfl : _ = (arr, refs)))
  have HI := Lib.hid (show (S.c.shapeAt kd).isSome = true by rw [hat]; rfl)
  have HOK := Lib.hid hok
  clear hs hfr hok HSH k0 k1 k2 k3 k4 k5 k6 k7 k8 hl hat
  rw [HI.out]
  obtain ⟨arr', A', cap', refs'⟩ := s'
  have ha : arr' = arr := congrArg Prod.fst HS.out
  have hr : refs' = refs := congrArg Prod.snd HS.out
  subst ha hr
  clear HS HI
  unfold Shp.val
  have HE2 := Lib.hid (Mod.ext (T := fun _ => False) (g := g.to 0 w1) (show Ext w1 (w2.alloc (.cells #[.bool arr', .slice A' refs'.length cap'] 29)) from (show Ext w1 w2 from hE).trans (by (repeat (first | (with_reducible assumption) | (with_reducible exact Ext.refl _) | (with_reducible exact Ext.more _ _ _ _) | apply Ext.alloc | refine Ext.setCell ?_ (by first | exact Nat.le_refl _ | exact Nat.le_add_right _ _ | assumption) _ | apply Ext.patch | apply Ext.drew | apply Ext.drewN)))) 0)
  have HE := Lib.hid (HE1.out.trans HE2.out)
  have H2 := Lib.hid (H1.out.keep HE2.out id id)
  have HB := Lib.hid (show (w2.alloc (.cells #[.bool arr', .slice A' refs'.length cap'] 29)).heap[w2.heap.size]? = some (.cells #[.bool arr', .slice A' refs'.length cap'] 29) from World.row_alloc_new _)
  have HOK2 := Lib.hid (HOK.out.ext (show Ext w2 (w2.alloc (.cells #[.bool arr', .slice A' refs'.length cap'] 29)) by (repeat (first | (with_reducible assumption) | (with_reducible exact Ext.refl _) | (with_reducible exact Ext.more _ _ _ _) | apply Ext.alloc | refine Ext.setCell ?_ (by first | exact Nat.le_refl _ | exact Nat.le_add_right _ _ | assumption) _ | apply Ext.patch | apply Ext.drew | apply Ext.drewN))))
  clear hE H1 HX1 HE1 HE2 H HOK
  go_upto_region 3 with fail
  generalize w2.heap.size = bs at *
  generalize w2.alloc (.cells #[.bool arr', .slice A' refs'.length cap'] 29) = wb at *
  have c0 := H2.out.blk.cell (i := 11) rfl
  have hl := H2.out.blk.lt
  have s0 : wb.cell? ⟨bs, 0, none⟩ = some (.bool arr') := by simp only [World.cell?, HB.out]; rfl
  have hbs : bs < wb.heap.size := (Array.getElem?_eq_some_iff.1 HB.out).1
  simp only [GW.to] at c0 hl
  have HEX := Lib.hid (fun X => find_ends (((g.to 0 w1).to 0 wb).pt X) t b S 4 (H2.out.keep (Mod.pt (Mod.refl (fun _ => False) _) X) id id))
  generalize S.array = sa at *
  cases arr' <;> cases sa <;> first | exact absurd rfl hne | skip
  all_goals
    clear hne
    go_wp2_with fail
    refine wp_region_mixed [true, true, true, true, true, true, true, true] 0 8 (by kernel_rfl) (by kernel_rfl) (by kernel_rfl) ?_ (by decide) (by decide) (by decide) (by kernel_rfl) ?_
    · intro c a d v w h; cases d <;> exact h
    intro X00
    simp only [pickOps]
    repeat (go_big_quiet_step (fail))
    refine wpQuiet_nil (fun X0 => ?_)
    clear X00
    refine wpAnyM_done (by kernel_rfl) (fun X0' => ?_) _
    go_wp2_with fail
    refine (HEX.out _).mono ?_
    rintro e w3 ⟨rfl, own3, m3, r3⟩
    have M3 := Lib.hid m3
    have R3 := Lib.hid r3
    clear m3 r3
    go_wp2_with fail
    go_ret
    exact ⟨rfl, own3, (HE.out.mono (fun _ => False.elim)).trans ((Mod.pt (Mod.refl _ _) _).trans M3.out), R3.out⟩
set_option maxRecDepth 100000 in
/-- The head of an array, where an element is looked for. -/
theorem find_first_array (g : GW) (t b : Nat) (S : FindS) (p q : Nat) (kd : Int) (refs : List Bool) (h : FindAt g t b S) (ht : ∀ w, Calls Try.prog 198 #[.complex .f64 p q] w (Gives (.tuple #[.int .i64 kd, .int .i64 0, .bool true]) w)) (hat : S.c.shapeAt kd = some (true, refs)) (hk : S.array = true) (hl1 : 0 < refs.length) :
    Calls Try.prog 161 #[.pointer (some ⟨b, 0, none⟩), .complex .f64 p q] g.w (Does (.bool true) g (fun x => x = t) (fun g' => FindAt g' t b { S with ref := refs.getD 0 false, pc := 2 })) := by
  have HK := Lib.hid hk
  clear hk
  have HSH := Lib.hid (fun w' (he : Ext g.w w') => shape_any S.c kd w' (h.cnf.ok.ext he))
  unfold Cnf.val at HSH
  have H := Lib.hid h
  have HT := Lib.hid (ht g.w)
  clear h ht
  go_enter Try.func161, Try.ntmps161
  go_wp2_with fail
  refine HT.out.mono ?_
  rintro e w1 ⟨rfl, hE⟩
  have HE1 := Lib.hid (Mod.ext (T := fun _ => False) (g := g) (show Ext g.w w1 from hE) 0)
  have H1 := Lib.hid (H.out.keep HE1.out id id)
  have HX1 := Lib.hid (show Ext g.w w1 from hE)
  clear hE HT
  have k0 := H1.out.blk.cell (i := 0) rfl
  have k1 := H1.out.blk.cell (i := 1) rfl
  have k2 := H1.out.blk.cell (i := 2) rfl
  have k3 := H1.out.blk.cell (i := 3) rfl
  have k4 := H1.out.blk.cell (i := 4) rfl
  have k5 := H1.out.blk.cell (i := 5) rfl
  have k6 := H1.out.blk.cell (i := 6) rfl
  have k7 := H1.out.blk.cell (i := 7) rfl
  have k8 := H1.out.blk.cell (i := 8) rfl
  have hl := H1.out.blk.lt
  simp only [GW.to] at k0 k1 k2 k3 k4 k5 k6 k7 k8 hl
  go_wp2_with fail
  refine (HSH.out _ HX1.out).mono ?_
  rintro e w2 ⟨s', rfl, hs, hfr, hok, hE⟩
  have HS := Lib.hid (hs.trans (by rw [hat]; rfl : _ = (true, refs)))
  have HI := Lib.hid (show (S.c.shapeAt kd).isSome = true by rw [hat]; rfl)
  have HOK := Lib.hid hok
  clear hs hfr hok HSH k0 k1 k2 k3 k4 k5 k6 k7 k8 hl hat
  rw [HI.out]
  obtain ⟨arr', A', cap', refs'⟩ := s'
  have ha : arr' = true := congrArg Prod.fst HS.out
  have hr : refs' = refs := congrArg Prod.snd HS.out
  subst ha hr
  clear HS HI
  unfold Shp.val
  have HE2 := Lib.hid (Mod.ext (T := fun _ => False) (g := g.to 0 w1) (show Ext w1 (w2.alloc (.cells #[.bool true, .slice A' refs'.length cap'] 29)) from (show Ext w1 w2 from hE).trans (by (repeat (first | (with_reducible assumption) | (with_reducible exact Ext.refl _) | (with_reducible exact Ext.more _ _ _ _) | apply Ext.alloc | refine Ext.setCell ?_ (by first | exact Nat.le_refl _ | exact Nat.le_add_right _ _ | assumption) _ | apply Ext.patch | apply Ext.drew | apply Ext.drewN)))) 0)
  have HE := Lib.hid (HE1.out.trans HE2.out)
  have H2 := Lib.hid (H1.out.keep HE2.out id id)
  have HB := Lib.hid (show (w2.alloc (.cells #[.bool true, .slice A' refs'.length cap'] 29)).heap[w2.heap.size]? = some (.cells #[.bool true, .slice A' refs'.length cap'] 29) from World.row_alloc_new _)
  have HOK2 := Lib.hid (HOK.out.ext (show Ext w2 (w2.alloc (.cells #[.bool true, .slice A' refs'.length cap'] 29)) by (repeat (first | (with_reducible assumption) | (with_reducible exact Ext.refl _) | (with_reducible exact Ext.more _ _ _ _) | apply Ext.alloc | refine Ext.setCell ?_ (by first | exact Nat.le_refl _ | exact Nat.le_add_right _ _ | assumption) _ | apply Ext.patch | apply Ext.drew | apply Ext.drewN))))
  clear hE H1 HX1 HE1 HE2 H HOK
  go_upto_region 3 with fail
  generalize w2.heap.size = bs at *
  generalize w2.alloc (.cells #[.bool true, .slice A' refs'.length cap'] 29) = wb at *
  have c1 := H2.out.blk.cell (i := 11) rfl
  have c2 := H2.out.blk.cell (i := 12) rfl
  have c3 := H2.out.blk.cell (i := 20) rfl
  have c4 := H2.out.blk.cell (i := 10) rfl
  have c5 := H2.out.blk.cell (i := 9) rfl
  have f2 := H2.out.blk.live 12
  have f3 := H2.out.blk.live 20
  have f4 := H2.out.blk.live 14
  have f5 := H2.out.blk.live 15
  have hl := H2.out.blk.lt
  have s0 : wb.cell? ⟨bs, 0, none⟩ = some (.bool true) := by simp only [World.cell?, HB.out]; rfl
  have s1 : wb.cell? ⟨bs, 1, none⟩ = some (.slice A' refs'.length cap') := by simp only [World.cell?, HB.out]; rfl
  have hbs : bs < wb.heap.size := (Array.getElem?_eq_some_iff.1 HB.out).1
  simp only [GW.to] at c1 c2 c3 c4 c5 f2 f3 f4 f5 hl
  have HO := Lib.hid H2.out.blk.own
  obtain ⟨bq, oq, hA, hbq, hcq⟩ := HOK2.out.refs.cases (by simpa using hl1)
  have z0 := hcq 0 (.bool (refs'.getD 0 false)) (by rw [List.getElem?_map, List.getElem?_eq_getElem hl1, List.getD_eq_getElem?_getD, List.getElem?_eq_getElem hl1]; rfl)
  rw [Nat.add_zero] at z0
  simp only at hA
  subst hA
  rw [HK.out] at c1
  generalize hrf : refs'.getD 0 false = rf at *
  have HRF := Lib.hid hrf
  clear hrf
  have HEX := Lib.hid ((H2.out.st 20 (.bool rf) { S with ref := rf } rfl rfl).st 12 (.int .i64 2) { S with ref := rf, pc := 2 } rfl rfl)
  clear hcq
  go_wp2_with fail
  refine wp_region_mixed [true, true, true, true, true, true, true, true] 0 8 (by kernel_rfl) (by kernel_rfl) (by kernel_rfl) ?_ (by decide) (by decide) (by decide) (by kernel_rfl) ?_
  · intro c a d v w h; cases d <;> exact h
  intro X00
  simp only [pickOps]
  repeat (go_big_quiet_step (fail))
  refine wpQuiet_nil (fun X0 => ?_)
  clear X00
  refine wpAnyM_done (by kernel_rfl) (fun X0' => ?_) _
  go_wp2_with fail
  go_ret
  exact Does.ext ⟨((g.to 0 w1).to 0 wb).own, (wb.setCell ⟨b, 20, none⟩ (.bool rf)).setCell ⟨b, 12, none⟩ (.int .i64 2)⟩ (by (repeat (first | (with_reducible assumption) | (with_reducible exact Ext.refl _) | (with_reducible exact Ext.more _ _ _ _) | apply Ext.alloc | refine Ext.setCell ?_ (by first | exact Nat.le_refl _ | exact Nat.le_add_right _ _ | assumption) _ | apply Ext.patch | apply Ext.drew | apply Ext.drewN))) rfl ((HE.out.mono (fun _ => False.elim)).trans (Mod.st (Mod.st Mod.self HO.out) HO.out)) (fun g2 m => by rw [HRF.out]; exact HEX.out.keep m id id)
end Go.Proofs.Ytmgkfpmmlibmcaa
