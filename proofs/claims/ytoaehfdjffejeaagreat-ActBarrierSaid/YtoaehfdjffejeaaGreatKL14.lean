import Derived.Test.YtoaehfdjffejeaaGreatKL13
/-
  Packed: FindJ.
-/
open Go.Ext renaming alloc → zA, patch → zP, drew → zD, drewN → zN, more → zM, refl → zR, setCell → zS
open Nat renaming le_refl → zL, le_add_right → zK
/-
  Merged: XFindG, XFindJ.
-/
/-
  Merged: XMoves, XFindG, XFindH.
-/
/-
  find: the head of an object; the links.
-/
namespace Go.Proofs.YtoaehfdjffejeaaGreat
open Go Go.RowKit
set_option linter.unusedVariables false
set_option linter.unnecessarySimpa false
set_option linter.unusedSimpArgs false
set_option maxHeartbeats 1500000
set_option maxRecDepth 100000
theorem find_first_here (g : GW) (t b : Nat) (S : FindS) (p q : Nat) (kd md : Int) (refs : List Bool) (k : Nat) (h : FindAt g t b S) (ht : ∀ w, Calls Tryz.prog 173 #[.complex .f64 p q] w (Gives (.tuple #[.int .i64 kd, .int .i64 md, .bool true]) w)) (hat : S.c.shapeAt kd = some (false, refs)) (ha : S.array = false) (hk : S.k = k) (hlt : k < refs.length)
    (hfd : ∀ A cap, Shp.hasField ⟨false, A, cap, refs⟩ k = true) (hmd : md = 1 ∨ md = 0 ∧ Shp.placeF k = 0) (hh : 0 ≤ S.head ∧ S.head ≤ 100000) :
    Calls Tryz.prog 175 #[.pointer (some ⟨b, 0, none⟩), .complex .f64 p q] g.w (Does (.bool false) g (fun x => x = t) (fun g' => FindAt g' t b (FindS.stands { S with ref := refs.getD k false } (S.head + Shp.placeF k) (Shp.placeW k)))) := by
  have HA := Lib.hid ha
  have HK := Lib.hid hk
  have HMD := Lib.hid hmd
  have HHH := Lib.hid hh
  clear ha hk hmd hh
  have HSH := Lib.hid (fun w' (he : Ext g.w w') => shape_any S.c kd w' (h.cnf.ok.ext he))
  unfold Cnf.val at HSH
  have H := Lib.hid h
  have HT := Lib.hid (ht g.w)
  clear h ht
  go_enter Tryz.func175, Tryz.ntmps175
  go_wp2_with fail
  refine HT.out.mono ?_
  rintro e w1 ⟨rfl, hE⟩
  have HE1 := Lib.hid (Mod.ext (T := fun _ => False) (g := g) (show Ext g.w w1 from hE) 0)
  have H1 := Lib.hid (H.out.keep HE1.out id id)
  have HX1 := Lib.hid (show Ext g.w w1 from hE)
  clear hE HT
  have k0 := H1.out.blk.cell (i := 0) rfl
  have k1 := H1.out.blk.cell (i := 1) rfl
  have k2 := H1.out.blk.cell (i := 2) rfl
  have k3 := H1.out.blk.cell (i := 3) rfl
  have k4 := H1.out.blk.cell (i := 4) rfl
  have k5 := H1.out.blk.cell (i := 5) rfl
  have k6 := H1.out.blk.cell (i := 6) rfl
  have k7 := H1.out.blk.cell (i := 7) rfl
  have k8 := H1.out.blk.cell (i := 8) rfl
  have hl := H1.out.blk.lt
  simp only [GW.to] at k0 k1 k2 k3 k4 k5 k6 k7 k8 hl
  go_wp2_with fail
  refine (HSH.out _ HX1.out).mono ?_
  rintro e w2 ⟨s', rfl, hs, hfr, hok, hE⟩
  have HS := Lib.hid (hs.trans (by rw [hat]; rfl : _ = (false, refs)))
  have HI := Lib.hid (show (S.c.shapeAt kd).isSome = true by rw [hat]; rfl)
  have HOK := Lib.hid hok
  clear hs hfr hok HSH k0 k1 k2 k3 k4 k5 k6 k7 k8 hl hat
  rw [HI.out]
  obtain ⟨arr', A', cap', refs'⟩ := s'
  have ha : arr' = false := congrArg Prod.fst HS.out
  have hr : refs' = refs := congrArg Prod.snd HS.out
  subst ha hr
  clear HS HI
  unfold Shp.val
  have HE2 := Lib.hid (Mod.ext (T := fun _ => False) (g := g.to 0 w1) (show Ext w1 (w2.alloc (.cells #[.bool false, .slice A' refs'.length cap'] 73)) from (show Ext w1 w2 from hE).trans (by (repeat (first | (with_reducible (first | assumption | exact zR _ | exact zM _ _ _ _)) | apply zA | refine zS ?_ (by first | exact zL _ | exact zK _ _ | assumption) _ | apply zP | apply zD | apply zN)))) 0)
  have HE := Lib.hid (HE1.out.trans HE2.out)
  have H2 := Lib.hid (H1.out.keep HE2.out id id)
  have HB := Lib.hid (show (w2.alloc (.cells #[.bool false, .slice A' refs'.length cap'] 73)).heap[w2.heap.size]? = some (.cells #[.bool false, .slice A' refs'.length cap'] 73) from World.row_alloc_new _)
  have HOK2 := Lib.hid (HOK.out.ext (show Ext w2 (w2.alloc (.cells #[.bool false, .slice A' refs'.length cap'] 73)) by (repeat (first | (with_reducible (first | assumption | exact zR _ | exact zM _ _ _ _)) | apply zA | refine zS ?_ (by first | exact zL _ | exact zK _ _ | assumption) _ | apply zP | apply zD | apply zN))))
  clear hE H1 HX1 HE1 HE2 H HOK
  go_upto_region 3 with fail
  generalize w2.heap.size = bs at *
  generalize w2.alloc (.cells #[.bool false, .slice A' refs'.length cap'] 73) = wb at *
  have c1 := H2.out.blk.cell (i := 11) rfl
  have c2 := H2.out.blk.cell (i := 12) rfl
  have c3 := H2.out.blk.cell (i := 20) rfl
  have c4 := H2.out.blk.cell (i := 10) rfl
  have c5 := H2.out.blk.cell (i := 9) rfl
  have f2 := H2.out.blk.live 12
  have f3 := H2.out.blk.live 20
  have f4 := H2.out.blk.live 14
  have f5 := H2.out.blk.live 15
  have hl := H2.out.blk.lt
  have s0 : wb.cell? ⟨bs, 0, none⟩ = some (.bool false) := by simp only [World.cell?, HB.out]; rfl
  have s1 : wb.cell? ⟨bs, 1, none⟩ = some (.slice A' refs'.length cap') := by simp only [World.cell?, HB.out]; rfl
  have hbs : bs < wb.heap.size := (Array.getElem?_eq_some_iff.1 HB.out).1
  simp only [GW.to] at c1 c2 c3 c4 c5 f2 f3 f4 f5 hl
  have HO := Lib.hid H2.out.blk.own
  rw [HA.out] at c1
  rw [HK.out] at c4
  have hlen : refs'.length ≤ 140737488355328 := HOK2.out.max
  have HPL := Lib.hid (fun X => (show Calls Tryz.prog 183 #[.agg #[.bool false, .slice A' refs'.length cap'], .int .i64 k] (wb.patch X) (Gives (.tuple #[.int .i64 (Shp.placeF k), .int .i64 (Shp.placeW k), .bool true]) (wb.patch X)) from by
    have h1 := place_any ⟨false, A', cap', refs'⟩ k (wb.patch X) (HOK2.out.ext ⟨X, rfl⟩) (by omega) (by omega)
    unfold Shp.place at h1
    rw [if_pos (hfd A' cap')] at h1
    exact h1))
  obtain ⟨bq, oq, hA, hbq, hcq⟩ := HOK2.out.refs.cases (by simpa using Nat.lt_of_le_of_lt (Nat.zero_le _) hlt)
  have z0 := hcq k (.bool (refs'.getD k false)) (by rw [List.getElem?_map, List.getElem?_eq_getElem hlt, List.getD_eq_getElem?_getD, List.getElem?_eq_getElem hlt]; rfl)
  simp only at hA
  subst hA
  generalize hrf : refs'.getD k false = rf at *
  have HRF := Lib.hid hrf
  have HEX := Lib.hid (H2.out.st 20 (.bool rf) { S with ref := rf } rfl rfl)
  have hpb : 0 ≤ Shp.placeF k ∧ Shp.placeF k ≤ 140737488355328 := by unfold Shp.placeF; split <;> omega
  generalize hpf : Shp.placeF (k : Int) = pf at *
  generalize hpw : Shp.placeW (k : Int) = pw at *
  have HPF := Lib.hid (And.intro hpf hpw)
  obtain ⟨hh0, hh1⟩ := HHH.out
  obtain ⟨hp0, hp1⟩ := hpb
  have hik : (k : Int) < refs'.length := by omega
  clear hcq hrf hpf hpw hfd
  have HSTD := Lib.hid (fun X => find_stands (GW.pt ⟨((g.to 0 w1).to 0 wb).own, wb.setCell ⟨b, 20, none⟩ (.bool rf)⟩ X) t b { S with ref := rf } (S.head + pf) pw (HEX.out.keep (Mod.pt (Mod.refl (fun _ => False) _) X) id id))
  have HEND := Lib.hid (fun own3 (w3 : World) (M : Mod (fun x => x = t) ⟨((g.to 0 w1).to 0 wb).own, wb.setCell ⟨b, 20, none⟩ (.bool rf)⟩ ⟨own3, w3⟩) (r : FindAt ⟨own3, w3⟩ t b (FindS.stands { S with ref := rf } (S.head + pf) pw)) => show Does (.bool false) g (fun x => x = t) (fun g' => FindAt g' t b (FindS.stands { S with ref := refs'.getD k false } (S.head + Shp.placeF k) (Shp.placeW k))) (.returned (.bool false)) w3 from by
    refine ⟨rfl, own3, (HE.out.mono (fun _ => False.elim)).trans ((Mod.st Mod.self HO.out).trans M), ?_⟩
    rw [HRF.out, HPF.out.1, HPF.out.2]
    exact r)
  rcases HMD.out with rfl | ⟨rfl, h0⟩
  · clear HMD
    go_wp2_with fail
    refine wp_region_mixed [true, true, true, true, true, true, true, true] 0 8 (by kernel_rfl) (by kernel_rfl) (by kernel_rfl) ?_ (by decide) (by decide) (by decide) (by kernel_rfl) ?_
    · intro c a d v w h; cases d <;> exact h
    intro X00
    simp only [pickOps]
    repeat (go_big_quiet_step (fail))
    refine wpQuiet_nil (fun X0 => ?_)
    clear X00
    refine wpAnyM_done (by kernel_rfl) (fun X0' => ?_) _
    go_wp2_with fail
    refine wp_forget (base := wb) (by (repeat (first | (with_reducible (first | assumption | exact zR _ | exact zM _ _ _ _)) | apply zA | refine zS ?_ (by first | exact zL _ | exact zK _ _ | assumption) _ | apply zP | apply zD | apply zN))) (fun Z => ?_)
    refine wp_region_mixed [true, true, true, true, true, true, true, true, true, true, true, true, true] 0 13 (by kernel_rfl) (by kernel_rfl) (by kernel_rfl) ?_ (by decide) (by decide) (by decide) (by kernel_rfl) ?_
    · intro c a d v w h; cases d <;> exact h
    intro X00
    simp only [pickOps]
    repeat (go_big_quiet_step ((go_at_call 183; exact Calls.added2 (HPL.out _))))
    refine wpQuiet_nil (fun X0 => ?_)
    clear X00
    refine wpAnyM_done (by kernel_rfl) (fun X0' => ?_) _
    go_wp2_with fail
    refine wp_region_mixed [true, true, true, true, true, true, true, true, true, true, true, false] 1 11 (by kernel_rfl) (by kernel_rfl) (by kernel_rfl) ?_ (by decide) (by decide) (by decide) (by kernel_rfl) ?_
    · intro c a d v w h; cases d <;> exact h
    intro X00
    simp only [pickOps]
    repeat (go_big_quiet_step (fail))
    refine wpQuiet_nil (fun X0 => ?_)
    clear X00
    refine wpAnyM_tailL rfl (by kernel_rfl) (fun X2 => ?_)
    simp only [List.drop_succ_cons, List.drop_zero]
    go_wp2_with fail
    refine (HSTD.out _).mono ?_
    rintro e w3 ⟨rfl, own3, m3, r3⟩
    have M3 := Lib.hid m3
    have R3 := Lib.hid r3
    clear m3 r3
    go_wp2_with fail
    go_ret
    exact HEND.out own3 w3 ((Mod.pt (Mod.refl _ _) _).trans M3.out) R3.out
  · have hpz : (pf == 0) = true := beq_iff_eq.2 h0
    clear h0 HMD
    go_wp2_with fail
    refine wp_region_mixed [true, true, true, true, true, true, true, true] 0 8 (by kernel_rfl) (by kernel_rfl) (by kernel_rfl) ?_ (by decide) (by decide) (by decide) (by kernel_rfl) ?_
    · intro c a d v w h; cases d <;> exact h
    intro X00
    simp only [pickOps]
    repeat (go_big_quiet_step (fail))
    refine wpQuiet_nil (fun X0 => ?_)
    clear X00
    refine wpAnyM_done (by kernel_rfl) (fun X0' => ?_) _
    go_wp2_with fail
    refine wp_forget (base := wb) (by (repeat (first | (with_reducible (first | assumption | exact zR _ | exact zM _ _ _ _)) | apply zA | refine zS ?_ (by first | exact zL _ | exact zK _ _ | assumption) _ | apply zP | apply zD | apply zN))) (fun Z => ?_)
    refine wp_region_mixed [true, true, true, true, true, true, true, true, true, true, true, true, true] 0 13 (by kernel_rfl) (by kernel_rfl) (by kernel_rfl) ?_ (by decide) (by decide) (by decide) (by kernel_rfl) ?_
    · intro c a d v w h; cases d <;> exact h
    intro X00
    simp only [pickOps]
    repeat (go_big_quiet_step ((go_at_call 183; exact Calls.added2 (HPL.out _))))
    refine wpQuiet_nil (fun X0 => ?_)
    clear X00
    refine wpAnyM_done (by kernel_rfl) (fun X0' => ?_) _
    go_wp2_with fail
    refine wp_region_mixed [true, true, true, true, true, true, true, true, true, true, true, false] 1 11 (by kernel_rfl) (by kernel_rfl) (by kernel_rfl) ?_ (by decide) (by decide) (by decide) (by kernel_rfl) ?_
    · intro c a d v w h; cases d <;> exact h
    intro X00
    simp only [pickOps]
    repeat (go_big_quiet_step (fail))
    refine wpQuiet_nil (fun X0 => ?_)
    clear X00
    refine wpAnyM_tailL rfl (by kernel_rfl) (fun X2 => ?_)
    simp only [List.drop_succ_cons, List.drop_zero]
    go_wp2_with fail
    refine (HSTD.out _).mono ?_
    rintro e w3 ⟨rfl, own3, m3, r3⟩
    have M3 := Lib.hid m3
    have R3 := Lib.hid r3
    clear m3 r3
    go_wp2_with fail
    go_ret
    exact HEND.out own3 w3 ((Mod.pt (Mod.refl _ _) _).trans M3.out) R3.out
theorem find_begins_link (g : GW) (t b tm bm : Nat) (S : FindS) (m : MemS) (nx : Int) (h : FindAt g t b S) (hm : MemAt g tm bm m) (hc : 0 ≤ m.count ∧ m.count ≤ 1099511627776) (hpc : S.pc = 1) (hok : S.okAt S.frag 0 = true) (hin : inB (S.frag * 8 + 0) m.l.length = true) (hw : m.peek (S.frag * 8 + 0) = (floatOfInt .f64 (nx + 1), 4607182418800017408)) (ht : t ≠ tm) (ht1 : t + 1 ≠ tm)
    (hn0 : 0 ≤ nx) (hn1 : nx < S.c.frags) (hn2 : nx ≤ 1099511627776) (had : 1 ≤ S.ahead ∧ S.ahead ≤ 1000000) :
    Calls Tryz.prog 143 #[.pointer (some ⟨b, 0, none⟩), .pointer (some ⟨bm, 0, none⟩)] g.w (Does (.bool (S.ahead == 1)) g (fun x => x = t ∨ x = tm) (fun g' => FindAt g' t b (if S.ahead = 1 then FindS.stands { S with frag := nx, ahead := S.ahead - 1 } nx S.word else { S with frag := nx, ahead := S.ahead - 1 }) ∧ MemAt g' tm bm m.tick)) := by
  have c0 := h.blk.cell (i := 12) rfl
  have c1 := h.blk.cell (i := 13) rfl
  have hl := h.blk.lt
  rw [hpc] at c0
  have HT := Lib.hid (And.intro ht ht1)
  have HR := Lib.hid (find_read_ok g t b tm bm S m S.frag 0 h hm hc hok hin _ _ hw ht ht1)
  have HI := Lib.hid (fun w => index_ref nx hn0 hn2 w)
  generalize floatOfInt .f64 (nx + 1) = p at *
  clear h hm hpc hok hin hw ht ht1
  go_enter Tryz.func143, Tryz.ntmps143
  go_wp2_with fail
  refine wp_scope_fwd 0 rfl ?_
  go_wp2_with fail
  go_step3
  refine ⟨rfl, ?_⟩
  go_wp2_with fail
  refine HR.out.mono ?_
  rintro e w1 ⟨rfl, own1, m1, r1, r2⟩
  have M1 := Lib.hid m1
  have R1 := Lib.hid r1
  have R2 := Lib.hid r2
  clear m1 r1 r2 c0 c1 hl
  go_wp2_with fail
  refine (HI.out _).mono ?_
  rintro e w2 ⟨rfl, hE⟩
  have M2 := Lib.hid (Mod.ext (T := fun _ => False) (g := ⟨own1, w1⟩) (show Ext w1 w2 from hE) 0)
  have R3 := Lib.hid (R2.out.keep M2.out id id)
  have R1' := Lib.hid (R1.out.keep M2.out id)
  clear hE
  have c0 := R3.out.blk.cell (i := 0) rfl
  have c1 := R3.out.blk.cell (i := 13) rfl
  have c2 := R3.out.blk.cell (i := 14) rfl
  have c3 := R3.out.blk.cell (i := 15) rfl
  have f1 := R3.out.blk.live 13
  have f2 := R3.out.blk.live 14
  have hl := R3.out.blk.lt
  have HO := Lib.hid R3.out.blk.own
  simp only [GW.to] at c0 c1 c2 c3 f1 f2 hl
  have d1 : decide (S.c.frags ≤ nx) = false := decide_eq_false (by omega)
  obtain ⟨ha0, ha1⟩ := had
  have M3 := Lib.hid (show Mod (fun x => x = t) (GW.to ⟨own1, w1⟩ 0 w2) ⟨(GW.to ⟨own1, w1⟩ 0 w2).own, (w2.setCell ⟨b, 13, none⟩ (.int .i64 nx)).setCell ⟨b, 14, none⟩ (.int .i64 (S.ahead - 1))⟩ from Mod.st (Mod.st Mod.self HO.out) HO.out)
  have R4 := Lib.hid ((R3.out.st 13 (.int .i64 nx) { S with frag := nx } rfl rfl).st 14 (.int .i64 (S.ahead - 1)) { S with frag := nx, ahead := S.ahead - 1 } rfl rfl)
  have R5 := Lib.hid (R1'.out.keep M3.out (fun e => HT.out.1 e.symm))
  by_cases h1 : S.ahead = 1
  · have hz : (S.ahead - 1 == 0) = true := beq_iff_eq.2 (by omega)
    have h1b := Lib.hid (show (S.ahead == 1) = true from beq_iff_eq.2 h1)
    have H1 := Lib.hid h1
    clear h1
    have HST := Lib.hid (find_stands _ t b { S with frag := nx, ahead := S.ahead - 1 } nx S.word R4.out)
    go_wp2_with fail
    refine HST.out.mono ?_
    rintro e w3 ⟨rfl, own3, m3, r3⟩
    have M4 := Lib.hid m3
    have R6 := Lib.hid r3
    clear m3 r3
    go_wp2_with fail
    rw [Exit.noGoto_ret]
    go_ret
    refine ⟨by rw [h1b.out]; rfl, own3, (M1.out.mono (fun x hx => Or.inr hx)).trans ((M2.out.mono (fun _ => False.elim)).trans ((M3.out.mono (fun x hx => Or.inl hx)).trans (M4.out.mono (fun x hx => Or.inl hx)))), ?_, R5.out.keep M4.out (fun e => HT.out.1 e.symm)⟩
    rw [if_pos H1.out]
    exact R6.out
  · have hz : (S.ahead - 1 == 0) = false := beq_eq_false_iff_ne.2 (by omega)
    have h1b := Lib.hid (show (S.ahead == 1) = false from beq_eq_false_iff_ne.2 h1)
    have H1 := Lib.hid h1
    clear h1
    go_wp2_with fail
    rw [Exit.noGoto_ret]
    go_ret
    refine ⟨by rw [h1b.out]; rfl, _, (M1.out.mono (fun x hx => Or.inr hx)).trans ((M2.out.mono (fun _ => False.elim)).trans (M3.out.mono (fun x hx => Or.inl hx))), ?_, R5.out⟩
    rw [if_neg H1.out]
    exact R4.out
end Go.Proofs.YtoaehfdjffejeaaGreat
/-
  find: the head of an object, where the field is behind links. (Does not build yet: region 18.)
-/
namespace Go.Proofs.YtoaehfdjffejeaaGreat
open Go Go.RowKit
set_option linter.unusedVariables false
set_option linter.unnecessarySimpa false
set_option linter.unusedSimpArgs false
set_option maxHeartbeats 1500000
set_option maxRecDepth 100000
theorem find_first_far (g : GW) (t b : Nat) (S : FindS) (p q : Nat) (kd : Int) (refs : List Bool) (k : Nat) (h : FindAt g t b S) (ht : ∀ w, Calls Tryz.prog 173 #[.complex .f64 p q] w (Gives (.tuple #[.int .i64 kd, .int .i64 0, .bool true]) w)) (hat : S.c.shapeAt kd = some (false, refs)) (ha : S.array = false) (hk : S.k = k) (hlt : k < refs.length)
    (hfd : ∀ A cap, Shp.hasField ⟨false, A, cap, refs⟩ k = true) (hmd : 0 < Shp.placeF k) :
    Calls Tryz.prog 175 #[.pointer (some ⟨b, 0, none⟩), .complex .f64 p q] g.w (Does (.bool true) g (fun x => x = t) (fun g' => FindAt g' t b { S with ref := refs.getD k false, ahead := Shp.placeF k, word := Shp.placeW k, pc := 1 })) := by
  have HA := Lib.hid ha
  have HK := Lib.hid hk
  clear ha hk
  have HSH := Lib.hid (fun w' (he : Ext g.w w') => shape_any S.c kd w' (h.cnf.ok.ext he))
  unfold Cnf.val at HSH
  have H := Lib.hid h
  have HT := Lib.hid (ht g.w)
  clear h ht
  go_enter Tryz.func175, Tryz.ntmps175
  go_wp2_with fail
  refine HT.out.mono ?_
  rintro e w1 ⟨rfl, hE⟩
  have HE1 := Lib.hid (Mod.ext (T := fun _ => False) (g := g) (show Ext g.w w1 from hE) 0)
  have H1 := Lib.hid (H.out.keep HE1.out id id)
  have HX1 := Lib.hid (show Ext g.w w1 from hE)
  clear hE HT
  have k0 := H1.out.blk.cell (i := 0) rfl
  have k1 := H1.out.blk.cell (i := 1) rfl
  have k2 := H1.out.blk.cell (i := 2) rfl
  have k3 := H1.out.blk.cell (i := 3) rfl
  have k4 := H1.out.blk.cell (i := 4) rfl
  have k5 := H1.out.blk.cell (i := 5) rfl
  have k6 := H1.out.blk.cell (i := 6) rfl
  have k7 := H1.out.blk.cell (i := 7) rfl
  have k8 := H1.out.blk.cell (i := 8) rfl
  have hl := H1.out.blk.lt
  simp only [GW.to] at k0 k1 k2 k3 k4 k5 k6 k7 k8 hl
  go_wp2_with fail
  refine (HSH.out _ HX1.out).mono ?_
  rintro e w2 ⟨s', rfl, hs, hfr, hok, hE⟩
  have HS := Lib.hid (hs.trans (by rw [hat]; rfl : _ = (false, refs)))
  have HI := Lib.hid (show (S.c.shapeAt kd).isSome = true by rw [hat]; rfl)
  have HOK := Lib.hid hok
  clear hs hfr hok HSH k0 k1 k2 k3 k4 k5 k6 k7 k8 hl hat
  rw [HI.out]
  obtain ⟨arr', A', cap', refs'⟩ := s'
  have ha : arr' = false := congrArg Prod.fst HS.out
  have hr : refs' = refs := congrArg Prod.snd HS.out
  subst ha hr
  clear HS HI
  unfold Shp.val
  have HE2 := Lib.hid (Mod.ext (T := fun _ => False) (g := g.to 0 w1) (show Ext w1 (w2.alloc (.cells #[.bool false, .slice A' refs'.length cap'] 73)) from (show Ext w1 w2 from hE).trans (by (repeat (first | (with_reducible (first | assumption | exact zR _ | exact zM _ _ _ _)) | apply zA | refine zS ?_ (by first | exact zL _ | exact zK _ _ | assumption) _ | apply zP | apply zD | apply zN)))) 0)
  have HE := Lib.hid (HE1.out.trans HE2.out)
  have H2 := Lib.hid (H1.out.keep HE2.out id id)
  have HB := Lib.hid (show (w2.alloc (.cells #[.bool false, .slice A' refs'.length cap'] 73)).heap[w2.heap.size]? = some (.cells #[.bool false, .slice A' refs'.length cap'] 73) from World.row_alloc_new _)
  have HOK2 := Lib.hid (HOK.out.ext (show Ext w2 (w2.alloc (.cells #[.bool false, .slice A' refs'.length cap'] 73)) by (repeat (first | (with_reducible (first | assumption | exact zR _ | exact zM _ _ _ _)) | apply zA | refine zS ?_ (by first | exact zL _ | exact zK _ _ | assumption) _ | apply zP | apply zD | apply zN))))
  clear hE H1 HX1 HE1 HE2 H HOK
  go_upto_region 3 with fail
  generalize w2.heap.size = bs at *
  generalize w2.alloc (.cells #[.bool false, .slice A' refs'.length cap'] 73) = wb at *
  have c1 := H2.out.blk.cell (i := 11) rfl
  have c2 := H2.out.blk.cell (i := 12) rfl
  have c3 := H2.out.blk.cell (i := 20) rfl
  have c4 := H2.out.blk.cell (i := 10) rfl
  have c5 := H2.out.blk.cell (i := 9) rfl
  have f2 := H2.out.blk.live 12
  have f3 := H2.out.blk.live 20
  have f4 := H2.out.blk.live 14
  have f5 := H2.out.blk.live 15
  have hl := H2.out.blk.lt
  have s0 : wb.cell? ⟨bs, 0, none⟩ = some (.bool false) := by simp only [World.cell?, HB.out]; rfl
  have s1 : wb.cell? ⟨bs, 1, none⟩ = some (.slice A' refs'.length cap') := by simp only [World.cell?, HB.out]; rfl
  have hbs : bs < wb.heap.size := (Array.getElem?_eq_some_iff.1 HB.out).1
  simp only [GW.to] at c1 c2 c3 c4 c5 f2 f3 f4 f5 hl
  have HO := Lib.hid H2.out.blk.own
  have c6 := H2.out.blk.cell (i := 14) rfl
  have c7 := H2.out.blk.cell (i := 15) rfl
  simp only [GW.to] at c6 c7
  rw [HA.out] at c1
  rw [HK.out] at c4
  have hlen : refs'.length ≤ 140737488355328 := HOK2.out.max
  have HPL := Lib.hid (fun X => (show Calls Tryz.prog 183 #[.agg #[.bool false, .slice A' refs'.length cap'], .int .i64 k] (wb.patch X) (Gives (.tuple #[.int .i64 (Shp.placeF k), .int .i64 (Shp.placeW k), .bool true]) (wb.patch X)) from by
    have h1 := place_any ⟨false, A', cap', refs'⟩ k (wb.patch X) (HOK2.out.ext ⟨X, rfl⟩) (by omega) (by omega)
    unfold Shp.place at h1
    rw [if_pos (hfd A' cap')] at h1
    exact h1))
  obtain ⟨bq, oq, hA, hbq, hcq⟩ := HOK2.out.refs.cases (by simpa using Nat.lt_of_le_of_lt (Nat.zero_le _) hlt)
  have z0 := hcq k (.bool (refs'.getD k false)) (by rw [List.getElem?_map, List.getElem?_eq_getElem hlt, List.getD_eq_getElem?_getD, List.getElem?_eq_getElem hlt]; rfl)
  simp only at hA
  subst hA
  generalize hrf : refs'.getD k false = rf at *
  have HRF := Lib.hid hrf
  generalize hpf : Shp.placeF (k : Int) = pf at *
  generalize hpw : Shp.placeW (k : Int) = pw at *
  have HPF := Lib.hid (And.intro hpf hpw)
  have HEX := Lib.hid ((((H2.out.st 20 (.bool rf) { S with ref := rf } rfl rfl).st 14 (.int .i64 pf) { S with ref := rf, ahead := pf } rfl rfl).st 15 (.int .i64 pw) { S with ref := rf, ahead := pf, word := pw } rfl rfl).st 12 (.int .i64 1) { S with ref := rf, ahead := pf, word := pw, pc := 1 } rfl rfl)
  have hik : (k : Int) < refs'.length := by omega
  have hpz : (pf == 0) = false := beq_eq_false_iff_ne.2 (by omega)
  clear hcq hrf hpf hpw hfd
  go_wp2_with fail
  refine wp_region_mixed [true, true, true, true, true, true, true, true] 0 8 (by kernel_rfl) (by kernel_rfl) (by kernel_rfl) ?_ (by decide) (by decide) (by decide) (by kernel_rfl) ?_
  · intro c a d v w h; cases d <;> exact h
  intro X00
  simp only [pickOps]
  repeat (go_big_quiet_step (fail))
  refine wpQuiet_nil (fun X0 => ?_)
  clear X00
  refine wpAnyM_done (by kernel_rfl) (fun X0' => ?_) _
  go_wp2_with fail
  refine wp_forget (base := wb) (by (repeat (first | (with_reducible (first | assumption | exact zR _ | exact zM _ _ _ _)) | apply zA | refine zS ?_ (by first | exact zL _ | exact zK _ _ | assumption) _ | apply zP | apply zD | apply zN))) (fun Z => ?_)
  refine wp_region_mixed [true, true, true, true, true, true, true, true, true, true, true, true, true] 0 13 (by kernel_rfl) (by kernel_rfl) (by kernel_rfl) ?_ (by decide) (by decide) (by decide) (by kernel_rfl) ?_
  · intro c a d v w h; cases d <;> exact h
  intro X00
  simp only [pickOps]
  repeat (go_big_quiet_step ((go_at_call 183; exact Calls.added2 (HPL.out _))))
  refine wpQuiet_nil (fun X0 => ?_)
  clear X00
  refine wpAnyM_done (by kernel_rfl) (fun X0' => ?_) _
  go_wp2_with fail
  refine wp_region_moves [1, 2, 3, 12, 13] [true, false, false, false, true, true, true, true, true, true, true, true] 12 14 (by kernel_rfl) (by kernel_rfl) (by kernel_rfl) (by kernel_rfl) ?_ (by decide) (by decide) (by decide) (by kernel_rfl) ?_
  · intro c a d v w h; cases d <;> exact h
  intro X00
  simp only [pickOps, movesAct, moveOf, List.getElem?_toArray, List.getElem?_cons_zero, List.getElem?_cons_succ]
  go_simp
  repeat (go_big_quiet_step (fail))
  refine wpQuiet_nil (fun X0 => ?_)
  clear X00
  refine wpAnyM_tailL rfl (by kernel_rfl) (fun X2 => ?_)
  simp only [List.drop_succ_cons, List.drop_zero]
  go_wp2_with fail
  go_ret
  refine Does.ext ⟨((g.to 0 w1).to 0 wb).own, (((wb.setCell ⟨b, 20, none⟩ (.bool rf)).setCell ⟨b, 14, none⟩ (.int .i64 pf)).setCell ⟨b, 15, none⟩ (.int .i64 pw)).setCell ⟨b, 12, none⟩ (.int .i64 1)⟩ (by (repeat (first | (with_reducible (first | assumption | exact zR _ | exact zM _ _ _ _)) | apply zA | refine zS ?_ (by first | exact zL _ | exact zK _ _ | assumption) _ | apply zP | apply zD | apply zN))) rfl ((HE.out.mono (fun _ => False.elim)).trans (Mod.st (Mod.st (Mod.st (Mod.st Mod.self HO.out) HO.out) HO.out) HO.out)) (fun g2 m => ?_)
  rw [HRF.out, HPF.out.1, HPF.out.2]
  exact HEX.out.keep m id id
end Go.Proofs.YtoaehfdjffejeaaGreat
/-
  Merged: XFindJ, XFindK.
-/
/-
  find: indexes that are none; an array side by side; an array with a spine.
-/
namespace Go.Proofs.YtoaehfdjffejeaaGreat
open Go Go.RowKit
set_option linter.unusedVariables false
set_option linter.unnecessarySimpa false
set_option linter.unusedSimpArgs false
set_option maxHeartbeats 1500000
set_option maxRecDepth 100000
theorem find_first_index (g : GW) (t b : Nat) (S : FindS) (p q : Nat) (kd md k : Int) (refs : List Bool) (h : FindAt g t b S) (ht : ∀ w, Calls Tryz.prog 173 #[.complex .f64 p q] w (Gives (.tuple #[.int .i64 kd, .int .i64 md, .bool true]) w)) (hat : S.c.shapeAt kd = some (false, refs)) (ha : S.array = false) (hk : S.k = k) (hlt : k < 0 ∨ refs.length ≤ k) (hkb : -9223372036854775808 ≤ k ∧ k ≤ 9223372036854775807)
    (hmd : md = 1 ∨ md = 0) :
    Calls Tryz.prog 175 #[.pointer (some ⟨b, 0, none⟩), .complex .f64 p q] g.w (Does (.bool false) g (fun x => x = t) (fun g' => FindAt g' t b (S.ends 5))) := by
  have HA := Lib.hid ha
  have HK := Lib.hid hk
  have HMD := Lib.hid hmd
  clear ha hk hmd
  have HSH := Lib.hid (fun w' (he : Ext g.w w') => shape_any S.c kd w' (h.cnf.ok.ext he))
  unfold Cnf.val at HSH
  have H := Lib.hid h
  have HT := Lib.hid (ht g.w)
  clear h ht
  go_enter Tryz.func175, Tryz.ntmps175
  go_wp2_with fail
  refine HT.out.mono ?_
  rintro e w1 ⟨rfl, hE⟩
  have HE1 := Lib.hid (Mod.ext (T := fun _ => False) (g := g) (show Ext g.w w1 from hE) 0)
  have H1 := Lib.hid (H.out.keep HE1.out id id)
  have HX1 := Lib.hid (show Ext g.w w1 from hE)
  clear hE HT
  have k0 := H1.out.blk.cell (i := 0) rfl
  have k1 := H1.out.blk.cell (i := 1) rfl
  have k2 := H1.out.blk.cell (i := 2) rfl
  have k3 := H1.out.blk.cell (i := 3) rfl
  have k4 := H1.out.blk.cell (i := 4) rfl
  have k5 := H1.out.blk.cell (i := 5) rfl
  have k6 := H1.out.blk.cell (i := 6) rfl
  have k7 := H1.out.blk.cell (i := 7) rfl
  have k8 := H1.out.blk.cell (i := 8) rfl
  have hl := H1.out.blk.lt
  simp only [GW.to] at k0 k1 k2 k3 k4 k5 k6 k7 k8 hl
  go_wp2_with fail
  refine (HSH.out _ HX1.out).mono ?_
  rintro e w2 ⟨s', rfl, hs, hfr, hok, hE⟩
  have HS := Lib.hid (hs.trans (by rw [hat]; rfl : _ = (false, refs)))
  have HI := Lib.hid (show (S.c.shapeAt kd).isSome = true by rw [hat]; rfl)
  have HOK := Lib.hid hok
  clear hs hfr hok HSH k0 k1 k2 k3 k4 k5 k6 k7 k8 hl hat
  rw [HI.out]
  obtain ⟨arr', A', cap', refs'⟩ := s'
  have ha : arr' = false := congrArg Prod.fst HS.out
  have hr : refs' = refs := congrArg Prod.snd HS.out
  subst ha hr
  clear HS HI
  unfold Shp.val
  have HE2 := Lib.hid (Mod.ext (T := fun _ => False) (g := g.to 0 w1) (show Ext w1 (w2.alloc (.cells #[.bool false, .slice A' refs'.length cap'] 73)) from (show Ext w1 w2 from hE).trans (by (repeat (first | (with_reducible (first | assumption | exact zR _ | exact zM _ _ _ _)) | apply zA | refine zS ?_ (by first | exact zL _ | exact zK _ _ | assumption) _ | apply zP | apply zD | apply zN)))) 0)
  have HE := Lib.hid (HE1.out.trans HE2.out)
  have H2 := Lib.hid (H1.out.keep HE2.out id id)
  have HB := Lib.hid (show (w2.alloc (.cells #[.bool false, .slice A' refs'.length cap'] 73)).heap[w2.heap.size]? = some (.cells #[.bool false, .slice A' refs'.length cap'] 73) from World.row_alloc_new _)
  have HOK2 := Lib.hid (HOK.out.ext (show Ext w2 (w2.alloc (.cells #[.bool false, .slice A' refs'.length cap'] 73)) by (repeat (first | (with_reducible (first | assumption | exact zR _ | exact zM _ _ _ _)) | apply zA | refine zS ?_ (by first | exact zL _ | exact zK _ _ | assumption) _ | apply zP | apply zD | apply zN))))
  clear hE H1 HX1 HE1 HE2 H HOK
  go_upto_region 3 with fail
  generalize w2.heap.size = bs at *
  generalize w2.alloc (.cells #[.bool false, .slice A' refs'.length cap'] 73) = wb at *
  have c1 := H2.out.blk.cell (i := 11) rfl
  have c4 := H2.out.blk.cell (i := 10) rfl
  have hl := H2.out.blk.lt
  have s0 : wb.cell? ⟨bs, 0, none⟩ = some (.bool false) := by simp only [World.cell?, HB.out]; rfl
  have s1 : wb.cell? ⟨bs, 1, none⟩ = some (.slice A' refs'.length cap') := by simp only [World.cell?, HB.out]; rfl
  have hbs : bs < wb.heap.size := (Array.getElem?_eq_some_iff.1 HB.out).1
  simp only [GW.to] at c1 c4 hl
  rw [HA.out] at c1
  rw [HK.out] at c4
  have HPL := Lib.hid (fun X => (show Calls Tryz.prog 183 #[.agg #[.bool false, .slice A' refs'.length cap'], .int .i64 k] (wb.patch X) (Gives (.tuple #[.int .i64 0, .int .i64 0, .bool false]) (wb.patch X)) from by
    have h1 := place_any ⟨false, A', cap', refs'⟩ k (wb.patch X) (HOK2.out.ext ⟨X, rfl⟩) hkb.1 hkb.2
    unfold Shp.place at h1
    rw [if_neg (by unfold Shp.hasField Shp.len; simp; omega)] at h1
    exact h1))
  have HEX := Lib.hid (fun X => find_ends (((g.to 0 w1).to 0 wb).pt X) t b S 5 (H2.out.keep (Mod.pt (Mod.refl (fun _ => False) _) X) id id))
  clear hkb hlt
  rcases HMD.out with rfl | rfl
  all_goals
    clear HMD
    go_wp2_with fail
    refine wp_region_mixed [true, true, true, true, true, true, true, true] 0 8 (by kernel_rfl) (by kernel_rfl) (by kernel_rfl) ?_ (by decide) (by decide) (by decide) (by kernel_rfl) ?_
    · intro c a d v w h; cases d <;> exact h
    intro X00
    simp only [pickOps]
    repeat (go_big_quiet_step (fail))
    refine wpQuiet_nil (fun X0 => ?_)
    clear X00
    refine wpAnyM_done (by kernel_rfl) (fun X0' => ?_) _
    go_wp2_with fail
    refine wp_forget (base := wb) (by (repeat (first | (with_reducible (first | assumption | exact zR _ | exact zM _ _ _ _)) | apply zA | refine zS ?_ (by first | exact zL _ | exact zK _ _ | assumption) _ | apply zP | apply zD | apply zN))) (fun Z => ?_)
    refine wp_region_mixed [true, true, true, true, true, true, true, true, true, true, true, true, true] 0 13 (by kernel_rfl) (by kernel_rfl) (by kernel_rfl) ?_ (by decide) (by decide) (by decide) (by kernel_rfl) ?_
    · intro c a d v w h; cases d <;> exact h
    intro X00
    simp only [pickOps]
    repeat (go_big_quiet_step ((go_at_call 183; exact Calls.added2 (HPL.out _))))
    refine wpQuiet_nil (fun X0 => ?_)
    clear X00
    refine wpAnyM_done (by kernel_rfl) (fun X0' => ?_) _
    go_wp2_with fail
    refine (HEX.out _).mono ?_
    rintro e w3 ⟨rfl, own3, m3, r3⟩
    have M3 := Lib.hid m3
    have R3 := Lib.hid r3
    clear m3 r3
    go_wp2_with fail
    go_ret
    exact ⟨rfl, own3, (HE.out.mono (fun _ => False.elim)).trans ((Mod.pt (Mod.refl _ _) _).trans M3.out), R3.out⟩
theorem find_elem_beside (g : GW) (t b tm bm : Nat) (S : FindS) (m : MemS) (fr : Int) (h : FindAt g t b S) (hm : MemAt g tm bm m) (hc : 0 ≤ m.count ∧ m.count ≤ 1099511627776) (hpc : S.pc = 4) (hmo : S.mode = 2) (hk : 0 ≤ S.k ∧ S.k ≤ 1000) (hok : S.okAt S.head 4 = true) (hin : inB (S.head * 8 + 4) m.l.length = true) (hw : m.peek (S.head * 8 + 4) = (floatOfInt .f64 (fr + 1), 4607182418800017408)) (ht : t ≠ tm) (ht1 : t + 1 ≠ tm)
    (hf0 : 0 ≤ fr) (hf1 : fr ≤ 1099511627776) :
    Calls Tryz.prog 144 #[.pointer (some ⟨b, 0, none⟩), .pointer (some ⟨bm, 0, none⟩)] g.w (Does (.bool true) g (fun x => x = t ∨ x = tm) (fun g' => FindAt g' t b (S.stands (fr + S.k / 8) (S.k % 8)) ∧ MemAt g' tm bm m.tick)) := by
  have c0 := h.blk.cell (i := 12) rfl
  have c1 := h.blk.cell (i := 9) rfl
  have hl := h.blk.lt
  rw [hpc] at c0
  have HT := Lib.hid (And.intro ht ht1)
  have H := Lib.hid h
  have HR := Lib.hid (find_read_ok g t b tm bm S m S.head 4 h hm hc hok hin _ _ hw ht ht1)
  have HI := Lib.hid (fun w => index_ref fr hf0 hf1 w)
  generalize floatOfInt .f64 (fr + 1) = p at *
  have c2 := h.blk.cell (i := 17) rfl
  rw [hmo] at c2
  have HMO := Lib.hid hmo
  obtain ⟨hk0, hk1⟩ := hk
  have e1 : IntKind.i64.wrap (fr + S.k / 8) = fr + S.k / 8 := IntWalk.i64_in _ (by omega)
  clear h hm hpc hok hin hw ht ht1 hmo
  go_enter Tryz.func144, Tryz.ntmps144
  go_wp2_with fail
  refine wp_scope_fwd 1 rfl ?_
  go_wp2_with fail
  go_step3
  refine ⟨rfl, ?_⟩
  go_wp2_with fail
  refine HR.out.mono ?_
  rintro e w1 ⟨rfl, own1, m1, r1, r2⟩
  have M1 := Lib.hid m1
  have R1 := Lib.hid r1
  have R2 := Lib.hid r2
  clear m1 r1 r2 c0 c1 c2 hl
  have c2 := R2.out.blk.cell (i := 17) rfl
  rw [HMO.out] at c2
  have hl := R2.out.blk.lt
  simp only at c2 hl
  go_wp2_with fail
  refine (HI.out _).mono ?_
  rintro e w2 ⟨rfl, hE⟩
  have M2 := Lib.hid (Mod.ext (T := fun _ => False) (g := ⟨own1, w1⟩) (show Ext w1 w2 from hE) 0)
  have R3 := Lib.hid (R2.out.keep M2.out id id)
  have R1' := Lib.hid (R1.out.keep M2.out id)
  clear hE c2 hl
  have c2 := R3.out.blk.cell (i := 17) rfl
  have c3 := R3.out.blk.cell (i := 10) rfl
  rw [HMO.out] at c2
  have hl := R3.out.blk.lt
  simp only [GW.to] at c2 c3 hl
  go_wp2_with fail
  refine (find_data (GW.to ⟨own1, w1⟩ 0 w2) t b S (fr + S.k / 8) R3.out hk0).mono ?_
  rintro e w3 ⟨rfl, own3, m3, r3⟩
  have M3 := Lib.hid m3
  have R4 := Lib.hid r3
  clear m3 r3
  go_wp2_with fail
  rw [Exit.noGoto_ret]
  go_ret
  exact ⟨rfl, own3, (M1.out.mono (fun x hx => Or.inr hx)).trans ((M2.out.mono (fun _ => False.elim)).trans (M3.out.mono (fun x hx => Or.inl hx))), R4.out, R1'.out.keep M3.out (fun e => HT.out.1 e.symm)⟩
theorem find_elem_spine (g : GW) (t b tm bm : Nat) (S : FindS) (m : MemS) (at_ : Int) (h : FindAt g t b S) (hm : MemAt g tm bm m) (hc : 0 ≤ m.count ∧ m.count ≤ 1099511627776) (hpc : S.pc = 4) (hmo : S.mode = 1) (hok : S.okAt S.head 4 = true) (hin : inB (S.head * 8 + 4) m.l.length = true) (hw : m.peek (S.head * 8 + 4) = (floatOfInt .f64 at_, 0)) (ht : t ≠ tm) (ht1 : t + 1 ≠ tm)
    (ha0 : 0 ≤ at_) (ha1 : at_ < cWords S.c) (ha2 : at_ ≤ 1000000) :
    Calls Tryz.prog 144 #[.pointer (some ⟨b, 0, none⟩), .pointer (some ⟨bm, 0, none⟩)] g.w (Does (.bool false) g (fun x => x = t ∨ x = tm) (fun g' => FindAt g' t b { S with slot := at_, pc := 5 } ∧ MemAt g' tm bm m.tick)) := by
  have c0 := h.blk.cell (i := 12) rfl
  have c1 := h.blk.cell (i := 9) rfl
  have hl := h.blk.lt
  rw [hpc] at c0
  have HT := Lib.hid (And.intro ht ht1)
  have H := Lib.hid h
  have HR := Lib.hid (find_read_ok g t b tm bm S m S.head 4 h hm hc hok hin _ _ hw ht ht1)
  have HI := Lib.hid (fun w => nint_fits at_ ⟨by omega, by omega⟩ w)
  generalize floatOfInt .f64 at_ = p at *
  have c2 := h.blk.cell (i := 17) rfl
  rw [hmo] at c2
  have HMO := Lib.hid hmo
  have HA1 := Lib.hid ha1
  clear h hm hpc hok hin hw ht ht1 hmo ha1
  go_enter Tryz.func144, Tryz.ntmps144
  go_wp2_with fail
  refine wp_scope_fwd 1 rfl ?_
  go_wp2_with fail
  go_step3
  refine ⟨rfl, ?_⟩
  go_wp2_with fail
  refine HR.out.mono ?_
  rintro e w1 ⟨rfl, own1, m1, r1, r2⟩
  have M1 := Lib.hid m1
  have R1 := Lib.hid r1
  have R2 := Lib.hid r2
  clear m1 r1 r2 c0 c1 c2 hl
  have c2 := R2.out.blk.cell (i := 17) rfl
  rw [HMO.out] at c2
  have hl := R2.out.blk.lt
  simp only at c2 hl
  go_wp2_with fail
  refine (HI.out _).mono ?_
  rintro e w2 ⟨rfl, hE⟩
  have M2 := Lib.hid (Mod.ext (T := fun _ => False) (g := ⟨own1, w1⟩) (show Ext w1 w2 from hE) 0)
  have R3 := Lib.hid (R2.out.keep M2.out id id)
  have R1' := Lib.hid (R1.out.keep M2.out id)
  clear hE c2 hl
  have c0 := R3.out.blk.cell (i := 18) rfl
  have f0 := R3.out.blk.live 18
  have hl := R3.out.blk.lt
  simp only [GW.to] at c0 f0 hl
  go_upto_region 28 with fail
  have HO := R3.out.blk.own
  have M3 := Lib.hid (show Mod (fun x => x = t) (GW.to ⟨own1, w1⟩ 0 w2) ⟨(GW.to ⟨own1, w1⟩ 0 w2).own, w2.setCell ⟨b, 18, none⟩ (.int .i64 at_)⟩ from Mod.st Mod.self HO)
  have R4 := Lib.hid (show FindAt ⟨(GW.to ⟨own1, w1⟩ 0 w2).own, w2.setCell ⟨b, 18, none⟩ (.int .i64 at_)⟩ t b { S with slot := at_ } from R3.out.st 18 (.int .i64 at_) { S with slot := at_ } rfl rfl)
  have R5 := Lib.hid (R1'.out.keep M3.out (fun e => HT.out.1 e.symm))
  generalize hwx : w2.setCell ⟨b, 18, none⟩ (.int .i64 at_) = wx at *
  generalize (GW.to ⟨own1, w1⟩ 0 w2) = g2 at *
  clear hwx c0 f0 hl HO R1' R3
  have k0 := R4.out.blk.cell (i := 0) rfl
  have k1 := R4.out.blk.cell (i := 1) rfl
  have k2 := R4.out.blk.cell (i := 2) rfl
  have k3 := R4.out.blk.cell (i := 3) rfl
  have k4 := R4.out.blk.cell (i := 4) rfl
  have k5 := R4.out.blk.cell (i := 5) rfl
  have k6 := R4.out.blk.cell (i := 6) rfl
  have k7 := R4.out.blk.cell (i := 7) rfl
  have k8 := R4.out.blk.cell (i := 8) rfl
  have c1 := R4.out.blk.cell (i := 18) rfl
  have c3 := R4.out.blk.cell (i := 12) rfl
  have f3 := R4.out.blk.live 12
  have hl := R4.out.blk.lt
  have HO := Lib.hid R4.out.blk.own
  simp only at c1 c3 f3 hl k0 k1 k2 k3 k4 k5 k6 k7 k8
  have HEND := Lib.hid (fun X : Extra => show Does (.bool false) g (fun x => x = t ∨ x = tm) (fun g' => FindAt g' t b { S with slot := at_, pc := 5 } ∧ MemAt g' tm bm m.tick) (.returned (.bool false)) ((wx.setCell ⟨b, 12, none⟩ (.int .i64 5)).patch X) from by
    have m6 : Mod (fun x => x = t) ⟨g2.own, wx⟩ ⟨g2.own, wx.setCell ⟨b, 12, none⟩ (.int .i64 5)⟩ := Mod.st Mod.self R4.out.blk.own
    refine Does.ext ⟨g2.own, wx.setCell ⟨b, 12, none⟩ (.int .i64 5)⟩ ⟨X, rfl⟩ rfl ?_ (fun g3 mm => ⟨?_, ?_⟩)
    · exact (M1.out.mono (fun x hx => Or.inr hx)).trans ((M2.out.mono (fun _ => False.elim)).trans ((M3.out.mono (fun x hx => Or.inl hx)).trans (m6.mono (fun x hx => Or.inl hx))))
    · exact (R4.out.st 12 (.int .i64 5) { S with slot := at_, pc := 5 } rfl rfl).keep mm id id
    · exact (R5.out.keep m6 (fun e => HT.out.1 e.symm)).keep mm id)
  have HWD := Lib.hid (fun X => words_any S.c (wx.patch X) (R4.out.cnf.ok.ext ⟨X, rfl⟩))
  unfold Cnf.val at HWD
  have d1 : decide (at_ < 0) = false := decide_eq_false (by omega)
  have d2 : decide (cWords S.c ≤ at_) = false := decide_eq_false (by have := HA1.out; omega)
  generalize cWords S.c = nw at *
  go_wp2_with fail
  refine wp_region_mixed [true, true, true, true, true, true, true, true, true, true, true, true, true, true, true, true, true, true, true, true, true] 0 21 (by kernel_rfl) (by kernel_rfl) (by kernel_rfl) ?_ (by decide) (by decide) (by decide) (by kernel_rfl) ?_
  · intro c a d v w h; cases d <;> exact h
  intro X00
  simp only [pickOps]
  repeat (go_big_quiet_step (exact Calls.added (HWD.out _)))
  refine wpQuiet_nil (fun X0 => ?_)
  clear X00
  refine wpAnyM_done (by kernel_rfl) (fun X0' => ?_) _
  go_wp2_with fail
  rw [Exit.noGoto_ret]
  go_ret
  exact HEND.out _
end Go.Proofs.YtoaehfdjffejeaaGreat
/-
  find: an array with a spine: the slot.
-/
namespace Go.Proofs.YtoaehfdjffejeaaGreat
open Go Go.RowKit
set_option linter.unusedVariables false
set_option linter.unnecessarySimpa false
set_option linter.unusedSimpArgs false
set_option maxHeartbeats 800000
set_option maxRecDepth 100000
theorem find_elem_slot (g : GW) (t b tm bm : Nat) (S : FindS) (m : MemS) (fr : Int) (h : FindAt g t b S) (hm : MemAt g tm bm m) (hc : 0 ≤ m.count ∧ m.count ≤ 1099511627776) (hpc : S.pc = 5) (hk : 0 ≤ S.k ∧ S.k ≤ 1000) (hs : 0 ≤ S.slot ∧ S.slot ≤ 1000000) (hin : inB (S.slot + 2 + S.k / 8) m.l.length = true) (hw : m.peek (S.slot + 2 + S.k / 8) = (floatOfInt .f64 (fr + 1), 4607182418800017408)) (ht : t ≠ tm) (ht1 : t + 1 ≠ tm)
    (hf0 : 0 ≤ fr) (hf1 : fr ≤ 1099511627776) :
    Calls Tryz.prog 144 #[.pointer (some ⟨b, 0, none⟩), .pointer (some ⟨bm, 0, none⟩)] g.w (Does (.bool true) g (fun x => x = t ∨ x = tm) (fun g' => FindAt g' t b (S.stands fr (S.k % 8)) ∧ MemAt g' tm bm m.tick)) := by
  have c0 := h.blk.cell (i := 12) rfl
  have c1 := h.blk.cell (i := 9) rfl
  have hl := h.blk.lt
  rw [hpc] at c0
  have HT := Lib.hid (And.intro ht ht1)
  have H := Lib.hid h
  have c2 := h.blk.cell (i := 18) rfl
  have c3 := h.blk.cell (i := 10) rfl
  have HRD := Lib.hid (fun X => show Calls Tryz.prog 103 #[.pointer (some ⟨bm, 0, none⟩), .int .i64 (S.slot + 2 + S.k / 8)] (g.w.patch X) (Does (.tuple #[.complex .f64 (floatOfInt .f64 (fr + 1)) 4607182418800017408, .int .i64 0]) (g.pt X) (fun x => x = tm) (fun g' => MemAt g' tm bm m.tick)) from by
    have h1 := mem_read (g.pt X) tm bm (S.slot + 2 + S.k / 8) m (hm.pt X) hc
    rw [hw, hin] at h1
    exact h1)
  have HI := Lib.hid (fun w => index_ref fr hf0 hf1 w)
  generalize floatOfInt .f64 (fr + 1) = p at *
  obtain ⟨hk0, hk1⟩ := hk
  obtain ⟨hs0, hs1⟩ := hs
  have e1 : IntKind.i64.wrap (S.slot + 2) = S.slot + 2 := IntWalk.i64_in _ (by omega)
  have e2 : IntKind.i64.wrap (S.slot + 2 + S.k / 8) = S.slot + 2 + S.k / 8 := IntWalk.i64_in _ (by omega)
  have e3 : S.k.tdiv 8 = S.k / 8 := Int.tdiv_eq_ediv_of_nonneg hk0
  clear h hm hpc hin hw ht ht1
  go_enter Tryz.func144, Tryz.ntmps144
  go_wp2_with fail
  refine wp_scope_fwd 2 rfl ?_
  go_wp2_with fail
  go_step3
  refine ⟨rfl, ?_⟩
  go_wp2_with fail
  refine wp_region_split [true, true, true, true, true, true, true, true, true, true, true, true] 12 ?sp_o [false, false, false, false, false, false, false, false, false, false, false, false, false, true, true, true, true, true] ?sp1 ?sp2 ?sp3 ?sp4 ?sp5 ?sp6 ?sp7 ?sp8 ?sp9 ?sp10 ?sp11 ?sp12 ?sp13 ?sp14 ?sp15
  case sp11 => exact rfl
  case sp1 => kernel_rfl
  case sp2 => kernel_rfl
  case sp3 => kernel_rfl
  case sp4 => (intro c a d v w h; cases d <;> exact h)
  case sp5 => decide
  case sp6 => decide
  case sp7 => decide
  case sp8 => decide
  case sp9 => kernel_rfl
  case sp10 => kernel_rfl
  case sp12 => exact rfl
  case sp13 => kernel_rfl
  case sp14 => kernel_rfl
  intro X00
  simp only [pickOps]
  repeat (go_big_quiet_step (fail))
  refine wpQuiet_nil ?_
  intro X0 K Q' hK
  clear X00
  (try go_simp)
  refine (HRD.out _).mono ?_
  rintro e w1 ⟨rfl, own1, m1, r1⟩
  have M1 := Lib.hid ((Mod.pt (Mod.refl (fun x => x = tm) _) _).trans m1)
  have R1 := Lib.hid r1
  have R2 := Lib.hid (H.out.keep M1.out HT.out.1 HT.out.2)
  clear m1 r1 c0 c1 c2 c3 hl
  (try go_simp)
  refine hK _ _ (fun X00 => ?_)
  clear hK K Q'
  (try simp only [pickOps])
  repeat (go_big_quiet_step (fail))
  refine wpQuiet_nil (fun X2 => ?_)
  clear X00
  have M2 := Lib.hid (Mod.pt (Mod.refl (fun _ => False) ⟨own1, w1⟩) X2)
  have R1a := Lib.hid (R1.out.keep M2.out id)
  have R2a := Lib.hid (R2.out.keep M2.out id id)
  go_wp2_with fail
  refine (HI.out _).mono ?_
  rintro e w2 ⟨rfl, hE⟩
  have M3 := Lib.hid (Mod.ext (T := fun _ => False) (g := GW.pt ⟨own1, w1⟩ X2) (show Ext (w1.patch X2) w2 from hE) 0)
  have R3 := Lib.hid (R2a.out.keep M3.out id id)
  have R1' := Lib.hid (R1a.out.keep M3.out id)
  clear hE
  go_wp2_with fail
  refine (find_data (GW.to (GW.pt ⟨own1, w1⟩ X2) 0 w2) t b S fr R3.out hk0).mono ?_
  rintro e w3 ⟨rfl, own3, m3, r3⟩
  have M4 := Lib.hid m3
  have R4 := Lib.hid r3
  clear m3 r3
  go_wp2_with fail
  rw [Exit.noGoto_ret]
  go_ret
  exact ⟨rfl, own3, (M1.out.mono (fun x hx => Or.inr hx)).trans (((M2.out.trans M3.out).mono (fun _ => False.elim)).trans (M4.out.mono (fun x hx => Or.inl hx))), R4.out, R1'.out.keep M4.out (fun e => HT.out.1 e.symm)⟩
end Go.Proofs.YtoaehfdjffejeaaGreat

