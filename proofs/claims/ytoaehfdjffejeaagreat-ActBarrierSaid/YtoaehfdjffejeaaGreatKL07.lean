import Derived.Test.YtoaehfdjffejeaaGreatKL06
/-
  Packed: SpaceB.
-/
open Go.Ext renaming alloc → zA, patch → zP, drew → zD, drewN → zN, more → zM, refl → zR, setCell → zS
open Nat renaming le_refl → zL, le_add_right → zK
/-
  space: fits, takes.
-/
namespace Go
theorem same_gives {P : Program} {f : FuncId} {args : Array Value} {w : World} {v : Value} (h : Calls P f args w fun e w' => e = .returned v ∧ w = w') : Calls P f args w (Gives v w) :=
  h.mono fun e w' ⟨he, hw⟩ => ⟨he, by subst hw; exact Ext.refl _⟩
theorem PoolS.low_bd {l : List Bool} : ∀ (f k i : Nat), ∀ x ∈ PoolS.lowGo l k f i, ∃ j : Nat, x = j ∧ j < i + f
  | 0, k, i, x, h => by simp [PoolS.lowGo] at h
  | f + 1, k, i, x, h => by
    unfold PoolS.lowGo at h
    split at h
    · simp at h
    · split at h
      · rcases List.mem_cons.1 h with rfl | h
        · exact ⟨i, rfl, by omega⟩
        · obtain ⟨j, hj, hl⟩ := low_bd f (k - 1) (i + 1) x h
          exact ⟨j, hj, by omega⟩
      · obtain ⟨j, hj, hl⟩ := low_bd f k (i + 1) x h
        exact ⟨j, hj, by omega⟩
theorem PoolS.lowOnes_bd {p : PoolS} {k x : Int} (h : x ∈ p.lowOnes k) : ∃ j : Nat, x = j ∧ j < p.l.length := by
  obtain ⟨j, hj, hl⟩ := PoolS.low_bd _ _ _ x h
  exact ⟨j, hj, by omega⟩
theorem PoolS.taken_bd {p : PoolS} {k : Int} {l : List Int} (h : p.taken k = some l) {x : Int} (hx : x ∈ l) : ∃ j : Nat, x = j ∧ j < p.l.length := by
  unfold taken at h
  split at h
  · cases h
  · cases hr : p.run k with
    | none => rw [hr] at h; injection h with h; subst h; exact lowOnes_bd hx
    | some a =>
      rw [hr] at h
      injection h with h
      subst h
      obtain ⟨-, ha, -⟩ := run_spec hr
      obtain ⟨j, hj, rfl⟩ := span_mem (a := a) (k := k.toNat) hx
      exact ⟨a + j, rfl, by omega⟩
theorem PoolS.lowGo_len {l : List Bool} : ∀ (f k i : Nat), (PoolS.lowGo l k f i).length ≤ k ∧ (PoolS.lowGo l k f i).length ≤ f
  | 0, k, i => by simp [PoolS.lowGo]
  | f + 1, k, i => by
    unfold PoolS.lowGo
    split
    · simp
    · split
      · have := lowGo_len (l := l) f (k - 1) (i + 1)
        simp only [List.length_cons]; omega
      · have := lowGo_len (l := l) f k (i + 1)
        omega
theorem PoolS.taken_len {p : PoolS} {k : Int} {l : List Int} (h : p.taken k = some l) : l.length ≤ p.l.length := by
  unfold taken at h
  split at h
  · cases h
  · cases hr : p.run k with
    | none => rw [hr] at h; injection h with h; subst h; exact (lowGo_len _ _ _).2
    | some a =>
      rw [hr] at h
      injection h with h
      subst h
      obtain ⟨-, ha, -⟩ := run_spec hr
      simp; omega
end Go
namespace Go.Proofs.YtoaehfdjffejeaaGreat
open Go Go.RowKit
set_option linter.unusedVariables false
set_option linter.unnecessarySimpa false
set_option linter.unusedSimpArgs false
set_option maxHeartbeats 2000000

theorem sh_fits (fr sp : Int) {g : GW} {B b bt bp bk bl cs : Nat} {S : SpaceS} {A : Option Addr} {cm : Cnf} {bs : List Nat} (h : SpaceIn g B b bt S bp bk bl A cs cm bs) :
    Calls Tryz.prog 167 #[shelves cm bp bk bl, .int .i64 fr, .int .i64 sp] g.w (Gives (.bool (S.fits fr sp)) g.w) := by
  have HF := Lib.hid (fun w' (he : Ext g.w w') => pool_free (g.to 9 w') (B + 1) bp S.pool (h.pool.keep (Mod.ext (T := fun _ => False) he 9) id))
  have hfb : fr ≤ (S.pool.free : Int) → fr ≤ 1099511627776 := fun hle => by
    have h1 := h.pool.len
    have h2 : S.pool.free ≤ S.pool.l.length := List.countP_le_length
    omega
  have HR0 := Lib.hid (fun (hle : fr ≤ (S.pool.free : Int)) w' (he : Ext g.w w') => pool_run (g.to 9 w') (B + 1) bp fr S.pool (h.pool.keep (Mod.ext (T := fun _ => False) he 9) id) (hfb hle))
  clear hfb
  have HK := Lib.hid (fun w' (he : Ext g.w w') => coil_room (g.to 9 w') (B + 2) bk S.coil (h.coil.keep (Mod.ext (T := fun _ => False) he 9) id))
  have HV := Lib.hid (show S.fits fr sp = (decide (fr ≤ (S.pool.free : Int)) && (sp == 0 || (S.pool.run fr).isSome || decide (sp ≤ S.coil.room))) from rfl)
  unfold shelves
  generalize S.pool.free = f at *
  generalize S.coil.room = rm at *
  generalize S.pool.run fr = o at *
  clear h
  by_cases h0 : (f : Int) < fr
  · have HW := Lib.hid (HV.out.trans (show _ = false by rw [decide_eq_false (by omega)]; rfl))
    go_enter Tryz.func167, Tryz.ntmps167
    go_wp2_with fail
    refine (HF.out _ (by (repeat (first | (with_reducible (first | assumption | exact zR _ | exact zM _ _ _ _)) | apply zA | refine zS ?_ (by first | exact zL _ | exact zK _ _ | assumption) _ | apply zP | apply zD | apply zN)))).mono ?_
    rintro e w1 ⟨rfl, rfl⟩
    simp only [GW.to]
    go_wp2_with fail
    go_ret
    exact Gives.bool (by rw [HW.out]; try rfl) (by (repeat (first | (with_reducible (first | assumption | exact zR _ | exact zM _ _ _ _)) | apply zA | refine zS ?_ (by first | exact zL _ | exact zK _ _ | assumption) _ | apply zP | apply zD | apply zN)))
  · have hd : decide (fr ≤ (f : Int)) = true := decide_eq_true (by omega)
    rw [hd] at HV
    clear hd
    have h1 : fr ≤ (f : Int) := by omega
    have HR := Lib.hid (HR0.out h1)
    clear HR0
    cases o with
    | some a =>
      have HW := Lib.hid (HV.out.trans (show _ = true by simp))
      unfold runVal at HR
      cases hz : (sp == 0)
      · go_enter Tryz.func167, Tryz.ntmps167
        go_wp2_with fail
        refine (HF.out _ (by (repeat (first | (with_reducible (first | assumption | exact zR _ | exact zM _ _ _ _)) | apply zA | refine zS ?_ (by first | exact zL _ | exact zK _ _ | assumption) _ | apply zP | apply zD | apply zN)))).mono ?_
        rintro e w1 ⟨rfl, rfl⟩
        simp only [GW.to]
        go_wp2_with fail
        refine (HR.out _ (by (repeat (first | (with_reducible (first | assumption | exact zR _ | exact zM _ _ _ _)) | apply zA | refine zS ?_ (by first | exact zL _ | exact zK _ _ | assumption) _ | apply zP | apply zD | apply zN)))).mono ?_
        rintro e w1 ⟨rfl, rfl⟩
        simp only [GW.to]
        go_wp2_with fail
        go_ret
        exact Gives.bool (by rw [HW.out]; try rfl) (by (repeat (first | (with_reducible (first | assumption | exact zR _ | exact zM _ _ _ _)) | apply zA | refine zS ?_ (by first | exact zL _ | exact zK _ _ | assumption) _ | apply zP | apply zD | apply zN)))
      · go_enter Tryz.func167, Tryz.ntmps167
        go_wp2_with fail
        refine (HF.out _ (by (repeat (first | (with_reducible (first | assumption | exact zR _ | exact zM _ _ _ _)) | apply zA | refine zS ?_ (by first | exact zL _ | exact zK _ _ | assumption) _ | apply zP | apply zD | apply zN)))).mono ?_
        rintro e w1 ⟨rfl, rfl⟩
        simp only [GW.to]
        go_wp2_with fail
        refine (HR.out _ (by (repeat (first | (with_reducible (first | assumption | exact zR _ | exact zM _ _ _ _)) | apply zA | refine zS ?_ (by first | exact zL _ | exact zK _ _ | assumption) _ | apply zP | apply zD | apply zN)))).mono ?_
        rintro e w1 ⟨rfl, rfl⟩
        simp only [GW.to]
        go_wp2_with fail
        go_ret
        exact Gives.bool (by rw [HW.out]; try rfl) (by (repeat (first | (with_reducible (first | assumption | exact zR _ | exact zM _ _ _ _)) | apply zA | refine zS ?_ (by first | exact zL _ | exact zK _ _ | assumption) _ | apply zP | apply zD | apply zN)))
    | none =>
      unfold runVal at HR
      cases hz : (sp == 0)
      · have HW := Lib.hid (HV.out.trans (show _ = decide (sp ≤ rm) by rw [hz]; simp))
        go_enter Tryz.func167, Tryz.ntmps167
        go_wp2_with fail
        refine (HF.out _ (by (repeat (first | (with_reducible (first | assumption | exact zR _ | exact zM _ _ _ _)) | apply zA | refine zS ?_ (by first | exact zL _ | exact zK _ _ | assumption) _ | apply zP | apply zD | apply zN)))).mono ?_
        rintro e w1 ⟨rfl, rfl⟩
        simp only [GW.to]
        go_wp2_with fail
        refine (HR.out _ (by (repeat (first | (with_reducible (first | assumption | exact zR _ | exact zM _ _ _ _)) | apply zA | refine zS ?_ (by first | exact zL _ | exact zK _ _ | assumption) _ | apply zP | apply zD | apply zN)))).mono ?_
        rintro e w1 ⟨rfl, rfl⟩
        simp only [GW.to]
        go_wp2_with fail
        refine (HK.out _ (by (repeat (first | (with_reducible (first | assumption | exact zR _ | exact zM _ _ _ _)) | apply zA | refine zS ?_ (by first | exact zL _ | exact zK _ _ | assumption) _ | apply zP | apply zD | apply zN)))).mono ?_
        rintro e w2 ⟨rfl, hX⟩
        have HE := Lib.hid ((show Ext g.w _ by (repeat (first | (with_reducible (first | assumption | exact zR _ | exact zM _ _ _ _)) | apply zA | refine zS ?_ (by first | exact zL _ | exact zK _ _ | assumption) _ | apply zP | apply zD | apply zN))).trans (show Ext _ w2 from hX))
        clear hX
        go_wp2_with fail
        go_ret
        exact Gives.bool (by rw [HW.out]; try rfl) HE.out
      · have HW := Lib.hid (HV.out.trans (show _ = true by rw [hz]; simp))
        go_enter Tryz.func167, Tryz.ntmps167
        go_wp2_with fail
        refine (HF.out _ (by (repeat (first | (with_reducible (first | assumption | exact zR _ | exact zM _ _ _ _)) | apply zA | refine zS ?_ (by first | exact zL _ | exact zK _ _ | assumption) _ | apply zP | apply zD | apply zN)))).mono ?_
        rintro e w1 ⟨rfl, rfl⟩
        simp only [GW.to]
        go_wp2_with fail
        refine (HR.out _ (by (repeat (first | (with_reducible (first | assumption | exact zR _ | exact zM _ _ _ _)) | apply zA | refine zS ?_ (by first | exact zL _ | exact zK _ _ | assumption) _ | apply zP | apply zD | apply zN)))).mono ?_
        rintro e w1 ⟨rfl, rfl⟩
        simp only [GW.to]
        go_wp2_with fail
        go_ret
        exact Gives.bool (by rw [HW.out]; try rfl) (by (repeat (first | (with_reducible (first | assumption | exact zR _ | exact zM _ _ _ _)) | apply zA | refine zS ?_ (by first | exact zL _ | exact zK _ _ | assumption) _ | apply zP | apply zD | apply zN)))

def cAtV (c : Cnf) (r : Nat) (k : Int) : Int := if 0 ≤ k ∧ k < cSize c r then k + cAhead c r else 0
theorem cAtV_eq (c : Cnf) (r : Nat) (k : Int) : ∃ e : Int, cAt c r k = .tuple #[.int .i64 (cAtV c r k), .int .i64 e] := by
  unfold cAt cAtV
  split
  · exact ⟨_, rfl⟩
  · exact ⟨_, rfl⟩
theorem cAtV_same {c d : Cnf} (h : c.Same d) (r : Nat) (k : Int) : cAtV c r k = cAtV d r k := by
  have hc := h.check
  obtain ⟨h1, h2, h3, h4, h5, h6, h7, h8, _⟩ := h
  unfold cAtV cSize cAhead
  rw [hc, h1, h2, h3]
theorem side_span (a k : Nat) (h : a + k ≤ 1000000) : isSide ((List.range k).map fun j => ((a + j : Nat) : Int)) = true := by
  unfold isSide sideTo
  rw [List.all_eq_true]
  intro j hj
  have hj := List.mem_range.1 hj
  simp only [List.length_map, List.length_range] at hj
  have g0 : (((List.range k).map fun j => ((a + j : Nat) : Int)).getD j 0) = ((a + j : Nat) : Int) := by
    rw [List.getD_eq_getElem?_getD, List.getElem?_map, List.getElem?_range (by omega)]; rfl
  have g1 : (((List.range k).map fun j => ((a + j : Nat) : Int)).getD (j + 1) 0) = ((a + (j + 1) : Nat) : Int) := by
    rw [List.getD_eq_getElem?_getD, List.getElem?_map, List.getElem?_range (by omega)]; rfl
  rw [g0, g1]
  exact decide_eq_true ⟨by omega, by omega⟩
theorem fits_side {S : SpaceS} {fr sp : Int} {got : List Int} (hfit : S.fits fr sp = true) (hg : S.pool.taken fr = some got) (hl : S.pool.l.length ≤ 1024) (hk : S.coil.Ok) : sp ≤ 1099511627776 ∨ isSide got = true := by
  unfold SpaceS.fits at hfit
  simp only [Bool.and_eq_true, Bool.or_eq_true, decide_eq_true_eq, beq_iff_eq] at hfit
  rcases hfit.2 with (h | h) | h
  · exact Or.inl (by omega)
  · refine Or.inr ?_
    obtain ⟨a, ha⟩ := Option.isSome_iff_exists.1 h
    unfold PoolS.taken at hg
    split at hg
    · cases hg
    · rw [ha] at hg
      injection hg with hg
      have := PoolS.run_spec ha
      rw [← hg]
      exact side_span _ _ (by omega)
  · refine Or.inl ?_
    have h1 : 0 ≤ S.coil.used S.coil.cur := by
      unfold CoilS.used
      split
      · exact hk.b0.1
      · exact hk.b1.1
    have h2 := hk.s0
    have h3 := hk.bk
    unfold CoilS.room at h
    omega
def takesAt (S : SpaceS) (got : List Int) (sp : Int) : Int := if sp = 0 ∨ isSide got = true then -1 else cAtV S.c (S.coil.cur + 1) (S.coil.takenAt sp)
def takesS (S : SpaceS) (got : List Int) (sp : Int) : SpaceS := { S with pool := S.pool.takes got, coil := if sp = 0 ∨ isSide got = true then S.coil else S.coil.take sp }
theorem CoilS.take_cur (c : CoilS) (n : Int) : (c.take n).cur = c.cur := by
  unfold CoilS.take CoilS.lays
  split
  · split <;> rfl
  · rfl
set_option maxRecDepth 100000 in
theorem sh_takes (fr sp : Int) (got : List Int) {g : GW} {B b bt bp bk bl cs : Nat} {S : SpaceS} {A : Option Addr} {cm : Cnf} {bs : List Nat} (h : SpaceIn g B b bt S bp bk bl A cs cm bs) (hB : 100 ≤ B) (hf : S.pool.taken fr = some got) (hsp : 0 ≤ sp ∧ (sp ≤ 1099511627776 ∨ isSide got = true)) :
    Calls Tryz.prog 169 #[shelves cm bp bk bl, .int .i64 fr, .int .i64 sp] g.w (Makes g (fun x => x = B + 1 ∨ x = B + 2) (fun v g' => ∃ s c, v = .tuple #[.slice s got.length c, .int .i64 (takesAt S got sp)] ∧ Row g' 0 3 1 (.slice s got.length c) got.length (got.map (Value.int .i64)) ∧ SpaceIn g' B b bt (takesS S got sp) bp bk bl A cs cm bs)) := by
  obtain ⟨hs0, hs1⟩ := hsp
  have HP := Lib.hid (fun g' (m : Mod (fun _ => False) g g') => pool_take_yes g' (B + 1) bp fr got S.pool (h.pool.keep m id) (by omega) hf)
  have HBD := Lib.hid (show ∀ x ∈ got, -9223372036854775808 ≤ x ∧ x ≤ 9223372036854775807 from fun x hx => by
    obtain ⟨j, rfl, hj⟩ := PoolS.taken_bd hf hx
    have := h.pool.len
    omega)
  have HGL := Lib.hid (show got.length ≤ 1024 from Nat.le_trans (PoolS.taken_len hf) h.pool.len)
  have H := Lib.hid h
  clear h hf
  have hE0 : Ext g.w (g.w.alloc (.cells #[.int .i64 cm.frags, .int .i64 cm.spine, .int .i64 cm.globals, .int .i64 cm.threads, .int .i64 cm.locals, .int .i64 cm.cache, .int .i64 cm.stack, .int .i64 cm.low, .slice cm.A cm.shapes.length cm.cap, .pointer (some ⟨bp, 0, none⟩), .pointer (some ⟨bk, 0, none⟩), .pointer (some ⟨bl, 0, none⟩)] 142)) := by (repeat (first | (with_reducible (first | assumption | exact zR _ | exact zM _ _ _ _)) | apply zA | refine zS ?_ (by first | exact zL _ | exact zK _ _ | assumption) _ | apply zP | apply zD | apply zN))
  have B0 := Lib.hid (Blk.new g 9 142 [.int .i64 cm.frags, .int .i64 cm.spine, .int .i64 cm.globals, .int .i64 cm.threads, .int .i64 cm.locals, .int .i64 cm.cache, .int .i64 cm.stack, .int .i64 cm.low, .slice cm.A cm.shapes.length cm.cap, .pointer (some ⟨bp, 0, none⟩), .pointer (some ⟨bk, 0, none⟩), .pointer (some ⟨bl, 0, none⟩)])
  have M0 := Lib.hid (Mod.ext (T := fun _ => False) hE0 9)
  clear hE0
  unfold shelves
  go_enter Tryz.func169, Tryz.ntmps169
  go_wp2_with fail
  refine (HP.out (g.to 9 (g.w.alloc (.cells #[.int .i64 cm.frags, .int .i64 cm.spine, .int .i64 cm.globals, .int .i64 cm.threads, .int .i64 cm.locals, .int .i64 cm.cache, .int .i64 cm.stack, .int .i64 cm.low, .slice cm.A cm.shapes.length cm.cap, .pointer (some ⟨bp, 0, none⟩), .pointer (some ⟨bk, 0, none⟩), .pointer (some ⟨bl, 0, none⟩)] 142))) M0.out).mono ?_
  rintro e w1 ⟨v, own1, rfl, m1, s, rfl, r1, p1⟩
  obtain ⟨sA, sc, rfl⟩ := own_form r1.row
  have M1 := Lib.hid ((M0.out.mono (fun x hx => hx.elim)).trans m1)
  have R1 := Lib.hid r1
  have B1 := Lib.hid (B0.out.keep m1 (by omega))
  have H1 := Lib.hid ((H.out.keep M0.out (fun x hx => hx.elim)).withPool m1 p1)
  have HSD := Lib.hid (fun w' (he : Ext w1 w') => side_any sA sc got w' (r1.cells.ext he) (by have := HGL.out; omega) HBD.out)
  clear m1 r1 p1
  obtain ⟨d0, d1, d2, d3, d4, d5, d6, d7, d8, d9, d10, d11, dl⟩ := B1.out.c12
  (try simp only [GW.to] at d0 d1 d2 d3 d4 d5 d6 d7 d8 d9 d10 d11 dl)
  by_cases hz : sp = 0
  · subst hz
    have HT := Lib.hid (show takesAt S got 0 = -1 from if_pos (Or.inl rfl))
    have HS := Lib.hid (show takesS S got 0 = { S with pool := S.pool.takes got } by unfold takesS; rw [if_pos (Or.inl rfl)])
    go_wp2_with fail
    go_ret2
    exact ⟨_, own1, rfl, M1.out.mono (fun x hx => Or.inl hx), sA, sc, by rw [HT.out]; try rfl, R1.out, by rw [HS.out]; exact H1.out⟩
  · have hz0 : (sp == 0) = false := by simp [hz]
    cases hsd : isSide got
    · have hs1 : sp ≤ 1099511627776 := hs1.elim id (fun e => by rw [hsd] at e; cases e)
      have HT := Lib.hid (show takesAt S got sp = cAtV S.c (S.coil.cur + 1) (S.coil.takenAt sp) from if_neg (by rw [hsd]; simp [hz]))
      have HS := Lib.hid (show takesS S got sp = { S with pool := S.pool.takes got, coil := S.coil.take sp } by unfold takesS; rw [if_neg (by rw [hsd]; simp [hz])])
      rw [hsd] at HSD
      clear hsd hz
      go_wp2_with fail
      refine (HSD.out _ (by (repeat (first | (with_reducible (first | assumption | exact zR _ | exact zM _ _ _ _)) | apply zA | refine zS ?_ (by first | exact zL _ | exact zK _ _ | assumption) _ | apply zP | apply zD | apply zN)))).mono ?_
      rintro e w2 ⟨rfl, hX⟩
      obtain ⟨own2, m2, hw2⟩ : ∃ own2, Mod (fun _ => False) ⟨own1, w1⟩ ⟨own2, w2⟩ ∧ Ext w1 w2 := ⟨_, Mod.ext (g := ⟨own1, w1⟩) (show Ext w1 w2 from hX) 0, hX⟩
      have M2 := Lib.hid (M1.out.trans (m2.mono (fun x hx => hx.elim)))
      have R2 := Lib.hid (R1.out.keep m2 id)
      have B2 := Lib.hid (B1.out.keep m2 id)
      have H2 := Lib.hid (H1.out.keep m2 (fun x hx => hx.elim))
      clear m2 hw2 hX d0 d1 d2 d3 d4 d5 d6 d7 d8 d9 d10 d11 dl
      obtain ⟨d0, d1, d2, d3, d4, d5, d6, d7, d8, d9, d10, d11, dl⟩ := B2.out.c12
      (try simp only [GW.to] at d0 d1 d2 d3 d4 d5 d6 d7 d8 d9 d10 d11 dl)
      go_wp2_with fail
      refine (coil_take ⟨own2, w2⟩ (B + 2) bk sp _ H2.out.coil hs1).mono ?_
      rintro e w3 ⟨rfl, own3, m3, k3⟩
      have M3 := Lib.hid ((M2.out.mono (fun x (hx : x = B + 1) => (Or.inl hx : x = B + 1 ∨ x = B + 2))).trans (m3.mono (fun x hx => Or.inr hx)))
      have R3 := Lib.hid (R2.out.keep m3 (by omega))
      have B3 := Lib.hid (B2.out.keep m3 (by omega))
      have H3 := Lib.hid (H2.out.withCoil m3 k3)
      clear m3 k3 d0 d1 d2 d3 d4 d5 d6 d7 d8 d9 d10 d11 dl
      obtain ⟨d0, d1, d2, d3, d4, d5, d6, d7, d8, d9, d10, d11, dl⟩ := B3.out.c12
      (try simp only [GW.to] at d0 d1 d2 d3 d4 d5 d6 d7 d8 d9 d10 d11 dl)
      go_wp2_with fail
      have hcur : (S.coil.take sp).cur < 2 := H3.out.coil.ok.cur
      have HCU := Lib.hid (fun X => same_gives (coil_current ((⟨own3, w3⟩ : GW).pt X) (B + 2) bk _ (H3.out.coil.pt X)))
      simp only at HCU
      obtain ⟨ev, hev⟩ := cAtV_eq cm ((S.coil.take sp).cur + 1) (S.coil.takenAt sp)
      have HSP := Lib.hid (fun X => spine_any cm (S.coil.take sp).cur (S.coil.takenAt sp) (w3.patch X) (H3.out.cnf.ok.ext ⟨X, rfl⟩) hcur)
      rw [hev] at HSP
      have HEV := Lib.hid (show cAtV cm ((S.coil.take sp).cur + 1) (S.coil.takenAt sp) = takesAt S got sp by rw [HT.out, cAtV_same H3.out.same, CoilS.take_cur])
      unfold Cnf.val at HSP
      rw [HEV.out] at HSP
      clear hev
      generalize S.coil.takenAt sp = tk at *
      generalize (S.coil.take sp).cur = cu at *
      refine wp_region_mixed [true, true, true, true, true, true, true, true, true, true, true, true] 0 12 (by kernel_rfl) (by kernel_rfl) (by kernel_rfl) ?_ (by decide) (by decide) (by decide) (by kernel_rfl) ?_
      · intro c a d v w h; cases d <;> exact h
      intro X00
      simp only [pickOps]
      repeat (go_big_quiet_step (first | (go_at_call 194; exact Calls.added (HCU.out _)) | (go_at_call 193; exact Calls.added (HSP.out _))))
      refine wpQuiet_nil (fun X0 => ?_)
      clear X00
      refine wpAnyM_done (by kernel_rfl) (fun X0' => ?_) _
      go_wp2_with fail
      go_ret2
      exact Makes.ext ⟨own3, w3⟩ (by (repeat (first | (with_reducible (first | assumption | exact zR _ | exact zM _ _ _ _)) | apply zA | refine zS ?_ (by first | exact zL _ | exact zK _ _ | assumption) _ | apply zP | apply zD | apply zN))) M3.out (fun g2 m => ⟨sA, sc, rfl, R3.out.keep m id, by rw [HS.out]; exact H3.out.keep m (fun x hx => hx.elim)⟩)
    · have HT := Lib.hid (show takesAt S got sp = -1 from if_pos (Or.inr hsd))
      have HS := Lib.hid (show takesS S got sp = { S with pool := S.pool.takes got } by unfold takesS; rw [if_pos (Or.inr hsd)])
      rw [hsd] at HSD
      clear hsd hz
      go_wp2_with fail
      refine (HSD.out _ (by (repeat (first | (with_reducible (first | assumption | exact zR _ | exact zM _ _ _ _)) | apply zA | refine zS ?_ (by first | exact zL _ | exact zK _ _ | assumption) _ | apply zP | apply zD | apply zN)))).mono ?_
      rintro e w2 ⟨rfl, hX⟩
      obtain ⟨own2, m2⟩ : ∃ own2, Mod (fun _ => False) ⟨own1, w1⟩ ⟨own2, w2⟩ := ⟨_, Mod.ext (g := ⟨own1, w1⟩) (show Ext w1 w2 from hX) 0⟩
      have M2 := Lib.hid (M1.out.trans (m2.mono (fun x hx => hx.elim)))
      have R2 := Lib.hid (R1.out.keep m2 id)
      have H2 := Lib.hid (H1.out.keep m2 (fun x hx => hx.elim))
      clear m2 hX
      go_wp2_with fail
      go_ret2
      exact ⟨_, own2, rfl, M2.out.mono (fun x hx => Or.inl hx), sA, sc, by rw [HT.out]; try rfl, R2.out, by rw [HS.out]; exact H2.out⟩
end Go.Proofs.YtoaehfdjffejeaaGreat

