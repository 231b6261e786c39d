import Derived.Test.YtcpeoflomdhidaaGreatKW05
import Derived.Test.YtcpeoflomdhidaaGreatChecked
/-
  Packed: SpaceB, SpaceC, SpaceD, MemO.
-/
open Go.Ext renaming alloc → zA, patch → zP, drew → zD, drewN → zN, more → zM, refl → zR, setCell → zS
open Nat renaming le_refl → zL, le_add_right → zK
/-
  space: fits, takes.
-/
namespace Go
theorem same_gives {P : Program} {f : FuncId} {args : Array Value} {w : World} {v : Value} (h : Calls P f args w fun e w' => e = .returned v ∧ w = w') : Calls P f args w (Gives v w) :=
  h.mono fun e w' ⟨he, hw⟩ => ⟨he, by subst hw; exact Ext.refl _⟩
theorem PoolS.low_bd {l : List Bool} : ∀ (f k i : Nat), ∀ x ∈ PoolS.lowGo l k f i, ∃ j : Nat, x = j ∧ j < i + f
  | 0, k, i, x, h => by simp [PoolS.lowGo] at h
  | f + 1, k, i, x, h => by
    unfold PoolS.lowGo at h
    split at h
    · simp at h
    · split at h
      · rcases List.mem_cons.1 h with rfl | h
        · exact ⟨i, rfl, by omega⟩
        · obtain ⟨j, hj, hl⟩ := low_bd f (k - 1) (i + 1) x h
          exact ⟨j, hj, by omega⟩
      · obtain ⟨j, hj, hl⟩ := low_bd f k (i + 1) x h
        exact ⟨j, hj, by omega⟩
theorem PoolS.lowOnes_bd {p : PoolS} {k x : Int} (h : x ∈ p.lowOnes k) : ∃ j : Nat, x = j ∧ j < p.l.length := by
  obtain ⟨j, hj, hl⟩ := PoolS.low_bd _ _ _ x h
  exact ⟨j, hj, by omega⟩
theorem PoolS.taken_bd {p : PoolS} {k : Int} {l : List Int} (h : p.taken k = some l) {x : Int} (hx : x ∈ l) : ∃ j : Nat, x = j ∧ j < p.l.length := by
  unfold taken at h
  split at h
  · cases h
  · cases hr : p.run k with
    | none => rw [hr] at h; injection h with h; subst h; exact lowOnes_bd hx
    | some a =>
      rw [hr] at h
      injection h with h
      subst h
      obtain ⟨-, ha, -⟩ := run_spec hr
      obtain ⟨j, hj, rfl⟩ := span_mem (a := a) (k := k.toNat) hx
      exact ⟨a + j, rfl, by omega⟩
theorem PoolS.lowGo_len {l : List Bool} : ∀ (f k i : Nat), (PoolS.lowGo l k f i).length ≤ k ∧ (PoolS.lowGo l k f i).length ≤ f
  | 0, k, i => by simp [PoolS.lowGo]
  | f + 1, k, i => by
    unfold PoolS.lowGo
    split
    · simp
    · split
      · have := lowGo_len (l := l) f (k - 1) (i + 1)
        simp only [List.length_cons]; omega
      · have := lowGo_len (l := l) f k (i + 1)
        omega
theorem PoolS.taken_len {p : PoolS} {k : Int} {l : List Int} (h : p.taken k = some l) : l.length ≤ p.l.length := by
  unfold taken at h
  split at h
  · cases h
  · cases hr : p.run k with
    | none => rw [hr] at h; injection h with h; subst h; exact (lowGo_len _ _ _).2
    | some a =>
      rw [hr] at h
      injection h with h
      subst h
      obtain ⟨-, ha, -⟩ := run_spec hr
      simp; omega
end Go
namespace Go.Proofs.YtcpeoflomdhidaaGreat
open Go Go.RowKit
set_option linter.unusedVariables false
set_option linter.unnecessarySimpa false
set_option linter.unusedSimpArgs false
set_option maxHeartbeats 2000000

theorem sh_fits (fr sp : Int) {g : GW} {B b bt bp bk bl cs : Nat} {S : SpaceS} {A : Option Addr} {cm : Cnf} {bs : List Nat} (h : SpaceIn g B b bt S bp bk bl A cs cm bs) :
    Calls Tryz.prog 112 #[shelves cm bp bk bl, .int .i64 fr, .int .i64 sp] g.w (Gives (.bool (S.fits fr sp)) g.w) := by
  have HF := Lib.hid (fun w' (he : Ext g.w w') => pool_free (g.to 9 w') (B + 1) bp S.pool (h.pool.keep (Mod.ext (T := fun _ => False) he 9) id))
  have hfb : fr ≤ (S.pool.free : Int) → fr ≤ 1099511627776 := fun hle => by
    have h1 := h.pool.len
    have h2 : S.pool.free ≤ S.pool.l.length := List.countP_le_length
    omega
  have HR0 := Lib.hid (fun (hle : fr ≤ (S.pool.free : Int)) w' (he : Ext g.w w') => pool_run (g.to 9 w') (B + 1) bp fr S.pool (h.pool.keep (Mod.ext (T := fun _ => False) he 9) id) (hfb hle))
  clear hfb
  have HK := Lib.hid (fun w' (he : Ext g.w w') => coil_room (g.to 9 w') (B + 2) bk S.coil (h.coil.keep (Mod.ext (T := fun _ => False) he 9) id))
  have HV := Lib.hid (show S.fits fr sp = (decide (fr ≤ (S.pool.free : Int)) && (sp == 0 || (S.pool.run fr).isSome || decide (sp ≤ S.coil.room))) from rfl)
  unfold shelves
  generalize S.pool.free = f at *
  generalize S.coil.room = rm at *
  generalize S.pool.run fr = o at *
  clear h
  by_cases h0 : (f : Int) < fr
  · have HW := Lib.hid (HV.out.trans (show _ = false by rw [decide_eq_false (by omega)]; rfl))
    go_enter Tryz.func112, Tryz.ntmps112
    go_wp2_with fail
    refine (HF.out _ (by (repeat (first | (with_reducible (first | assumption | exact zR _ | exact zM _ _ _ _)) | apply zA | refine zS ?_ (by first | exact zL _ | exact zK _ _ | assumption) _ | apply zP | apply zD | apply zN)))).mono ?_
    rintro e w1 ⟨rfl, rfl⟩
    simp only [GW.to]
    go_wp2_with fail
    go_ret
    exact Gives.bool (by rw [HW.out]; try rfl) (by (repeat (first | (with_reducible (first | assumption | exact zR _ | exact zM _ _ _ _)) | apply zA | refine zS ?_ (by first | exact zL _ | exact zK _ _ | assumption) _ | apply zP | apply zD | apply zN)))
  · have hd : decide (fr ≤ (f : Int)) = true := decide_eq_true (by omega)
    rw [hd] at HV
    clear hd
    have h1 : fr ≤ (f : Int) := by omega
    have HR := Lib.hid (HR0.out h1)
    clear HR0
    cases o with
    | some a =>
      have HW := Lib.hid (HV.out.trans (show _ = true by simp))
      unfold runVal at HR
      cases hz : (sp == 0)
      · go_enter Tryz.func112, Tryz.ntmps112
        go_wp2_with fail
        refine (HF.out _ (by (repeat (first | (with_reducible (first | assumption | exact zR _ | exact zM _ _ _ _)) | apply zA | refine zS ?_ (by first | exact zL _ | exact zK _ _ | assumption) _ | apply zP | apply zD | apply zN)))).mono ?_
        rintro e w1 ⟨rfl, rfl⟩
        simp only [GW.to]
        go_wp2_with fail
        refine (HR.out _ (by (repeat (first | (with_reducible (first | assumption | exact zR _ | exact zM _ _ _ _)) | apply zA | refine zS ?_ (by first | exact zL _ | exact zK _ _ | assumption) _ | apply zP | apply zD | apply zN)))).mono ?_
        rintro e w1 ⟨rfl, rfl⟩
        simp only [GW.to]
        go_wp2_with fail
        go_ret
        exact Gives.bool (by rw [HW.out]; try rfl) (by (repeat (first | (with_reducible (first | assumption | exact zR _ | exact zM _ _ _ _)) | apply zA | refine zS ?_ (by first | exact zL _ | exact zK _ _ | assumption) _ | apply zP | apply zD | apply zN)))
      · go_enter Tryz.func112, Tryz.ntmps112
        go_wp2_with fail
        refine (HF.out _ (by (repeat (first | (with_reducible (first | assumption | exact zR _ | exact zM _ _ _ _)) | apply zA | refine zS ?_ (by first | exact zL _ | exact zK _ _ | assumption) _ | apply zP | apply zD | apply zN)))).mono ?_
        rintro e w1 ⟨rfl, rfl⟩
        simp only [GW.to]
        go_wp2_with fail
        refine (HR.out _ (by (repeat (first | (with_reducible (first | assumption | exact zR _ | exact zM _ _ _ _)) | apply zA | refine zS ?_ (by first | exact zL _ | exact zK _ _ | assumption) _ | apply zP | apply zD | apply zN)))).mono ?_
        rintro e w1 ⟨rfl, rfl⟩
        simp only [GW.to]
        go_wp2_with fail
        go_ret
        exact Gives.bool (by rw [HW.out]; try rfl) (by (repeat (first | (with_reducible (first | assumption | exact zR _ | exact zM _ _ _ _)) | apply zA | refine zS ?_ (by first | exact zL _ | exact zK _ _ | assumption) _ | apply zP | apply zD | apply zN)))
    | none =>
      unfold runVal at HR
      cases hz : (sp == 0)
      · have HW := Lib.hid (HV.out.trans (show _ = decide (sp ≤ rm) by rw [hz]; simp))
        go_enter Tryz.func112, Tryz.ntmps112
        go_wp2_with fail
        refine (HF.out _ (by (repeat (first | (with_reducible (first | assumption | exact zR _ | exact zM _ _ _ _)) | apply zA | refine zS ?_ (by first | exact zL _ | exact zK _ _ | assumption) _ | apply zP | apply zD | apply zN)))).mono ?_
        rintro e w1 ⟨rfl, rfl⟩
        simp only [GW.to]
        go_wp2_with fail
        refine (HR.out _ (by (repeat (first | (with_reducible (first | assumption | exact zR _ | exact zM _ _ _ _)) | apply zA | refine zS ?_ (by first | exact zL _ | exact zK _ _ | assumption) _ | apply zP | apply zD | apply zN)))).mono ?_
        rintro e w1 ⟨rfl, rfl⟩
        simp only [GW.to]
        go_wp2_with fail
        refine (HK.out _ (by (repeat (first | (with_reducible (first | assumption | exact zR _ | exact zM _ _ _ _)) | apply zA | refine zS ?_ (by first | exact zL _ | exact zK _ _ | assumption) _ | apply zP | apply zD | apply zN)))).mono ?_
        rintro e w2 ⟨rfl, hX⟩
        have HE := Lib.hid ((show Ext g.w _ by (repeat (first | (with_reducible (first | assumption | exact zR _ | exact zM _ _ _ _)) | apply zA | refine zS ?_ (by first | exact zL _ | exact zK _ _ | assumption) _ | apply zP | apply zD | apply zN))).trans (show Ext _ w2 from hX))
        clear hX
        go_wp2_with fail
        go_ret
        exact Gives.bool (by rw [HW.out]; try rfl) HE.out
      · have HW := Lib.hid (HV.out.trans (show _ = true by rw [hz]; simp))
        go_enter Tryz.func112, Tryz.ntmps112
        go_wp2_with fail
        refine (HF.out _ (by (repeat (first | (with_reducible (first | assumption | exact zR _ | exact zM _ _ _ _)) | apply zA | refine zS ?_ (by first | exact zL _ | exact zK _ _ | assumption) _ | apply zP | apply zD | apply zN)))).mono ?_
        rintro e w1 ⟨rfl, rfl⟩
        simp only [GW.to]
        go_wp2_with fail
        refine (HR.out _ (by (repeat (first | (with_reducible (first | assumption | exact zR _ | exact zM _ _ _ _)) | apply zA | refine zS ?_ (by first | exact zL _ | exact zK _ _ | assumption) _ | apply zP | apply zD | apply zN)))).mono ?_
        rintro e w1 ⟨rfl, rfl⟩
        simp only [GW.to]
        go_wp2_with fail
        go_ret
        exact Gives.bool (by rw [HW.out]; try rfl) (by (repeat (first | (with_reducible (first | assumption | exact zR _ | exact zM _ _ _ _)) | apply zA | refine zS ?_ (by first | exact zL _ | exact zK _ _ | assumption) _ | apply zP | apply zD | apply zN)))

def cAtV (c : Cnf) (r : Nat) (k : Int) : Int := if 0 ≤ k ∧ k < cSize c r then k + cAhead c r else 0
theorem cAtV_eq (c : Cnf) (r : Nat) (k : Int) : ∃ e : Int, cAt c r k = .tuple #[.int .i64 (cAtV c r k), .int .i64 e] := by
  unfold cAt cAtV
  split
  · exact ⟨_, rfl⟩
  · exact ⟨_, rfl⟩
theorem cAtV_same {c d : Cnf} (h : c.Same d) (r : Nat) (k : Int) : cAtV c r k = cAtV d r k := by
  have hc := h.check
  obtain ⟨h1, h2, h3, h4, h5, h6, h7, h8, _⟩ := h
  unfold cAtV cSize cAhead
  rw [hc, h1, h2, h3]
theorem side_span (a k : Nat) (h : a + k ≤ 1000000) : isSide ((List.range k).map fun j => ((a + j : Nat) : Int)) = true := by
  unfold isSide sideTo
  rw [List.all_eq_true]
  intro j hj
  have hj := List.mem_range.1 hj
  simp only [List.length_map, List.length_range] at hj
  have g0 : (((List.range k).map fun j => ((a + j : Nat) : Int)).getD j 0) = ((a + j : Nat) : Int) := by
    rw [List.getD_eq_getElem?_getD, List.getElem?_map, List.getElem?_range (by omega)]; rfl
  have g1 : (((List.range k).map fun j => ((a + j : Nat) : Int)).getD (j + 1) 0) = ((a + (j + 1) : Nat) : Int) := by
    rw [List.getD_eq_getElem?_getD, List.getElem?_map, List.getElem?_range (by omega)]; rfl
  rw [g0, g1]
  exact decide_eq_true ⟨by omega, by omega⟩
theorem fits_side {S : SpaceS} {fr sp : Int} {got : List Int} (hfit : S.fits fr sp = true) (hg : S.pool.taken fr = some got) (hl : S.pool.l.length ≤ 1024) (hk : S.coil.Ok) : sp ≤ 1099511627776 ∨ isSide got = true := by
  unfold SpaceS.fits at hfit
  simp only [Bool.and_eq_true, Bool.or_eq_true, decide_eq_true_eq, beq_iff_eq] at hfit
  rcases hfit.2 with (h | h) | h
  · exact Or.inl (by omega)
  · refine Or.inr ?_
    obtain ⟨a, ha⟩ := Option.isSome_iff_exists.1 h
    unfold PoolS.taken at hg
    split at hg
    · cases hg
    · rw [ha] at hg
      injection hg with hg
      have := PoolS.run_spec ha
      rw [← hg]
      exact side_span _ _ (by omega)
  · refine Or.inl ?_
    have h1 : 0 ≤ S.coil.used S.coil.cur := by
      unfold CoilS.used
      split
      · exact hk.b0.1
      · exact hk.b1.1
    have h2 := hk.s0
    have h3 := hk.bk
    unfold CoilS.room at h
    omega
def takesAt (S : SpaceS) (got : List Int) (sp : Int) : Int := if sp = 0 ∨ isSide got = true then -1 else cAtV S.c (S.coil.cur + 1) (S.coil.takenAt sp)
def takesS (S : SpaceS) (got : List Int) (sp : Int) : SpaceS := { S with pool := S.pool.takes got, coil := if sp = 0 ∨ isSide got = true then S.coil else S.coil.take sp }
theorem CoilS.take_cur (c : CoilS) (n : Int) : (c.take n).cur = c.cur := by
  unfold CoilS.take CoilS.lays
  split
  · split <;> rfl
  · rfl
set_option maxRecDepth 100000 in
theorem sh_takes (fr sp : Int) (got : List Int) {g : GW} {B b bt bp bk bl cs : Nat} {S : SpaceS} {A : Option Addr} {cm : Cnf} {bs : List Nat} (h : SpaceIn g B b bt S bp bk bl A cs cm bs) (hB : 100 ≤ B) (hf : S.pool.taken fr = some got) (hsp : 0 ≤ sp ∧ (sp ≤ 1099511627776 ∨ isSide got = true)) :
    Calls Tryz.prog 114 #[shelves cm bp bk bl, .int .i64 fr, .int .i64 sp] g.w (Makes g (fun x => x = B + 1 ∨ x = B + 2) (fun v g' => ∃ s c, v = .tuple #[.slice s got.length c, .int .i64 (takesAt S got sp)] ∧ Row g' 0 3 1 (.slice s got.length c) got.length (got.map (Value.int .i64)) ∧ SpaceIn g' B b bt (takesS S got sp) bp bk bl A cs cm bs)) := by
  obtain ⟨hs0, hs1⟩ := hsp
  have HP := Lib.hid (fun g' (m : Mod (fun _ => False) g g') => pool_take_yes g' (B + 1) bp fr got S.pool (h.pool.keep m id) (by omega) hf)
  have HBD := Lib.hid (show ∀ x ∈ got, -9223372036854775808 ≤ x ∧ x ≤ 9223372036854775807 from fun x hx => by
    obtain ⟨j, rfl, hj⟩ := PoolS.taken_bd hf hx
    have := h.pool.len
    omega)
  have HGL := Lib.hid (show got.length ≤ 1024 from Nat.le_trans (PoolS.taken_len hf) h.pool.len)
  have H := Lib.hid h
  clear h hf
  have hE0 : Ext g.w (g.w.alloc (.cells #[.int .i64 cm.frags, .int .i64 cm.spine, .int .i64 cm.globals, .int .i64 cm.threads, .int .i64 cm.locals, .int .i64 cm.cache, .int .i64 cm.stack, .int .i64 cm.low, .slice cm.A cm.shapes.length cm.cap, .pointer (some ⟨bp, 0, none⟩), .pointer (some ⟨bk, 0, none⟩), .pointer (some ⟨bl, 0, none⟩)] 47)) := by (repeat (first | (with_reducible (first | assumption | exact zR _ | exact zM _ _ _ _)) | apply zA | refine zS ?_ (by first | exact zL _ | exact zK _ _ | assumption) _ | apply zP | apply zD | apply zN))
  have B0 := Lib.hid (Blk.new g 9 47 [.int .i64 cm.frags, .int .i64 cm.spine, .int .i64 cm.globals, .int .i64 cm.threads, .int .i64 cm.locals, .int .i64 cm.cache, .int .i64 cm.stack, .int .i64 cm.low, .slice cm.A cm.shapes.length cm.cap, .pointer (some ⟨bp, 0, none⟩), .pointer (some ⟨bk, 0, none⟩), .pointer (some ⟨bl, 0, none⟩)])
  have M0 := Lib.hid (Mod.ext (T := fun _ => False) hE0 9)
  clear hE0
  unfold shelves
  go_enter Tryz.func114, Tryz.ntmps114
  go_wp2_with fail
  refine (HP.out (g.to 9 (g.w.alloc (.cells #[.int .i64 cm.frags, .int .i64 cm.spine, .int .i64 cm.globals, .int .i64 cm.threads, .int .i64 cm.locals, .int .i64 cm.cache, .int .i64 cm.stack, .int .i64 cm.low, .slice cm.A cm.shapes.length cm.cap, .pointer (some ⟨bp, 0, none⟩), .pointer (some ⟨bk, 0, none⟩), .pointer (some ⟨bl, 0, none⟩)] 47))) M0.out).mono ?_
  rintro e w1 ⟨v, own1, rfl, m1, s, rfl, r1, p1⟩
  obtain ⟨sA, sc, rfl⟩ := own_form r1.row
  have M1 := Lib.hid ((M0.out.mono (fun x hx => hx.elim)).trans m1)
  have R1 := Lib.hid r1
  have B1 := Lib.hid (B0.out.keep m1 (by omega))
  have H1 := Lib.hid ((H.out.keep M0.out (fun x hx => hx.elim)).withPool m1 p1)
  have HSD := Lib.hid (fun w' (he : Ext w1 w') => side_any sA sc got w' (r1.cells.ext he) (by have := HGL.out; omega) HBD.out)
  clear m1 r1 p1
  obtain ⟨d0, d1, d2, d3, d4, d5, d6, d7, d8, d9, d10, d11, dl⟩ := B1.out.c12
  (try simp only [GW.to] at d0 d1 d2 d3 d4 d5 d6 d7 d8 d9 d10 d11 dl)
  by_cases hz : sp = 0
  · subst hz
    have HT := Lib.hid (show takesAt S got 0 = -1 from if_pos (Or.inl rfl))
    have HS := Lib.hid (show takesS S got 0 = { S with pool := S.pool.takes got } by unfold takesS; rw [if_pos (Or.inl rfl)])
    go_wp2_with fail
    go_ret2
    exact ⟨_, own1, rfl, M1.out.mono (fun x hx => Or.inl hx), sA, sc, by rw [HT.out]; try rfl, R1.out, by rw [HS.out]; exact H1.out⟩
  · have hz0 : (sp == 0) = false := by simp [hz]
    cases hsd : isSide got
    · have hs1 : sp ≤ 1099511627776 := hs1.elim id (fun e => by rw [hsd] at e; cases e)
      have HT := Lib.hid (show takesAt S got sp = cAtV S.c (S.coil.cur + 1) (S.coil.takenAt sp) from if_neg (by rw [hsd]; simp [hz]))
      have HS := Lib.hid (show takesS S got sp = { S with pool := S.pool.takes got, coil := S.coil.take sp } by unfold takesS; rw [if_neg (by rw [hsd]; simp [hz])])
      rw [hsd] at HSD
      clear hsd hz
      go_wp2_with fail
      refine (HSD.out _ (by (repeat (first | (with_reducible (first | assumption | exact zR _ | exact zM _ _ _ _)) | apply zA | refine zS ?_ (by first | exact zL _ | exact zK _ _ | assumption) _ | apply zP | apply zD | apply zN)))).mono ?_
      rintro e w2 ⟨rfl, hX⟩
      obtain ⟨own2, m2, hw2⟩ : ∃ own2, Mod (fun _ => False) ⟨own1, w1⟩ ⟨own2, w2⟩ ∧ Ext w1 w2 := ⟨_, Mod.ext (g := ⟨own1, w1⟩) (show Ext w1 w2 from hX) 0, hX⟩
      have M2 := Lib.hid (M1.out.trans (m2.mono (fun x hx => hx.elim)))
      have R2 := Lib.hid (R1.out.keep m2 id)
      have B2 := Lib.hid (B1.out.keep m2 id)
      have H2 := Lib.hid (H1.out.keep m2 (fun x hx => hx.elim))
      clear m2 hw2 hX d0 d1 d2 d3 d4 d5 d6 d7 d8 d9 d10 d11 dl
      obtain ⟨d0, d1, d2, d3, d4, d5, d6, d7, d8, d9, d10, d11, dl⟩ := B2.out.c12
      (try simp only [GW.to] at d0 d1 d2 d3 d4 d5 d6 d7 d8 d9 d10 d11 dl)
      go_wp2_with fail
      refine (coil_take ⟨own2, w2⟩ (B + 2) bk sp _ H2.out.coil hs1).mono ?_
      rintro e w3 ⟨rfl, own3, m3, k3⟩
      have M3 := Lib.hid ((M2.out.mono (fun x (hx : x = B + 1) => (Or.inl hx : x = B + 1 ∨ x = B + 2))).trans (m3.mono (fun x hx => Or.inr hx)))
      have R3 := Lib.hid (R2.out.keep m3 (by omega))
      have B3 := Lib.hid (B2.out.keep m3 (by omega))
      have H3 := Lib.hid (H2.out.withCoil m3 k3)
      clear m3 k3 d0 d1 d2 d3 d4 d5 d6 d7 d8 d9 d10 d11 dl
      obtain ⟨d0, d1, d2, d3, d4, d5, d6, d7, d8, d9, d10, d11, dl⟩ := B3.out.c12
      (try simp only [GW.to] at d0 d1 d2 d3 d4 d5 d6 d7 d8 d9 d10 d11 dl)
      go_wp2_with fail
      have hcur : (S.coil.take sp).cur < 2 := H3.out.coil.ok.cur
      have HCU := Lib.hid (fun X => same_gives (coil_current ((⟨own3, w3⟩ : GW).pt X) (B + 2) bk _ (H3.out.coil.pt X)))
      simp only at HCU
      obtain ⟨ev, hev⟩ := cAtV_eq cm ((S.coil.take sp).cur + 1) (S.coil.takenAt sp)
      have HSP := Lib.hid (fun X => spine_any cm (S.coil.take sp).cur (S.coil.takenAt sp) (w3.patch X) (H3.out.cnf.ok.ext ⟨X, rfl⟩) hcur)
      rw [hev] at HSP
      have HEV := Lib.hid (show cAtV cm ((S.coil.take sp).cur + 1) (S.coil.takenAt sp) = takesAt S got sp by rw [HT.out, cAtV_same H3.out.same, CoilS.take_cur])
      unfold Cnf.val at HSP
      rw [HEV.out] at HSP
      clear hev
      generalize S.coil.takenAt sp = tk at *
      generalize (S.coil.take sp).cur = cu at *
      refine wp_region_mixed [true, true, true, true, true, true, true, true, true, true, true, true] 0 12 (by kernel_rfl) (by kernel_rfl) (by kernel_rfl) ?_ (by decide) (by decide) (by decide) (by kernel_rfl) ?_
      · intro c a d v w h; cases d <;> exact h
      intro X00
      simp only [pickOps]
      repeat (go_big_quiet_step (first | (go_at_call 26; exact Calls.added (HCU.out _)) | (go_at_call 204; exact Calls.added (HSP.out _))))
      refine wpQuiet_nil (fun X0 => ?_)
      clear X00
      refine wpAnyM_done (by kernel_rfl) (fun X0' => ?_) _
      go_wp2_with fail
      go_ret2
      exact Makes.ext ⟨own3, w3⟩ (by (repeat (first | (with_reducible (first | assumption | exact zR _ | exact zM _ _ _ _)) | apply zA | refine zS ?_ (by first | exact zL _ | exact zK _ _ | assumption) _ | apply zP | apply zD | apply zN))) M3.out (fun g2 m => ⟨sA, sc, rfl, R3.out.keep m id, by rw [HS.out]; exact H3.out.keep m (fun x hx => hx.elim)⟩)
    · have HT := Lib.hid (show takesAt S got sp = -1 from if_pos (Or.inr hsd))
      have HS := Lib.hid (show takesS S got sp = { S with pool := S.pool.takes got } by unfold takesS; rw [if_pos (Or.inr hsd)])
      rw [hsd] at HSD
      clear hsd hz
      go_wp2_with fail
      refine (HSD.out _ (by (repeat (first | (with_reducible (first | assumption | exact zR _ | exact zM _ _ _ _)) | apply zA | refine zS ?_ (by first | exact zL _ | exact zK _ _ | assumption) _ | apply zP | apply zD | apply zN)))).mono ?_
      rintro e w2 ⟨rfl, hX⟩
      obtain ⟨own2, m2⟩ : ∃ own2, Mod (fun _ => False) ⟨own1, w1⟩ ⟨own2, w2⟩ := ⟨_, Mod.ext (g := ⟨own1, w1⟩) (show Ext w1 w2 from hX) 0⟩
      have M2 := Lib.hid (M1.out.trans (m2.mono (fun x hx => hx.elim)))
      have R2 := Lib.hid (R1.out.keep m2 id)
      have H2 := Lib.hid (H1.out.keep m2 (fun x hx => hx.elim))
      clear m2 hX
      go_wp2_with fail
      go_ret2
      exact ⟨_, own2, rfl, M2.out.mono (fun x hx => Or.inl hx), sA, sc, by rw [HT.out]; try rfl, R2.out, by rw [HS.out]; exact H2.out⟩
end Go.Proofs.YtcpeoflomdhidaaGreat

/-
  space: Ask.
-/
namespace Go
open Go.RowKit
theorem PoolS.taken_some {p : PoolS} {k : Int} (h1 : 1 ≤ k) (h2 : k ≤ (p.free : Int)) : ∃ l, p.taken k = some l := by
  unfold taken
  rw [if_neg (by omega)]
  cases p.run k with
  | none => exact ⟨_, rfl⟩
  | some a => exact ⟨_, rfl⟩
def SpaceS.tick (S : SpaceS) : SpaceS := { S with count := S.count + 1 }
theorem Mod.ofExt {w w' : World} (h : Ext w w') (own : Nat → Nat) : ∃ own', Mod (fun _ => False) ⟨own, w⟩ ⟨own', w'⟩ := ⟨_, Mod.ext (g := ⟨own, w⟩) h 0⟩
end Go
namespace Go.Proofs.YtcpeoflomdhidaaGreat
open Go Go.RowKit
set_option linter.unusedVariables false
set_option linter.unnecessarySimpa false
set_option linter.unusedSimpArgs false
set_option maxHeartbeats 4000000

abbrev AskR := (Int × List Int × Int) × SpaceS
def noStock : StockS := ⟨[], 0⟩
def stockOf (S : SpaceS) (t : Int) : StockS := S.stocks.getD t.toNat noStock
def askOwn (S : SpaceS) (t fr : Int) (sense : Bool) : SpaceS :=
  { S with stocks := S.stocks.set t.toNat ⟨(stockOf S t).l.drop fr.toNat, (stockOf S t).most⟩, tab := S.tab.setAll ((stockOf S t).l.take fr.toNat) 2 sense }
def askGot (S : SpaceS) (fr : Int) : List Int := (S.pool.taken fr).getD []
def askMore (S : SpaceS) (t fr sp : Int) : List Int := (takesS S (askGot S fr) sp).pool.lowOnes ((stockOf S t).most - (stockOf S t).l.length)
def askAll (S : SpaceS) (t fr sp : Int) (sense : Bool) : SpaceS :=
  { takesS S (askGot S fr) sp with
    pool := (takesS S (askGot S fr) sp).pool.takes (askMore S t fr sp)
    tab := ((takesS S (askGot S fr) sp).tab.setAll (askGot S fr) 2 sense).setAll (askMore S t fr sp) 1 sense
    stocks := S.stocks.set t.toNat ⟨(stockOf S t).l ++ askMore S t fr sp, (stockOf S t).most⟩ }
def askNo (S : SpaceS) (t fr sp : Int) : Bool := !inB t S.stocks.length || decide (fr < 1) || decide (sp < 0) || decide (0 ≤ placeOf (ofB t) S.line)
def ask (S : SpaceS) (t fr sp : Int) (sense : Bool) : AskR :=
  if askNo S t fr sp then ((3, [], -1), S.tick)
  else if sp = 0 ∧ fr ≤ (stockOf S t).l.length then ((1, (stockOf S t).l.take fr.toNat, -1), askOwn S.tick t fr sense)
  else if 0 < Ent.wait S.line ∨ S.fits fr sp = false then ((0, [], -1), { S.tick with line := S.line ++ [Ent.asked t fr sp] })
  else ((1, askGot S fr, takesAt S (askGot S fr) sp), askAll S.tick t fr sp sense)
def GrantIs (r : Int × List Int × Int) (v : Value) (g' : GW) : Prop := ∃ A c, v = .agg #[.int .i64 r.1, .slice A r.2.1.length c, .int .i64 r.2.2] ∧ Row g' 0 3 1 (.slice A r.2.1.length c) r.2.1.length (r.2.1.map (Value.int .i64))

end Go.Proofs.YtcpeoflomdhidaaGreat

/-
  space: New.
-/
namespace Go
open Go.RowKit
theorem Mod.grownNew {T : Nat → Prop} {g : GW} {o : Nat → Nat} {w W w2 : World} {row : Option Nat} {t1 t2 : Nat} (M : Mod T g ⟨o, w⟩) (he : Ext w W) (hg : W.grownBy w2 row) (hr : ∀ k, row = some k → g.w.heap.size ≤ k) : Mod T g (((⟨o, w⟩ : GW).to t1 W).to t2 w2) := by
  obtain ⟨h1, h2, h3, h4, h5⟩ := he.below
  have s1 : g.w.heap.size ≤ w.heap.size := M.size
  refine ⟨hg.os.trans (h1.trans M.os), hg.tape.trans (h2.trans M.tape), hg.output.trans (h3.trans M.output), Nat.le_trans s1 (Nat.le_trans h4 hg.size), fun k hk => ?_, fun k hk ht => ?_⟩
  · rw [GW.to_old (Nat.lt_of_lt_of_le hk (Nat.le_trans s1 h4)), GW.to_old (Nat.lt_of_lt_of_le hk s1)]
    exact M.own k hk
  · exact (hg.block k (Nat.lt_of_lt_of_le hk (Nat.le_trans s1 h4)) (fun e => by have := hr k e.symm; omega)).trans ((h5 k (Nat.lt_of_lt_of_le hk s1)).trans (M.block k hk ht))
end Go
namespace Go.Proofs.YtcpeoflomdhidaaGreat
open Go Go.RowKit
set_option linter.unusedVariables false
set_option linter.unnecessarySimpa false
set_option linter.unusedSimpArgs false
set_option maxHeartbeats 4000000
theorem infoPtr : (Tryz.prog.info? 118).map (fun i => (i.zero, i.size, i.bytes)) = some (some (.pointer none), 1, 8) := by kernel_rfl

theorem SpaceIn.addStock {g g' : GW} {B b bt bp bk bl cs cs' : Nat} {S : SpaceS} {A A' : Option Addr} {cm : Cnf} {bs : List Nat} (h : SpaceIn g B b bt S bp bk bl A cs cm bs) (m : Mod (fun x => x = B) g g') {x : Nat} {s : StockS}
    (hb : Blk g' B b 49 [.pointer (some ⟨bt, 0, none⟩), .slice A' (S.stocks.length + 1) cs', .bool S.forced, .int .i64 S.count, .int .i64 cm.frags, .int .i64 cm.spine, .int .i64 cm.globals, .int .i64 cm.threads, .int .i64 cm.locals, .int .i64 cm.cache, .int .i64 cm.stack, .int .i64 cm.low, .slice cm.A cm.shapes.length cm.cap, .pointer (some ⟨bp, 0, none⟩), .pointer (some ⟨bk, 0, none⟩), .pointer (some ⟨bl, 0, none⟩)])
    (hr : Row g' B 118 1 (.slice A' (S.stocks.length + 1) cs') (S.stocks.length + 1) ((bs ++ [x]).map fun x => Value.pointer (some ⟨x, 0, none⟩))) (hs : StockAt g' (B + 10 + S.stocks.length) x s) (hn : S.stocks.length < 16) :
    SpaceIn g' B b bt { S with stocks := S.stocks ++ [s] } bp bk bl A' cs' cm (bs ++ [x]) := by
  refine ⟨?_, ?_, h.tab.keep m (by omega), h.pool.keep m (by omega), h.coil.keep m (by omega), h.line.keep m (by omega) (by omega), h.cnf.keep m (by omega), h.same, by simp [h.blen], fun j y u hy hu => ?_, h.check, by simp; omega⟩
  · simp only [List.length_append, List.length_singleton]; exact hb
  · simp only [List.length_append, List.length_singleton]; exact hr
  · have hbl := h.blen
    by_cases hj : j < S.stocks.length
    · rw [List.getElem?_append_left (by omega)] at hy
      simp only at hu
      rw [List.getElem?_append_left hj] at hu
      exact (h.stock j y u hy hu).keep m (by omega)
    · have hj2 : j = S.stocks.length := by
        have := (List.getElem?_eq_some_iff.1 hu).1
        simp at this
        omega
      subst hj2
      simp only at hu
      rw [List.getElem?_append_right (by omega), hbl, Nat.sub_self] at hy
      rw [List.getElem?_append_right (by omega), Nat.sub_self] at hu
      simp at hy hu
      subst hy hu
      exact hs
def SpaceS.fresh (c : Cnf) (T : TabS) : SpaceS := ⟨T, List.replicate c.threads.toNat ⟨[], c.cache⟩, false, 0, c, ⟨List.replicate c.frags.toNat true⟩, ⟨c.spine, 0, 0, 0, 0⟩, []⟩
def SpaceMade (c : Cnf) (T : TabS) (B bt : Nat) (g : GW) (e : Ending) (w' : World) : Prop :=
  if c.check = 0 ∧ (T.l.length : Int) = c.frags then ∃ own' b, e = .returned (.tuple #[.pointer (some ⟨b, 0, none⟩), .int .i64 0]) ∧ Mod (fun _ => False) g ⟨own', w'⟩ ∧ SpaceAt ⟨own', w'⟩ B b bt (SpaceS.fresh c T)
  else e = .returned (.tuple #[.pointer none, .int .i64 (if c.check = 0 then 1 else c.check)]) ∧ Ext g.w w'
set_option maxRecDepth 100000 in
theorem space_new (c : Cnf) (T : TabS) (B bt : Nat) (g : GW) (hc : c.Ok g.w) (ht : TabAt g (B + 50) bt T) (hB : 100 ≤ B) : Calls Tryz.prog 9 #[c.val, .pointer (some ⟨bt, 0, none⟩)] g.w (SpaceMade c T B bt g) := by
  have HCK := Lib.hid (fun w' (he : Ext g.w w') => check_any c w' (hc.ext he))
  have HTL := Lib.hid (fun g' (m : Mod (fun _ => False) g g') => tab_len g' (B + 50) bt T (ht.keep m id))
  obtain ⟨i0, hi, hz0, hz1, hz2⟩ := info_parts infoPtr
  have HC := Lib.hid hc
  have HT := Lib.hid ht
  unfold Cnf.val at HCK ⊢
  obtain ⟨own0, m0, b0⟩ : ∃ own0, Mod (fun _ => False) g ⟨own0, g.w.alloc (.cells #[.int .i64 c.frags, .int .i64 c.spine, .int .i64 c.globals, .int .i64 c.threads, .int .i64 c.locals, .int .i64 c.cache, .int .i64 c.stack, .int .i64 c.low, .slice c.A c.shapes.length c.cap] 24)⟩ ∧ Blk ⟨own0, g.w.alloc (.cells #[.int .i64 c.frags, .int .i64 c.spine, .int .i64 c.globals, .int .i64 c.threads, .int .i64 c.locals, .int .i64 c.cache, .int .i64 c.stack, .int .i64 c.low, .slice c.A c.shapes.length c.cap] 24)⟩ 9 g.w.heap.size 24 [.int .i64 c.frags, .int .i64 c.spine, .int .i64 c.globals, .int .i64 c.threads, .int .i64 c.locals, .int .i64 c.cache, .int .i64 c.stack, .int .i64 c.low, .slice c.A c.shapes.length c.cap] := ⟨_, Mod.ext (by (repeat (first | (with_reducible (first | assumption | exact zR _ | exact zM _ _ _ _)) | apply zA | refine zS ?_ (by first | exact zL _ | exact zK _ _ | assumption) _ | apply zP | apply zD | apply zN))) 9, Blk.new g 9 24 [.int .i64 c.frags, .int .i64 c.spine, .int .i64 c.globals, .int .i64 c.threads, .int .i64 c.locals, .int .i64 c.cache, .int .i64 c.stack, .int .i64 c.low, .slice c.A c.shapes.length c.cap]⟩
  have M0 := Lib.hid m0
  have B0 := Lib.hid b0
  clear hc ht m0 b0
  go_enter Tryz.func9, Tryz.ntmps9
  go_wp2_with fail
  refine (HCK.out _ (by (repeat (first | (with_reducible (first | assumption | exact zR _ | exact zM _ _ _ _)) | apply zA | refine zS ?_ (by first | exact zL _ | exact zK _ _ | assumption) _ | apply zP | apply zD | apply zN)))).mono ?_
  rintro e w1 ⟨rfl, hX⟩
  obtain ⟨own1, m1⟩ := Mod.ofExt (show Ext _ w1 from hX) own0
  have M1 := Lib.hid (M0.out.trans m1)
  have B1 := Lib.hid (B0.out.keep m1 id)
  clear m1 hX
  obtain ⟨a0, a1, a2, a3, a4, a5, a6, a7, a8, al⟩ := B1.out.c9
  (try simp only [GW.to] at a0 a1 a2 a3 a4 a5 a6 a7 a8 al)
  by_cases hck : c.check = 0
  case neg =>
    have hk1 : (c.check != 0) = true := by simp [hck]
    have HV := Lib.hid (show ¬ (c.check = 0 ∧ (T.l.length : Int) = c.frags) from fun e => hck e.1)
    have HW := Lib.hid (show (if c.check = 0 then 1 else c.check) = c.check from if_neg hck)
    clear hck
    go_wp2_with fail
    go_ret2
    unfold SpaceMade
    rw [if_neg HV.out]
    exact ⟨by rw [HW.out]; rfl, M1.out.toExt⟩
  case pos =>
    have hk1 : (c.check != 0) = false := by simp [hck]
    have hrg := Cnf.ranged (Cnf.check_zero hck).1
    obtain ⟨⟨r0, r1⟩, ⟨r2, r3⟩, ⟨r4, r5⟩, ⟨r6, r7⟩, -, ⟨r8, r9⟩, -, -⟩ := hrg
    have hshp : c.shapes.length ≤ 8 := by
      have := (Cnf.check_zero hck).2.2.1
      simp [within] at this
      omega
    have HCKZ := Lib.hid hck
    have HTX := Lib.hid (fun X => same_gives (HTL.out ((⟨own1, w1⟩ : GW).pt X) (Mod.pt M1.out X)))
    have hT1024 := HT.out.len
    by_cases hfr : (T.l.length : Int) = c.frags
    case neg =>
      have HV := Lib.hid (show ¬ (c.check = 0 ∧ (T.l.length : Int) = c.frags) from fun e => hfr e.2)
      have HW := Lib.hid (show (if c.check = 0 then (1 : Int) else c.check) = 1 from if_pos hck)
      have hk2 : ((T.l.length : Int) != c.frags) = true := by simp [hfr]
      clear hck hfr
      go_wp2_with fail
      refine wp_region_mixed [true, true, true, true, true] 0 5 (by kernel_rfl) (by kernel_rfl) (by kernel_rfl) ?_ (by decide) (by decide) (by decide) (by kernel_rfl) ?_
      · intro c a d v w h; cases d <;> exact h
      intro X00
      simp only [pickOps]
      repeat (go_big_quiet_step ((go_at_call 45; exact Calls.added (HTX.out _))))
      refine wpQuiet_nil (fun X0 => ?_)
      clear X00
      refine wpAnyM_done (by kernel_rfl) (fun X0' => ?_) _
      go_wp2_with fail
      go_ret2
      unfold SpaceMade
      rw [if_neg HV.out]
      exact ⟨by rw [HW.out]; rfl, M1.out.toExt.trans (by (repeat (first | (with_reducible (first | assumption | exact zR _ | exact zM _ _ _ _)) | apply zA | refine zS ?_ (by first | exact zL _ | exact zK _ _ | assumption) _ | apply zP | apply zD | apply zN)))⟩
    case pos =>
      have HV := Lib.hid (show c.check = 0 ∧ (T.l.length : Int) = c.frags from ⟨hck, hfr⟩)
      have hk2 : ((T.l.length : Int) != c.frags) = false := by simp [hfr]
      have HPN := Lib.hid (fun g' => (show Calls Tryz.prog 46 #[.int .i64 c.frags] g'.w (fun e w' => ∃ own' b, e = .returned (.tuple #[.pointer (some ⟨b, 0, none⟩), .int .i64 0]) ∧ Mod (fun _ => False) g' ⟨own', w'⟩ ∧ PoolAt ⟨own', w'⟩ (B + 1) b ⟨List.replicate c.frags.toNat true⟩) from (pool_new c.frags (B + 1) g').mono fun e w' hh => by
        unfold PoolMade at hh
        rw [if_pos ⟨by omega, by omega⟩] at hh
        exact hh))
      have HKN := Lib.hid (fun g' => (show Calls Tryz.prog 47 #[.int .i64 c.spine] g'.w (fun e w' => ∃ own' b, e = .returned (.tuple #[.pointer (some ⟨b, 0, none⟩), .int .i64 0]) ∧ Mod (fun _ => False) g' ⟨own', w'⟩ ∧ CoilAt ⟨own', w'⟩ (B + 2) b ⟨c.spine, 0, 0, 0, 0⟩) from (coil_new c.spine (B + 2) g').mono fun e w' hh => by
        unfold CoilMade at hh
        rw [if_pos ⟨by omega, by omega⟩] at hh
        exact hh))
      have HCP := Lib.hid (fun g' (m : Mod (fun _ => False) g g') => copy_any c (B + 5) g' (HC.out.ext m.toExt) (by omega))
      unfold Cnf.val at HCP
      clear hck hfr
      go_wp2_with fail
      refine wp_region_mixed [true, true, true, true, true] 0 5 (by kernel_rfl) (by kernel_rfl) (by kernel_rfl) ?_ (by decide) (by decide) (by decide) (by kernel_rfl) ?_
      · intro c a d v w h; cases d <;> exact h
      intro X00
      simp only [pickOps]
      repeat (go_big_quiet_step ((go_at_call 45; exact Calls.added (HTX.out _))))
      refine wpQuiet_nil (fun X0 => ?_)
      clear X00
      refine wpAnyM_done (by kernel_rfl) (fun X0' => ?_) _
      go_wp2_with fail
      refine (HPN.out ((⟨own1, w1⟩ : GW).pt _)).mono ?_
      rintro e w2 ⟨own2, bp, rfl, m2, p2⟩
      have M2 := Lib.hid ((Mod.pt M1.out _).trans m2)
      have B2 := Lib.hid ((B1.out.pt _).keep m2 id)
      have P2 := Lib.hid p2
      clear m2 p2 a0 a1 a2 a3 a4 a5 a6 a7 a8 al
      obtain ⟨a0, a1, a2, a3, a4, a5, a6, a7, a8, al⟩ := B2.out.c9
      (try simp only [GW.to] at a0 a1 a2 a3 a4 a5 a6 a7 a8 al)
      go_wp2_with fail
      refine (HKN.out ⟨own2, w2⟩).mono ?_
      rintro e w3 ⟨own3, bk, rfl, m3, k3⟩
      have M3 := Lib.hid (M2.out.trans m3)
      have B3 := Lib.hid (B2.out.keep m3 id)
      have P3 := Lib.hid (P2.out.keep m3 id)
      have K3 := Lib.hid k3
      clear m3 k3 a0 a1 a2 a3 a4 a5 a6 a7 a8 al
      obtain ⟨a0, a1, a2, a3, a4, a5, a6, a7, a8, al⟩ := B3.out.c9
      (try simp only [GW.to] at a0 a1 a2 a3 a4 a5 a6 a7 a8 al)
      go_wp2_with fail
      refine (HCP.out ⟨own3, w3⟩ M3.out).mono ?_
      rintro e w4 ⟨c', rfl, hsm, hca, hX⟩
      unfold Cnf.val
      obtain ⟨own4, m4, hca⟩ : ∃ own4, Mod (fun _ => False) ⟨own3, w3⟩ ⟨own4, w4⟩ ∧ CnfAt ⟨own4, w4⟩ (B + 5) c' := ⟨_, Mod.ext (g := ⟨own3, w3⟩) hX (B + 5), hca⟩
      have M4 := Lib.hid (M3.out.trans m4)
      have B4 := Lib.hid (B3.out.keep m4 id)
      have P4 := Lib.hid (P3.out.keep m4 id)
      have K4 := Lib.hid (K3.out.keep m4 id)
      have C4 := Lib.hid hca
      have HSM := Lib.hid hsm
      clear m4 hca hX hsm a0 a1 a2 a3 a4 a5 a6 a7 a8 al
      go_wp2_with fail
      refine (line_new (B + 3) ⟨own4, w4⟩).mono ?_
      rintro e w5 ⟨bl, rfl, hX, hl5⟩
      obtain ⟨own5, m5, hl5⟩ : ∃ own5, Mod (fun _ => False) ⟨own4, w4⟩ ⟨own5, w5⟩ ∧ LineAt ⟨own5, w5⟩ (B + 3) bl [] := ⟨_, Mod.ext (g := ⟨own4, w4⟩) hX (B + 3), hl5⟩
      have M5 := Lib.hid (M4.out.trans m5)
      have B5 := Lib.hid (B4.out.keep m5 id)
      have P5 := Lib.hid (P4.out.keep m5 id)
      have K5 := Lib.hid (K4.out.keep m5 id)
      have C5 := Lib.hid (C4.out.keep m5 id)
      have L5 := Lib.hid hl5
      clear m5 hl5 hX
      obtain ⟨a0, a1, a2, a3, a4, a5, a6, a7, a8, al⟩ := B5.out.c9
      (try simp only [GW.to] at a0 a1 a2 a3 a4 a5 a6 a7 a8 al)
      go_wp2_with fail
      obtain ⟨own6, m6, hsp, hb6⟩ : ∃ own6, Mod (fun _ => False) g ⟨own6, w5.alloc (.cells #[.pointer (some ⟨bt, 0, none⟩), .slice none 0 0, .bool false, .int .i64 0, .int .i64 c'.frags, .int .i64 c'.spine, .int .i64 c'.globals, .int .i64 c'.threads, .int .i64 c'.locals, .int .i64 c'.cache, .int .i64 c'.stack, .int .i64 c'.low, .slice c'.A c'.shapes.length c'.cap, .pointer (some ⟨bp, 0, none⟩), .pointer (some ⟨bk, 0, none⟩), .pointer (some ⟨bl, 0, none⟩)] 49)⟩ ∧ SpaceIn ⟨own6, w5.alloc (.cells #[.pointer (some ⟨bt, 0, none⟩), .slice none 0 0, .bool false, .int .i64 0, .int .i64 c'.frags, .int .i64 c'.spine, .int .i64 c'.globals, .int .i64 c'.threads, .int .i64 c'.locals, .int .i64 c'.cache, .int .i64 c'.stack, .int .i64 c'.low, .slice c'.A c'.shapes.length c'.cap, .pointer (some ⟨bp, 0, none⟩), .pointer (some ⟨bk, 0, none⟩), .pointer (some ⟨bl, 0, none⟩)] 49)⟩ B w5.heap.size bt { SpaceS.fresh c T with stocks := [] } bp bk bl none 0 c' [] ∧ Blk ⟨own6, w5.alloc (.cells #[.pointer (some ⟨bt, 0, none⟩), .slice none 0 0, .bool false, .int .i64 0, .int .i64 c'.frags, .int .i64 c'.spine, .int .i64 c'.globals, .int .i64 c'.threads, .int .i64 c'.locals, .int .i64 c'.cache, .int .i64 c'.stack, .int .i64 c'.low, .slice c'.A c'.shapes.length c'.cap, .pointer (some ⟨bp, 0, none⟩), .pointer (some ⟨bk, 0, none⟩), .pointer (some ⟨bl, 0, none⟩)] 49)⟩ 9 g.w.heap.size 24 [.int .i64 c.frags, .int .i64 c.spine, .int .i64 c.globals, .int .i64 c.threads, .int .i64 c.locals, .int .i64 c.cache, .int .i64 c.stack, .int .i64 c.low, .slice c.A c.shapes.length c.cap] := by
        have m := Mod.ext (T := fun _ => False) (g := ⟨own5, w5⟩) (show Ext w5 (w5.alloc (.cells #[.pointer (some ⟨bt, 0, none⟩), .slice none 0 0, .bool false, .int .i64 0, .int .i64 c'.frags, .int .i64 c'.spine, .int .i64 c'.globals, .int .i64 c'.threads, .int .i64 c'.locals, .int .i64 c'.cache, .int .i64 c'.stack, .int .i64 c'.low, .slice c'.A c'.shapes.length c'.cap, .pointer (some ⟨bp, 0, none⟩), .pointer (some ⟨bk, 0, none⟩), .pointer (some ⟨bl, 0, none⟩)] 49)) by (repeat (first | (with_reducible (first | assumption | exact zR _ | exact zM _ _ _ _)) | apply zA | refine zS ?_ (by first | exact zL _ | exact zK _ _ | assumption) _ | apply zP | apply zD | apply zN))) B
        exact ⟨_, M5.out.trans m, ⟨Blk.new (⟨own5, w5⟩ : GW) B 49 [.pointer (some ⟨bt, 0, none⟩), .slice none 0 0, .bool false, .int .i64 0, .int .i64 c'.frags, .int .i64 c'.spine, .int .i64 c'.globals, .int .i64 c'.threads, .int .i64 c'.locals, .int .i64 c'.cache, .int .i64 c'.stack, .int .i64 c'.low, .slice c'.A c'.shapes.length c'.cap, .pointer (some ⟨bp, 0, none⟩), .pointer (some ⟨bk, 0, none⟩), .pointer (some ⟨bl, 0, none⟩)], Row.nil _ _ _ _, HT.out.keep (M5.out.trans m) id, P5.out.keep m id, K5.out.keep m id, L5.out.keep m id id, C5.out.keep m id, HSM.out, rfl, fun j x s hx => by simp at hx, HCKZ.out, by simp⟩, B5.out.keep m id⟩
      have hbg : g.w.heap.size ≤ w5.heap.size := M5.out.size
      generalize w5.heap.size = b at *
      have HBG := Lib.hid hbg
      clear hbg
      generalize w5.alloc (.cells #[.pointer (some ⟨bt, 0, none⟩), .slice none 0 0, .bool false, .int .i64 0, .int .i64 c'.frags, .int .i64 c'.spine, .int .i64 c'.globals, .int .i64 c'.threads, .int .i64 c'.locals, .int .i64 c'.cache, .int .i64 c'.stack, .int .i64 c'.low, .slice c'.A c'.shapes.length c'.cap, .pointer (some ⟨bp, 0, none⟩), .pointer (some ⟨bk, 0, none⟩), .pointer (some ⟨bl, 0, none⟩)] 49) = W6 at *
      have M6 := Lib.hid m6
      have S6 := Lib.hid hsp
      have B6 := Lib.hid hb6
      clear m6 hsp hb6 a0 a1 a2 a3 a4 a5 a6 a7 a8 al M0 B0 M1 B1 M2 B2 P2 M3 B3 P3 K3 M4 B4 P4 K4 C4 M5 B5 P5 K5 C5 L5
      obtain ⟨tn, htn⟩ := Int.eq_ofNat_of_zero_le (show 0 ≤ c.threads by omega)
      have HTN := Lib.hid htn
      rw [htn] at r6 r7 ⊢
      clear htn
      go_loopw [52] (fun i wr => ∃ (k : Nat) (own : Nat → Nat) (A : Option Addr) (cs : Nat) (bs : List Nat), k ≤ tn ∧ i = .int .i64 k ∧ Hid (Mod (fun _ => False) g ⟨own, wr⟩) ∧ Hid (SpaceIn ⟨own, wr⟩ B b bt { SpaceS.fresh c T with stocks := List.replicate k ⟨[], c.cache⟩ } bp bk bl A cs c' bs) ∧ Hid (Blk ⟨own, wr⟩ 9 g.w.heap.size 24 [.int .i64 c.frags, .int .i64 c.spine, .int .i64 c.globals, .int .i64 c.threads, .int .i64 c.locals, .int .i64 c.cache, .int .i64 c.stack, .int .i64 c.low, .slice c.A c.shapes.length c.cap]) ∧ Hid (∀ y, (Value.slice A k cs).ownBlock = some y → g.w.heap.size ≤ y)) (fun i _ => tn - (intOf i).toNat)
      case atStart => exact ⟨0, own6, none, 0, [], Nat.zero_le _, rfl, M6, S6, B6, Lib.hid (fun y hy => by cases hy)⟩
      case round =>
        obtain ⟨k, own, A, cs, bs, hk, rfl, M, S, Bx, HNEW⟩ := hrel
        clear M6 S6 B6
        by_cases hlt : k < tn
        · skip
          obtain ⟨a0, a1, a2, a3, a4, a5, a6, a7, a8, al⟩ := Bx.out.c9
          (try simp only [GW.to] at a0 a1 a2 a3 a4 a5 a6 a7 a8 al)
          go_wp2_with fail
          refine (stock_new c.cache (B + 10 + k) ⟨own, wr⟩ ⟨r8, r9⟩).mono ?_
          rintro e w1 ⟨x, rfl, m1, s1, hX, hx1, hx2⟩
          obtain ⟨own1, m1, s1⟩ : ∃ own1, Mod (fun _ => False) ⟨own, wr⟩ ⟨own1, w1⟩ ∧ StockAt ⟨own1, w1⟩ (B + 10 + k) x ⟨[], c.cache⟩ := ⟨_, m1, s1⟩
          have M1 := Lib.hid (M.out.trans m1)
          have S1 := Lib.hid (S.out.keep m1 (fun x hx => hx.elim))
          have X1 := Lib.hid (Bx.out.keep m1 id)
          have T1 := Lib.hid s1
          have R1 := Lib.hid (show Row ⟨own1, w1⟩ B 118 1 (.slice A k cs) k (bs.map fun x => Value.pointer (some ⟨x, 0, none⟩)) by have := S1.out.row; simpa using this)
          have K1 := Lib.hid (show Blk ⟨own1, w1⟩ B b 49 [.pointer (some ⟨bt, 0, none⟩), .slice A k cs, .bool false, .int .i64 0, .int .i64 c'.frags, .int .i64 c'.spine, .int .i64 c'.globals, .int .i64 c'.threads, .int .i64 c'.locals, .int .i64 c'.cache, .int .i64 c'.stack, .int .i64 c'.low, .slice c'.A c'.shapes.length c'.cap, .pointer (some ⟨bp, 0, none⟩), .pointer (some ⟨bk, 0, none⟩), .pointer (some ⟨bl, 0, none⟩)] by have := S1.out.blk; simpa [SpaceS.fresh] using this)
          clear m1 s1 hX hx1 hx2 a0 a1 a2 a3 a4 a5 a6 a7 a8 al
          obtain ⟨a0, a1, a2, a3, a4, a5, a6, a7, a8, a9, a10, a11, a12, a13, a14, a15, al⟩ := K1.out.c16
          have af1 := K1.out.live 1
          (try simp only [GW.to] at a0 a1 a2 a3 a4 a5 a6 a7 a8 a9 a10 a11 a12 a13 a14 a15 af1 al)
          have hE1 := Lib.hid (show Ext w1 (w1.alloc (.cells #[.pointer (some ⟨x, 0, none⟩)] 118)) by (repeat (first | (with_reducible (first | assumption | exact zR _ | exact zM _ _ _ _)) | apply zA | refine zS ?_ (by first | exact zL _ | exact zK _ _ | assumption) _ | apply zP | apply zD | apply zN)))
          go_wp2_with (at_builtin; refine wpList_append_own_at _ rfl (.tmp 67) (.tmp 69) 43 rfl 0 118 i0 (.pointer none) 1 8 Tryz.underlying43 hi hz0 hz1 hz2 rfl (by decide) (.slice A k cs) k (bs.map fun x => Value.pointer (some ⟨x, 0, none⟩)) rfl (R1.out.row.alloc _) ⟨w1.heap.size, 0, none⟩ 1 1 [.pointer (some ⟨x, 0, none⟩)] rfl rfl (cell_one_new _ _ _) (by intro u hu; simp at hu; subst hu; rfl) (by unfold maxLen; omega) (by omega) (Nat.zero_le _) ?_; intro v2 w2 hown hgrow hnil hat; obtain ⟨A2, c2, rfl⟩ := own_form hown; obtain ⟨own2, n2, m2, k2, r2, hnew2⟩ : ∃ own2, Mod (fun _ => False) g ⟨own2, w2⟩ ∧ Mod (fun y => y = B) ⟨own1, w1⟩ ⟨own2, w2⟩ ∧ Blk ⟨own2, w2⟩ B b 49 [.pointer (some ⟨bt, 0, none⟩), .slice A k cs, .bool false, .int .i64 0, .int .i64 c'.frags, .int .i64 c'.spine, .int .i64 c'.globals, .int .i64 c'.threads, .int .i64 c'.locals, .int .i64 c'.cache, .int .i64 c'.stack, .int .i64 c'.low, .slice c'.A c'.shapes.length c'.cap, .pointer (some ⟨bp, 0, none⟩), .pointer (some ⟨bk, 0, none⟩), .pointer (some ⟨bl, 0, none⟩)] ∧ Row ⟨own2, w2⟩ B 118 1 (.slice A2 (k + 1) c2) (k + 1) ((bs ++ [x]).map fun x => Value.pointer (some ⟨x, 0, none⟩)) ∧ (∀ y, (Value.slice A2 (k + 1) c2).ownBlock = some y → g.w.heap.size ≤ y) := ⟨_, M1.out.grownNew (t1 := 9) (t2 := B) hE1.out hgrow HNEW.out, (Mod.ext (T := fun y => y = B) (g := ⟨own1, w1⟩) hE1.out 9).trans (Mod.grown hgrow B (fun y hy hl => (R1.out.ext hE1.out 9).own y hy)), (K1.out.ext hE1.out 9).grown (t' := B) hgrow (fun y hy => R1.out.ne_type K1.out (by decide) hy), ((R1.out.ext hE1.out 9).grown hown hat).weak rfl (by simp), fun y hy => by rcases hat with e | e; exact HNEW.out y (by rw [← e]; exact hy); (rw [e] at hy; injection hy with hy; rw [← hy]; exact Nat.le_trans M1.out.size hE1.out.size)⟩; have N2 := Lib.hid n2; have M2 := Lib.hid m2; have K2 := Lib.hid k2; have R2 := Lib.hid r2; have HN2 := Lib.hid hnew2; have d1 := K2.out.cell (i := 1) rfl; have df1 := K2.out.live 1; have dl := K2.out.lt; simp only [GW.to] at d1 df1 dl; clear hown hgrow hnil hat n2 m2 k2 r2 hnew2 a0 a1 a2 a3 a4 a5 a6 a7 a8 a9 a10 a11 a12 a13 a14 a15 af1 al)
          go_roundw
          case rel =>
            have q1 : Mod (fun y => y = B) ⟨own1, w1⟩ ⟨own2, _⟩ := Mod.st M2.out (b := b) (i := 1) (v := .slice A2 (k + 1) c2) K2.out.own
            refine ⟨k + 1, own2, A2, c2, bs ++ [x], by omega, by go_num, Lib.hid (Mod.stn N2.out HBG.out), Lib.hid ?_, Lib.hid (X1.out.keep q1 (by omega)), HN2⟩
            · have := SpaceIn.addStock S1.out q1 (x := x) (s := ⟨[], c.cache⟩) (A' := A2) (cs' := c2) (by simp only [List.length_replicate, SpaceS.fresh]; exact K2.out.set 1 (.slice A2 (k + 1) c2)) (by simp only [List.length_replicate]; exact R2.out.setOther 1 (.slice A2 (k + 1) c2) (fun y hy => R2.out.ne_type K2.out (by decide) hy)) (by simp only [List.length_replicate]; exact T1.out.keep q1 (by omega)) (by simp; omega)
              rw [List.replicate_succ']
              exact this
          case measure => simp [intOf]; omega
        · obtain rfl : k = tn := by omega
          go_wp2_with fail
          go_ret2
          unfold SpaceMade
          rw [if_pos HV.out]
          have HF : SpaceIn ⟨own, wr⟩ B b bt (SpaceS.fresh c T) bp bk bl A cs c' bs := by
            have := S.out
            unfold SpaceS.fresh at this ⊢
            rw [HTN.out, Int.toNat_natCast]
            exact this
          exact ⟨own, b, rfl, M.out, _, _, _, _, _, _, _, HF⟩
end Go.Proofs.YtcpeoflomdhidaaGreat

/-
  mem: words.
-/
namespace Go.Proofs.YtcpeoflomdhidaaGreat
open Go Go.RowKit
set_option linter.unusedVariables false
set_option linter.unnecessarySimpa false
set_option linter.unusedSimpArgs false

structure MemAt (g : GW) (t b : Nat) (m : MemS) : Prop where
  ex : ∃ A c, Blk g t b 234 [.slice A m.l.length c, .int .i64 m.count] ∧ Row g t 78 1 (.slice A m.l.length c) m.l.length (m.l.map cx)
  len : m.l.length ≤ 1048576
theorem MemAt.keep {S : Nat → Prop} {g g' : GW} {t b : Nat} {m : MemS} (h : MemAt g t b m) (d : Mod S g g') (hs : ¬ S t) : MemAt g' t b m := by
  obtain ⟨A, c, h1, h2⟩ := h.ex
  exact ⟨⟨A, c, h1.keep d hs, h2.keep d hs⟩, h.len⟩
theorem mem_has (b : Nat) (i : Int) (A : Option Addr) (n c : Nat) (w : World) (h0 : w.cell? ⟨b, 0, none⟩ = some (.slice A n c)) :
    Calls Tryz.prog 222 #[.pointer (some ⟨b, 0, none⟩), .int .i64 i] w (fun e w' => e = .returned (.bool (inB i n)) ∧ w = w') := by
  by_cases hi : 0 ≤ i
  · by_cases hl : i < n
    · have HV := Lib.hid (show inB i n = true by unfold inB; simp; omega)
      go_enter Tryz.func222, Tryz.ntmps222
      go_wp2_with fail
      go_ret
      exact ⟨by rw [HV.out]; try rfl, rfl⟩
    · have HV := Lib.hid (show inB i n = false from inB_big (by omega))
      go_enter Tryz.func222, Tryz.ntmps222
      go_wp2_with fail
      go_ret
      exact ⟨by rw [HV.out]; try rfl, rfl⟩
  · have HV := Lib.hid (show inB i n = false from inB_neg (by omega))
    go_enter Tryz.func222, Tryz.ntmps222
    go_wp2_with fail
    go_ret
    exact ⟨by rw [HV.out]; try rfl, rfl⟩

theorem MemAt.word {g : GW} {t b : Nat} {m : MemS} (h : MemAt g t b m) {k : Nat} (hk : k < m.l.length) : ∃ r c x, m.l[k]? = some x ∧ Blk g t b 234 [.slice (some ⟨r, 0, none⟩) m.l.length c, .int .i64 m.count] ∧
    Row g t 78 1 (.slice (some ⟨r, 0, none⟩) m.l.length c) m.l.length (m.l.map cx) ∧ r < g.w.heap.size ∧ g.w.cell? ⟨r, k, none⟩ = some (.complex .f64 x.1 x.2) ∧ g.w.frozen? ⟨r, k, none⟩ = false ∧ b ≠ r := by
  obtain ⟨A, c, hb, hr⟩ := h.ex
  obtain ⟨r, rfl, hl, ho, hc, hf⟩ := hr.block (by omega)
  have hx := List.getElem?_eq_getElem hk
  refine ⟨r, c, _, hx, hb, hr, hl, hc _ _ (by rw [List.getElem?_map, hx]; rfl), hf _, hr.ne_type hb (by decide) rfl⟩
theorem MemS.peek_in {m : MemS} {k : Nat} {x : Nat × Nat} (h : m.l[k]? = some x) : m.peek k = x := by
  unfold MemS.peek
  rw [if_pos (inB_cast (List.getElem?_eq_some_iff.1 h).1), Int.toNat_natCast, List.getD_eq_getElem?_getD, h]
  rfl
theorem MemS.peek_out {m : MemS} {a : Int} (h : inB a m.l.length = false) : m.peek a = (0, 0) := by unfold MemS.peek; rw [h]; rfl

theorem MemAt.ticked {g : GW} {t b : Nat} {m : MemS} (h : MemAt g t b m) : MemAt ⟨g.own, g.w.setCell ⟨b, 1, none⟩ (.int .i64 (m.count + 1))⟩ t b m.tick := by
  obtain ⟨A, c, hb, hr⟩ := h.ex
  exact ⟨⟨A, c, hb.set 1 _, hr.setOther _ _ (fun k hk => hr.ne_type hb (by decide) hk)⟩, h.len⟩
theorem MemAt.laid {g : GW} {t b r c k p q : Nat} {m : MemS} (h : MemAt g t b m) (hk : k < m.l.length) (hb : Blk g t b 234 [.slice (some ⟨r, 0, none⟩) m.l.length c, .int .i64 m.count]) : MemAt ⟨g.own, g.w.setCell ⟨r, k, none⟩ (.complex .f64 p q)⟩ t b (m.lay k (p, q)) := by
  obtain ⟨A', c', hb', hr⟩ := h.ex
  have e := hb'.same hb
  injection e with e _
  injection e with e1 _ e2
  subst e1 e2
  have e2 : m.lay k (p, q) = { m with l := m.l.set k (p, q) } := by unfold MemS.lay; rw [if_pos (inB_cast hk), Int.toNat_natCast]
  rw [e2]
  refine ⟨⟨some ⟨r, 0, none⟩, c', ?_, ?_⟩, by simpa using h.len⟩
  · simp only [List.length_set]
    exact hb'.setOther _ _ (fun e => hr.ne_type hb' (by decide) rfl e.symm)
  · simp only [List.length_set]
    have := hr.store k (.complex .f64 p q)
    rw [List.map_set]
    exact this
theorem MemS.lay_out {m : MemS} {a : Int} {x : Nat × Nat} (h : inB a m.l.length = false) : m.lay a x = m := by unfold MemS.lay; rw [h]; rfl

theorem mem_read (g : GW) (t b : Nat) (a : Int) (m : MemS) (h : MemAt g t b m) (hc : 0 ≤ m.count ∧ m.count ≤ 1099511627776) :
    Calls Tryz.prog 183 #[.pointer (some ⟨b, 0, none⟩), .int .i64 a] g.w (Does (.tuple #[.complex .f64 (m.peek a).1 (m.peek a).2, .int .i64 (if inB a m.l.length then 0 else 1)]) g (fun x => x = t) (fun g' => MemAt g' t b m.tick)) := by
  obtain ⟨hc0, hc1⟩ := hc
  cases hin : inB a m.l.length
  · have HV := Lib.hid (MemS.peek_out hin)
    obtain ⟨A, c, hb, hr⟩ := h.ex
    have HO := Lib.hid hb.own
    have H := Lib.hid h.ticked
    have c0 := hb.cell (i := 0) rfl
    have c1 := hb.cell (i := 1) rfl
    have f1 := hb.live 1
    have hbl := hb.lt
    clear hb hr h
    go_enter Tryz.func183, Tryz.ntmps183
    go_wp2_with fail
    refine (mem_has b a A m.l.length c _ (by go_simp)).mono ?_
    rw [hin]
    rintro e w1 ⟨rfl, rfl⟩
    go_wp2_with fail
    go_ret2
    exact Does.of ⟨g.own, _⟩ rfl (by rw [HV.out]; try rfl) (Mod.st Mod.self HO.out) H.out
  · obtain ⟨k, rfl, hk⟩ := inB_true hin
    obtain ⟨r, c, ⟨p, q⟩, hx, hb, -, hrl, k0, -, hne⟩ := h.word hk
    have HV := Lib.hid (MemS.peek_in hx)
    have HO := Lib.hid hb.own
    have H := Lib.hid h.ticked
    have c0 := hb.cell (i := 0) rfl
    have c1 := hb.cell (i := 1) rfl
    have f1 := hb.live 1
    have hbl := hb.lt
    have hlen := h.len
    simp only at k0
    clear hb h hx
    go_enter Tryz.func183, Tryz.ntmps183
    go_wp2_with fail
    refine (mem_has b k (some ⟨r, 0, none⟩) m.l.length c _ (by go_simp)).mono ?_
    rw [hin]
    rintro e w1 ⟨rfl, rfl⟩
    go_wp2_with fail
    go_ret2
    exact Does.of ⟨g.own, _⟩ rfl (by rw [HV.out]; try rfl) (Mod.st Mod.self HO.out) H.out

theorem mem_lay (g : GW) (t b : Nat) (a : Int) (p q : Nat) (m : MemS) (h : MemAt g t b m) :
    Calls Tryz.prog 164 #[.pointer (some ⟨b, 0, none⟩), .int .i64 a, .complex .f64 p q] g.w (Does (.tuple #[]) g (fun x => x = t) (fun g' => MemAt g' t b (m.lay a (p, q)))) := by
  cases hin : inB a m.l.length
  · have HV := Lib.hid (MemS.lay_out (x := (p, q)) hin)
    obtain ⟨A, c, hb, hr⟩ := h.ex
    have H := Lib.hid h
    have c0 := hb.cell (i := 0) rfl
    clear hb hr h
    go_enter Tryz.func164, Tryz.ntmps164
    go_wp2_with fail
    refine (mem_has _ _ _ _ _ _ c0).mono ?_
    rintro e w1 ⟨rfl, rfl⟩
    go_wp2_with fail
    refine bodyPost_end (results_none rfl _ _ _) rfl (Does.of g rfl rfl (Mod.refl _ _) (by rw [HV.out]; exact H.out))
  · obtain ⟨k, rfl, hk⟩ := inB_true hin
    obtain ⟨r, c, ⟨p', q'⟩, hx, hb, hr, hrl, k0, kf, hne⟩ := h.word hk
    have HR := Lib.hid (hr.own r rfl)
    have H := Lib.hid (MemAt.laid (p := p) (q := q) h hk hb)
    have c0 := hb.cell (i := 0) rfl
    have hlen := h.len
    simp only at k0
    clear hb h hx hr
    go_enter Tryz.func164, Tryz.ntmps164
    go_wp2_with fail
    refine (mem_has _ _ _ _ _ _ c0).mono ?_
    rintro e w1 ⟨rfl, rfl⟩
    go_wp2_with fail
    refine bodyPost_end (results_none rfl _ _ _) rfl (Does.of ⟨g.own, _⟩ rfl rfl (Mod.st Mod.self HR.out) H.out)

theorem infoCx : (Tryz.prog.info? 78).map (fun i => (i.zero, i.size, i.bytes)) = some (some (.complex .f64 0 0), 1, 16) := by kernel_rfl
def MemMade (n : Int) (t : Nat) (g : GW) (e : Ending) (w' : World) : Prop :=
  if 0 ≤ n ∧ n ≤ 1048576 then ∃ own' b, e = .returned (.tuple #[.pointer (some ⟨b, 0, none⟩), .int .i64 0]) ∧ Mod (fun _ => False) g ⟨own', w'⟩ ∧ MemAt ⟨own', w'⟩ t b ⟨List.replicate n.toNat (0, 0), 0⟩
  else e = .returned (.tuple #[.pointer none, .int .i64 1]) ∧ Ext g.w w'
theorem mem_new (n : Int) (t : Nat) (g : GW) : Calls Tryz.prog 159 #[.int .i64 n] g.w (MemMade n t g) := by
  obtain ⟨i0, hi, hz0, hz1, hz2⟩ := info_parts infoCx
  by_cases h0 : n < 0
  · have HV := Lib.hid (show ¬ (0 ≤ n ∧ n ≤ 1048576) by omega)
    go_enter Tryz.func159, Tryz.ntmps159
    go_wp2_with fail
    go_ret2
    unfold MemMade
    rw [if_neg HV.out]
    exact ⟨rfl, Ext.refl _⟩
  by_cases h1 : 1048576 < n
  · have HV := Lib.hid (show ¬ (0 ≤ n ∧ n ≤ 1048576) by omega)
    go_enter Tryz.func159, Tryz.ntmps159
    go_wp2_with fail
    go_ret2
    unfold MemMade
    rw [if_neg HV.out]
    exact ⟨rfl, Ext.refl _⟩
  obtain ⟨k, rfl⟩ := Int.eq_ofNat_of_zero_le (show 0 ≤ n by omega)
  have HV := Lib.hid (show (0 : Int) ≤ k ∧ (k : Int) ≤ 1048576 by omega)
  have hmk := run_made (P := Tryz.prog) 232 78 i0 _ 1 16 Tryz.underlying232 hi hz0 hz1 hz2 k (by omega) (by omega)
  simp only [Value.cells, made_one] at hmk
  have HK := Lib.hid (show k ≤ 1048576 by omega)
  go_enter Tryz.func159, Tryz.ntmps159
  go_wp2_with fail
  go_ret2
  unfold MemMade
  rw [if_pos HV.out]
  obtain ⟨q1, q2⟩ := two_blocks g.w (.cells (List.replicate k (Value.complex .f64 0 0)).toArray 78) (.cells #[.slice (some ⟨g.w.heap.size, 0, none⟩) k k, .int .i64 0] 234)
  refine ⟨_, _, rfl, Mod.ext (show Ext g.w _ by (repeat (first | (with_reducible (first | assumption | exact zR _ | exact zM _ _ _ _)) | apply zA | refine zS ?_ (by first | exact zL _ | exact zK _ _ | assumption) _ | apply zP | apply zD | apply zN))) t, ⟨⟨some ⟨g.w.heap.size, 0, none⟩, k, ?_, ?_⟩, by simpa using HK.out⟩⟩
  · simp only [Int.toNat_natCast, List.length_replicate]
    exact Blk.made q2 (by omega)
  · simp only [Int.toNat_natCast, List.length_replicate, List.map_replicate]
    exact Row.made q1 (Nat.le_refl _) (by simp) (by have := HK.out; omega)
end Go.Proofs.YtcpeoflomdhidaaGreat

