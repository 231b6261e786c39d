import Derived.Test.YtoaehfdjffejeaaGreatKL08
import Derived.Test.YtoaehfdjffejeaaGreatChecked
import Derived.Deep.DeepCutAuto
/-
  Packed: SpaceD, MemO, Core.
-/
open Go.Ext renaming alloc → zA, patch → zP, drew → zD, drewN → zN, more → zM, refl → zR, setCell → zS
open Nat renaming le_refl → zL, le_add_right → zK
/-
  space: New.
-/
namespace Go
open Go.RowKit
theorem Mod.grownNew {T : Nat → Prop} {g : GW} {o : Nat → Nat} {w W w2 : World} {row : Option Nat} {t1 t2 : Nat} (M : Mod T g ⟨o, w⟩) (he : Ext w W) (hg : W.grownBy w2 row) (hr : ∀ k, row = some k → g.w.heap.size ≤ k) : Mod T g (((⟨o, w⟩ : GW).to t1 W).to t2 w2) := by
  obtain ⟨h1, h2, h3, h4, h5⟩ := he.below
  have s1 : g.w.heap.size ≤ w.heap.size := M.size
  refine ⟨hg.os.trans (h1.trans M.os), hg.tape.trans (h2.trans M.tape), hg.output.trans (h3.trans M.output), Nat.le_trans s1 (Nat.le_trans h4 hg.size), fun k hk => ?_, fun k hk ht => ?_⟩
  · rw [GW.to_old (Nat.lt_of_lt_of_le hk (Nat.le_trans s1 h4)), GW.to_old (Nat.lt_of_lt_of_le hk s1)]
    exact M.own k hk
  · exact (hg.block k (Nat.lt_of_lt_of_le hk (Nat.le_trans s1 h4)) (fun e => by have := hr k e.symm; omega)).trans ((h5 k (Nat.lt_of_lt_of_le hk s1)).trans (M.block k hk ht))
end Go
namespace Go.Proofs.YtoaehfdjffejeaaGreat
open Go Go.RowKit
set_option linter.unusedVariables false
set_option linter.unnecessarySimpa false
set_option linter.unusedSimpArgs false
set_option maxHeartbeats 4000000
theorem infoPtr : (Tryz.prog.info? 146).map (fun i => (i.zero, i.size, i.bytes)) = some (some (.pointer none), 1, 8) := by kernel_rfl

theorem SpaceIn.addStock {g g' : GW} {B b bt bp bk bl cs cs' : Nat} {S : SpaceS} {A A' : Option Addr} {cm : Cnf} {bs : List Nat} (h : SpaceIn g B b bt S bp bk bl A cs cm bs) (m : Mod (fun x => x = B) g g') {x : Nat} {s : StockS}
    (hb : Blk g' B b 145 [.pointer (some ⟨bt, 0, none⟩), .slice A' (S.stocks.length + 1) cs', .bool S.forced, .int .i64 S.count, .int .i64 cm.frags, .int .i64 cm.spine, .int .i64 cm.globals, .int .i64 cm.threads, .int .i64 cm.locals, .int .i64 cm.cache, .int .i64 cm.stack, .int .i64 cm.low, .slice cm.A cm.shapes.length cm.cap, .pointer (some ⟨bp, 0, none⟩), .pointer (some ⟨bk, 0, none⟩), .pointer (some ⟨bl, 0, none⟩)])
    (hr : Row g' B 146 1 (.slice A' (S.stocks.length + 1) cs') (S.stocks.length + 1) ((bs ++ [x]).map fun x => Value.pointer (some ⟨x, 0, none⟩))) (hs : StockAt g' (B + 10 + S.stocks.length) x s) (hn : S.stocks.length < 16) :
    SpaceIn g' B b bt { S with stocks := S.stocks ++ [s] } bp bk bl A' cs' cm (bs ++ [x]) := by
  refine ⟨?_, ?_, h.tab.keep m (by omega), h.pool.keep m (by omega), h.coil.keep m (by omega), h.line.keep m (by omega) (by omega), h.cnf.keep m (by omega), h.same, by simp [h.blen], fun j y u hy hu => ?_, h.check, by simp; omega⟩
  · simp only [List.length_append, List.length_singleton]; exact hb
  · simp only [List.length_append, List.length_singleton]; exact hr
  · have hbl := h.blen
    by_cases hj : j < S.stocks.length
    · rw [List.getElem?_append_left (by omega)] at hy
      simp only at hu
      rw [List.getElem?_append_left hj] at hu
      exact (h.stock j y u hy hu).keep m (by omega)
    · have hj2 : j = S.stocks.length := by
        have := (List.getElem?_eq_some_iff.1 hu).1
        simp at this
        omega
      subst hj2
      simp only at hu
      rw [List.getElem?_append_right (by omega), hbl, Nat.sub_self] at hy
      rw [List.getElem?_append_right (by omega), Nat.sub_self] at hu
      simp at hy hu
      subst hy hu
      exact hs
def SpaceS.fresh (c : Cnf) (T : TabS) : SpaceS := ⟨T, List.replicate c.threads.toNat ⟨[], c.cache⟩, false, 0, c, ⟨List.replicate c.frags.toNat true⟩, ⟨c.spine, 0, 0, 0, 0⟩, []⟩
def SpaceMade (c : Cnf) (T : TabS) (B bt : Nat) (g : GW) (e : Ending) (w' : World) : Prop :=
  if c.check = 0 ∧ (T.l.length : Int) = c.frags then ∃ own' b, e = .returned (.tuple #[.pointer (some ⟨b, 0, none⟩), .int .i64 0]) ∧ Mod (fun _ => False) g ⟨own', w'⟩ ∧ SpaceAt ⟨own', w'⟩ B b bt (SpaceS.fresh c T)
  else e = .returned (.tuple #[.pointer none, .int .i64 (if c.check = 0 then 1 else c.check)]) ∧ Ext g.w w'
set_option maxRecDepth 100000 in
theorem space_new (c : Cnf) (T : TabS) (B bt : Nat) (g : GW) (hc : c.Ok g.w) (ht : TabAt g (B + 50) bt T) (hB : 100 ≤ B) : Calls Tryz.prog 39 #[c.val, .pointer (some ⟨bt, 0, none⟩)] g.w (SpaceMade c T B bt g) := by
  have HCK := Lib.hid (fun w' (he : Ext g.w w') => check_any c w' (hc.ext he))
  have HTL := Lib.hid (fun g' (m : Mod (fun _ => False) g g') => tab_len g' (B + 50) bt T (ht.keep m id))
  obtain ⟨i0, hi, hz0, hz1, hz2⟩ := info_parts infoPtr
  have HC := Lib.hid hc
  have HT := Lib.hid ht
  unfold Cnf.val at HCK ⊢
  obtain ⟨own0, m0, b0⟩ : ∃ own0, Mod (fun _ => False) g ⟨own0, g.w.alloc (.cells #[.int .i64 c.frags, .int .i64 c.spine, .int .i64 c.globals, .int .i64 c.threads, .int .i64 c.locals, .int .i64 c.cache, .int .i64 c.stack, .int .i64 c.low, .slice c.A c.shapes.length c.cap] 46)⟩ ∧ Blk ⟨own0, g.w.alloc (.cells #[.int .i64 c.frags, .int .i64 c.spine, .int .i64 c.globals, .int .i64 c.threads, .int .i64 c.locals, .int .i64 c.cache, .int .i64 c.stack, .int .i64 c.low, .slice c.A c.shapes.length c.cap] 46)⟩ 9 g.w.heap.size 46 [.int .i64 c.frags, .int .i64 c.spine, .int .i64 c.globals, .int .i64 c.threads, .int .i64 c.locals, .int .i64 c.cache, .int .i64 c.stack, .int .i64 c.low, .slice c.A c.shapes.length c.cap] := ⟨_, Mod.ext (by (repeat (first | (with_reducible (first | assumption | exact zR _ | exact zM _ _ _ _)) | apply zA | refine zS ?_ (by first | exact zL _ | exact zK _ _ | assumption) _ | apply zP | apply zD | apply zN))) 9, Blk.new g 9 46 [.int .i64 c.frags, .int .i64 c.spine, .int .i64 c.globals, .int .i64 c.threads, .int .i64 c.locals, .int .i64 c.cache, .int .i64 c.stack, .int .i64 c.low, .slice c.A c.shapes.length c.cap]⟩
  have M0 := Lib.hid m0
  have B0 := Lib.hid b0
  clear hc ht m0 b0
  go_enter Tryz.func39, Tryz.ntmps39
  go_wp2_with fail
  refine (HCK.out _ (by (repeat (first | (with_reducible (first | assumption | exact zR _ | exact zM _ _ _ _)) | apply zA | refine zS ?_ (by first | exact zL _ | exact zK _ _ | assumption) _ | apply zP | apply zD | apply zN)))).mono ?_
  rintro e w1 ⟨rfl, hX⟩
  obtain ⟨own1, m1⟩ := Mod.ofExt (show Ext _ w1 from hX) own0
  have M1 := Lib.hid (M0.out.trans m1)
  have B1 := Lib.hid (B0.out.keep m1 id)
  clear m1 hX
  obtain ⟨a0, a1, a2, a3, a4, a5, a6, a7, a8, al⟩ := B1.out.c9
  (try simp only [GW.to] at a0 a1 a2 a3 a4 a5 a6 a7 a8 al)
  by_cases hck : c.check = 0
  case neg =>
    have hk1 : (c.check != 0) = true := by simp [hck]
    have HV := Lib.hid (show ¬ (c.check = 0 ∧ (T.l.length : Int) = c.frags) from fun e => hck e.1)
    have HW := Lib.hid (show (if c.check = 0 then 1 else c.check) = c.check from if_neg hck)
    clear hck
    go_wp2_with fail
    go_ret2
    unfold SpaceMade
    rw [if_neg HV.out]
    exact ⟨by rw [HW.out]; rfl, M1.out.toExt⟩
  case pos =>
    have hk1 : (c.check != 0) = false := by simp [hck]
    have hrg := Cnf.ranged (Cnf.check_zero hck).1
    obtain ⟨⟨r0, r1⟩, ⟨r2, r3⟩, ⟨r4, r5⟩, ⟨r6, r7⟩, -, ⟨r8, r9⟩, -, -⟩ := hrg
    have hshp : c.shapes.length ≤ 8 := by
      have := (Cnf.check_zero hck).2.2.1
      simp [within] at this
      omega
    have HCKZ := Lib.hid hck
    have HTX := Lib.hid (fun X => same_gives (HTL.out ((⟨own1, w1⟩ : GW).pt X) (Mod.pt M1.out X)))
    have hT1024 := HT.out.len
    by_cases hfr : (T.l.length : Int) = c.frags
    case neg =>
      have HV := Lib.hid (show ¬ (c.check = 0 ∧ (T.l.length : Int) = c.frags) from fun e => hfr e.2)
      have HW := Lib.hid (show (if c.check = 0 then (1 : Int) else c.check) = 1 from if_pos hck)
      have hk2 : ((T.l.length : Int) != c.frags) = true := by simp [hfr]
      clear hck hfr
      go_wp2_with fail
      refine wp_region_mixed [true, true, true, true, true] 0 5 (by kernel_rfl) (by kernel_rfl) (by kernel_rfl) ?_ (by decide) (by decide) (by decide) (by kernel_rfl) ?_
      · intro c a d v w h; cases d <;> exact h
      intro X00
      simp only [pickOps]
      repeat (go_big_quiet_step ((go_at_call 73; exact Calls.added (HTX.out _))))
      refine wpQuiet_nil (fun X0 => ?_)
      clear X00
      refine wpAnyM_done (by kernel_rfl) (fun X0' => ?_) _
      go_wp2_with fail
      go_ret2
      unfold SpaceMade
      rw [if_neg HV.out]
      exact ⟨by rw [HW.out]; rfl, M1.out.toExt.trans (by (repeat (first | (with_reducible (first | assumption | exact zR _ | exact zM _ _ _ _)) | apply zA | refine zS ?_ (by first | exact zL _ | exact zK _ _ | assumption) _ | apply zP | apply zD | apply zN)))⟩
    case pos =>
      have HV := Lib.hid (show c.check = 0 ∧ (T.l.length : Int) = c.frags from ⟨hck, hfr⟩)
      have hk2 : ((T.l.length : Int) != c.frags) = false := by simp [hfr]
      have HPN := Lib.hid (fun g' => (show Calls Tryz.prog 74 #[.int .i64 c.frags] g'.w (fun e w' => ∃ own' b, e = .returned (.tuple #[.pointer (some ⟨b, 0, none⟩), .int .i64 0]) ∧ Mod (fun _ => False) g' ⟨own', w'⟩ ∧ PoolAt ⟨own', w'⟩ (B + 1) b ⟨List.replicate c.frags.toNat true⟩) from (pool_new c.frags (B + 1) g').mono fun e w' hh => by
        unfold PoolMade at hh
        rw [if_pos ⟨by omega, by omega⟩] at hh
        exact hh))
      have HKN := Lib.hid (fun g' => (show Calls Tryz.prog 75 #[.int .i64 c.spine] g'.w (fun e w' => ∃ own' b, e = .returned (.tuple #[.pointer (some ⟨b, 0, none⟩), .int .i64 0]) ∧ Mod (fun _ => False) g' ⟨own', w'⟩ ∧ CoilAt ⟨own', w'⟩ (B + 2) b ⟨c.spine, 0, 0, 0, 0⟩) from (coil_new c.spine (B + 2) g').mono fun e w' hh => by
        unfold CoilMade at hh
        rw [if_pos ⟨by omega, by omega⟩] at hh
        exact hh))
      have HCP := Lib.hid (fun g' (m : Mod (fun _ => False) g g') => copy_any c (B + 5) g' (HC.out.ext m.toExt) (by omega))
      unfold Cnf.val at HCP
      clear hck hfr
      go_wp2_with fail
      refine wp_region_mixed [true, true, true, true, true] 0 5 (by kernel_rfl) (by kernel_rfl) (by kernel_rfl) ?_ (by decide) (by decide) (by decide) (by kernel_rfl) ?_
      · intro c a d v w h; cases d <;> exact h
      intro X00
      simp only [pickOps]
      repeat (go_big_quiet_step ((go_at_call 73; exact Calls.added (HTX.out _))))
      refine wpQuiet_nil (fun X0 => ?_)
      clear X00
      refine wpAnyM_done (by kernel_rfl) (fun X0' => ?_) _
      go_wp2_with fail
      refine (HPN.out ((⟨own1, w1⟩ : GW).pt _)).mono ?_
      rintro e w2 ⟨own2, bp, rfl, m2, p2⟩
      have M2 := Lib.hid ((Mod.pt M1.out _).trans m2)
      have B2 := Lib.hid ((B1.out.pt _).keep m2 id)
      have P2 := Lib.hid p2
      clear m2 p2 a0 a1 a2 a3 a4 a5 a6 a7 a8 al
      obtain ⟨a0, a1, a2, a3, a4, a5, a6, a7, a8, al⟩ := B2.out.c9
      (try simp only [GW.to] at a0 a1 a2 a3 a4 a5 a6 a7 a8 al)
      go_wp2_with fail
      refine (HKN.out ⟨own2, w2⟩).mono ?_
      rintro e w3 ⟨own3, bk, rfl, m3, k3⟩
      have M3 := Lib.hid (M2.out.trans m3)
      have B3 := Lib.hid (B2.out.keep m3 id)
      have P3 := Lib.hid (P2.out.keep m3 id)
      have K3 := Lib.hid k3
      clear m3 k3 a0 a1 a2 a3 a4 a5 a6 a7 a8 al
      obtain ⟨a0, a1, a2, a3, a4, a5, a6, a7, a8, al⟩ := B3.out.c9
      (try simp only [GW.to] at a0 a1 a2 a3 a4 a5 a6 a7 a8 al)
      go_wp2_with fail
      refine (HCP.out ⟨own3, w3⟩ M3.out).mono ?_
      rintro e w4 ⟨c', rfl, hsm, hca, hX⟩
      unfold Cnf.val
      obtain ⟨own4, m4, hca⟩ : ∃ own4, Mod (fun _ => False) ⟨own3, w3⟩ ⟨own4, w4⟩ ∧ CnfAt ⟨own4, w4⟩ (B + 5) c' := ⟨_, Mod.ext (g := ⟨own3, w3⟩) hX (B + 5), hca⟩
      have M4 := Lib.hid (M3.out.trans m4)
      have B4 := Lib.hid (B3.out.keep m4 id)
      have P4 := Lib.hid (P3.out.keep m4 id)
      have K4 := Lib.hid (K3.out.keep m4 id)
      have C4 := Lib.hid hca
      have HSM := Lib.hid hsm
      clear m4 hca hX hsm a0 a1 a2 a3 a4 a5 a6 a7 a8 al
      go_wp2_with fail
      refine (line_new (B + 3) ⟨own4, w4⟩).mono ?_
      rintro e w5 ⟨bl, rfl, hX, hl5⟩
      obtain ⟨own5, m5, hl5⟩ : ∃ own5, Mod (fun _ => False) ⟨own4, w4⟩ ⟨own5, w5⟩ ∧ LineAt ⟨own5, w5⟩ (B + 3) bl [] := ⟨_, Mod.ext (g := ⟨own4, w4⟩) hX (B + 3), hl5⟩
      have M5 := Lib.hid (M4.out.trans m5)
      have B5 := Lib.hid (B4.out.keep m5 id)
      have P5 := Lib.hid (P4.out.keep m5 id)
      have K5 := Lib.hid (K4.out.keep m5 id)
      have C5 := Lib.hid (C4.out.keep m5 id)
      have L5 := Lib.hid hl5
      clear m5 hl5 hX
      obtain ⟨a0, a1, a2, a3, a4, a5, a6, a7, a8, al⟩ := B5.out.c9
      (try simp only [GW.to] at a0 a1 a2 a3 a4 a5 a6 a7 a8 al)
      go_wp2_with fail
      obtain ⟨own6, m6, hsp, hb6⟩ : ∃ own6, Mod (fun _ => False) g ⟨own6, w5.alloc (.cells #[.pointer (some ⟨bt, 0, none⟩), .slice none 0 0, .bool false, .int .i64 0, .int .i64 c'.frags, .int .i64 c'.spine, .int .i64 c'.globals, .int .i64 c'.threads, .int .i64 c'.locals, .int .i64 c'.cache, .int .i64 c'.stack, .int .i64 c'.low, .slice c'.A c'.shapes.length c'.cap, .pointer (some ⟨bp, 0, none⟩), .pointer (some ⟨bk, 0, none⟩), .pointer (some ⟨bl, 0, none⟩)] 145)⟩ ∧ SpaceIn ⟨own6, w5.alloc (.cells #[.pointer (some ⟨bt, 0, none⟩), .slice none 0 0, .bool false, .int .i64 0, .int .i64 c'.frags, .int .i64 c'.spine, .int .i64 c'.globals, .int .i64 c'.threads, .int .i64 c'.locals, .int .i64 c'.cache, .int .i64 c'.stack, .int .i64 c'.low, .slice c'.A c'.shapes.length c'.cap, .pointer (some ⟨bp, 0, none⟩), .pointer (some ⟨bk, 0, none⟩), .pointer (some ⟨bl, 0, none⟩)] 145)⟩ B w5.heap.size bt { SpaceS.fresh c T with stocks := [] } bp bk bl none 0 c' [] ∧ Blk ⟨own6, w5.alloc (.cells #[.pointer (some ⟨bt, 0, none⟩), .slice none 0 0, .bool false, .int .i64 0, .int .i64 c'.frags, .int .i64 c'.spine, .int .i64 c'.globals, .int .i64 c'.threads, .int .i64 c'.locals, .int .i64 c'.cache, .int .i64 c'.stack, .int .i64 c'.low, .slice c'.A c'.shapes.length c'.cap, .pointer (some ⟨bp, 0, none⟩), .pointer (some ⟨bk, 0, none⟩), .pointer (some ⟨bl, 0, none⟩)] 145)⟩ 9 g.w.heap.size 46 [.int .i64 c.frags, .int .i64 c.spine, .int .i64 c.globals, .int .i64 c.threads, .int .i64 c.locals, .int .i64 c.cache, .int .i64 c.stack, .int .i64 c.low, .slice c.A c.shapes.length c.cap] := by
        have m := Mod.ext (T := fun _ => False) (g := ⟨own5, w5⟩) (show Ext w5 (w5.alloc (.cells #[.pointer (some ⟨bt, 0, none⟩), .slice none 0 0, .bool false, .int .i64 0, .int .i64 c'.frags, .int .i64 c'.spine, .int .i64 c'.globals, .int .i64 c'.threads, .int .i64 c'.locals, .int .i64 c'.cache, .int .i64 c'.stack, .int .i64 c'.low, .slice c'.A c'.shapes.length c'.cap, .pointer (some ⟨bp, 0, none⟩), .pointer (some ⟨bk, 0, none⟩), .pointer (some ⟨bl, 0, none⟩)] 145)) by (repeat (first | (with_reducible (first | assumption | exact zR _ | exact zM _ _ _ _)) | apply zA | refine zS ?_ (by first | exact zL _ | exact zK _ _ | assumption) _ | apply zP | apply zD | apply zN))) B
        exact ⟨_, M5.out.trans m, ⟨Blk.new (⟨own5, w5⟩ : GW) B 145 [.pointer (some ⟨bt, 0, none⟩), .slice none 0 0, .bool false, .int .i64 0, .int .i64 c'.frags, .int .i64 c'.spine, .int .i64 c'.globals, .int .i64 c'.threads, .int .i64 c'.locals, .int .i64 c'.cache, .int .i64 c'.stack, .int .i64 c'.low, .slice c'.A c'.shapes.length c'.cap, .pointer (some ⟨bp, 0, none⟩), .pointer (some ⟨bk, 0, none⟩), .pointer (some ⟨bl, 0, none⟩)], Row.nil _ _ _ _, HT.out.keep (M5.out.trans m) id, P5.out.keep m id, K5.out.keep m id, L5.out.keep m id id, C5.out.keep m id, HSM.out, rfl, fun j x s hx => by simp at hx, HCKZ.out, by simp⟩, B5.out.keep m id⟩
      have hbg : g.w.heap.size ≤ w5.heap.size := M5.out.size
      generalize w5.heap.size = b at *
      have HBG := Lib.hid hbg
      clear hbg
      generalize w5.alloc (.cells #[.pointer (some ⟨bt, 0, none⟩), .slice none 0 0, .bool false, .int .i64 0, .int .i64 c'.frags, .int .i64 c'.spine, .int .i64 c'.globals, .int .i64 c'.threads, .int .i64 c'.locals, .int .i64 c'.cache, .int .i64 c'.stack, .int .i64 c'.low, .slice c'.A c'.shapes.length c'.cap, .pointer (some ⟨bp, 0, none⟩), .pointer (some ⟨bk, 0, none⟩), .pointer (some ⟨bl, 0, none⟩)] 145) = W6 at *
      have M6 := Lib.hid m6
      have S6 := Lib.hid hsp
      have B6 := Lib.hid hb6
      clear m6 hsp hb6 a0 a1 a2 a3 a4 a5 a6 a7 a8 al M0 B0 M1 B1 M2 B2 P2 M3 B3 P3 K3 M4 B4 P4 K4 C4 M5 B5 P5 K5 C5 L5
      obtain ⟨tn, htn⟩ := Int.eq_ofNat_of_zero_le (show 0 ≤ c.threads by omega)
      have HTN := Lib.hid htn
      rw [htn] at r6 r7 ⊢
      clear htn
      go_loopw [52] (fun i wr => ∃ (k : Nat) (own : Nat → Nat) (A : Option Addr) (cs : Nat) (bs : List Nat), k ≤ tn ∧ i = .int .i64 k ∧ Hid (Mod (fun _ => False) g ⟨own, wr⟩) ∧ Hid (SpaceIn ⟨own, wr⟩ B b bt { SpaceS.fresh c T with stocks := List.replicate k ⟨[], c.cache⟩ } bp bk bl A cs c' bs) ∧ Hid (Blk ⟨own, wr⟩ 9 g.w.heap.size 46 [.int .i64 c.frags, .int .i64 c.spine, .int .i64 c.globals, .int .i64 c.threads, .int .i64 c.locals, .int .i64 c.cache, .int .i64 c.stack, .int .i64 c.low, .slice c.A c.shapes.length c.cap]) ∧ Hid (∀ y, (Value.slice A k cs).ownBlock = some y → g.w.heap.size ≤ y)) (fun i _ => tn - (intOf i).toNat)
      case atStart => exact ⟨0, own6, none, 0, [], Nat.zero_le _, rfl, M6, S6, B6, Lib.hid (fun y hy => by cases hy)⟩
      case round =>
        obtain ⟨k, own, A, cs, bs, hk, rfl, M, S, Bx, HNEW⟩ := hrel
        clear M6 S6 B6
        by_cases hlt : k < tn
        · skip
          obtain ⟨a0, a1, a2, a3, a4, a5, a6, a7, a8, al⟩ := Bx.out.c9
          (try simp only [GW.to] at a0 a1 a2 a3 a4 a5 a6 a7 a8 al)
          go_wp2_with fail
          refine (stock_new c.cache (B + 10 + k) ⟨own, wr⟩ ⟨r8, r9⟩).mono ?_
          rintro e w1 ⟨x, rfl, m1, s1, hX, hx1, hx2⟩
          obtain ⟨own1, m1, s1⟩ : ∃ own1, Mod (fun _ => False) ⟨own, wr⟩ ⟨own1, w1⟩ ∧ StockAt ⟨own1, w1⟩ (B + 10 + k) x ⟨[], c.cache⟩ := ⟨_, m1, s1⟩
          have M1 := Lib.hid (M.out.trans m1)
          have S1 := Lib.hid (S.out.keep m1 (fun x hx => hx.elim))
          have X1 := Lib.hid (Bx.out.keep m1 id)
          have T1 := Lib.hid s1
          have R1 := Lib.hid (show Row ⟨own1, w1⟩ B 146 1 (.slice A k cs) k (bs.map fun x => Value.pointer (some ⟨x, 0, none⟩)) by have := S1.out.row; simpa using this)
          have K1 := Lib.hid (show Blk ⟨own1, w1⟩ B b 145 [.pointer (some ⟨bt, 0, none⟩), .slice A k cs, .bool false, .int .i64 0, .int .i64 c'.frags, .int .i64 c'.spine, .int .i64 c'.globals, .int .i64 c'.threads, .int .i64 c'.locals, .int .i64 c'.cache, .int .i64 c'.stack, .int .i64 c'.low, .slice c'.A c'.shapes.length c'.cap, .pointer (some ⟨bp, 0, none⟩), .pointer (some ⟨bk, 0, none⟩), .pointer (some ⟨bl, 0, none⟩)] by have := S1.out.blk; simpa [SpaceS.fresh] using this)
          clear m1 s1 hX hx1 hx2 a0 a1 a2 a3 a4 a5 a6 a7 a8 al
          obtain ⟨a0, a1, a2, a3, a4, a5, a6, a7, a8, a9, a10, a11, a12, a13, a14, a15, al⟩ := K1.out.c16
          have af1 := K1.out.live 1
          (try simp only [GW.to] at a0 a1 a2 a3 a4 a5 a6 a7 a8 a9 a10 a11 a12 a13 a14 a15 af1 al)
          have hE1 := Lib.hid (show Ext w1 (w1.alloc (.cells #[.pointer (some ⟨x, 0, none⟩)] 146)) by (repeat (first | (with_reducible (first | assumption | exact zR _ | exact zM _ _ _ _)) | apply zA | refine zS ?_ (by first | exact zL _ | exact zK _ _ | assumption) _ | apply zP | apply zD | apply zN)))
          go_wp2_with (at_builtin; refine wpList_append_own_at _ rfl (.tmp 67) (.tmp 69) 143 rfl 0 146 i0 (.pointer none) 1 8 Tryz.underlying143 hi hz0 hz1 hz2 rfl (by decide) (.slice A k cs) k (bs.map fun x => Value.pointer (some ⟨x, 0, none⟩)) rfl (R1.out.row.alloc _) ⟨w1.heap.size, 0, none⟩ 1 1 [.pointer (some ⟨x, 0, none⟩)] rfl rfl (cell_one_new _ _ _) (by intro u hu; simp at hu; subst hu; rfl) (by unfold maxLen; omega) (by omega) (Nat.zero_le _) ?_; intro v2 w2 hown hgrow hnil hat; obtain ⟨A2, c2, rfl⟩ := own_form hown; obtain ⟨own2, n2, m2, k2, r2, hnew2⟩ : ∃ own2, Mod (fun _ => False) g ⟨own2, w2⟩ ∧ Mod (fun y => y = B) ⟨own1, w1⟩ ⟨own2, w2⟩ ∧ Blk ⟨own2, w2⟩ B b 145 [.pointer (some ⟨bt, 0, none⟩), .slice A k cs, .bool false, .int .i64 0, .int .i64 c'.frags, .int .i64 c'.spine, .int .i64 c'.globals, .int .i64 c'.threads, .int .i64 c'.locals, .int .i64 c'.cache, .int .i64 c'.stack, .int .i64 c'.low, .slice c'.A c'.shapes.length c'.cap, .pointer (some ⟨bp, 0, none⟩), .pointer (some ⟨bk, 0, none⟩), .pointer (some ⟨bl, 0, none⟩)] ∧ Row ⟨own2, w2⟩ B 146 1 (.slice A2 (k + 1) c2) (k + 1) ((bs ++ [x]).map fun x => Value.pointer (some ⟨x, 0, none⟩)) ∧ (∀ y, (Value.slice A2 (k + 1) c2).ownBlock = some y → g.w.heap.size ≤ y) := ⟨_, M1.out.grownNew (t1 := 9) (t2 := B) hE1.out hgrow HNEW.out, (Mod.ext (T := fun y => y = B) (g := ⟨own1, w1⟩) hE1.out 9).trans (Mod.grown hgrow B (fun y hy hl => (R1.out.ext hE1.out 9).own y hy)), (K1.out.ext hE1.out 9).grown (t' := B) hgrow (fun y hy => R1.out.ne_type K1.out (by decide) hy), ((R1.out.ext hE1.out 9).grown hown hat).weak rfl (by simp), fun y hy => by rcases hat with e | e; exact HNEW.out y (by rw [← e]; exact hy); (rw [e] at hy; injection hy with hy; rw [← hy]; exact Nat.le_trans M1.out.size hE1.out.size)⟩; have N2 := Lib.hid n2; have M2 := Lib.hid m2; have K2 := Lib.hid k2; have R2 := Lib.hid r2; have HN2 := Lib.hid hnew2; have d1 := K2.out.cell (i := 1) rfl; have df1 := K2.out.live 1; have dl := K2.out.lt; simp only [GW.to] at d1 df1 dl; clear hown hgrow hnil hat n2 m2 k2 r2 hnew2 a0 a1 a2 a3 a4 a5 a6 a7 a8 a9 a10 a11 a12 a13 a14 a15 af1 al)
          go_roundw
          case rel =>
            have q1 : Mod (fun y => y = B) ⟨own1, w1⟩ ⟨own2, _⟩ := Mod.st M2.out (b := b) (i := 1) (v := .slice A2 (k + 1) c2) K2.out.own
            refine ⟨k + 1, own2, A2, c2, bs ++ [x], by omega, by go_num, Lib.hid (Mod.stn N2.out HBG.out), Lib.hid ?_, Lib.hid (X1.out.keep q1 (by omega)), HN2⟩
            · have := SpaceIn.addStock S1.out q1 (x := x) (s := ⟨[], c.cache⟩) (A' := A2) (cs' := c2) (by simp only [List.length_replicate, SpaceS.fresh]; exact K2.out.set 1 (.slice A2 (k + 1) c2)) (by simp only [List.length_replicate]; exact R2.out.setOther 1 (.slice A2 (k + 1) c2) (fun y hy => R2.out.ne_type K2.out (by decide) hy)) (by simp only [List.length_replicate]; exact T1.out.keep q1 (by omega)) (by simp; omega)
              rw [List.replicate_succ']
              exact this
          case measure => simp [intOf]; omega
        · obtain rfl : k = tn := by omega
          go_wp2_with fail
          go_ret2
          unfold SpaceMade
          rw [if_pos HV.out]
          have HF : SpaceIn ⟨own, wr⟩ B b bt (SpaceS.fresh c T) bp bk bl A cs c' bs := by
            have := S.out
            unfold SpaceS.fresh at this ⊢
            rw [HTN.out, Int.toNat_natCast]
            exact this
          exact ⟨own, b, rfl, M.out, _, _, _, _, _, _, _, HF⟩
end Go.Proofs.YtoaehfdjffejeaaGreat

/-
  mem: words.
-/
namespace Go.Proofs.YtoaehfdjffejeaaGreat
open Go Go.RowKit
set_option linter.unusedVariables false
set_option linter.unnecessarySimpa false
set_option linter.unusedSimpArgs false

structure MemAt (g : GW) (t b : Nat) (m : MemS) : Prop where
  ex : ∃ A c, Blk g t b 126 [.slice A m.l.length c, .int .i64 m.count] ∧ Row g t 24 1 (.slice A m.l.length c) m.l.length (m.l.map cx)
  len : m.l.length ≤ 1048576
theorem MemAt.keep {S : Nat → Prop} {g g' : GW} {t b : Nat} {m : MemS} (h : MemAt g t b m) (d : Mod S g g') (hs : ¬ S t) : MemAt g' t b m := by
  obtain ⟨A, c, h1, h2⟩ := h.ex
  exact ⟨⟨A, c, h1.keep d hs, h2.keep d hs⟩, h.len⟩
theorem MemAt.pt {g : GW} {t b : Nat} {m : MemS} (h : MemAt g t b m) (X : Extra) : MemAt (g.pt X) t b m := h.keep (S := fun _ => False) (Mod.pt (Mod.refl _ _) X) id

theorem mem_has (b : Nat) (i : Int) (A : Option Addr) (n c : Nat) (w : World) (h0 : w.cell? ⟨b, 0, none⟩ = some (.slice A n c)) :
    Calls Tryz.prog 79 #[.pointer (some ⟨b, 0, none⟩), .int .i64 i] w (fun e w' => e = .returned (.bool (inB i n)) ∧ w = w') := by
  by_cases hi : 0 ≤ i
  · by_cases hl : i < n
    · have HV := Lib.hid (show inB i n = true by unfold inB; simp; omega)
      go_enter Tryz.func79, Tryz.ntmps79
      go_wp2_with fail
      go_ret
      exact ⟨by rw [HV.out]; try rfl, rfl⟩
    · have HV := Lib.hid (show inB i n = false from inB_big (by omega))
      go_enter Tryz.func79, Tryz.ntmps79
      go_wp2_with fail
      go_ret
      exact ⟨by rw [HV.out]; try rfl, rfl⟩
  · have HV := Lib.hid (show inB i n = false from inB_neg (by omega))
    go_enter Tryz.func79, Tryz.ntmps79
    go_wp2_with fail
    go_ret
    exact ⟨by rw [HV.out]; try rfl, rfl⟩

theorem MemAt.word {g : GW} {t b : Nat} {m : MemS} (h : MemAt g t b m) {k : Nat} (hk : k < m.l.length) : ∃ r c x, m.l[k]? = some x ∧ Blk g t b 126 [.slice (some ⟨r, 0, none⟩) m.l.length c, .int .i64 m.count] ∧
    Row g t 24 1 (.slice (some ⟨r, 0, none⟩) m.l.length c) m.l.length (m.l.map cx) ∧ r < g.w.heap.size ∧ g.w.cell? ⟨r, k, none⟩ = some (.complex .f64 x.1 x.2) ∧ g.w.frozen? ⟨r, k, none⟩ = false ∧ b ≠ r := by
  obtain ⟨A, c, hb, hr⟩ := h.ex
  obtain ⟨r, rfl, hl, ho, hc, hf⟩ := hr.block (by omega)
  have hx := List.getElem?_eq_getElem hk
  refine ⟨r, c, _, hx, hb, hr, hl, hc _ _ (by rw [List.getElem?_map, hx]; rfl), hf _, hr.ne_type hb (by decide) rfl⟩
theorem MemS.peek_in {m : MemS} {k : Nat} {x : Nat × Nat} (h : m.l[k]? = some x) : m.peek k = x := by
  unfold MemS.peek
  rw [if_pos (inB_cast (List.getElem?_eq_some_iff.1 h).1), Int.toNat_natCast, List.getD_eq_getElem?_getD, h]
  rfl
theorem MemS.peek_out {m : MemS} {a : Int} (h : inB a m.l.length = false) : m.peek a = (0, 0) := by unfold MemS.peek; rw [h]; rfl

theorem mem_count (g : GW) (t b : Nat) (m : MemS) (h : MemAt g t b m) :
    Calls Tryz.prog 46 #[.pointer (some ⟨b, 0, none⟩)] g.w (fun e w' => e = .returned (.int .i64 m.count) ∧ g.w = w') := by
  obtain ⟨A, c, hb, hr⟩ := h.ex
  have c1 := hb.cell (i := 1) rfl
  clear hb hr h
  go_enter Tryz.func46, Tryz.ntmps46
  go_wp2_with fail
  go_ret
  exact ⟨rfl, rfl⟩

theorem MemAt.ticked {g : GW} {t b : Nat} {m : MemS} (h : MemAt g t b m) : MemAt ⟨g.own, g.w.setCell ⟨b, 1, none⟩ (.int .i64 (m.count + 1))⟩ t b m.tick := by
  obtain ⟨A, c, hb, hr⟩ := h.ex
  exact ⟨⟨A, c, hb.set 1 _, hr.setOther _ _ (fun k hk => hr.ne_type hb (by decide) hk)⟩, h.len⟩
theorem MemAt.laid {g : GW} {t b r c k p q : Nat} {m : MemS} (h : MemAt g t b m) (hk : k < m.l.length) (hb : Blk g t b 126 [.slice (some ⟨r, 0, none⟩) m.l.length c, .int .i64 m.count]) : MemAt ⟨g.own, g.w.setCell ⟨r, k, none⟩ (.complex .f64 p q)⟩ t b (m.lay k (p, q)) := by
  obtain ⟨A', c', hb', hr⟩ := h.ex
  have e := hb'.same hb
  injection e with e _
  injection e with e1 _ e2
  subst e1 e2
  have e2 : m.lay k (p, q) = { m with l := m.l.set k (p, q) } := by unfold MemS.lay; rw [if_pos (inB_cast hk), Int.toNat_natCast]
  rw [e2]
  refine ⟨⟨some ⟨r, 0, none⟩, c', ?_, ?_⟩, by simpa using h.len⟩
  · simp only [List.length_set]
    exact hb'.setOther _ _ (fun e => hr.ne_type hb' (by decide) rfl e.symm)
  · simp only [List.length_set]
    have := hr.store k (.complex .f64 p q)
    rw [List.map_set]
    exact this
theorem MemS.lay_out {m : MemS} {a : Int} {x : Nat × Nat} (h : inB a m.l.length = false) : m.lay a x = m := by unfold MemS.lay; rw [h]; rfl

theorem mem_read (g : GW) (t b : Nat) (a : Int) (m : MemS) (h : MemAt g t b m) (hc : 0 ≤ m.count ∧ m.count ≤ 1099511627776) :
    Calls Tryz.prog 103 #[.pointer (some ⟨b, 0, none⟩), .int .i64 a] g.w (Does (.tuple #[.complex .f64 (m.peek a).1 (m.peek a).2, .int .i64 (if inB a m.l.length then 0 else 1)]) g (fun x => x = t) (fun g' => MemAt g' t b m.tick)) := by
  obtain ⟨hc0, hc1⟩ := hc
  cases hin : inB a m.l.length
  · have HV := Lib.hid (MemS.peek_out hin)
    obtain ⟨A, c, hb, hr⟩ := h.ex
    have HO := Lib.hid hb.own
    have H := Lib.hid h.ticked
    have c0 := hb.cell (i := 0) rfl
    have c1 := hb.cell (i := 1) rfl
    have f1 := hb.live 1
    have hbl := hb.lt
    clear hb hr h
    go_enter Tryz.func103, Tryz.ntmps103
    go_wp2_with fail
    refine (mem_has b a A m.l.length c _ (by go_simp)).mono ?_
    rw [hin]
    rintro e w1 ⟨rfl, rfl⟩
    go_wp2_with fail
    go_ret2
    exact Does.of ⟨g.own, _⟩ rfl (by rw [HV.out]; try rfl) (Mod.st Mod.self HO.out) H.out
  · obtain ⟨k, rfl, hk⟩ := inB_true hin
    obtain ⟨r, c, ⟨p, q⟩, hx, hb, -, hrl, k0, -, hne⟩ := h.word hk
    have HV := Lib.hid (MemS.peek_in hx)
    have HO := Lib.hid hb.own
    have H := Lib.hid h.ticked
    have c0 := hb.cell (i := 0) rfl
    have c1 := hb.cell (i := 1) rfl
    have f1 := hb.live 1
    have hbl := hb.lt
    have hlen := h.len
    simp only at k0
    clear hb h hx
    go_enter Tryz.func103, Tryz.ntmps103
    go_wp2_with fail
    refine (mem_has b k (some ⟨r, 0, none⟩) m.l.length c _ (by go_simp)).mono ?_
    rw [hin]
    rintro e w1 ⟨rfl, rfl⟩
    go_wp2_with fail
    go_ret2
    exact Does.of ⟨g.own, _⟩ rfl (by rw [HV.out]; try rfl) (Mod.st Mod.self HO.out) H.out

theorem mem_write (g : GW) (t b : Nat) (a : Int) (p q : Nat) (m : MemS) (h : MemAt g t b m) (hc : 0 ≤ m.count ∧ m.count ≤ 1099511627776) :
    Calls Tryz.prog 105 #[.pointer (some ⟨b, 0, none⟩), .int .i64 a, .complex .f64 p q] g.w (Does (.int .i64 (if inB a m.l.length then 0 else 1)) g (fun x => x = t) (fun g' => MemAt g' t b (m.tick.lay a (p, q)))) := by
  obtain ⟨hc0, hc1⟩ := hc
  cases hin : inB a m.l.length
  · have HV := Lib.hid (MemS.lay_out (m := m.tick) (x := (p, q)) hin)
    obtain ⟨A, c, hb, hr⟩ := h.ex
    have HO := Lib.hid hb.own
    have H := Lib.hid h.ticked
    have c0 := hb.cell (i := 0) rfl
    have c1 := hb.cell (i := 1) rfl
    have f1 := hb.live 1
    have hbl := hb.lt
    clear hb hr h
    go_enter Tryz.func105, Tryz.ntmps105
    go_wp2_with fail
    refine (mem_has b a A m.l.length c _ (by go_simp)).mono ?_
    rw [hin]
    rintro e w1 ⟨rfl, rfl⟩
    go_wp2_with fail
    go_ret
    exact Does.of ⟨g.own, _⟩ rfl rfl (Mod.st Mod.self HO.out) (by rw [HV.out]; exact H.out)
  · obtain ⟨k, rfl, hk⟩ := inB_true hin
    obtain ⟨r, c, ⟨p', q'⟩, hx, hb, hr, hrl, k0, kf, hne⟩ := h.word hk
    have HO := Lib.hid hb.own
    have HR := Lib.hid (hr.own r rfl)
    have H := Lib.hid (MemAt.laid (p := p) (q := q) h.ticked hk (hb.set 1 _))
    have hne' : r ≠ b := fun e => hne e.symm
    have c0 := hb.cell (i := 0) rfl
    have c1 := hb.cell (i := 1) rfl
    have f1 := hb.live 1
    have hbl := hb.lt
    have hlen := h.len
    simp only at k0
    clear hb h hx hr
    go_enter Tryz.func105, Tryz.ntmps105
    go_wp2_with fail
    refine (mem_has b k (some ⟨r, 0, none⟩) m.l.length c _ (by go_simp)).mono ?_
    rw [hin]
    rintro e w1 ⟨rfl, rfl⟩
    go_wp2_with fail
    go_ret
    exact Does.of ⟨g.own, _⟩ rfl rfl (Mod.st (Mod.st Mod.self HO.out) HR.out) H.out

theorem mem_lay (g : GW) (t b : Nat) (a : Int) (p q : Nat) (m : MemS) (h : MemAt g t b m) :
    Calls Tryz.prog 42 #[.pointer (some ⟨b, 0, none⟩), .int .i64 a, .complex .f64 p q] g.w (Does (.tuple #[]) g (fun x => x = t) (fun g' => MemAt g' t b (m.lay a (p, q)))) := by
  cases hin : inB a m.l.length
  · have HV := Lib.hid (MemS.lay_out (x := (p, q)) hin)
    obtain ⟨A, c, hb, hr⟩ := h.ex
    have H := Lib.hid h
    have c0 := hb.cell (i := 0) rfl
    clear hb hr h
    go_enter Tryz.func42, Tryz.ntmps42
    go_wp2_with fail
    refine (mem_has _ _ _ _ _ _ c0).mono ?_
    rintro e w1 ⟨rfl, rfl⟩
    go_wp2_with fail
    refine bodyPost_end (results_none rfl _ _ _) rfl (Does.of g rfl rfl (Mod.refl _ _) (by rw [HV.out]; exact H.out))
  · obtain ⟨k, rfl, hk⟩ := inB_true hin
    obtain ⟨r, c, ⟨p', q'⟩, hx, hb, hr, hrl, k0, kf, hne⟩ := h.word hk
    have HR := Lib.hid (hr.own r rfl)
    have H := Lib.hid (MemAt.laid (p := p) (q := q) h hk hb)
    have c0 := hb.cell (i := 0) rfl
    have hlen := h.len
    simp only at k0
    clear hb h hx hr
    go_enter Tryz.func42, Tryz.ntmps42
    go_wp2_with fail
    refine (mem_has _ _ _ _ _ _ c0).mono ?_
    rintro e w1 ⟨rfl, rfl⟩
    go_wp2_with fail
    refine bodyPost_end (results_none rfl _ _ _) rfl (Does.of ⟨g.own, _⟩ rfl rfl (Mod.st Mod.self HR.out) H.out)

theorem infoCx : (Tryz.prog.info? 24).map (fun i => (i.zero, i.size, i.bytes)) = some (some (.complex .f64 0 0), 1, 16) := by kernel_rfl
def MemMade (n : Int) (t : Nat) (g : GW) (e : Ending) (w' : World) : Prop :=
  if 0 ≤ n ∧ n ≤ 1048576 then ∃ own' b, e = .returned (.tuple #[.pointer (some ⟨b, 0, none⟩), .int .i64 0]) ∧ Mod (fun _ => False) g ⟨own', w'⟩ ∧ MemAt ⟨own', w'⟩ t b ⟨List.replicate n.toNat (0, 0), 0⟩
  else e = .returned (.tuple #[.pointer none, .int .i64 1]) ∧ Ext g.w w'
theorem mem_new (n : Int) (t : Nat) (g : GW) : Calls Tryz.prog 36 #[.int .i64 n] g.w (MemMade n t g) := by
  obtain ⟨i0, hi, hz0, hz1, hz2⟩ := info_parts infoCx
  by_cases h0 : n < 0
  · have HV := Lib.hid (show ¬ (0 ≤ n ∧ n ≤ 1048576) by omega)
    go_enter Tryz.func36, Tryz.ntmps36
    go_wp2_with fail
    go_ret2
    unfold MemMade
    rw [if_neg HV.out]
    exact ⟨rfl, Ext.refl _⟩
  by_cases h1 : 1048576 < n
  · have HV := Lib.hid (show ¬ (0 ≤ n ∧ n ≤ 1048576) by omega)
    go_enter Tryz.func36, Tryz.ntmps36
    go_wp2_with fail
    go_ret2
    unfold MemMade
    rw [if_neg HV.out]
    exact ⟨rfl, Ext.refl _⟩
  obtain ⟨k, rfl⟩ := Int.eq_ofNat_of_zero_le (show 0 ≤ n by omega)
  have HV := Lib.hid (show (0 : Int) ≤ k ∧ (k : Int) ≤ 1048576 by omega)
  have hmk := run_made (P := Tryz.prog) 124 24 i0 _ 1 16 Tryz.underlying124 hi hz0 hz1 hz2 k (by omega) (by omega)
  simp only [Value.cells, made_one] at hmk
  have HK := Lib.hid (show k ≤ 1048576 by omega)
  go_enter Tryz.func36, Tryz.ntmps36
  go_wp2_with fail
  go_ret2
  unfold MemMade
  rw [if_pos HV.out]
  obtain ⟨q1, q2⟩ := two_blocks g.w (.cells (List.replicate k (Value.complex .f64 0 0)).toArray 24) (.cells #[.slice (some ⟨g.w.heap.size, 0, none⟩) k k, .int .i64 0] 126)
  refine ⟨_, _, rfl, Mod.ext (show Ext g.w _ by (repeat (first | (with_reducible (first | assumption | exact zR _ | exact zM _ _ _ _)) | apply zA | refine zS ?_ (by first | exact zL _ | exact zK _ _ | assumption) _ | apply zP | apply zD | apply zN))) t, ⟨⟨some ⟨g.w.heap.size, 0, none⟩, k, ?_, ?_⟩, by simpa using HK.out⟩⟩
  · simp only [Int.toNat_natCast, List.length_replicate]
    exact Blk.made q2 (by omega)
  · simp only [Int.toNat_natCast, List.length_replicate, List.map_replicate]
    exact Row.made q1 (Nat.le_refl _) (by simp) (by have := HK.out; omega)
end Go.Proofs.YtoaehfdjffejeaaGreat

/-
  core: its state; New.
-/
namespace Go
open Go.RowKit
theorem Mod.nothing {T : Nat → Prop} {g g' : GW} (h : Mod T g g') (hn : ∀ k, k < g.w.heap.size → ¬ T (g.own k)) : Mod (fun _ => False) g g' := ⟨h.os, h.tape, h.output, h.size, h.own, fun k hk _ => h.block k hk (hn k hk)⟩
def instC (B : Nat) (x : Nat) : Prop := B ≤ x ∧ x < B + 70
structure CoreS where
  c : Cnf
  mem : MemS
  sp : SpaceS
  hand : HandS
  pile : PileS
  n : Int
end Go
namespace Go.Proofs.YtoaehfdjffejeaaGreat
open Go Go.RowKit
set_option linter.unusedVariables false
set_option linter.unnecessarySimpa false
set_option linter.unusedSimpArgs false
set_option maxHeartbeats 4000000
theorem SpaceAt.keep {g g' : GW} {B b bt : Nat} {S : SpaceS} {T : Nat → Prop} (h : SpaceAt g B b bt S) (m : Mod T g g') (hT : ∀ x, T x → x < B ∨ B + 60 ≤ x) : SpaceAt g' B b bt S := by
  obtain ⟨bp, bk, bl, A, cs, cm, bs, h⟩ := h
  exact ⟨bp, bk, bl, A, cs, cm, bs, h.keep m hT⟩
structure CoreIn (g : GW) (B b : Nat) (K : CoreS) (bm bs bt bp bsp bh : Nat) (cm : Cnf) : Prop where
  blk : Blk g (B + 64) b 52 [.int .i64 cm.frags, .int .i64 cm.spine, .int .i64 cm.globals, .int .i64 cm.threads, .int .i64 cm.locals, .int .i64 cm.cache, .int .i64 cm.stack, .int .i64 cm.low, .slice cm.A cm.shapes.length cm.cap, .pointer (some ⟨bm, 0, none⟩), .pointer (some ⟨bs, 0, none⟩), .pointer (some ⟨bsp, 0, none⟩), .pointer (some ⟨bh, 0, none⟩)]
  mem : MemAt g (B + 62) bm K.mem
  sh : Blk g (B + 60) bs 58 [.pointer (some ⟨bt, 0, none⟩), .pointer (some ⟨bp, 0, none⟩), .int .i64 K.n]
  pile : PileAt g (B + 61) bp K.pile
  sp : SpaceAt g B bsp bt K.sp
  hand : HandAt g (B + 63) bh K.hand
  cnf : CnfAt g (B + 65) cm
  same : cm.Same K.c
def CoreAt (g : GW) (B b : Nat) (K : CoreS) : Prop := ∃ bm bs bt bp bsp bh cm, CoreIn g B b K bm bs bt bp bsp bh cm
theorem CoreIn.keep {g g' : GW} {B b bm bs bt bp bsp bh : Nat} {K : CoreS} {cm : Cnf} {T : Nat → Prop} (h : CoreIn g B b K bm bs bt bp bsp bh cm) (m : Mod T g g') (hT : ∀ x, T x → x < B ∨ B + 70 ≤ x) : CoreIn g' B b K bm bs bt bp bsp bh cm := by
  have q : ∀ k, k < 70 → ¬ T (B + k) := fun k hk ht => by have := hT _ ht; omega
  exact ⟨h.blk.keep m (q 64 (by omega)), h.mem.keep m (q 62 (by omega)), h.sh.keep m (q 60 (by omega)), h.pile.keep m (q 61 (by omega)), h.sp.keep m (fun x hx => by have := hT x hx; omega), h.hand.keep m (q 63 (by omega)), h.cnf.keep m (q 65 (by omega)), h.same⟩
def memLaid (c : Cnf) (k : Nat) : MemS := (List.range k).foldl (fun m j => m.lay (cAtV c 3 (j : Nat)) (0, 4607182418800017408)) ⟨List.replicate (cWords c).toNat (0, 0), 0⟩
theorem memLaid_succ (c : Cnf) (k : Nat) : memLaid c (k + 1) = (memLaid c k).lay (cAtV c 3 (k : Nat)) (0, 4607182418800017408) := by
  unfold memLaid
  rw [List.range_succ, List.foldl_append]
  rfl
def CoreS.fresh (c : Cnf) : CoreS := ⟨c, memLaid c c.globals.toNat, SpaceS.fresh c (TabS.fresh c.frags.toNat), ⟨0, false, List.replicate c.threads.toNat (-1), 0⟩, ⟨[], c.stack, false⟩, 0⟩
def CoreMade (c : Cnf) (B : Nat) (g : GW) (e : Ending) (w' : World) : Prop :=
  if c.check = 0 then ∃ own' b, e = .returned (.tuple #[.pointer (some ⟨b, 0, none⟩), .int .i64 0]) ∧ Mod (fun _ => False) g ⟨own', w'⟩ ∧ CoreAt ⟨own', w'⟩ B b (CoreS.fresh c)
  else e = .returned (.tuple #[.pointer none, .int .i64 c.check]) ∧ Ext g.w w'
set_option maxRecDepth 100000 in
theorem core_new (c : Cnf) (B : Nat) (g : GW) (hc : c.Ok g.w) (hB : 100 ≤ B) (hF : ∀ k, k < g.w.heap.size → g.own k < B ∨ B + 70 ≤ g.own k) : Calls Tryz.prog 23 #[c.val] g.w (CoreMade c B g) := by
  have HCK := Lib.hid (fun w' (he : Ext g.w w') => check_any c w' (hc.ext he))
  have HWD := Lib.hid (fun g' (m : Mod (fun _ => False) g g') => words_any c g'.w (hc.ext m.toExt))
  have HGL := Lib.hid (fun k g' (m : Mod (fun _ => False) g g') => global_any c k g'.w (hc.ext m.toExt))
  have HF := Lib.hid hF
  have HC := Lib.hid hc
  unfold Cnf.val at HCK HWD HGL ⊢
  obtain ⟨own0, m0, b0⟩ : ∃ own0, Mod (fun _ => False) g ⟨own0, g.w.alloc (.cells #[.int .i64 c.frags, .int .i64 c.spine, .int .i64 c.globals, .int .i64 c.threads, .int .i64 c.locals, .int .i64 c.cache, .int .i64 c.stack, .int .i64 c.low, .slice c.A c.shapes.length c.cap] 46)⟩ ∧ Blk ⟨own0, g.w.alloc (.cells #[.int .i64 c.frags, .int .i64 c.spine, .int .i64 c.globals, .int .i64 c.threads, .int .i64 c.locals, .int .i64 c.cache, .int .i64 c.stack, .int .i64 c.low, .slice c.A c.shapes.length c.cap] 46)⟩ 9 g.w.heap.size 46 [.int .i64 c.frags, .int .i64 c.spine, .int .i64 c.globals, .int .i64 c.threads, .int .i64 c.locals, .int .i64 c.cache, .int .i64 c.stack, .int .i64 c.low, .slice c.A c.shapes.length c.cap] := ⟨_, Mod.ext (by (repeat (first | (with_reducible (first | assumption | exact zR _ | exact zM _ _ _ _)) | apply zA | refine zS ?_ (by first | exact zL _ | exact zK _ _ | assumption) _ | apply zP | apply zD | apply zN))) 9, Blk.new g 9 46 [.int .i64 c.frags, .int .i64 c.spine, .int .i64 c.globals, .int .i64 c.threads, .int .i64 c.locals, .int .i64 c.cache, .int .i64 c.stack, .int .i64 c.low, .slice c.A c.shapes.length c.cap]⟩
  have M0 := Lib.hid m0
  have B0 := Lib.hid b0
  clear hc m0 b0 hF
  go_enter Tryz.func23, Tryz.ntmps23
  go_wp2_with fail
  refine (HCK.out _ (by (repeat (first | (with_reducible (first | assumption | exact zR _ | exact zM _ _ _ _)) | apply zA | refine zS ?_ (by first | exact zL _ | exact zK _ _ | assumption) _ | apply zP | apply zD | apply zN)))).mono ?_
  rintro e w1 ⟨rfl, hX⟩
  obtain ⟨own1, m1⟩ := Mod.ofExt (show Ext _ w1 from hX) own0
  have M1 := Lib.hid (M0.out.trans (m1.mono (fun x hx => hx.elim)))
  have B1 := Lib.hid (B0.out.keep m1 id)
  clear m1 hX
  obtain ⟨a0, a1, a2, a3, a4, a5, a6, a7, a8, al⟩ := B1.out.c9
  (try simp only [GW.to] at a0 a1 a2 a3 a4 a5 a6 a7 a8 al)
  by_cases hck : c.check = 0
  case neg =>
    have hk1 : (c.check != 0) = true := by simp [hck]
    have HW := Lib.hid hck
    clear hck
    go_wp2_with fail
    go_ret2
    unfold CoreMade
    rw [if_neg HW.out]
    exact ⟨rfl, M1.out.toExt⟩
  case pos =>
    have hk1 : (c.check != 0) = false := by simp [hck]
    obtain ⟨⟨r0, r1⟩, ⟨r2, r3⟩, ⟨r4, r5⟩, ⟨r6, r7⟩, -, ⟨r8, r9⟩, ⟨r10, r11⟩, -⟩ := Cnf.ranged (Cnf.check_zero hck).1
    have hshp : c.shapes.length ≤ 8 := by
      have := (Cnf.check_zero hck).2.2.1
      simp [within] at this
      omega
    have HCKZ := Lib.hid hck
    have hwd : cWords c = c.frags * 8 + c.spine + c.spine + c.globals := by unfold cWords; rw [if_pos hck]
    have HMN := Lib.hid (fun g' => (show Calls Tryz.prog 36 #[.int .i64 (cWords c)] g'.w (fun e w' => ∃ own' b, e = .returned (.tuple #[.pointer (some ⟨b, 0, none⟩), .int .i64 0]) ∧ Mod (fun _ => False) g' ⟨own', w'⟩ ∧ MemAt ⟨own', w'⟩ (B + 62) b (memLaid c 0)) from (mem_new (cWords c) (B + 62) g').mono fun e w' hh => by
      unfold MemMade at hh
      rw [if_pos ⟨by omega, by omega⟩] at hh
      exact hh))
    have HHN := Lib.hid (fun g' => (show Calls Tryz.prog 40 #[.int .i64 c.threads] g'.w (fun e w' => ∃ own' b, e = .returned (.tuple #[.pointer (some ⟨b, 0, none⟩), .int .i64 0]) ∧ Mod (fun _ => False) g' ⟨own', w'⟩ ∧ HandAt ⟨own', w'⟩ (B + 63) b ⟨0, false, List.replicate c.threads.toNat (-1), 0⟩) from (hand_new c.threads (B + 63) g').mono fun e w' hh => by
      unfold HandMade at hh
      rw [if_pos ⟨by omega, by omega⟩] at hh
      exact hh))
    have HSN := Lib.hid (fun g' => (show Calls Tryz.prog 38 #[.int .i64 c.frags, .int .i64 c.stack] g'.w (fun e w' => ∃ own' b bt bp, e = .returned (.tuple #[.pointer (some ⟨b, 0, none⟩), .int .i64 0]) ∧ Mod (fun _ => False) g' ⟨own', w'⟩ ∧ Blk ⟨own', w'⟩ (B + 60) b 58 [.pointer (some ⟨bt, 0, none⟩), .pointer (some ⟨bp, 0, none⟩), .int .i64 0] ∧ TabAt ⟨own', w'⟩ (B + 50) bt (TabS.fresh c.frags.toNat) ∧ PileAt ⟨own', w'⟩ (B + 61) bp ⟨[], c.stack, false⟩) from by
      have := shade_new c.frags.toNat c.stack (B + 60) (B + 50) (B + 61) g' (by omega) ⟨by omega, by omega⟩
      rw [show ((c.frags.toNat : Nat) : Int) = c.frags by omega] at this
      exact this))
    have HPN := Lib.hid (fun g' bt (m : Mod (fun _ => False) g g') (ht : TabAt g' (B + 50) bt (TabS.fresh c.frags.toNat)) => (show Calls Tryz.prog 39 #[c.val, .pointer (some ⟨bt, 0, none⟩)] g'.w (fun e w' => ∃ own' b, e = .returned (.tuple #[.pointer (some ⟨b, 0, none⟩), .int .i64 0]) ∧ Mod (fun _ => False) g' ⟨own', w'⟩ ∧ SpaceAt ⟨own', w'⟩ B b bt (SpaceS.fresh c (TabS.fresh c.frags.toNat))) from (space_new c (TabS.fresh c.frags.toNat) B bt g' (HC.out.ext m.toExt) ht hB).mono fun e w' hh => by
      unfold SpaceMade at hh
      rw [if_pos ⟨HCKZ.out, by simp [TabS.fresh]; omega⟩] at hh
      exact hh))
    have HCP := Lib.hid (fun g' (m : Mod (fun _ => False) g g') => copy_any c (B + 65) g' (HC.out.ext m.toExt) (by omega))
    unfold Cnf.val at HPN HCP
    clear hck hwd
    go_wp2_with fail
    refine (HWD.out ⟨own1, w1⟩ M1.out).mono ?_
    rintro e w2 ⟨rfl, hX⟩
    obtain ⟨own2, m2⟩ := Mod.ofExt (show Ext w1 w2 from hX) own1
    have M2 := Lib.hid (M1.out.trans (m2.mono (fun x hx => hx.elim)))
    have B2 := Lib.hid (B1.out.keep m2 id)
    clear m2 hX
    clear a0 a1 a2 a3 a4 a5 a6 a7 a8 al
    obtain ⟨a0, a1, a2, a3, a4, a5, a6, a7, a8, al⟩ := B2.out.c9
    (try simp only [GW.to] at a0 a1 a2 a3 a4 a5 a6 a7 a8 al)
    go_wp2_with fail
    refine (HMN.out ⟨own2, w2⟩).mono ?_
    rintro e w3 ⟨own3, bm, rfl, m3, x3⟩
    have M3 := Lib.hid (M2.out.trans (m3.mono (fun x hx => hx.elim)))
    have B3 := Lib.hid (B2.out.keep m3 id)
    have X3 := Lib.hid x3
    clear m3 x3 HMN HWD HCK
    clear a0 a1 a2 a3 a4 a5 a6 a7 a8 al
    obtain ⟨a0, a1, a2, a3, a4, a5, a6, a7, a8, al⟩ := B3.out.c9
    (try simp only [GW.to] at a0 a1 a2 a3 a4 a5 a6 a7 a8 al)
    go_wp2_with fail
    refine (HSN.out ⟨own3, w3⟩).mono ?_
    rintro e w4 ⟨own4, bs, bt, bp, rfl, m4, s4, t4, p4⟩
    have M4 := Lib.hid (M3.out.trans (m4.mono (fun x hx => hx.elim)))
    have B4 := Lib.hid (B3.out.keep m4 id)
    have X4 := Lib.hid (X3.out.keep m4 id)
    have S4 := Lib.hid s4
    have T4 := Lib.hid t4
    have P4 := Lib.hid p4
    clear m4 s4 t4 p4 HSN X3
    clear a0 a1 a2 a3 a4 a5 a6 a7 a8 al
    obtain ⟨a0, a1, a2, a3, a4, a5, a6, a7, a8, al⟩ := B4.out.c9
    (try simp only [GW.to] at a0 a1 a2 a3 a4 a5 a6 a7 a8 al)
    obtain ⟨s0, s1, s2, sl⟩ := S4.out.c3
    (try simp only [GW.to] at s0 s1 s2 sl)
    have HTB := Lib.hid (fun w => shade_table bt w)
    go_wp2_with fail
    go_cut [8, 6] (fun s8 s6 wx => ∃ own5 bsp, s8 = .pointer (some ⟨bsp, 0, none⟩) ∧ s6 = .int .i64 0 ∧ Mod (fun _ => False) ⟨own4, w4⟩ ⟨own5, wx⟩ ∧ SpaceAt ⟨own5, wx⟩ B bsp bt (SpaceS.fresh c (TabS.fresh c.frags.toNat)))
    case first =>
      refine wp_region_mixed [true, true, true, true, true, true, false, false, false, false, false, false] 6 12 (by kernel_rfl) (by kernel_rfl) (by kernel_rfl) ?_ (by decide) (by decide) (by decide) (by kernel_rfl) ?_
      · intro c a d v w h; cases d <;> exact h
      intro X00
      simp only [pickOps]
      repeat (go_big_quiet_step ((go_at_call 12; exact Calls.added (HTB.out _))))
      refine wpQuiet_nil (fun X0 => ?_)
      clear X00
      refine wpAnyM_one 6 _ (by kernel_rfl) rfl rfl (by decide) (fun X1 K Q' hK => ?_)
      go_simp
      refine (HPN.out ((⟨own4, w4⟩ : GW).pt _) bt (Mod.pt M4.out _) (T4.out.pt _)).mono ?_
      rintro e w5 ⟨own5, bsp, rfl, m5, y5⟩
      have M5 := Lib.hid ((Mod.pt (Mod.refl (fun _ => False) (⟨own4, w4⟩ : GW)) _).trans m5)
      have Y5 := Lib.hid y5
      have hE5 : Ext w4 w5 := M5.out.toExt
      have HKK := Lib.hid (show ∀ X, ∃ o, Mod (fun _ => False) ⟨own4, w4⟩ ⟨o, w5.patch X⟩ ∧ SpaceAt ⟨o, w5.patch X⟩ B bsp bt (SpaceS.fresh c (TabS.fresh c.frags.toNat)) from fun X => ⟨_, M5.out.trans (Mod.ext (T := fun _ => False) (g := ⟨own5, w5⟩) ⟨X, rfl⟩ 0), Y5.out.keep (Mod.ext (T := fun _ => False) (g := ⟨own5, w5⟩) ⟨X, rfl⟩ 0) (fun x hx => hx.elim)⟩)
      clear m5 y5
      refine hK _ _ hE5 ?_
      clear hK K Q'
      refine wpAnyM_one 7 _ (by kernel_rfl) rfl rfl (by decide) (fun X1 K Q' hK => ?_)
      go_simp
      refine hK _ _ ?_ ?_
      · (repeat (with_reducible (first | assumption | exact zR _ | exact zM _ _ _ _ | apply zA | apply zP | apply zD | apply zN | refine zS ?_ (by first | assumption | exact zL _ | exact zK _ _) _)))
      clear hK K Q'
      refine wpAnyM_two 8 9 _ _ (by kernel_rfl) rfl rfl rfl rfl (by decide) (by decide) (fun X1 K Q' hK => ?ordA) (fun X1 K Q' hK => ?ordB)
      case' ordA =>
        go_simp
        refine hK _ _ ?_ ?_
        · (repeat (with_reducible (first | assumption | exact zR _ | exact zM _ _ _ _ | apply zA | apply zP | apply zD | apply zN | refine zS ?_ (by first | assumption | exact zL _ | exact zK _ _) _)))
        clear hK K Q'
        refine wpAnyM_two 9 10 _ _ (by kernel_rfl) rfl rfl rfl rfl (by decide) (by decide) (fun X1 K Q' hK => ?ordA1) (fun X1 K Q' hK => ?ordA2)
        case' ordA1 =>
          go_simp
          refine hK _ _ ?_ ?_
          · (repeat (with_reducible (first | assumption | exact zR _ | exact zM _ _ _ _ | apply zA | apply zP | apply zD | apply zN | refine zS ?_ (by first | assumption | exact zL _ | exact zK _ _) _)))
          clear hK K Q'
          refine wpAnyM_one 10 _ (by kernel_rfl) rfl rfl (by decide) (fun X1 K Q' hK => ?_)
          go_simp
          refine hK _ _ ?_ ?_
          · (repeat (with_reducible (first | assumption | exact zR _ | exact zM _ _ _ _ | apply zA | apply zP | apply zD | apply zN | refine zS ?_ (by first | assumption | exact zL _ | exact zK _ _) _)))
          clear hK K Q'
        case' ordA2 =>
          go_simp
          refine hK _ _ ?_ ?_
          · (repeat (with_reducible (first | assumption | exact zR _ | exact zM _ _ _ _ | apply zA | apply zP | apply zD | apply zN | refine zS ?_ (by first | assumption | exact zL _ | exact zK _ _) _)))
          clear hK K Q'
          refine wpAnyM_one 9 _ (by kernel_rfl) rfl rfl (by decide) (fun X1 K Q' hK => ?_)
          go_simp
          refine hK _ _ ?_ ?_
          · (repeat (with_reducible (first | assumption | exact zR _ | exact zM _ _ _ _ | apply zA | apply zP | apply zD | apply zN | refine zS ?_ (by first | assumption | exact zL _ | exact zK _ _) _)))
          clear hK K Q'
      case' ordB =>
        go_simp
        refine hK _ _ ?_ ?_
        · (repeat (with_reducible (first | assumption | exact zR _ | exact zM _ _ _ _ | apply zA | apply zP | apply zD | apply zN | refine zS ?_ (by first | assumption | exact zL _ | exact zK _ _) _)))
        clear hK K Q'
        refine wpAnyM_one 8 _ (by kernel_rfl) rfl rfl (by decide) (fun X1 K Q' hK => ?_)
        go_simp
        refine hK _ _ ?_ ?_
        · (repeat (with_reducible (first | assumption | exact zR _ | exact zM _ _ _ _ | apply zA | apply zP | apply zD | apply zN | refine zS ?_ (by first | assumption | exact zL _ | exact zK _ _) _)))
        clear hK K Q'
        refine wpAnyM_one 10 _ (by kernel_rfl) rfl rfl (by decide) (fun X1 K Q' hK => ?_)
        go_simp
        refine hK _ _ ?_ ?_
        · (repeat (with_reducible (first | assumption | exact zR _ | exact zM _ _ _ _ | apply zA | apply zP | apply zD | apply zN | refine zS ?_ (by first | assumption | exact zL _ | exact zK _ _) _)))
        clear hK K Q'
      all_goals
        refine wpAnyM_one 11 _ (by kernel_rfl) rfl rfl (by decide) (fun X1 K Q' hK => ?_)
        go_simp
        refine hK _ _ ?_ ?_
        · (repeat (with_reducible (first | assumption | exact zR _ | exact zM _ _ _ _ | apply zA | apply zP | apply zD | apply zN | refine zS ?_ (by first | assumption | exact zL _ | exact zK _ _) _)))
        clear hK K Q'
        refine wpAnyM_done (by kernel_rfl) (fun X2 => ?_) _
        go_wp2_with fail
        go_meet
        (try rw [World.patch_patch])
        exact (HKK.out _).elim fun o h => ⟨o, bsp, rfl, rfl, h.1, h.2⟩
    case rest =>
      obtain ⟨own5, bsp, rfl, rfl, m5, y5⟩ := hcut
      obtain ⟨w5, rfl⟩ : ∃ w5 : World, w5 = wc := ⟨_, rfl⟩
      have M5 := Lib.hid (M4.out.trans (m5.mono (fun x hx => hx.elim)))
      have B5 := Lib.hid (B4.out.keep m5 id)
      have X5 := Lib.hid (X4.out.keep m5 id)
      have S5 := Lib.hid (S4.out.keep m5 id)
      have P5 := Lib.hid (P4.out.keep m5 id)
      have Y5 := Lib.hid y5
      clear m5 y5 HPN HTB X4 S4 P4 T4 s0 s1 s2 sl
      clear a0 a1 a2 a3 a4 a5 a6 a7 a8 al
      obtain ⟨a0, a1, a2, a3, a4, a5, a6, a7, a8, al⟩ := B5.out.c9
      (try simp only [GW.to] at a0 a1 a2 a3 a4 a5 a6 a7 a8 al)
      go_wp2_with fail
      refine (HHN.out ⟨own5, w5⟩).mono ?_
      rintro e w6 ⟨own6, bh, rfl, m6, h6⟩
      have M6 := Lib.hid (M5.out.trans (m6.mono (fun x hx => hx.elim)))
      have B6 := Lib.hid (B5.out.keep m6 id)
      have X6 := Lib.hid (X5.out.keep m6 id)
      have S6 := Lib.hid (S5.out.keep m6 id)
      have P6 := Lib.hid (P5.out.keep m6 id)
      have Y6 := Lib.hid (Y5.out.keep m6 (fun x hx => hx.elim))
      have H6 := Lib.hid h6
      clear m6 h6 HHN X5 S5 P5 Y5
      clear a0 a1 a2 a3 a4 a5 a6 a7 a8 al
      obtain ⟨a0, a1, a2, a3, a4, a5, a6, a7, a8, al⟩ := B6.out.c9
      (try simp only [GW.to] at a0 a1 a2 a3 a4 a5 a6 a7 a8 al)
      go_wp2_with fail
      have HGN := Lib.hid (Int.eq_ofNat_of_zero_le r4)
      go_loopw [62] (fun i wr => ∃ (k : Nat) (own : Nat → Nat), (k : Int) ≤ c.globals ∧ i = .int .i64 k ∧ Hid (Mod (fun x => x = B + 62) ⟨own6, w6⟩ ⟨own, wr⟩) ∧ Hid (MemAt ⟨own, wr⟩ (B + 62) bm (memLaid c k))) (fun i _ => c.globals.toNat - (intOf i).toNat)
      case atStart => exact ⟨0, own6, r4, rfl, Lib.hid (Mod.refl _ _), X6⟩
      case round =>
        obtain ⟨k, own7, hk, rfl, N7, X7⟩ := hrel
        obtain ⟨w7, rfl⟩ : ∃ w7 : World, w7 = wr := ⟨_, rfl⟩
        have M7 := Lib.hid (show Mod (fun _ => False) g ⟨own7, w7⟩ from ((M6.out.mono (S := fun x => x = B + 62) (fun x hx => hx.elim)).trans N7.out).nothing (fun j hj e => by have := HF.out j hj; omega))
        have B7 := Lib.hid (B6.out.keep N7.out (by omega))
        clear a0 a1 a2 a3 a4 a5 a6 a7 a8 al
        obtain ⟨a0, a1, a2, a3, a4, a5, a6, a7, a8, al⟩ := B7.out.c9
        (try simp only [GW.to] at a0 a1 a2 a3 a4 a5 a6 a7 a8 al)
        obtain ⟨gc, hgc⟩ := cAtV_eq c 3 (k : Nat)
        have HG7 := Lib.hid (HGL.out k ⟨own7, w7⟩ M7.out)
        rw [hgc] at HG7
        have HSC := Lib.hid (memLaid_succ c k)
        clear hgc
        generalize cAtV c 3 (k : Nat) = at_ at *
        by_cases hlt : (k : Int) < c.globals
        · go_wp2_with fail
          refine HG7.out.mono ?_
          rintro e w8 ⟨rfl, hX⟩
          obtain ⟨own8, m8⟩ := Mod.ofExt (show Ext w7 w8 from hX) own7
          have N8 := Lib.hid (N7.out.trans (m8.mono (fun x hx => hx.elim)))
          have X8 := Lib.hid (X7.out.keep m8 id)
          clear hX m8 HG7
          go_wp2_with fail
          refine (none_any _).mono ?_
          rintro e w9 ⟨rfl, hX⟩
          unfold wNone
          obtain ⟨own9, m9⟩ := Mod.ofExt (show Ext w8 w9 from hX) own8
          have N9 := Lib.hid (N8.out.trans (m9.mono (fun x hx => hx.elim)))
          have X9 := Lib.hid (X8.out.keep m9 id)
          clear hX m9
          go_wp2_with fail
          refine (mem_lay ⟨own9, w9⟩ (B + 62) bm at_ 0 4607182418800017408 _ X9.out).mono ?_
          rintro e w10 ⟨rfl, own10, m10, x10⟩
          have N10 := Lib.hid (N9.out.trans m10)
          have X10 := Lib.hid x10
          clear m10 x10
          go_wp2_with fail
          go_roundw
          case rel => exact ⟨k + 1, own10, by omega, by go_num, N10, by rw [HSC.out]; exact X10⟩
          case measure => simp [intOf]; omega
        · have hkk : (k : Int) = c.globals := by omega
          have HKK := Lib.hid (show k = c.globals.toNat by omega)
          clear hkk HG7
          go_wp2_with fail
          refine (HCP.out ⟨own7, w7⟩ M7.out).mono ?_
          rintro e w8 ⟨c', rfl, hsm, hca, hX⟩
          unfold Cnf.val
          obtain ⟨own8, m8, hca⟩ : ∃ own8, Mod (fun _ => False) ⟨own7, w7⟩ ⟨own8, w8⟩ ∧ CnfAt ⟨own8, w8⟩ (B + 65) c' := ⟨_, Mod.ext (g := ⟨own7, w7⟩) hX (B + 65), hca⟩
          have HSM := Lib.hid hsm
          have HCA := Lib.hid hca
          have M8 := Lib.hid m8
          clear hsm hca m8 hX
          go_wp2_with fail
          go_ret2
          unfold CoreMade
          rw [if_pos HCKZ.out]
          have m9 := Mod.ext (T := fun _ => False) (g := ⟨own8, w8⟩) (show Ext w8 (w8.alloc (.cells #[.int .i64 c'.frags, .int .i64 c'.spine, .int .i64 c'.globals, .int .i64 c'.threads, .int .i64 c'.locals, .int .i64 c'.cache, .int .i64 c'.stack, .int .i64 c'.low, .slice c'.A c'.shapes.length c'.cap, .pointer (some ⟨bm, 0, none⟩), .pointer (some ⟨bs, 0, none⟩), .pointer (some ⟨bsp, 0, none⟩), .pointer (some ⟨bh, 0, none⟩)] 52)) by (repeat (first | (with_reducible (first | assumption | exact zR _ | exact zM _ _ _ _)) | apply zA | refine zS ?_ (by first | exact zL _ | exact zK _ _ | assumption) _ | apply zP | apply zD | apply zN))) (B + 64)
          have mm := (N7.out.trans (M8.out.mono (S := fun x => x = B + 62) (fun x hx => hx.elim))).trans (m9.mono (S := fun x => x = B + 62) (fun x hx => hx.elim))
          have m0 := M8.out.trans m9
          rw [HKK.out] at X7
          exact ⟨_, _, rfl, (M7.out.trans M8.out).trans m9, bm, bs, bt, bp, bsp, bh, c', ⟨Blk.made (World.row_alloc_new _) (Nat.le_refl _), X7.out.keep m0 id, S6.out.keep mm (by omega), P6.out.keep mm (by omega), Y6.out.keep mm (fun x hx => by omega), H6.out.keep mm (by omega), HCA.out.keep m9 id, HSM.out⟩⟩
end Go.Proofs.YtoaehfdjffejeaaGreat

