/-
  space: New.
-/
import Derived.Test.YthdijbkcjmeilaaGreatSpaceC
import Derived.Test.YthdijbkcjmeilaaGreatConf
namespace Go
open Go.RowKit
/-- A row begun behind g has grown: nothing of g has turned. -/
theorem Mod.grownNew {T : Nat → Prop} {g : GW} {o : Nat → Nat} {w W w2 : World} {row : Option Nat} {t1 t2 : Nat} (M : Mod T g ⟨o, w⟩) (he : Ext w W) (hg : W.grownBy w2 row) (hr : ∀ k, row = some k → g.w.heap.size ≤ k) : Mod T g (((⟨o, w⟩ : GW).to t1 W).to t2 w2) := by
  obtain ⟨h1, h2, h3, h4, h5⟩ := he.below
  have s1 : g.w.heap.size ≤ w.heap.size := M.size
  refine ⟨hg.os.trans (h1.trans M.os), hg.tape.trans (h2.trans M.tape), hg.output.trans (h3.trans M.output), Nat.le_trans s1 (Nat.le_trans h4 hg.size), fun k hk => ?_, fun k hk ht => ?_⟩
  · rw [GW.to_old (Nat.lt_of_lt_of_le hk (Nat.le_trans s1 h4)), GW.to_old (Nat.lt_of_lt_of_le hk s1)]
    exact M.own k hk
  · exact (hg.block k (Nat.lt_of_lt_of_le hk (Nat.le_trans s1 h4)) (fun e => by have := hr k e.symm; omega)).trans ((h5 k (Nat.lt_of_lt_of_le hk s1)).trans (M.block k hk ht))
end Go
namespace Go.Proofs.YthdijbkcjmeilaaGreat
open Go Go.RowKit
set_option linter.unusedVariables false
set_option linter.unnecessarySimpa false
set_option linter.unusedSimpArgs false
set_option maxHeartbeats 4000000
theorem infoPtr : (Tryz.prog.info? 108).map (fun i => (i.zero, i.size, i.bytes)) = some (some (.pointer none), 1, 8) := by kernel_rfl

theorem SpaceIn.addStock {g g' : GW} {B b bt bp bk bl cs cs' : Nat} {S : SpaceS} {A A' : Option Addr} {cm : Cnf} {bs : List Nat} (h : SpaceIn g B b bt S bp bk bl A cs cm bs) (m : Mod (fun x => x = B) g g') {x : Nat} {s : StockS}
    (hb : Blk g' B b 52 [.pointer (some ⟨bt, 0, none⟩), .slice A' (S.stocks.length + 1) cs', .bool S.forced, .int .i64 S.count, .int .i64 cm.frags, .int .i64 cm.spine, .int .i64 cm.globals, .int .i64 cm.threads, .int .i64 cm.locals, .int .i64 cm.cache, .int .i64 cm.stack, .int .i64 cm.low, .slice cm.A cm.shapes.length cm.cap, .pointer (some ⟨bp, 0, none⟩), .pointer (some ⟨bk, 0, none⟩), .pointer (some ⟨bl, 0, none⟩)])
    (hr : Row g' B 108 1 (.slice A' (S.stocks.length + 1) cs') (S.stocks.length + 1) ((bs ++ [x]).map fun x => Value.pointer (some ⟨x, 0, none⟩))) (hs : StockAt g' (B + 10 + S.stocks.length) x s) (hn : S.stocks.length < 16) :
    SpaceIn g' B b bt { S with stocks := S.stocks ++ [s] } bp bk bl A' cs' cm (bs ++ [x]) := by
  refine ⟨?_, ?_, h.tab.keep m (by omega), h.pool.keep m (by omega), h.coil.keep m (by omega), h.line.keep m (by omega) (by omega), h.cnf.keep m (by omega), h.same, by simp [h.blen], fun j y u hy hu => ?_, h.check, by simp; omega⟩
  · simp only [List.length_append, List.length_singleton]; exact hb
  · simp only [List.length_append, List.length_singleton]; exact hr
  · have hbl := h.blen
    by_cases hj : j < S.stocks.length
    · rw [List.getElem?_append_left (by omega)] at hy
      simp only at hu
      rw [List.getElem?_append_left hj] at hu
      exact (h.stock j y u hy hu).keep m (by omega)
    · have hj2 : j = S.stocks.length := by
        have := (List.getElem?_eq_some_iff.1 hu).1
        simp at this
        omega
      subst hj2
      simp only at hu
      rw [List.getElem?_append_right (by omega), hbl, Nat.sub_self] at hy
      rw [List.getElem?_append_right (by omega), Nat.sub_self] at hu
      simp at hy hu
      subst hy hu
      exact hs
def SpaceS.fresh (c : Cnf) (T : TabS) : SpaceS := ⟨T, List.replicate c.threads.toNat ⟨[], c.cache⟩, false, 0, c, ⟨List.replicate c.frags.toNat true⟩, ⟨c.spine, 0, 0, 0, 0⟩, []⟩
def SpaceMade (c : Cnf) (T : TabS) (B bt : Nat) (g : GW) (e : Ending) (w' : World) : Prop :=
  if c.check = 0 ∧ (T.l.length : Int) = c.frags then ∃ own' b, e = .returned (.tuple #[.pointer (some ⟨b, 0, none⟩), .int .i64 0]) ∧ Mod (fun _ => False) g ⟨own', w'⟩ ∧ SpaceAt ⟨own', w'⟩ B b bt (SpaceS.fresh c T)
  else e = .returned (.tuple #[.pointer none, .int .i64 (if c.check = 0 then 1 else c.check)]) ∧ Ext g.w w'
set_option maxRecDepth 100000 in
theorem space_new (c : Cnf) (T : TabS) (B bt : Nat) (g : GW) (hc : c.Ok g.w) (ht : TabAt g (B + 50) bt T) (hB : 100 ≤ B) : Calls Tryz.prog 12 #[c.val, .pointer (some ⟨bt, 0, none⟩)] g.w (SpaceMade c T B bt g) := by
  have HCK := Lib.hid (fun w' (he : Ext g.w w') => check_any c w' (hc.ext he))
  have HTL := Lib.hid (fun g' (m : Mod (fun _ => False) g g') => tab_len g' (B + 50) bt T (ht.keep m id))
  obtain ⟨i0, hi, hz0, hz1, hz2⟩ := info_parts infoPtr
  have HC := Lib.hid hc
  have HT := Lib.hid ht
  unfold Cnf.val at HCK ⊢
  obtain ⟨own0, m0, b0⟩ : ∃ own0, Mod (fun _ => False) g ⟨own0, g.w.alloc (.cells #[.int .i64 c.frags, .int .i64 c.spine, .int .i64 c.globals, .int .i64 c.threads, .int .i64 c.locals, .int .i64 c.cache, .int .i64 c.stack, .int .i64 c.low, .slice c.A c.shapes.length c.cap] 24)⟩ ∧ Blk ⟨own0, g.w.alloc (.cells #[.int .i64 c.frags, .int .i64 c.spine, .int .i64 c.globals, .int .i64 c.threads, .int .i64 c.locals, .int .i64 c.cache, .int .i64 c.stack, .int .i64 c.low, .slice c.A c.shapes.length c.cap] 24)⟩ 9 g.w.heap.size 24 [.int .i64 c.frags, .int .i64 c.spine, .int .i64 c.globals, .int .i64 c.threads, .int .i64 c.locals, .int .i64 c.cache, .int .i64 c.stack, .int .i64 c.low, .slice c.A c.shapes.length c.cap] := ⟨_, Mod.ext (by (repeat (first | (with_reducible assumption) | (with_reducible exact Ext.refl _) | (with_reducible exact Ext.more _ _ _ _) | apply Ext.alloc | refine Ext.setCell ?_ (by first | exact Nat.le_refl _ | exact Nat.le_add_right _ _ | assumption) _ | apply Ext.patch | apply Ext.drew | apply Ext.drewN))) 9, Blk.new g 9 24 [.int .i64 c.frags, .int .i64 c.spine, .int .i64 c.globals, .int .i64 c.threads, .int .i64 c.locals, .int .i64 c.cache, .int .i64 c.stack, .int .i64 c.low, .slice c.A c.shapes.length c.cap]⟩
  have M0 := Lib.hid m0
  have B0 := Lib.hid b0
  clear hc ht m0 b0
  go_enter Tryz.func12, Tryz.ntmps12
  go_wp2_with fail
  refine (HCK.out _ (by (repeat (first | (with_reducible assumption) | (with_reducible exact Ext.refl _) | (with_reducible exact Ext.more _ _ _ _) | apply Ext.alloc | refine Ext.setCell ?_ (by first | exact Nat.le_refl _ | exact Nat.le_add_right _ _ | assumption) _ | apply Ext.patch | apply Ext.drew | apply Ext.drewN)))).mono ?_
  rintro e w1 ⟨rfl, hX⟩
  obtain ⟨own1, m1⟩ := Mod.ofExt (show Ext _ w1 from hX) own0
  have M1 := Lib.hid (M0.out.trans m1)
  have B1 := Lib.hid (B0.out.keep m1 id)
  clear m1 hX
  have a0 := B1.out.cell (i := 0) rfl
  have a1 := B1.out.cell (i := 1) rfl
  have a2 := B1.out.cell (i := 2) rfl
  have a3 := B1.out.cell (i := 3) rfl
  have a4 := B1.out.cell (i := 4) rfl
  have a5 := B1.out.cell (i := 5) rfl
  have a6 := B1.out.cell (i := 6) rfl
  have a7 := B1.out.cell (i := 7) rfl
  have a8 := B1.out.cell (i := 8) rfl
  have al := B1.out.lt
  (try simp only [GW.to] at a0 a1 a2 a3 a4 a5 a6 a7 a8 al)
  by_cases hck : c.check = 0
  case neg =>
    have hk1 : (c.check != 0) = true := by simp [hck]
    have HV := Lib.hid (show ¬ (c.check = 0 ∧ (T.l.length : Int) = c.frags) from fun e => hck e.1)
    have HW := Lib.hid (show (if c.check = 0 then 1 else c.check) = c.check from if_neg hck)
    clear hck
    go_wp2_with fail
    go_ret2
    unfold SpaceMade
    rw [if_neg HV.out]
    exact ⟨by rw [HW.out]; rfl, M1.out.toExt⟩
  case pos =>
    have hk1 : (c.check != 0) = false := by simp [hck]
    have hrg := Cnf.ranged (Cnf.check_zero hck).1
    obtain ⟨⟨r0, r1⟩, ⟨r2, r3⟩, ⟨r4, r5⟩, ⟨r6, r7⟩, -, ⟨r8, r9⟩, -, -⟩ := hrg
    have hshp : c.shapes.length ≤ 8 := by
      have := (Cnf.check_zero hck).2.2.1
      simp [within] at this
      omega
    have HCKZ := Lib.hid hck
    have HTX := Lib.hid (fun X => same_gives (HTL.out ((⟨own1, w1⟩ : GW).pt X) (Mod.pt M1.out X)))
    have hT1024 := HT.out.len
    by_cases hfr : (T.l.length : Int) = c.frags
    case neg =>
      have HV := Lib.hid (show ¬ (c.check = 0 ∧ (T.l.length : Int) = c.frags) from fun e => hfr e.2)
      have HW := Lib.hid (show (if c.check = 0 then (1 : Int) else c.check) = 1 from if_pos hck)
      have hk2 : ((T.l.length : Int) != c.frags) = true := by simp [hfr]
      clear hck hfr
      go_wp2_with fail
      refine wp_region_mixed [true, true, true, true, true] 0 5 (by kernel_rfl) (by kernel_rfl) (by kernel_rfl) ?_ (by decide) (by decide) (by decide) (by kernel_rfl) ?_
      · intro c a d v w h; cases d <;> exact h
      intro X00
      simp only [pickOps]
      repeat (go_big_quiet_step ((go_at_call 44; exact Calls.added (HTX.out _))))
      refine wpQuiet_nil (fun X0 => ?_)
      clear X00
      refine wpAnyM_done (by kernel_rfl) (fun X0' => ?_) _
      go_wp2_with fail
      go_ret2
      unfold SpaceMade
      rw [if_neg HV.out]
      exact ⟨by rw [HW.out]; rfl, M1.out.toExt.trans (by (repeat (first | (with_reducible assumption) | (with_reducible exact Ext.refl _) | (with_reducible exact Ext.more _ _ _ _) | apply Ext.alloc | refine Ext.setCell ?_ (by first | exact Nat.le_refl _ | exact Nat.le_add_right _ _ | assumption) _ | apply Ext.patch | apply Ext.drew | apply Ext.drewN)))⟩
    case pos =>
      have HV := Lib.hid (show c.check = 0 ∧ (T.l.length : Int) = c.frags from ⟨hck, hfr⟩)
      have hk2 : ((T.l.length : Int) != c.frags) = false := by simp [hfr]
      have HPN := Lib.hid (fun g' => (show Calls Tryz.prog 45 #[.int .i64 c.frags] g'.w (fun e w' => ∃ own' b, e = .returned (.tuple #[.pointer (some ⟨b, 0, none⟩), .int .i64 0]) ∧ Mod (fun _ => False) g' ⟨own', w'⟩ ∧ PoolAt ⟨own', w'⟩ (B + 1) b ⟨List.replicate c.frags.toNat true⟩) from (pool_new c.frags (B + 1) g').mono fun e w' hh => by
        unfold PoolMade at hh
        rw [if_pos ⟨by omega, by omega⟩] at hh
        exact hh))
      have HKN := Lib.hid (fun g' => (show Calls Tryz.prog 46 #[.int .i64 c.spine] g'.w (fun e w' => ∃ own' b, e = .returned (.tuple #[.pointer (some ⟨b, 0, none⟩), .int .i64 0]) ∧ Mod (fun _ => False) g' ⟨own', w'⟩ ∧ CoilAt ⟨own', w'⟩ (B + 2) b ⟨c.spine, 0, 0, 0, 0⟩) from (coil_new c.spine (B + 2) g').mono fun e w' hh => by
        unfold CoilMade at hh
        rw [if_pos ⟨by omega, by omega⟩] at hh
        exact hh))
      have HCP := Lib.hid (fun g' (m : Mod (fun _ => False) g g') => copy_any c (B + 5) g' (HC.out.ext m.toExt) (by omega))
      unfold Cnf.val at HCP
      clear hck hfr
      go_wp2_with fail
      refine wp_region_mixed [true, true, true, true, true] 0 5 (by kernel_rfl) (by kernel_rfl) (by kernel_rfl) ?_ (by decide) (by decide) (by decide) (by kernel_rfl) ?_
      · intro c a d v w h; cases d <;> exact h
      intro X00
      simp only [pickOps]
      repeat (go_big_quiet_step ((go_at_call 44; exact Calls.added (HTX.out _))))
      refine wpQuiet_nil (fun X0 => ?_)
      clear X00
      refine wpAnyM_done (by kernel_rfl) (fun X0' => ?_) _
      go_wp2_with fail
      refine (HPN.out ((⟨own1, w1⟩ : GW).pt _)).mono ?_
      rintro e w2 ⟨own2, bp, rfl, m2, p2⟩
      have M2 := Lib.hid ((Mod.pt M1.out _).trans m2)
      have B2 := Lib.hid ((B1.out.pt _).keep m2 id)
      have P2 := Lib.hid p2
      clear m2 p2 a0 a1 a2 a3 a4 a5 a6 a7 a8 al
      have a0 := B2.out.cell (i := 0) rfl
      have a1 := B2.out.cell (i := 1) rfl
      have a2 := B2.out.cell (i := 2) rfl
      have a3 := B2.out.cell (i := 3) rfl
      have a4 := B2.out.cell (i := 4) rfl
      have a5 := B2.out.cell (i := 5) rfl
      have a6 := B2.out.cell (i := 6) rfl
      have a7 := B2.out.cell (i := 7) rfl
      have a8 := B2.out.cell (i := 8) rfl
      have al := B2.out.lt
      (try simp only [GW.to] at a0 a1 a2 a3 a4 a5 a6 a7 a8 al)
      go_wp2_with fail
      refine (HKN.out ⟨own2, w2⟩).mono ?_
      rintro e w3 ⟨own3, bk, rfl, m3, k3⟩
      have M3 := Lib.hid (M2.out.trans m3)
      have B3 := Lib.hid (B2.out.keep m3 id)
      have P3 := Lib.hid (P2.out.keep m3 id)
      have K3 := Lib.hid k3
      clear m3 k3 a0 a1 a2 a3 a4 a5 a6 a7 a8 al
      have a0 := B3.out.cell (i := 0) rfl
      have a1 := B3.out.cell (i := 1) rfl
      have a2 := B3.out.cell (i := 2) rfl
      have a3 := B3.out.cell (i := 3) rfl
      have a4 := B3.out.cell (i := 4) rfl
      have a5 := B3.out.cell (i := 5) rfl
      have a6 := B3.out.cell (i := 6) rfl
      have a7 := B3.out.cell (i := 7) rfl
      have a8 := B3.out.cell (i := 8) rfl
      have al := B3.out.lt
      (try simp only [GW.to] at a0 a1 a2 a3 a4 a5 a6 a7 a8 al)
      go_wp2_with fail
      refine (HCP.out ⟨own3, w3⟩ M3.out).mono ?_
      rintro e w4 ⟨c', rfl, hsm, hca, hX⟩
      unfold Cnf.val
      obtain ⟨own4, m4, hca⟩ : ∃ own4, Mod (fun _ => False) ⟨own3, w3⟩ ⟨own4, w4⟩ ∧ CnfAt ⟨own4, w4⟩ (B + 5) c' := ⟨_, Mod.ext (g := ⟨own3, w3⟩) hX (B + 5), hca⟩
      have M4 := Lib.hid (M3.out.trans m4)
      have B4 := Lib.hid (B3.out.keep m4 id)
      have P4 := Lib.hid (P3.out.keep m4 id)
      have K4 := Lib.hid (K3.out.keep m4 id)
      have C4 := Lib.hid hca
      have HSM := Lib.hid hsm
      clear m4 hca hX hsm a0 a1 a2 a3 a4 a5 a6 a7 a8 al
      go_wp2_with fail
      refine (line_new (B + 3) ⟨own4, w4⟩).mono ?_
      rintro e w5 ⟨bl, rfl, hX, hl5⟩
      obtain ⟨own5, m5, hl5⟩ : ∃ own5, Mod (fun _ => False) ⟨own4, w4⟩ ⟨own5, w5⟩ ∧ LineAt ⟨own5, w5⟩ (B + 3) bl [] := ⟨_, Mod.ext (g := ⟨own4, w4⟩) hX (B + 3), hl5⟩
      have M5 := Lib.hid (M4.out.trans m5)
      have B5 := Lib.hid (B4.out.keep m5 id)
      have P5 := Lib.hid (P4.out.keep m5 id)
      have K5 := Lib.hid (K4.out.keep m5 id)
      have C5 := Lib.hid (C4.out.keep m5 id)
      have L5 := Lib.hid hl5
      clear m5 hl5 hX
      have a0 := B5.out.cell (i := 0) rfl
      have a1 := B5.out.cell (i := 1) rfl
      have a2 := B5.out.cell (i := 2) rfl
      have a3 := B5.out.cell (i := 3) rfl
      have a4 := B5.out.cell (i := 4) rfl
      have a5 := B5.out.cell (i := 5) rfl
      have a6 := B5.out.cell (i := 6) rfl
      have a7 := B5.out.cell (i := 7) rfl
      have a8 := B5.out.cell (i := 8) rfl
      have al := B5.out.lt
      (try simp only [GW.to] at a0 a1 a2 a3 a4 a5 a6 a7 a8 al)
      go_wp2_with fail
      obtain ⟨own6, m6, hsp, hb6⟩ : ∃ own6, Mod (fun _ => False) g ⟨own6, w5.alloc (.cells #[.pointer (some ⟨bt, 0, none⟩), .slice none 0 0, .bool false, .int .i64 0, .int .i64 c'.frags, .int .i64 c'.spine, .int .i64 c'.globals, .int .i64 c'.threads, .int .i64 c'.locals, .int .i64 c'.cache, .int .i64 c'.stack, .int .i64 c'.low, .slice c'.A c'.shapes.length c'.cap, .pointer (some ⟨bp, 0, none⟩), .pointer (some ⟨bk, 0, none⟩), .pointer (some ⟨bl, 0, none⟩)] 52)⟩ ∧ SpaceIn ⟨own6, w5.alloc (.cells #[.pointer (some ⟨bt, 0, none⟩), .slice none 0 0, .bool false, .int .i64 0, .int .i64 c'.frags, .int .i64 c'.spine, .int .i64 c'.globals, .int .i64 c'.threads, .int .i64 c'.locals, .int .i64 c'.cache, .int .i64 c'.stack, .int .i64 c'.low, .slice c'.A c'.shapes.length c'.cap, .pointer (some ⟨bp, 0, none⟩), .pointer (some ⟨bk, 0, none⟩), .pointer (some ⟨bl, 0, none⟩)] 52)⟩ B w5.heap.size bt { SpaceS.fresh c T with stocks := [] } bp bk bl none 0 c' [] ∧ Blk ⟨own6, w5.alloc (.cells #[.pointer (some ⟨bt, 0, none⟩), .slice none 0 0, .bool false, .int .i64 0, .int .i64 c'.frags, .int .i64 c'.spine, .int .i64 c'.globals, .int .i64 c'.threads, .int .i64 c'.locals, .int .i64 c'.cache, .int .i64 c'.stack, .int .i64 c'.low, .slice c'.A c'.shapes.length c'.cap, .pointer (some ⟨bp, 0, none⟩), .pointer (some ⟨bk, 0, none⟩), .pointer (some ⟨bl, 0, none⟩)] 52)⟩ 9 g.w.heap.size 24 [.int .i64 c.frags, .int .i64 c.spine, .int .i64 c.globals, .int .i64 c.threads, .int .i64 c.locals, .int .i64 c.cache, .int .i64 c.stack, .int .i64 c.low, .slice c.A c.shapes.length c.cap] := by
        have m := Mod.ext (T := fun _ => False) (g := ⟨own5, w5⟩) (show Ext w5 (w5.alloc (.cells #[.pointer (some ⟨bt, 0, none⟩), .slice none 0 0, .bool false, .int .i64 0, .int .i64 c'.frags, .int .i64 c'.spine, .int .i64 c'.globals, .int .i64 c'.threads, .int .i64 c'.locals, .int .i64 c'.cache, .int .i64 c'.stack, .int .i64 c'.low, .slice c'.A c'.shapes.length c'.cap, .pointer (some ⟨bp, 0, none⟩), .pointer (some ⟨bk, 0, none⟩), .pointer (some ⟨bl, 0, none⟩)] 52)) by (repeat (first | (with_reducible assumption) | (with_reducible exact Ext.refl _) | (with_reducible exact Ext.more _ _ _ _) | apply Ext.alloc | refine Ext.setCell ?_ (by first | exact Nat.le_refl _ | exact Nat.le_add_right _ _ | assumption) _ | apply Ext.patch | apply Ext.drew | apply Ext.drewN))) B
        exact ⟨_, M5.out.trans m, ⟨Blk.new (⟨own5, w5⟩ : GW) B 52 [.pointer (some ⟨bt, 0, none⟩), .slice none 0 0, .bool false, .int .i64 0, .int .i64 c'.frags, .int .i64 c'.spine, .int .i64 c'.globals, .int .i64 c'.threads, .int .i64 c'.locals, .int .i64 c'.cache, .int .i64 c'.stack, .int .i64 c'.low, .slice c'.A c'.shapes.length c'.cap, .pointer (some ⟨bp, 0, none⟩), .pointer (some ⟨bk, 0, none⟩), .pointer (some ⟨bl, 0, none⟩)], Row.nil _ _ _ _, HT.out.keep (M5.out.trans m) id, P5.out.keep m id, K5.out.keep m id, L5.out.keep m id id, C5.out.keep m id, HSM.out, rfl, fun j x s hx => by simp at hx, HCKZ.out, by simp⟩, B5.out.keep m id⟩
      have hbg : g.w.heap.size ≤ w5.heap.size := M5.out.size
      generalize w5.heap.size = b at *
      have HBG := Lib.hid hbg
      clear hbg
      generalize w5.alloc (.cells #[.pointer (some ⟨bt, 0, none⟩), .slice none 0 0, .bool false, .int .i64 0, .int .i64 c'.frags, .int .i64 c'.spine, .int .i64 c'.globals, .int .i64 c'.threads, .int .i64 c'.locals, .int .i64 c'.cache, .int .i64 c'.stack, .int .i64 c'.low, .slice c'.A c'.shapes.length c'.cap, .pointer (some ⟨bp, 0, none⟩), .pointer (some ⟨bk, 0, none⟩), .pointer (some ⟨bl, 0, none⟩)] 52) = W6 at *
      have M6 := Lib.hid m6
      have S6 := Lib.hid hsp
      have B6 := Lib.hid hb6
      clear m6 hsp hb6 a0 a1 a2 a3 a4 a5 a6 a7 a8 al M0 B0 M1 B1 M2 B2 P2 M3 B3 P3 K3 M4 B4 P4 K4 C4 M5 B5 P5 K5 C5 L5
      obtain ⟨tn, htn⟩ := Int.eq_ofNat_of_zero_le (show 0 ≤ c.threads by omega)
      have HTN := Lib.hid htn
      rw [htn] at r6 r7 ⊢
      clear htn
      go_loopw [52] (fun i wr => ∃ (k : Nat) (own : Nat → Nat) (A : Option Addr) (cs : Nat) (bs : List Nat), k ≤ tn ∧ i = .int .i64 k ∧ Hid (Mod (fun _ => False) g ⟨own, wr⟩) ∧ Hid (SpaceIn ⟨own, wr⟩ B b bt { SpaceS.fresh c T with stocks := List.replicate k ⟨[], c.cache⟩ } bp bk bl A cs c' bs) ∧ Hid (Blk ⟨own, wr⟩ 9 g.w.heap.size 24 [.int .i64 c.frags, .int .i64 c.spine, .int .i64 c.globals, .int .i64 c.threads, .int .i64 c.locals, .int .i64 c.cache, .int .i64 c.stack, .int .i64 c.low, .slice c.A c.shapes.length c.cap]) ∧ Hid (∀ y, (Value.slice A k cs).ownBlock = some y → g.w.heap.size ≤ y)) (fun i _ => tn - (intOf i).toNat)
      case atStart => exact ⟨0, own6, none, 0, [], Nat.zero_le _, rfl, M6, S6, B6, Lib.hid (fun y hy => by cases hy)⟩
      case round =>
        obtain ⟨k, own, A, cs, bs, hk, rfl, M, S, Bx, HNEW⟩ := hrel
        clear M6 S6 B6
        by_cases hlt : k < tn
        · skip
          have a0 := Bx.out.cell (i := 0) rfl
          have a1 := Bx.out.cell (i := 1) rfl
          have a2 := Bx.out.cell (i := 2) rfl
          have a3 := Bx.out.cell (i := 3) rfl
          have a4 := Bx.out.cell (i := 4) rfl
          have a5 := Bx.out.cell (i := 5) rfl
          have a6 := Bx.out.cell (i := 6) rfl
          have a7 := Bx.out.cell (i := 7) rfl
          have a8 := Bx.out.cell (i := 8) rfl
          have al := Bx.out.lt
          (try simp only [GW.to] at a0 a1 a2 a3 a4 a5 a6 a7 a8 al)
          go_wp2_with fail
          refine (stock_new c.cache (B + 10 + k) ⟨own, wr⟩ ⟨r8, r9⟩).mono ?_
          rintro e w1 ⟨x, rfl, m1, s1, hX, hx1, hx2⟩
          obtain ⟨own1, m1, s1⟩ : ∃ own1, Mod (fun _ => False) ⟨own, wr⟩ ⟨own1, w1⟩ ∧ StockAt ⟨own1, w1⟩ (B + 10 + k) x ⟨[], c.cache⟩ := ⟨_, m1, s1⟩
          have M1 := Lib.hid (M.out.trans m1)
          have S1 := Lib.hid (S.out.keep m1 (fun x hx => hx.elim))
          have X1 := Lib.hid (Bx.out.keep m1 id)
          have T1 := Lib.hid s1
          have R1 := Lib.hid (show Row ⟨own1, w1⟩ B 108 1 (.slice A k cs) k (bs.map fun x => Value.pointer (some ⟨x, 0, none⟩)) by have := S1.out.row; simpa using this)
          have K1 := Lib.hid (show Blk ⟨own1, w1⟩ B b 52 [.pointer (some ⟨bt, 0, none⟩), .slice A k cs, .bool false, .int .i64 0, .int .i64 c'.frags, .int .i64 c'.spine, .int .i64 c'.globals, .int .i64 c'.threads, .int .i64 c'.locals, .int .i64 c'.cache, .int .i64 c'.stack, .int .i64 c'.low, .slice c'.A c'.shapes.length c'.cap, .pointer (some ⟨bp, 0, none⟩), .pointer (some ⟨bk, 0, none⟩), .pointer (some ⟨bl, 0, none⟩)] by have := S1.out.blk; simpa [SpaceS.fresh] using this)
          clear m1 s1 hX hx1 hx2 a0 a1 a2 a3 a4 a5 a6 a7 a8 al
          have a0 := K1.out.cell (i := 0) rfl
          have a1 := K1.out.cell (i := 1) rfl
          have a2 := K1.out.cell (i := 2) rfl
          have a3 := K1.out.cell (i := 3) rfl
          have a4 := K1.out.cell (i := 4) rfl
          have a5 := K1.out.cell (i := 5) rfl
          have a6 := K1.out.cell (i := 6) rfl
          have a7 := K1.out.cell (i := 7) rfl
          have a8 := K1.out.cell (i := 8) rfl
          have a9 := K1.out.cell (i := 9) rfl
          have a10 := K1.out.cell (i := 10) rfl
          have a11 := K1.out.cell (i := 11) rfl
          have a12 := K1.out.cell (i := 12) rfl
          have a13 := K1.out.cell (i := 13) rfl
          have a14 := K1.out.cell (i := 14) rfl
          have a15 := K1.out.cell (i := 15) rfl
          have af1 := K1.out.live 1
          have al := K1.out.lt
          (try simp only [GW.to] at a0 a1 a2 a3 a4 a5 a6 a7 a8 a9 a10 a11 a12 a13 a14 a15 af1 al)
          have hE1 := Lib.hid (show Ext w1 (w1.alloc (.cells #[.pointer (some ⟨x, 0, none⟩)] 108)) by (repeat (first | (with_reducible assumption) | (with_reducible exact Ext.refl _) | (with_reducible exact Ext.more _ _ _ _) | apply Ext.alloc | refine Ext.setCell ?_ (by first | exact Nat.le_refl _ | exact Nat.le_add_right _ _ | assumption) _ | apply Ext.patch | apply Ext.drew | apply Ext.drewN)))
          go_wp2_with (at_builtin; refine wpList_append_own_at _ rfl (.tmp 67) (.tmp 69) 46 rfl 0 108 i0 (.pointer none) 1 8 Tryz.underlying46 hi hz0 hz1 hz2 rfl (by decide) (.slice A k cs) k (bs.map fun x => Value.pointer (some ⟨x, 0, none⟩)) rfl (R1.out.row.alloc _) ⟨w1.heap.size, 0, none⟩ 1 1 [.pointer (some ⟨x, 0, none⟩)] rfl rfl (cell_one_new _ _ _) (by intro u hu; simp at hu; subst hu; rfl) (by unfold maxLen; omega) (by omega) (Nat.zero_le _) ?_; intro v2 w2 hown hgrow hnil hat; obtain ⟨A2, c2, rfl⟩ := own_form hown; obtain ⟨own2, n2, m2, k2, r2, hnew2⟩ : ∃ own2, Mod (fun _ => False) g ⟨own2, w2⟩ ∧ Mod (fun y => y = B) ⟨own1, w1⟩ ⟨own2, w2⟩ ∧ Blk ⟨own2, w2⟩ B b 52 [.pointer (some ⟨bt, 0, none⟩), .slice A k cs, .bool false, .int .i64 0, .int .i64 c'.frags, .int .i64 c'.spine, .int .i64 c'.globals, .int .i64 c'.threads, .int .i64 c'.locals, .int .i64 c'.cache, .int .i64 c'.stack, .int .i64 c'.low, .slice c'.A c'.shapes.length c'.cap, .pointer (some ⟨bp, 0, none⟩), .pointer (some ⟨bk, 0, none⟩), .pointer (some ⟨bl, 0, none⟩)] ∧ Row ⟨own2, w2⟩ B 108 1 (.slice A2 (k + 1) c2) (k + 1) ((bs ++ [x]).map fun x => Value.pointer (some ⟨x, 0, none⟩)) ∧ (∀ y, (Value.slice A2 (k + 1) c2).ownBlock = some y → g.w.heap.size ≤ y) := ⟨_, M1.out.grownNew (t1 := 9) (t2 := B) hE1.out hgrow HNEW.out, (Mod.ext (T := fun y => y = B) (g := ⟨own1, w1⟩) hE1.out 9).trans (Mod.grown hgrow B (fun y hy hl => (R1.out.ext hE1.out 9).own y hy)), (K1.out.ext hE1.out 9).grown (t' := B) hgrow (fun y hy => R1.out.ne_type K1.out (by decide) hy), ((R1.out.ext hE1.out 9).grown hown hat).weak rfl (by simp), fun y hy => by rcases hat with e | e; exact HNEW.out y (by rw [← e]; exact hy); (rw [e] at hy; injection hy with hy; rw [← hy]; exact Nat.le_trans M1.out.size hE1.out.size)⟩; have N2 := Lib.hid n2; have M2 := Lib.hid m2; have K2 := Lib.hid k2; have R2 := Lib.hid r2; have HN2 := Lib.hid hnew2; have d1 := K2.out.cell (i := 1) rfl; have df1 := K2.out.live 1; have dl := K2.out.lt; simp only [GW.to] at d1 df1 dl; clear hown hgrow hnil hat n2 m2 k2 r2 hnew2 a0 a1 a2 a3 a4 a5 a6 a7 a8 a9 a10 a11 a12 a13 a14 a15 af1 al)
          go_roundw
          case rel =>
            have q1 : Mod (fun y => y = B) ⟨own1, w1⟩ ⟨own2, _⟩ := Mod.st M2.out (b := b) (i := 1) (v := .slice A2 (k + 1) c2) K2.out.own
            refine ⟨k + 1, own2, A2, c2, bs ++ [x], by omega, by go_num, Lib.hid (Mod.stn N2.out HBG.out), Lib.hid ?_, Lib.hid (X1.out.keep q1 (by omega)), HN2⟩
            · have := SpaceIn.addStock S1.out q1 (x := x) (s := ⟨[], c.cache⟩) (A' := A2) (cs' := c2) (by simp only [List.length_replicate, SpaceS.fresh]; exact K2.out.set 1 (.slice A2 (k + 1) c2)) (by simp only [List.length_replicate]; exact R2.out.setOther 1 (.slice A2 (k + 1) c2) (fun y hy => R2.out.ne_type K2.out (by decide) hy)) (by simp only [List.length_replicate]; exact T1.out.keep q1 (by omega)) (by simp; omega)
              rw [List.replicate_succ']
              exact this
          case measure => simp [intOf]; omega
        · obtain rfl : k = tn := by omega
          go_wp2_with fail
          go_ret2
          unfold SpaceMade
          rw [if_pos HV.out]
          have HF : SpaceIn ⟨own, wr⟩ B b bt (SpaceS.fresh c T) bp bk bl A cs c' bs := by
            have := S.out
            unfold SpaceS.fresh at this ⊢
            rw [HTN.out, Int.toNat_natCast]
            exact this
          exact ⟨own, b, rfl, M.out, _, _, _, _, _, _, _, HF⟩
end Go.Proofs.YthdijbkcjmeilaaGreat
