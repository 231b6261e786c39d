/-
  spolaw21: made.
-/
import Derived.Test.YtmgkfpmmlibmcaaSpaceD
import Derived.Test.YtmgkfpmmlibmcaaTabNew
namespace Go.Proofs.Ytmgkfpmmlibmcaa
open Go Go.RowKit
set_option linter.unusedVariables false
set_option linter.unnecessarySimpa false
set_option linter.unusedSimpArgs false
set_option maxHeartbeats 4000000
/-- A space over a table of its own. -/
theorem made_any (c : Cnf) (B : Nat) (g : GW) (hc : c.Ok g.w) (hk : c.check = 0) (hB : 100 ≤ B) : Calls Try.prog 58 #[c.val] g.w (fun e w' => ∃ own' b bt, e = .returned (.tuple #[.pointer (some ⟨b, 0, none⟩), .pointer (some ⟨bt, 0, none⟩)]) ∧ Mod (fun _ => False) g ⟨own', w'⟩ ∧ SpaceAt ⟨own', w'⟩ B b bt (SpaceS.fresh c (TabS.fresh c.frags.toNat))) := by
  obtain ⟨⟨r0, r1⟩, -⟩ := Cnf.ranged (Cnf.check_zero hk).1
  have HSN := Lib.hid (fun g' bt T (m : Mod (fun _ => False) g g') (ht : TabAt g' (B + 50) bt T) (hl : (T.l.length : Int) = c.frags) => (space_new c T B bt g' (hc.ext m.toExt) ht hB).mono fun e w' hh => by
    unfold SpaceMade at hh
    rw [if_pos ⟨hk, hl⟩] at hh
    exact hh)
  unfold Cnf.val at HSN ⊢
  obtain ⟨own0, m0, b0⟩ : ∃ own0, Mod (fun _ => False) g ⟨own0, g.w.alloc (.cells #[.int .i64 c.frags, .int .i64 c.spine, .int .i64 c.globals, .int .i64 c.threads, .int .i64 c.locals, .int .i64 c.cache, .int .i64 c.stack, .int .i64 c.low, .slice c.A c.shapes.length c.cap] 24)⟩ ∧ Blk ⟨own0, g.w.alloc (.cells #[.int .i64 c.frags, .int .i64 c.spine, .int .i64 c.globals, .int .i64 c.threads, .int .i64 c.locals, .int .i64 c.cache, .int .i64 c.stack, .int .i64 c.low, .slice c.A c.shapes.length c.cap] 24)⟩ 9 g.w.heap.size 24 [.int .i64 c.frags, .int .i64 c.spine, .int .i64 c.globals, .int .i64 c.threads, .int .i64 c.locals, .int .i64 c.cache, .int .i64 c.stack, .int .i64 c.low, .slice c.A c.shapes.length c.cap] := ⟨_, Mod.ext (by (repeat (first | (with_reducible assumption) | (with_reducible exact Ext.refl _) | (with_reducible exact Ext.more _ _ _ _) | apply Ext.alloc | refine Ext.setCell ?_ (by first | exact Nat.le_refl _ | exact Nat.le_add_right _ _ | assumption) _ | apply Ext.patch | apply Ext.drew | apply Ext.drewN))) 9, Blk.new g 9 24 [.int .i64 c.frags, .int .i64 c.spine, .int .i64 c.globals, .int .i64 c.threads, .int .i64 c.locals, .int .i64 c.cache, .int .i64 c.stack, .int .i64 c.low, .slice c.A c.shapes.length c.cap]⟩
  have M0 := Lib.hid m0
  have B0 := Lib.hid b0
  obtain ⟨n, hn⟩ := Int.eq_ofNat_of_zero_le (show 0 ≤ c.frags by omega)
  have HN := Lib.hid hn
  have hn1024 : n ≤ 1024 := by omega
  have HTN := Lib.hid (fun g' => HN.out ▸ tab_new n (B + 50) g' hn1024)
  clear hc m0 b0 hk hn
  go_enter Try.func58, Try.ntmps58
  go_wp2_with fail
  refine (HTN.out ⟨own0, _⟩).mono ?_
  rintro e w1 ⟨own1, bt, rfl, m1, t1⟩
  have M1 := Lib.hid (M0.out.trans m1)
  have B1 := Lib.hid (B0.out.keep m1 id)
  have T1 := Lib.hid t1
  clear m1 t1
  have a0 := B1.out.cell (i := 0) rfl
  have a1 := B1.out.cell (i := 1) rfl
  have a2 := B1.out.cell (i := 2) rfl
  have a3 := B1.out.cell (i := 3) rfl
  have a4 := B1.out.cell (i := 4) rfl
  have a5 := B1.out.cell (i := 5) rfl
  have a6 := B1.out.cell (i := 6) rfl
  have a7 := B1.out.cell (i := 7) rfl
  have a8 := B1.out.cell (i := 8) rfl
  have al := B1.out.lt
  (try simp only [GW.to] at a0 a1 a2 a3 a4 a5 a6 a7 a8 al)
  go_wp2_with fail
  refine (HSN.out ⟨own1, w1⟩ bt _ M1.out T1.out (by rw [HN.out]; simp [TabS.fresh])).mono ?_
  rintro e w2 ⟨own2, b, rfl, m2, s2⟩
  have M2 := Lib.hid (M1.out.trans m2)
  obtain ⟨bp, bk, bl, A, cs, cm, bs, s2⟩ := s2
  have S2 := Lib.hid s2
  clear m2 s2 a0 a1 a2 a3 a4 a5 a6 a7 a8 al
  have a0 := S2.out.blk.cell (i := 0) rfl
  have a1 := S2.out.blk.cell (i := 1) rfl
  have a2 := S2.out.blk.cell (i := 2) rfl
  have a3 := S2.out.blk.cell (i := 3) rfl
  have a4 := S2.out.blk.cell (i := 4) rfl
  have a5 := S2.out.blk.cell (i := 5) rfl
  have a6 := S2.out.blk.cell (i := 6) rfl
  have a7 := S2.out.blk.cell (i := 7) rfl
  have a8 := S2.out.blk.cell (i := 8) rfl
  have a9 := S2.out.blk.cell (i := 9) rfl
  have a10 := S2.out.blk.cell (i := 10) rfl
  have a11 := S2.out.blk.cell (i := 11) rfl
  have a12 := S2.out.blk.cell (i := 12) rfl
  have a13 := S2.out.blk.cell (i := 13) rfl
  have a14 := S2.out.blk.cell (i := 14) rfl
  have a15 := S2.out.blk.cell (i := 15) rfl
  have al := S2.out.blk.lt
  (try simp only [GW.to] at a0 a1 a2 a3 a4 a5 a6 a7 a8 a9 a10 a11 a12 a13 a14 a15 al)
  go_wp2_with fail
  refine (sh_coil w2 cm bp bk bl).mono ?_
  rintro e w3 ⟨rfl, hX⟩
  obtain ⟨own3, m3⟩ := Mod.ofExt (show Ext w2 w3 from hX) own2
  have M3 := Lib.hid (M2.out.trans m3)
  have S3 := Lib.hid (S2.out.keep m3 (fun x hx => hx.elim))
  clear m3 hX
  go_wp2_with fail
  go_ret2
  exact ⟨own3, b, bt, rfl, M3.out, _, _, _, _, _, _, _, (show TabS.fresh c.frags.toNat = TabS.fresh n by rw [HN.out]; rfl) ▸ S3.out⟩
end Go.Proofs.Ytmgkfpmmlibmcaa
