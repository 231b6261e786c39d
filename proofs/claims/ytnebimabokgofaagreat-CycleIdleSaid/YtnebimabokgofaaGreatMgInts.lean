import Derived.Test.YtnebimabokgofaaGreatCoil
import Derived.Test.YtnebimabokgofaaGreatSpaceD
import Derived.Test.YtnebimabokgofaaGreatMgShade
import Derived.Test.YtnebimabokgofaaGreatMgScope
/-
  coil: Left, Done.
-/
namespace Go.Proofs.YtnebimabokgofaaGreat
open Go Go.RowKit
set_option linter.unusedVariables false
set_option linter.unnecessarySimpa false
set_option linter.unusedSimpArgs false
set_option maxHeartbeats 2000000
theorem coil_done (g : GW) (t b : Nat) (c : CoilS) (h : CoilAt g t b c) (hk : c.kept ≤ 0) :
    Calls Tryz.prog 161 #[.pointer (some ⟨b, 0, none⟩)] g.w (Does (.bool true) g (fun x => x = t) (fun g' => CoilAt g' t b c.done)) := by
  have c0 := h.blk.cell (i := 0) rfl
  have c1 := h.blk.cell (i := 1) rfl
  have c2 := h.blk.cell (i := 2) rfl
  have c3 := h.blk.cell (i := 3) rfl
  have c4 := h.blk.cell (i := 4) rfl
  have f2 := h.blk.live 2
  have f3 := h.blk.live 3
  have hbl := h.blk.lt
  obtain ⟨o1, ⟨_, _⟩, ⟨_, _⟩, ⟨_, _⟩, ⟨_, _⟩, o6⟩ := h.ok
  have HO := Lib.hid h.blk.own
  have HB := Lib.hid h.blk
  have H := Lib.hid h
  clear h
  obtain ⟨size, cur, u0, u1, kept⟩ := c
  simp only at *
  have hd : decide (0 < kept) = false := decide_eq_false (by omega)
  rcases (show cur = 0 ∨ cur = 1 by omega) with rfl | rfl
  · replace c1 : g.w.cell? ⟨b, 1, none⟩ = some (.int .i64 0) := c1
    have HT := Lib.hid (show CoilS.done ⟨size, 0, u0, u1, kept⟩ = ⟨size, 0, u0, 0, kept⟩ by unfold CoilS.done CoilS.doneable; simp only; rw [if_pos (decide_eq_true hk)]; rfl)
    have HK := Lib.hid (show CoilS.Ok ⟨size, 0, u0, 0, kept⟩ from ⟨by simp, by simp only; omega, by simp only; omega, by simp only; omega, by simp only; omega, by simp only [CoilS.used, if_true, if_false, Nat.one_ne_zero] at *; omega⟩)
    clear o6
    go_enter Tryz.func161, Tryz.ntmps161
    go_wp2_with fail
    refine wp_region_mixed [true, true, true, true, true, true, true, true, true, false] 1 9 (by kernel_rfl) (by kernel_rfl) (by kernel_rfl) ?_ (by decide) (by decide) (by decide) (by kernel_rfl) ?_
    · intro c a d v w h; cases d <;> exact h
    intro X00
    simp only [pickOps]
    repeat (go_big_quiet_step (fail))
    refine wpQuiet_nil (fun X0 => ?_)
    clear X00
    refine wpAnyM_last 9 _ (by kernel_rfl) (by kernel_rfl) rfl rfl (fun X1 K Q' hK => ?_)
    go_simp
    refine hK _ _ (fun X2 => ?_)
    clear hK K Q'
    go_wp2_with fail
    go_ret
    (try rw [World.patch_patch])
    refine Does.of (GW.pt ⟨g.own, _⟩ _) rfl rfl (Mod.pt (Mod.st Mod.self HO.out) _) ?_
    rw [HT.out]
    exact CoilAt.pt ⟨HB.out.set 3 _, HK.out⟩ _
  · replace c1 : g.w.cell? ⟨b, 1, none⟩ = some (.int .i64 1) := c1
    have HT := Lib.hid (show CoilS.done ⟨size, 1, u0, u1, kept⟩ = ⟨size, 1, 0, u1, kept⟩ by unfold CoilS.done CoilS.doneable; simp only; rw [if_pos (decide_eq_true hk)]; rfl)
    have HK := Lib.hid (show CoilS.Ok ⟨size, 1, 0, u1, kept⟩ from ⟨by simp, by simp only; omega, by simp only; omega, by simp only; omega, by simp only; omega, by simp only [CoilS.used, if_true, if_false, Nat.one_ne_zero] at *; omega⟩)
    clear o6
    go_enter Tryz.func161, Tryz.ntmps161
    go_wp2_with fail
    refine wp_region_mixed [true, true, true, true, true, true, true, true, true, false] 1 9 (by kernel_rfl) (by kernel_rfl) (by kernel_rfl) ?_ (by decide) (by decide) (by decide) (by kernel_rfl) ?_
    · intro c a d v w h; cases d <;> exact h
    intro X00
    simp only [pickOps]
    repeat (go_big_quiet_step (fail))
    refine wpQuiet_nil (fun X0 => ?_)
    clear X00
    refine wpAnyM_last 9 _ (by kernel_rfl) (by kernel_rfl) rfl rfl (fun X1 K Q' hK => ?_)
    go_simp
    refine hK _ _ (fun X2 => ?_)
    clear hK K Q'
    go_wp2_with fail
    go_ret
    (try rw [World.patch_patch])
    refine Does.of (GW.pt ⟨g.own, _⟩ _) rfl rfl (Mod.pt (Mod.st Mod.self HO.out) _) ?_
    rw [HT.out]
    exact CoilAt.pt ⟨HB.out.set 2 _, HK.out⟩ _
end Go.Proofs.YtnebimabokgofaaGreat

/-
  spolaw21: made.
-/
namespace Go.Proofs.YtnebimabokgofaaGreat
open Go Go.RowKit
set_option linter.unusedVariables false
set_option linter.unnecessarySimpa false
set_option linter.unusedSimpArgs false
set_option maxHeartbeats 4000000
end Go.Proofs.YtnebimabokgofaaGreat

/-
  space: what asking comes to at small states. No walk here.
-/
namespace Go.Proofs.YtnebimabokgofaaGreat
open Go Go.RowKit
set_option linter.unusedVariables false
def c4 (A : Option Addr) : Cnf := ⟨4, 0, 0, 1, 1, 0, 1, 0, A, 1, [⟨false, none, 0, []⟩]⟩
theorem c4_check (A : Option Addr) : (c4 A).check = 0 := by rfl
def s4 (A : Option Addr) : SpaceS := SpaceS.fresh (c4 A) (TabS.fresh 4)
theorem s4_ask (A : Option Addr) : (ask (s4 A) 0 1 0 true).1 = (1, [3], -1) := by rfl
theorem s4_count (A : Option Addr) : (ask (s4 A) 0 1 0 true).2.count = 1 := by rfl
theorem s4_state (A : Option Addr) : (ask (s4 A) 0 1 0 true).2.tab.state 3 = 2 := by rfl
theorem s4_head (A : Option Addr) : (ask (s4 A) 0 1 0 true).2.tab.head 3 = false := by rfl
/-- A small configuration. -/
def cS (frags spine cache : Int) (A : Option Addr) : Cnf := ⟨frags, spine, 0, 3, 1, cache, 1, 0, A, 1, [⟨false, none, 0, []⟩]⟩
theorem cS_check {frags spine cache : Int} {A : Option Addr} (h1 : 4 ≤ frags ∧ frags ≤ 1024) (h2 : 0 ≤ spine ∧ spine ≤ 2048) (h3 : 0 ≤ cache ∧ cache ≤ 8) (h4 : 3 * cache ≤ frags) : (cS frags spine cache A).check = 0 := by
  have e : (cS frags spine cache A).rangedTo 8 = true := by
    have w1 : within frags 4 1024 = true := decide_eq_true h1
    have w2 : within spine 0 2048 = true := decide_eq_true h2
    have w3 : within cache 0 8 = true := decide_eq_true h3
    have w4 : within 0 0 frags = true := decide_eq_true (by omega)
    show (List.all [within frags 4 1024, within spine 0 2048, within 0 0 8, within 3 1 16, within 1 1 8, within cache 0 8, within 1 1 256, within 0 0 frags] id) = true
    rw [w1, w2, w3, w4]
    rfl
  unfold Cnf.check
  rw [e, decide_eq_true (show (cS frags spine cache A).threads * (cS frags spine cache A).cache ≤ (cS frags spine cache A).frags from h4)]
  rfl
def sR (room : Int) (A : Option Addr) : SpaceS := SpaceS.fresh (cS 20 room 0 A) (TabS.fresh 20)
/-- .. behind the first request, and so many others. -/
def sR1 (room sp : Int) (A : Option Addr) : SpaceS := (ask (sR room A) 0 6 sp true).2
def sRn (room sp : Int) (A : Option Addr) : Nat → SpaceS
  | 0 => sR1 room sp A
  | n + 1 => (ask (sRn room sp A n) 1 1 0 true).2
theorem sR_ask (room sp : Int) (A : Option Addr) (h : 0 ≤ sp) : (ask (sR room A) 0 6 sp true).1 = (1, [14, 15, 16, 17, 18, 19], -1) := by
  unfold ask
  rw [show askNo (sR room A) 0 6 sp = false by unfold askNo; rw [decide_eq_false (show ¬ sp < 0 by omega)]; rfl]
  rw [if_neg (by simp), if_neg (fun e => absurd e.2 (show ¬ ((6 : Int) ≤ 0) by decide)), if_neg (fun e => by
    rcases e with e | e
    · exact absurd e (show ¬ 0 < 0 by decide)
    · have : (sR room A).fits 6 sp = (decide ((6 : Int) ≤ 20) && (sp == 0 || true || decide (sp ≤ (sR room A).coil.room))) := rfl
      rw [this] at e
      simp at e)]
  rw [show askGot (sR room A) 6 = [14, 15, 16, 17, 18, 19] from rfl]
  rw [show takesAt (sR room A) [14, 15, 16, 17, 18, 19] sp = -1 from if_pos (Or.inr rfl)]

theorem isSide_one (x : Int) : isSide [x] = true := rfl
/-- What a run of asking for one comes to. -/
theorem ask_one (S : SpaceS) (a : Nat) (h1 : inB 1 S.stocks.length = true) (h2 : placeOf (ofB 1) S.line < 0) (h3 : (stockOf S 1) = ⟨[], 0⟩) (h4 : Ent.wait S.line = 0) (h5 : 1 ≤ S.pool.free) (h6 : S.pool.run 1 = some a) :
    ask S 1 1 0 true = ((1, [(a : Int)], -1), { S.tick with pool := ⟨S.pool.l.set a false⟩, tab := S.tab.set a 2 false true, stocks := S.stocks.set 1 ⟨[], 0⟩ }) := by
  have hno : askNo S 1 1 0 = false := by unfold askNo; rw [h1, decide_eq_false (show ¬ 0 ≤ placeOf (ofB 1) S.line by omega)]; rfl
  have hft : S.fits 1 0 = true := by
    unfold SpaceS.fits
    rw [decide_eq_true (show (1 : Int) ≤ (S.pool.free : Int) by omega), h6]
    rfl
  have hg : askGot S 1 = [(a : Int)] := by
    unfold askGot PoolS.taken
    rw [if_neg (by omega), h6]
    show ([((a + 0 : Nat) : Int)]) = _
    rw [Nat.add_zero]
  have hg' : askGot S.tick 1 = [(a : Int)] := hg
  have hm : askMore S.tick 1 1 0 = [] := by
    unfold askMore
    rw [show stockOf S.tick 1 = ⟨[], 0⟩ from h3]
    show PoolS.lowGo _ 0 _ 0 = []
    exact lowGo_stop _ _ _
  unfold ask
  rw [hno, if_neg (by simp), if_neg (fun e => by rw [h3] at e; exact absurd e.2 (by decide)), if_neg (fun e => by rw [h4, hft] at e; simp at e), hg, show takesAt S [(a : Int)] 0 = -1 from if_pos (Or.inl rfl)]
  refine Prod.ext rfl ?_
  show askAll S.tick 1 1 0 true = _
  unfold askAll
  rw [hm, hg', show stockOf S.tick 1 = ⟨[], 0⟩ from h3, show takesS S.tick [(a : Int)] 0 = { S.tick with pool := S.tick.pool.takes [(a : Int)] } by unfold takesS; rw [if_pos (Or.inl rfl)]]
  rfl
end Go.Proofs.YtnebimabokgofaaGreat

/-
  sporef.Ints.
-/
namespace Go
theorem take_succ_eq {α : Type} {l m : List α} {k : Nat} {x y : α} (h : l.take k = m.take k) (hx : l[k]? = some x) (hy : m[k]? = some y) (he : x = y) : l.take (k + 1) = m.take (k + 1) := by
  rw [List.take_add_one, List.take_add_one, h, hx, hy, he]
theorem ints_len_ne {l m : List Int} (h : l.length ≠ m.length) : decide (l = m) = false := by
  rw [decide_eq_false_iff_not]
  rintro rfl
  exact h rfl
end Go
namespace Go.Proofs.YtnebimabokgofaaGreat
open Go Go.RowKit
set_option linter.unusedVariables false

end Go.Proofs.YtnebimabokgofaaGreat

