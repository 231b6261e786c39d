/-
  space: what asking comes to at small states. No walk here.
-/
import Derived.Test.YtmgkfpmmlibmcaaMade
namespace Go.Proofs.Ytmgkfpmmlibmcaa
open Go Go.RowKit
set_option linter.unusedVariables false
def c4 (A : Option Addr) : Cnf := ⟨4, 0, 0, 1, 1, 0, 1, 0, A, 1, [⟨false, none, 0, []⟩]⟩
theorem c4_check (A : Option Addr) : (c4 A).check = 0 := by rfl
def s4 (A : Option Addr) : SpaceS := SpaceS.fresh (c4 A) (TabS.fresh 4)
theorem s4_ask (A : Option Addr) : (ask (s4 A) 0 1 0 true).1 = (1, [3], -1) := by rfl
theorem s4_count (A : Option Addr) : (ask (s4 A) 0 1 0 true).2.count = 1 := by rfl
theorem s4_state (A : Option Addr) : (ask (s4 A) 0 1 0 true).2.tab.state 3 = 2 := by rfl
theorem s4_head (A : Option Addr) : (ask (s4 A) 0 1 0 true).2.tab.head 3 = false := by rfl
/-- A small configuration. -/
def cS (frags spine cache : Int) (A : Option Addr) : Cnf := ⟨frags, spine, 0, 3, 1, cache, 1, 0, A, 1, [⟨false, none, 0, []⟩]⟩
theorem cS_check {frags spine cache : Int} {A : Option Addr} (h1 : 4 ≤ frags ∧ frags ≤ 1024) (h2 : 0 ≤ spine ∧ spine ≤ 2048) (h3 : 0 ≤ cache ∧ cache ≤ 8) (h4 : 3 * cache ≤ frags) : (cS frags spine cache A).check = 0 := by
  have e : (cS frags spine cache A).rangedTo 8 = true := by
    have w1 : within frags 4 1024 = true := decide_eq_true h1
    have w2 : within spine 0 2048 = true := decide_eq_true h2
    have w3 : within cache 0 8 = true := decide_eq_true h3
    have w4 : within 0 0 frags = true := decide_eq_true (by omega)
    show (List.all [within frags 4 1024, within spine 0 2048, within 0 0 8, within 3 1 16, within 1 1 8, within cache 0 8, within 1 1 256, within 0 0 frags] id) = true
    rw [w1, w2, w3, w4]
    rfl
  unfold Cnf.check
  rw [e, decide_eq_true (show (cS frags spine cache A).threads * (cS frags spine cache A).cache ≤ (cS frags spine cache A).frags from h4)]
  rfl
def sR (room : Int) (A : Option Addr) : SpaceS := SpaceS.fresh (cS 20 room 0 A) (TabS.fresh 20)
/-- .. behind the first request, and so many others. -/
def sR1 (room sp : Int) (A : Option Addr) : SpaceS := (ask (sR room A) 0 6 sp true).2
def sRn (room sp : Int) (A : Option Addr) : Nat → SpaceS
  | 0 => sR1 room sp A
  | n + 1 => (ask (sRn room sp A n) 1 1 0 true).2
theorem sR_ask (room sp : Int) (A : Option Addr) (h : 0 ≤ sp) : (ask (sR room A) 0 6 sp true).1 = (1, [14, 15, 16, 17, 18, 19], -1) := by
  unfold ask
  rw [show askNo (sR room A) 0 6 sp = false by unfold askNo; rw [decide_eq_false (show ¬ sp < 0 by omega)]; rfl]
  rw [if_neg (by simp), if_neg (fun e => absurd e.2 (show ¬ ((6 : Int) ≤ 0) by decide)), if_neg (fun e => by
    rcases e with e | e
    · exact absurd e (show ¬ 0 < 0 by decide)
    · have : (sR room A).fits 6 sp = (decide ((6 : Int) ≤ 20) && (sp == 0 || true || decide (sp ≤ (sR room A).coil.room))) := rfl
      rw [this] at e
      simp at e)]
  rw [show askGot (sR room A) 6 = [14, 15, 16, 17, 18, 19] from rfl]
  rw [show takesAt (sR room A) [14, 15, 16, 17, 18, 19] sp = -1 from if_pos (Or.inr rfl)]

theorem isSide_one (x : Int) : isSide [x] = true := rfl
/-- What a run of asking for one comes to. -/
theorem ask_one (S : SpaceS) (a : Nat) (h1 : inB 1 S.stocks.length = true) (h2 : placeOf (ofB 1) S.line < 0) (h3 : (stockOf S 1) = ⟨[], 0⟩) (h4 : Ent.wait S.line = 0) (h5 : 1 ≤ S.pool.free) (h6 : S.pool.run 1 = some a) :
    ask S 1 1 0 true = ((1, [(a : Int)], -1), { S.tick with pool := ⟨S.pool.l.set a false⟩, tab := S.tab.set a 2 false true, stocks := S.stocks.set 1 ⟨[], 0⟩ }) := by
  have hno : askNo S 1 1 0 = false := by unfold askNo; rw [h1, decide_eq_false (show ¬ 0 ≤ placeOf (ofB 1) S.line by omega)]; rfl
  have hft : S.fits 1 0 = true := by
    unfold SpaceS.fits
    rw [decide_eq_true (show (1 : Int) ≤ (S.pool.free : Int) by omega), h6]
    rfl
  have hg : askGot S 1 = [(a : Int)] := by
    unfold askGot PoolS.taken
    rw [if_neg (by omega), h6]
    show ([((a + 0 : Nat) : Int)]) = _
    rw [Nat.add_zero]
  have hg' : askGot S.tick 1 = [(a : Int)] := hg
  have hm : askMore S.tick 1 1 0 = [] := by
    unfold askMore
    rw [show stockOf S.tick 1 = ⟨[], 0⟩ from h3]
    show PoolS.lowGo _ 0 _ 0 = []
    exact lowGo_stop _ _ _
  unfold ask
  rw [hno, if_neg (by simp), if_neg (fun e => by rw [h3] at e; exact absurd e.2 (by decide)), if_neg (fun e => by rw [h4, hft] at e; simp at e), hg, show takesAt S [(a : Int)] 0 = -1 from if_pos (Or.inl rfl)]
  refine Prod.ext rfl ?_
  show askAll S.tick 1 1 0 true = _
  unfold askAll
  rw [hm, hg', show stockOf S.tick 1 = ⟨[], 0⟩ from h3, show takesS S.tick [(a : Int)] 0 = { S.tick with pool := S.tick.pool.takes [(a : Int)] } by unfold takesS; rw [if_pos (Or.inl rfl)]]
  rfl
end Go.Proofs.Ytmgkfpmmlibmcaa
