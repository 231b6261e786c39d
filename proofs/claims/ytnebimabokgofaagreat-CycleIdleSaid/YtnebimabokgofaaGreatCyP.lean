import Derived.Test.YtnebimabokgofaaGreatMgGlobalsP
/-
  cycle: the idle collector, in plain Lean: how a state goes on. No program here.
-/
namespace Go.Proofs.YtnebimabokgofaaGreat
open Go Go.RowKit
set_option linter.unusedVariables false
set_option linter.unnecessarySimpa false
set_option linter.unusedSimpArgs false
structure IdleK (c : Cnf) (N : Int) (K : CoreS) : Prop where
  cc : K.c = c
  own : ∀ i, K.hand.own i = -1
  line : K.sp.line = []
  free : (K.sp.pool.free : Int) = c.frags
  cur : K.sp.coil.cur < 2
  u0 : K.sp.coil.u0 = 0
  u1 : K.sp.coil.u1 = 0
  kept : K.sp.coil.kept = 0
  tab : ∀ i, K.sp.tab.state i = 0
  pl : K.pile.l = []
  lost : K.pile.lost = false
  mem : ∀ i, 0 ≤ i → i < c.globals → inB (i + cAhead c 3) K.mem.l.length = true ∧ wIndex (K.mem.peek (i + cAhead c 3)) = none
  hc : 0 ≤ K.hand.count ∧ K.hand.count ≤ N
  sc : 0 ≤ K.sp.count ∧ K.sp.count ≤ N
  mc : 0 ≤ K.mem.count ∧ K.mem.count ≤ N
  nc : 0 ≤ K.n ∧ K.n ≤ N
theorem up {a N M : Int} (h : a ≤ N) (hm : N ≤ M) : a ≤ M := Int.le_trans h hm
namespace IdleK
variable {c : Cnf} {N : Int} {K : CoreS}
theorem mono (h : IdleK c N K) {M : Int} (hm : N ≤ M) : IdleK c M K := ⟨h.cc, h.own, h.line, h.free, h.cur, h.u0, h.u1, h.kept, h.tab, h.pl, h.lost, h.mem, ⟨h.hc.1, up h.hc.2 (by omega)⟩, ⟨h.sc.1, up h.sc.2 (by omega)⟩, ⟨h.mc.1, up h.mc.2 (by omega)⟩, ⟨h.nc.1, up h.nc.2 (by omega)⟩⟩
theorem hand (h : IdleK c N K) {H : HandS} (hl : H.l = K.hand.l) (hc : H.count = K.hand.count + 1) : IdleK c (N + 1) { K with hand := H } := by
  obtain ⟨a0, a1⟩ := h.hc
  exact ⟨h.cc, (fun i => by have := h.own i; unfold HandS.own at this ⊢; simp only [hl]; exact this), h.line, h.free, h.cur, h.u0, h.u1, h.kept, h.tab, h.pl, h.lost, h.mem, ⟨by show 0 ≤ H.count; omega, by show H.count ≤ _; omega⟩, ⟨h.sc.1, up h.sc.2 (by omega)⟩, ⟨h.mc.1, up h.mc.2 (by omega)⟩, ⟨h.nc.1, up h.nc.2 (by omega)⟩⟩
theorem post_l (H : HandS) (s : Int) (f : Bool) : (H.post s f).l = H.l ∧ (H.post s f).count = H.count + 1 := by
  unfold HandS.post HandS.tick
  split <;> exact ⟨rfl, rfl⟩
theorem post (h : IdleK c N K) (s : Int) (f : Bool) : IdleK c (N + 1) { K with hand := K.hand.post s f } := h.hand (post_l _ s f).1 (post_l _ s f).2
theorem tick (h : IdleK c N K) : IdleK c (N + 1) { K with hand := K.hand.tick } := h.hand rfl rfl
/-- Any turn of the space that leaves it idle. -/
theorem sp (h : IdleK c N K) {S : SpaceS} (hl : S.line = []) (hf : S.pool = K.sp.pool) (ht : S.tab = K.sp.tab) (hcur : S.coil.cur < 2) (h0 : S.coil.u0 = 0) (h1 : S.coil.u1 = 0) (hk : S.coil.kept = 0) (hc : S.count = K.sp.count + 1) : IdleK c (N + 1) { K with sp := S } := by
  obtain ⟨a0, a1⟩ := h.sc
  exact ⟨h.cc, h.own, hl, by show (S.pool.free : Int) = _; rw [hf]; exact h.free, hcur, h0, h1, hk, (fun i => by show S.tab.state i = 0; rw [ht]; exact h.tab i), h.pl, h.lost, h.mem, ⟨h.hc.1, up h.hc.2 (by omega)⟩, ⟨by show 0 ≤ S.count; omega, by show S.count ≤ _; omega⟩, ⟨h.mc.1, up h.mc.2 (by omega)⟩, ⟨h.nc.1, up h.nc.2 (by omega)⟩⟩
theorem begin (h : IdleK c N K) : IdleK c (N + 1) { K with sp := beginS K.sp } := h.sp (show K.sp.line.map noteE = [] by rw [h.line]; rfl) rfl rfl h.cur h.u0 h.u1 h.kept rfl
theorem ends (h : IdleK c N K) : IdleK c (N + 1) { K with sp := endS K.sp } := h.sp (show K.sp.line.map endE = [] by rw [h.line]; rfl) rfl rfl h.cur h.u0 h.u1 h.kept rfl
theorem stick (h : IdleK c N K) : IdleK c (N + 1) { K with sp := K.sp.tick } := h.sp h.line rfl rfl h.cur h.u0 h.u1 h.kept rfl
theorem force (h : IdleK c N K) : IdleK c (N + 1) { K with sp := forceS K.sp } := h.sp h.line rfl rfl h.cur h.u0 h.u1 h.kept rfl
theorem used (h : IdleK c N K) (s : Nat) : K.sp.coil.used s = 0 := by
  unfold CoilS.used
  split
  · exact h.u0
  · exact h.u1
theorem turn (h : IdleK c N K) : IdleK c (N + 1) { K with sp := turnS K.sp } := by
  have ht : K.sp.coil.turn = { K.sp.coil with kept := K.sp.coil.used K.sp.coil.cur, cur := 1 - K.sp.coil.cur } := if_pos (by unfold CoilS.turnable; rw [h.used]; rfl)
  refine h.sp (S := turnS K.sp) h.line rfl rfl ?_ ?_ ?_ ?_ rfl
  · show K.sp.coil.turn.cur < 2
    rw [ht]
    show 1 - K.sp.coil.cur < 2
    omega
  · show K.sp.coil.turn.u0 = 0
    rw [ht]
    exact h.u0
  · show K.sp.coil.turn.u1 = 0
    rw [ht]
    exact h.u1
  · show K.sp.coil.turn.kept = 0
    rw [ht]
    exact h.used _
theorem done (h : IdleK c N K) : IdleK c (N + 1) { K with sp := doneS K.sp } := by
  have ht : K.sp.coil.done = if K.sp.coil.cur = 0 then { K.sp.coil with u1 := 0 } else { K.sp.coil with u0 := 0 } := if_pos (by unfold CoilS.doneable; rw [h.kept]; rfl)
  refine h.sp (S := doneS K.sp) h.line rfl rfl ?_ ?_ ?_ ?_ rfl
  · show K.sp.coil.done.cur < 2
    rw [ht]
    split <;> exact h.cur
  · show K.sp.coil.done.u0 = 0
    rw [ht]
    split
    · exact h.u0
    · rfl
  · show K.sp.coil.done.u1 = 0
    rw [ht]
    split
    · rfl
    · exact h.u1
  · show K.sp.coil.done.kept = 0
    rw [ht]
    split <;> exact h.kept
theorem sweeps_no (h : IdleK c N K) (i : Int) (s : Bool) : sweeps K.sp i s = false := by
  unfold sweeps
  rw [h.tab i]
  rfl
theorem sweep (h : IdleK c N K) (i : Int) (s : Bool) : IdleK c (N + 1) { K with sp := sweepS K.sp i s } := by
  unfold sweepS
  rw [h.sweeps_no]
  exact h.stick
theorem serve_no (h : IdleK c N K) (s : Bool) : serve K.sp s = (false, K.sp.tick) := by
  unfold serve
  rw [if_pos (by rw [h.line]; decide)]
theorem wants (h : IdleK c N K) (hf : K.sp.forced = true) : wantsS K.sp = true := by
  unfold wantsS
  rw [hf, Bool.or_true, Bool.or_true]
theorem mtick (h : IdleK c N K) : IdleK c (N + 1) { K with mem := K.mem.tick } := by
  obtain ⟨a0, a1⟩ := h.mc
  exact ⟨h.cc, h.own, h.line, h.free, h.cur, h.u0, h.u1, h.kept, h.tab, h.pl, h.lost, h.mem, ⟨h.hc.1, up h.hc.2 (by omega)⟩, ⟨h.sc.1, up h.sc.2 (by omega)⟩, ⟨by show 0 ≤ K.mem.count + 1; omega, by show K.mem.count + 1 ≤ _; omega⟩, ⟨h.nc.1, up h.nc.2 (by omega)⟩⟩
theorem pile (h : IdleK c N K) {p : PileS} (hp : p.l = []) (hl : p.lost = false) : IdleK c (N + 1) { K with pile := p, n := K.n + 1 } := by
  obtain ⟨a0, a1⟩ := h.nc
  exact ⟨h.cc, h.own, h.line, h.free, h.cur, h.u0, h.u1, h.kept, h.tab, hp, hl, h.mem, ⟨h.hc.1, up h.hc.2 (by omega)⟩, ⟨h.sc.1, up h.sc.2 (by omega)⟩, ⟨h.mc.1, up h.mc.2 (by omega)⟩, ⟨by show 0 ≤ K.n + 1; omega, by show K.n + 1 ≤ _; omega⟩⟩
end IdleK
/-- What holds of the idle collector at each step. -/
structure JB (c : Cnf) (n N : Int) (W : CyW) : Prop where
  K : IdleK c N W.K
  e : W.y.e = 0
  fin : W.y.finished = n
  fr : W.y.freed = 0
  mv : W.y.moved = 0
  st : 0 ≤ W.y.steps ∧ W.y.steps ≤ N
  ib : 0 ≤ W.y.i ∧ W.y.i ≤ 5000
namespace JB
variable {c : Cnf} {n N : Int} {W : CyW}
theorem polled (h : JB c n N W) : W.polled = true := by
  unfold CyW.polled HandS.polled
  rw [h.K.own]
  rfl
theorem nextI (h : JB c n N W) : W.nextI = W.y.i + 1 := by
  unfold CyW.nextI
  rw [h.polled]
  rfl
theorem pollsB (h : JB c n N W) : W.pollsB = (W.y.i + 1 == c.threads) := by
  unfold CyW.pollsB
  rw [h.nextI, h.K.cc]
theorem polls (h : JB c n N W) (hi : W.y.i ≤ 4999) : JB c n (N + 1) W.polls :=
  ⟨h.K.tick, h.e, h.fin, h.fr, h.mv, ⟨h.st.1, up h.st.2 (by omega)⟩, ⟨by show 0 ≤ W.nextI; rw [h.nextI]; have := h.ib; omega, by show W.nextI ≤ _; rw [h.nextI]; omega⟩⟩
theorem posts (h : JB c n N W) (s : Int) (f : Bool) : JB c n (N + 1) (W.posts s f) := ⟨h.K.post s f, h.e, h.fin, h.fr, h.mv, ⟨h.st.1, up h.st.2 (by omega)⟩, h.ib⟩
theorem ent (h : JB c n N W) (s : Int) : JB c n N (W.ent s) := ⟨h.K, h.e, h.fin, h.fr, h.mv, h.st, by show (0 : Int) ≤ 0 ∧ (0 : Int) ≤ 5000; omega⟩
theorem atY (h : JB c n N W) (s : Int) : JB c n N (W.atY s) := ⟨h.K, h.e, h.fin, h.fr, h.mv, h.st, h.ib⟩
theorem spc (h : JB c n N W) {S : SpaceS} (hk : IdleK c (N + 1) { W.K with sp := S }) : JB c n (N + 1) (W.spc S) := ⟨hk, h.e, h.fin, h.fr, h.mv, ⟨h.st.1, up h.st.2 (by omega)⟩, h.ib⟩
theorem mono (h : JB c n N W) {M : Int} (hm : N ≤ M) : JB c n M W := ⟨h.K.mono hm, h.e, h.fin, h.fr, h.mv, ⟨h.st.1, up h.st.2 (by omega)⟩, h.ib⟩
theorem tick1 (h : JB c n N W) : JB c n (N + 1) W.tick1 := by
  obtain ⟨s0, s1⟩ := h.st
  unfold CyW.tick1
  split
  · exact ⟨h.K.mono (by omega), h.e, h.fin, h.fr, h.mv, ⟨by show 0 ≤ W.y.steps + 1; omega, by show W.y.steps + 1 ≤ _; omega⟩, h.ib⟩
  · exact h.mono (by omega)
theorem noH (h : JB c n N W) (q : Option HaulS) : JB c n N { W with h := q } := ⟨h.K, h.e, h.fin, h.fr, h.mv, h.st, h.ib⟩
end JB
theorem CyW.tick1_stage (W : CyW) : W.tick1.y.stage = W.y.stage := by unfold CyW.tick1; split <;> rfl
theorem CyW.tick1_started (W : CyW) : W.tick1.y.started = W.y.started := by unfold CyW.tick1; split <;> rfl
theorem CyW.tick1_sense (W : CyW) : W.tick1.y.sense = W.y.sense := by unfold CyW.tick1; split <;> rfl
theorem CyW.tick1_finished (W : CyW) : W.tick1.y.finished = W.y.finished := by unfold CyW.tick1; split <;> rfl
/-- Where it is, and how many steps are left. -/
inductive Ph (T F G s a i L : Int) : Prop
  | p0 (hs : s = 0) (ha : a = 0) (hi : i = 0) (hl : L = 5 * T + F + G + 14)
  | p1a (hs : s = 1) (ha : a = 0) (hl : L = 5 * T + F + G + 13)
  | p1b (hs : s = 1) (ha : a = 2) (hl : L = 5 * T + F + G + 12)
  | p2a (hs : s = 2) (ha : a = 0) (hi : 0 ≤ i ∧ i < T) (hl : L = T - i + 4 * T + F + G + 11)
  | p2b (hs : s = 2) (ha : a = 2) (hl : L = 4 * T + F + G + 11)
  | p3a (hs : s = 3) (ha : a = 0) (hi : 0 ≤ i ∧ i < T) (hl : L = T - i + 3 * T + F + G + 10)
  | p3b (hs : s = 3) (ha : a = 2) (hl : L = 3 * T + F + G + 10)
  | p4a (hs : s = 4) (ha : a = 0) (hi : 0 ≤ i ∧ i ≤ G) (hl : L = G - i + 3 * T + F + 9)
  | p4b (hs : s = 4) (ha : a = 1) (hi : 0 ≤ i ∧ i < T) (hl : L = T - i + 2 * T + F + 9)
  | p5a (hs : s = 5) (ha : a = 0) (hl : L = 2 * T + F + 9)
  | p5b (hs : s = 5) (ha : a = 5) (hl : L = 2 * T + F + 8)
  | p6a (hs : s = 6) (ha : a = 0) (hi : i = 0) (hl : L = 2 * T + F + 7)
  | p6b (hs : s = 6) (ha : a = 2) (hi : i = 0) (hl : L = 2 * T + F + 6)
  | p6c (hs : s = 6) (ha : a = 1) (hi : 0 ≤ i ∧ i < T) (hl : L = T - i + T + F + 5)
  | p7a (hs : s = 7) (ha : a = 0) (hl : L = T + F + 5)
  | p7b (hs : s = 7) (ha : a = 2) (hl : L = T + F + 4)
  | p8a (hs : s = 8) (ha : a = 0) (hi : 0 ≤ i ∧ i < T) (hl : L = T - i + F + 3)
  | p8b (hs : s = 8) (ha : a = 7) (hl : L = F + 3)
  | p9 (hs : s = 9) (ha : a = 0) (hi : 0 ≤ i ∧ i < F) (hl : L = F - i + 2)
  | p10a (hs : s = 10) (ha : a = 0) (hl : L = 2)
  | p10b (hs : s = 10) (ha : a = 7) (hl : L = 1)
structure SS (n : Int) (s0 : Bool) (W : CyW) : Prop where
  a : W.y.stage ≤ 1 → W.y.started = n ∧ W.y.sense = s0
  b : 2 ≤ W.y.stage → W.y.started = n + 1 ∧ W.y.sense = !s0
structure JW (c : Cnf) (n : Int) (s0 : Bool) (L : Int) (W : CyW) : Prop where
  b : JB c n (100000 * (n + 1) - 2 * L) W
  p : Ph c.threads c.frags c.globals W.y.stage W.y.at_ W.y.i L
  s : SS n s0 W
  h : W.y.stage = 7 → W.y.at_ = 0 → W.h = none
  f : W.y.stage = 0 → W.K.sp.forced = true
structure JD (c : Cnf) (n : Int) (s0 : Bool) (W : CyW) : Prop where
  b : JB c n (100000 * n) W
  s : W.y.started = n ∧ W.y.sense = s0
  p : W.y.stage = 0 ∧ W.y.at_ = 0 ∧ W.y.i = 0
def JN (c : Cnf) (n : Int) (s0 : Bool) (L : Int) (W W' : CyW) : Prop := (JW c n s0 L W' ∧ (W'.y.stage = W.y.stage ∨ W'.y.stage = W.y.stage + 1)) ∨ (JD c (n + 1) (!s0) W' ∧ W.y.stage = 10 ∧ L = 0)
end Go.Proofs.YtnebimabokgofaaGreat

