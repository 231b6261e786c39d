/-
  find: the program's state, in memory; New, the readers; ends, stands, data, read.
-/
import Derived.Test.YtmgkfpmmlibmcaaNum
import Derived.Test.YtmgkfpmmlibmcaaMemO
import Derived.Test.YtmgkfpmmlibmcaaCopy
import Derived.Test.YtmgkfpmmlibmcaaArea
import Derived.Test.YtmgkfpmmlibmcaaConf
namespace Go.Proofs.Ytmgkfpmmlibmcaa
open Go Go.RowKit
set_option linter.unusedVariables false
set_option linter.unnecessarySimpa false
set_option linter.unusedSimpArgs false
set_option maxHeartbeats 2000000
structure FindS where
  c : Cnf
  head : Int
  k : Int
  array : Bool
  pc : Int
  frag : Int
  ahead : Int
  word : Int
  n : Int
  mode : Int
  slot : Int
  at_ : Int
  ref : Bool
  e : Int
  steps : Int
namespace FindS
def cells (S : FindS) : List Value := [.int .i64 S.c.frags, .int .i64 S.c.spine, .int .i64 S.c.globals, .int .i64 S.c.threads, .int .i64 S.c.locals, .int .i64 S.c.cache, .int .i64 S.c.stack, .int .i64 S.c.low, .slice S.c.A S.c.shapes.length S.c.cap,
  .int .i64 S.head, .int .i64 S.k, .bool S.array, .int .i64 S.pc, .int .i64 S.frag, .int .i64 S.ahead, .int .i64 S.word, .int .i64 S.n, .int .i64 S.mode, .int .i64 S.slot, .int .i64 S.at_, .bool S.ref, .int .i64 S.e, .int .i64 S.steps]
def fresh (c : Cnf) (head k : Int) (array : Bool) (frag : Int) : FindS := ⟨c, head, k, array, 0, frag, 0, 0, 0, 0, 0, -1, false, 0, 0⟩
def ends (S : FindS) (e : Int) : FindS := { S with pc := 6, e := e, at_ := -1, ref := false }
/-- Is there such a word of a fragment? -/
def okAt (S : FindS) (frag k : Int) : Bool := decide (S.c.check = 0 ∧ 0 ≤ frag ∧ frag < S.c.frags ∧ 0 ≤ k ∧ k < 8)
def stands (S : FindS) (frag k : Int) : FindS := if S.okAt frag k then { S with pc := 6, at_ := frag * 8 + k } else S.ends 10
end FindS
structure FindAt (g : GW) (t b : Nat) (S : FindS) : Prop where
  blk : Blk g t b 130 S.cells
  cnf : CnfAt g (t + 1) S.c
theorem FindAt.keep {T : Nat → Prop} {g g' : GW} {t b : Nat} {S : FindS} (h : FindAt g t b S) (m : Mod T g g') (h1 : ¬ T t) (h2 : ¬ T (t + 1)) : FindAt g' t b S := ⟨h.blk.keep m h1, h.cnf.keep m h2⟩
theorem FindAt.st {g : GW} {t b : Nat} {S : FindS} (h : FindAt g t b S) (i : Nat) (v : Value) (S' : FindS) (hc : S'.cells = S.cells.set i v) (hcc : S'.c = S.c) : FindAt ⟨g.own, g.w.setCell ⟨b, i, none⟩ v⟩ t b S' := by
  refine ⟨by rw [hc]; exact h.blk.set i v, ?_⟩
  rw [hcc]
  exact h.cnf.keep (Mod.set (T := fun x => x = t) h.blk.own) (by omega)
theorem find_done (g : GW) (t b : Nat) (S : FindS) (h : FindAt g t b S) : Calls Try.prog 23 #[.pointer (some ⟨b, 0, none⟩)] g.w (fun e w' => e = .returned (.bool (S.pc == 6)) ∧ g.w = w') := by
  have c0 := h.blk.cell (i := 12) rfl
  have hl := h.blk.lt
  clear h
  go_enter Try.func23, Try.ntmps23
  go_wp2_with fail
  go_ret
  exact ⟨rfl, rfl⟩
theorem find_at (g : GW) (t b : Nat) (S : FindS) (h : FindAt g t b S) : Calls Try.prog 31 #[.pointer (some ⟨b, 0, none⟩)] g.w (fun e w' => e = .returned (.int .i64 S.at_) ∧ g.w = w') := by
  have c0 := h.blk.cell (i := 19) rfl
  have hl := h.blk.lt
  clear h
  go_enter Try.func31, Try.ntmps31
  go_wp2_with fail
  go_ret
  exact ⟨rfl, rfl⟩
theorem find_errno (g : GW) (t b : Nat) (S : FindS) (h : FindAt g t b S) : Calls Try.prog 30 #[.pointer (some ⟨b, 0, none⟩)] g.w (fun e w' => e = .returned (.int .i64 S.e) ∧ g.w = w') := by
  have c0 := h.blk.cell (i := 21) rfl
  have hl := h.blk.lt
  clear h
  go_enter Try.func30, Try.ntmps30
  go_wp2_with fail
  go_ret
  exact ⟨rfl, rfl⟩
theorem find_steps (g : GW) (t b : Nat) (S : FindS) (h : FindAt g t b S) : Calls Try.prog 25 #[.pointer (some ⟨b, 0, none⟩)] g.w (fun e w' => e = .returned (.int .i64 S.steps) ∧ g.w = w') := by
  have c0 := h.blk.cell (i := 22) rfl
  have hl := h.blk.lt
  clear h
  go_enter Try.func25, Try.ntmps25
  go_wp2_with fail
  go_ret
  exact ⟨rfl, rfl⟩
theorem find_ref (g : GW) (t b : Nat) (S : FindS) (h : FindAt g t b S) : Calls Try.prog 32 #[.pointer (some ⟨b, 0, none⟩)] g.w (fun e w' => e = .returned (.bool (decide (0 ≤ S.at_) && S.ref)) ∧ g.w = w') := by
  have c0 := h.blk.cell (i := 19) rfl
  have c1 := h.blk.cell (i := 20) rfl
  have hl := h.blk.lt
  clear h
  by_cases hp : 0 ≤ S.at_
  · have hd : decide (0 ≤ S.at_) = true := decide_eq_true hp
    go_enter Try.func32, Try.ntmps32
    go_wp2_with fail
    go_ret
    exact ⟨by first | rfl | (rw [hd]; rfl), rfl⟩
  · have hd : decide (0 ≤ S.at_) = false := decide_eq_false hp
    go_enter Try.func32, Try.ntmps32
    go_wp2_with fail
    go_ret
    exact ⟨by first | rfl | (rw [hd]; rfl), rfl⟩
theorem find_ends (g : GW) (t b : Nat) (S : FindS) (x : Int) (h : FindAt g t b S) : Calls Try.prog 164 #[.pointer (some ⟨b, 0, none⟩), .int .i64 x] g.w (Does (.bool true) g (fun x => x = t) (fun g' => FindAt g' t b (S.ends x))) := by
  have c0 := h.blk.cell (i := 12) rfl
  have c1 := h.blk.cell (i := 21) rfl
  have c2 := h.blk.cell (i := 19) rfl
  have c3 := h.blk.cell (i := 20) rfl
  have f0 := h.blk.live 12
  have f1 := h.blk.live 21
  have f2 := h.blk.live 19
  have f3 := h.blk.live 20
  have hl := h.blk.lt
  have HO := Lib.hid h.blk.own
  have H := Lib.hid ((((h.st 12 (.int .i64 6) { S with pc := 6 } rfl rfl).st 21 (.int .i64 x) { S with pc := 6, e := x } rfl rfl).st 19 (.int .i64 (-1)) { S with pc := 6, e := x, at_ := -1 } rfl rfl).st 20 (.bool false) (S.ends x) rfl rfl)
  clear h
  go_enter Try.func164, Try.ntmps164
  go_wp2_with fail
  go_ret
  exact Does.of ⟨g.own, _⟩ rfl rfl (Mod.st (Mod.st (Mod.st (Mod.st Mod.self HO.out) HO.out) HO.out) HO.out) H.out
theorem cFrag_yes {S : FindS} {frag k : Int} (h : S.okAt frag k = true) : cFrag S.c frag k = .tuple #[.int .i64 (frag * 8 + k), .int .i64 0] := by
  have h' : S.c.check = 0 ∧ 0 ≤ frag ∧ frag < S.c.frags ∧ 0 ≤ k ∧ k < 8 := by simpa [FindS.okAt] using h
  unfold cFrag; rw [if_pos h']
theorem cFrag_no {S : FindS} {frag k : Int} (h : S.okAt frag k = false) : cFrag S.c frag k = .tuple #[.int .i64 0, .int .i64 1] := by
  have h' : ¬ (S.c.check = 0 ∧ 0 ≤ frag ∧ frag < S.c.frags ∧ 0 ≤ k ∧ k < 8) := by intro hh; rw [show S.okAt frag k = true from by simpa [FindS.okAt] using hh] at h; cases h
  unfold cFrag; rw [if_neg h']
theorem find_stands (g : GW) (t b : Nat) (S : FindS) (frag k : Int) (h : FindAt g t b S) : Calls Try.prog 163 #[.pointer (some ⟨b, 0, none⟩), .int .i64 frag, .int .i64 k] g.w (Does (.bool true) g (fun x => x = t) (fun g' => FindAt g' t b (S.stands frag k))) := by
  have k0 := h.blk.cell (i := 0) rfl
  have k1 := h.blk.cell (i := 1) rfl
  have k2 := h.blk.cell (i := 2) rfl
  have k3 := h.blk.cell (i := 3) rfl
  have k4 := h.blk.cell (i := 4) rfl
  have k5 := h.blk.cell (i := 5) rfl
  have k6 := h.blk.cell (i := 6) rfl
  have k7 := h.blk.cell (i := 7) rfl
  have k8 := h.blk.cell (i := 8) rfl
  have hl := h.blk.lt
  have HF := Lib.hid (frag_any S.c frag k g.w h.cnf.ok)
  have H := Lib.hid h
  have HO := Lib.hid h.blk.own
  unfold Cnf.val at HF
  clear h
  cases hok : S.okAt frag k
  · have HV := Lib.hid (show S.stands frag k = S.ends 10 by unfold FindS.stands; rw [if_neg (by rw [hok]; simp)])
    rw [cFrag_no hok] at HF
    clear hok
    go_enter Try.func163, Try.ntmps163
    go_wp2_with fail
    refine HF.out.mono ?_
    rintro e w1 ⟨rfl, hE⟩
    have HE := Lib.hid (Mod.ext (T := fun _ => False) (g := g) (show Ext g.w w1 from hE) 0)
    have HX := Lib.hid (show (g.to 0 w1).w = w1 from rfl)
    have H1 := Lib.hid (H.out.keep HE.out id id)
    clear hE
    go_wp2_with fail
    refine (find_ends (g.to 0 w1) t b S 10 H1.out).mono ?_
    rintro e w2 ⟨rfl, own2, m2, r2⟩
    have M2 := Lib.hid m2
    have R2 := Lib.hid r2
    clear m2 r2
    go_wp2_with fail
    go_ret
    exact ⟨rfl, own2, (HE.out.mono (fun _ => False.elim)).trans M2.out, by rw [HV.out]; exact R2.out⟩
  · have HV := Lib.hid (show S.stands frag k = { S with pc := 6, at_ := frag * 8 + k } by unfold FindS.stands; rw [if_pos hok])
    rw [cFrag_yes hok] at HF
    clear hok
    go_enter Try.func163, Try.ntmps163
    go_wp2_with fail
    refine HF.out.mono ?_
    rintro e w1 ⟨rfl, hE⟩
    have HE := Lib.hid (Mod.ext (T := fun _ => False) (g := g) (show Ext g.w w1 from hE) 0)
    have H1 := Lib.hid (H.out.keep HE.out id id)
    have f0 := H1.out.blk.live 12
    have f1 := H1.out.blk.live 19
    have c0 := H1.out.blk.cell (i := 12) rfl
    have c1 := H1.out.blk.cell (i := 19) rfl
    have hl1 := H1.out.blk.lt
    simp only [GW.to] at f0 f1 c0 c1 hl1
    clear hE k0 k1 k2 k3 k4 k5 k6 k7 k8 hl
    go_wp2_with fail
    go_ret
    refine ⟨rfl, (g.to 0 w1).own, ?_, ?_⟩
    · exact (HE.out.mono (fun _ => False.elim)).trans (Mod.st (Mod.st Mod.self H1.out.blk.own) H1.out.blk.own)
    · rw [HV.out]
      exact (H1.out.st 12 (.int .i64 6) { S with pc := 6 } rfl rfl).st 19 (.int .i64 (frag * 8 + k)) { S with pc := 6, at_ := frag * 8 + k } rfl rfl
/-- An element's word: its number by eight. -/
theorem find_data (g : GW) (t b : Nat) (S : FindS) (frag : Int) (h : FindAt g t b S) (hk : 0 ≤ S.k) : Calls Try.prog 167 #[.pointer (some ⟨b, 0, none⟩), .int .i64 frag] g.w (Does (.bool true) g (fun x => x = t) (fun g' => FindAt g' t b (S.stands frag (S.k % 8)))) := by
  have c0 := h.blk.cell (i := 10) rfl
  have hl := h.blk.lt
  have HS := Lib.hid (find_stands g t b S frag (S.k % 8) h)
  clear h
  go_enter Try.func167, Try.ntmps167
  go_wp2_with fail
  refine HS.out.mono ?_
  rintro e w1 ⟨rfl, own1, m1, r1⟩
  have M1 := Lib.hid m1
  have R1 := Lib.hid r1
  clear m1 r1
  go_wp2_with fail
  go_ret
  exact ⟨rfl, own1, M1.out, R1.out⟩
/-- A word of a fragment is read. -/
def rdV (S : FindS) (m : MemS) (frag k : Int) : Value := if S.okAt frag k then .tuple #[.complex .f64 (m.peek (frag * 8 + k)).1 (m.peek (frag * 8 + k)).2, .bool (inB (frag * 8 + k) m.l.length)] else .tuple #[.complex .f64 0 0, .bool false]
def rdM (S : FindS) (m : MemS) (frag k : Int) : MemS := if S.okAt frag k then m.tick else m
theorem find_read (g : GW) (t b tm bm : Nat) (S : FindS) (m : MemS) (frag k : Int) (h : FindAt g t b S) (hm : MemAt g tm bm m) (hc : 0 ≤ m.count ∧ m.count ≤ 1099511627776) :
    Calls Try.prog 160 #[.pointer (some ⟨b, 0, none⟩), .pointer (some ⟨bm, 0, none⟩), .int .i64 frag, .int .i64 k] g.w (Does (rdV S m frag k) g (fun x => x = tm) (fun g' => MemAt g' tm bm (rdM S m frag k))) := by
  have k0 := h.blk.cell (i := 0) rfl
  have k1 := h.blk.cell (i := 1) rfl
  have k2 := h.blk.cell (i := 2) rfl
  have k3 := h.blk.cell (i := 3) rfl
  have k4 := h.blk.cell (i := 4) rfl
  have k5 := h.blk.cell (i := 5) rfl
  have k6 := h.blk.cell (i := 6) rfl
  have k7 := h.blk.cell (i := 7) rfl
  have k8 := h.blk.cell (i := 8) rfl
  have hl := h.blk.lt
  have HF := Lib.hid (frag_any S.c frag k g.w h.cnf.ok)
  have HM := Lib.hid hm
  unfold Cnf.val at HF
  clear h hm
  cases hok : S.okAt frag k
  · have HV := Lib.hid (show rdV S m frag k = .tuple #[.complex .f64 0 0, .bool false] by unfold rdV; rw [if_neg (by rw [hok]; simp)])
    have HV2 := Lib.hid (show rdM S m frag k = m by unfold rdM; rw [if_neg (by rw [hok]; simp)])
    rw [cFrag_no hok] at HF
    clear hok
    go_enter Try.func160, Try.ntmps160
    go_wp2_with fail
    refine HF.out.mono ?_
    rintro e w1 ⟨rfl, hE⟩
    have HE := Lib.hid (Mod.ext (T := fun _ => False) (g := g) (show Ext g.w w1 from hE) 0)
    clear hE
    go_wp2_with fail
    go_ret2
    exact ⟨by rw [HV.out]; rfl, (g.to 0 w1).own, HE.out.mono (fun _ => False.elim), by rw [HV2.out]; exact HM.out.keep HE.out id⟩
  · have HV := Lib.hid (show rdV S m frag k = .tuple #[.complex .f64 (m.peek (frag * 8 + k)).1 (m.peek (frag * 8 + k)).2, .bool (inB (frag * 8 + k) m.l.length)] by unfold rdV; rw [if_pos hok])
    have HV2 := Lib.hid (show rdM S m frag k = m.tick by unfold rdM; rw [if_pos hok])
    rw [cFrag_yes hok] at HF
    clear hok
    go_enter Try.func160, Try.ntmps160
    go_wp2_with fail
    refine HF.out.mono ?_
    rintro e w1 ⟨rfl, hE⟩
    have HE := Lib.hid (Mod.ext (T := fun _ => False) (g := g) (show Ext g.w w1 from hE) 0)
    have HM1 := Lib.hid (HM.out.keep HE.out id)
    clear hE
    go_wp2_with fail
    refine (mem_read (g.to 0 w1) tm bm (frag * 8 + k) m HM1.out hc).mono ?_
    rintro e w2 ⟨rfl, own2, m2, r2⟩
    have M2 := Lib.hid m2
    have R2 := Lib.hid r2
    clear m2 r2
    cases hb : inB (frag * 8 + k) m.l.length
    · rw [hb] at HV
      clear hb
      go_wp2_with fail
      go_ret2
      exact ⟨by rw [HV.out]; rfl, own2, (HE.out.mono (fun _ => False.elim)).trans M2.out, by rw [HV2.out]; exact R2.out⟩
    · rw [hb] at HV
      clear hb
      go_wp2_with fail
      go_ret2
      exact ⟨by rw [HV.out]; rfl, own2, (HE.out.mono (fun _ => False.elim)).trans M2.out, by rw [HV2.out]; exact R2.out⟩
end Go.Proofs.Ytmgkfpmmlibmcaa
