/-
  SpaceLine: the states that the law goes through. No walk here.
-/
import Derived.Test.YthebmcbpmboblaaPairP
import Derived.Test.YthebmcbpmboblaaFailsP
namespace Go.Proofs.Ythebmcbpmboblaa
open Go Go.RowKit
set_option linter.unusedVariables false
set_option linter.unnecessarySimpa false
set_option linter.unusedSimpArgs false
def s20 (A : Option Addr) : SpaceS := SpaceS.fresh (cS 20 0 0 A) (TabS.fresh 20)
def a20 (A : Option Addr) : Nat → SpaceS
  | 0 => s20 A
  | k + 1 => (ask (a20 A k) 0 1 0 true).2
def pairB (S : SpaceS) (n : Nat) : Bool := S.tab.l.length == n && S.pool.l.length == n && (List.range n).all fun a => match S.tab.l[a]? with
  | some o => (o.state == 0 && S.pool.l.getD a false) || (o.state == 2 && o.sense && !S.pool.l.getD a false)
  | none => false
theorem pairB_of {S : SpaceS} {n : Nat} (h : pairB S n = true) : Pair S n := by
  unfold pairB at h
  simp only [Bool.and_eq_true, beq_iff_eq, List.all_eq_true, List.mem_range] at h
  refine ⟨h.1.1, h.1.2, fun a ha => ?_⟩
  have := h.2 a ha
  cases ho : S.tab.l[a]? with
  | none => rw [ho] at this; cases this
  | some o =>
    rw [ho] at this
    simp only [Bool.or_eq_true, Bool.and_eq_true, beq_iff_eq, Bool.not_eq_true'] at this
    rcases this with h | h
    · exact ⟨o, rfl, Or.inl h⟩
    · exact ⟨o, rfl, Or.inr ⟨h.1.1, h.1.2, h.2⟩⟩
theorem a20_all : (fun A => (List.range 20).all fun k => (ask (a20 A k) 0 1 0 true).1.1 == 1 && lineOk (a20 A k)) = fun A => true := by kernel_rfl
theorem a20_end : (fun A => pairB (a20 A 20) 20 && (a20 A 20).pool.free == 0 && (a20 A 20).line.length == 0 && (a20 A 20).stocks.length == 3 && (a20 A 20).stocks.all fun s => s.l.length == 0) = fun A => true := by kernel_rfl
theorem a20_cnt (A : Option Addr) (k : Nat) : (a20 A k).count = k := by
  induction k with
  | zero => rfl
  | succ k ih =>
    show (ask (a20 A k) 0 1 0 true).2.count = _
    rw [ask_cnt, ih]
    omega
structure Run20 (S0 : SpaceS) (R : Nat → SpaceS) : Prop where
  r0 : R 0 = S0
  cnt : ∀ k : Nat, (R k).count = k
  one : ∀ k, k < 20 → (ask (R k) 0 1 0 true).1.1 = 1
  ok : ∀ k, k < 20 → lineOk (R k) = true
  nxt : ∀ k, (ask (R k) 0 1 0 true).2 = R (k + 1)
  pair : Pair (R 20) 20
  free : (R 20).pool.free = 0
  line : (R 20).line = []
  slen : (R 20).stocks.length = 3
  stock : ∀ t, (stockOf (R 20) t).l = []
theorem run20 (A : Option Addr) : ∃ R, Run20 (s20 A) R := by
  have h : ((List.range 20).all fun k => (ask (a20 A k) 0 1 0 true).1.1 == 1 && lineOk (a20 A k)) = true := congrFun a20_all A
  have e : (pairB (a20 A 20) 20 && (a20 A 20).pool.free == 0 && (a20 A 20).line.length == 0 && (a20 A 20).stocks.length == 3 && (a20 A 20).stocks.all fun s => s.l.length == 0) = true := congrFun a20_end A
  simp only [List.all_eq_true, List.mem_range, Bool.and_eq_true, beq_iff_eq] at h e
  obtain ⟨⟨⟨⟨e1, e2⟩, e3⟩, e4⟩, e5⟩ := e
  refine ⟨a20 A, rfl, a20_cnt A, fun k hk => (h k hk).1, fun k hk => (h k hk).2, fun k => rfl, pairB_of e1, e2, List.length_eq_zero_iff.1 e3, e4, fun t => ?_⟩
  unfold stockOf
  rw [List.getD_eq_getElem?_getD]
  cases hs : (a20 A 20).stocks[t.toNat]? with
  | none => rfl
  | some s => exact List.length_eq_zero_iff.1 (e5 s (List.mem_of_getElem? hs))
def szf (a b c : Int) : Nat → Int
  | 0 => a
  | 1 => b
  | 2 => c
  | _ => 0
/-- Those who came, ahead of the j-th. -/
def came (a b c : Int) : Nat → List Ent
  | 0 => []
  | 1 => [Ent.asked 0 a 0]
  | 2 => [Ent.asked 0 a 0, Ent.asked 1 b 0]
  | _ => [Ent.asked 0 a 0, Ent.asked 1 b 0, Ent.asked 2 c 0]
/-- Those who wait from the j-th on. -/
def reqs (a b c : Int) : Nat → List Ent
  | 0 => [Ent.asked 0 a 0, Ent.asked 1 b 0, Ent.asked 2 c 0]
  | 1 => [Ent.asked 1 b 0, Ent.asked 2 c 0]
  | 2 => [Ent.asked 2 c 0]
  | _ => []
structure Small3 (a b c : Int) : Prop where
  a : 1 ≤ a ∧ a ≤ 6
  b : 1 ≤ b ∧ b ≤ 6
  c : 1 ≤ c ∧ c ≤ 6
theorem Small3.sz {a b c : Int} (h : Small3 a b c) {j : Nat} (hj : j < 3) : 1 ≤ szf a b c j ∧ szf a b c j ≤ 6 := by
  rcases (show j = 0 ∨ j = 1 ∨ j = 2 by omega) with rfl | rfl | rfl
  · exact h.a
  · exact h.b
  · exact h.c
structure Ln (S : SpaceS) (l : List Ent) (free : Int) : Prop where
  pair : Pair S 20
  fr : (S.pool.free : Int) = free
  line : S.line = l
  slen : S.stocks.length = 3
  stock : ∀ t, (stockOf S t).l = []
theorem ln_ask {a b c : Int} {S : SpaceS} {j : Nat} (h : Ln S (came a b c j) 0) (hs : Small3 a b c) (hj : j < 3) :
    (ask S j (szf a b c j) 0 true).1.1 = 0 ∧ Ln (ask S j (szf a b c j) 0 true).2 (came a b c (j + 1)) 0 := by
  obtain ⟨s1, s2⟩ := hs.sz hj
  have hno : askNo S j (szf a b c j) 0 = false := by
    unfold askNo
    have h1 : inB (j : Int) S.stocks.length = true := by rw [h.slen]; exact inB_cast hj
    have h2 : placeOf (ofB (j : Int)) S.line < 0 := by
      rw [h.line]
      rcases (show j = 0 ∨ j = 1 ∨ j = 2 by omega) with rfl | rfl | rfl
      · exact (show (-1 : Int) < 0 by decide)
      · exact (show (-1 : Int) < 0 by decide)
      · exact (show (-1 : Int) < 0 by decide)
    rw [h1, decide_eq_false (show ¬ szf a b c j < 1 by omega), decide_eq_false (show ¬ (0 : Int) ≤ placeOf (ofB (j : Int)) S.line by omega)]
    rfl
  have hf : S.fits (szf a b c j) 0 = false := by
    unfold SpaceS.fits
    rw [decide_eq_false (by rw [h.fr]; omega)]
    rfl
  have e : ask S j (szf a b c j) 0 true = ((0, [], -1), { S.tick with line := S.line ++ [Ent.asked j (szf a b c j) 0] }) := by
    unfold ask
    rw [hno, if_neg (by simp), if_neg (by rw [h.stock]; simp; omega), if_pos (Or.inr hf)]
  rw [e]
  refine ⟨rfl, ⟨h.pair.tl, h.pair.pl, h.pair.each⟩, h.fr, ?_, h.slen, h.stock⟩
  show S.line ++ [Ent.asked j (szf a b c j) 0] = _
  rw [h.line]
  rcases (show j = 0 ∨ j = 1 ∨ j = 2 by omega) with rfl | rfl | rfl <;> rfl
theorem Ln.tick {S : SpaceS} {l : List Ent} {f : Int} (h : Ln S l f) : Ln S.tick l f := ⟨⟨h.pair.tl, h.pair.pl, h.pair.each⟩, h.fr, h.line, h.slen, h.stock⟩
theorem ln_sweep {S : SpaceS} {l : List Ent} {f : Int} (h : Ln S l f) (i : Int) : Ln (sweepS S i false) l (f + if sweeps S i false then 1 else 0) := by
  obtain ⟨p1, p2⟩ := h.pair.sweep i
  refine ⟨p1, by rw [p2, h.fr], ?_, ?_, ?_⟩
  · unfold sweepS; split <;> exact h.line
  · unfold sweepS; split <;> exact h.slen
  · unfold sweepS; split <;> exact h.stock
theorem sweep_cnt (S : SpaceS) (i : Int) (b : Bool) : (sweepS S i b).count = S.count + 1 := by unfold sweepS; split <;> rfl
theorem reqs_ok {a b c : Int} (hs : Small3 a b c) {S : SpaceS} {j : Nat} (h : S.line = reqs a b c j) : (∀ e ∈ S.line, e.fair) ∧ S.line.length ≤ 3 ∧ Ent.wait S.line = 3 - j := by
  obtain ⟨⟨a1, a2⟩, ⟨b1, b2⟩, ⟨c1, c2⟩⟩ := hs
  rw [h]
  have fa : (Ent.asked 0 a 0).fair := ⟨a1, by show a ≤ 1099511627776; omega, Int.le_refl _, by show (0 : Int) ≤ 1099511627776; decide⟩
  have fb : (Ent.asked 1 b 0).fair := ⟨b1, by show b ≤ 1099511627776; omega, Int.le_refl _, by show (0 : Int) ≤ 1099511627776; decide⟩
  have fc : (Ent.asked 2 c 0).fair := ⟨c1, by show c ≤ 1099511627776; omega, Int.le_refl _, by show (0 : Int) ≤ 1099511627776; decide⟩
  by_cases h3 : 3 ≤ j
  · have e : reqs a b c j = [] := by
      match j, h3 with
      | j + 3, _ => rfl
    rw [e]
    exact ⟨by simp, by simp, by simp [Ent.wait]; omega⟩
  · rcases (show j = 0 ∨ j = 1 ∨ j = 2 by omega) with rfl | rfl | rfl
    · refine ⟨fun e he => ?_, by simp [reqs], rfl⟩
      simp only [reqs, List.mem_cons, List.not_mem_nil, or_false] at he
      rcases he with rfl | rfl | rfl <;> assumption
    · refine ⟨fun e he => ?_, by simp [reqs], rfl⟩
      simp only [reqs, List.mem_cons, List.not_mem_nil, or_false] at he
      rcases he with rfl | rfl <;> assumption
    · refine ⟨fun e he => ?_, by simp [reqs], rfl⟩
      simp only [reqs, List.mem_cons, List.not_mem_nil, or_false] at he
      subst he
      assumption
/-- The first of those who wait. -/
theorem reqs_head {a b c : Int} {j : Nat} (hj : j < 3) : reqs a b c j = Ent.asked j (szf a b c j) 0 :: reqs a b c (j + 1) := by
  rcases (show j = 0 ∨ j = 1 ∨ j = 2 by omega) with rfl | rfl | rfl <;> rfl
theorem serve_no {a b c f : Int} {S : SpaceS} {j : Nat} (h : Ln S (reqs a b c j) f) (hn : j < 3 → f < szf a b c j) : serve S true = (false, S.tick) := by
  by_cases hj : j < 3
  · have hl := h.line
    rw [reqs_head hj] at hl
    have hp : placeOf waitB S.line = 0 := by rw [hl]; rfl
    have he : serveE S = Ent.asked j (szf a b c j) 0 := by unfold serveE; rw [hp, hl]; rfl
    unfold serve
    rw [hp, if_neg (by decide), he]
    have hf : S.fits (szf a b c j) 0 = false := by
      unfold SpaceS.fits
      rw [decide_eq_false (by rw [h.fr]; have := hn hj; omega)]
      rfl
    rw [show S.fits (Ent.asked (j : Int) (szf a b c j) 0).frags (Ent.asked (j : Int) (szf a b c j) 0).spine = false from hf, if_neg (by simp), if_neg (by show ¬ (2 : Int) ≤ 0; decide)]
  · have e : S.line = [] := by
      rw [h.line]
      match j, hj with
      | j + 3, _ => rfl
    unfold serve
    rw [e]
    rfl
theorem serve_yes {a b c f : Int} {S : SpaceS} {j : Nat} (h : Ln S (reqs a b c j) f) (hs : Small3 a b c) (hj : j < 3) (hf : szf a b c j ≤ f) :
    (serve S true).1 = true ∧ (serve S true).2.line.length ≤ 3 ∧ (look (serve S true).2 j).1.1 = 1 ∧ ((look (serve S true).2 j).1.2.1.length : Int) = szf a b c j ∧ Ln (look (serve S true).2 j).2 (reqs a b c (j + 1)) (f - szf a b c j) := by
  obtain ⟨s1, s2⟩ := hs.sz hj
  have hl := h.line
  rw [reqs_head hj] at hl
  have hp : placeOf waitB S.line = 0 := by rw [hl]; rfl
  have he : serveE S = Ent.asked j (szf a b c j) 0 := by unfold serveE; rw [hp, hl]; rfl
  have hfit : S.fits (szf a b c j) 0 = true := by
    unfold SpaceS.fits
    rw [decide_eq_true (by rw [h.fr]; exact hf)]
    rfl
  obtain ⟨got, hg⟩ := PoolS.taken_some (p := S.pool) (k := szf a b c j) s1 (by rw [h.fr]; exact hf)
  have hag : askGot S (szf a b c j) = got := by unfold askGot; rw [hg]; rfl
  have hsv : serve S true = (true, serveYes S.tick got 0 true) := by
    unfold serve
    rw [hp, if_neg (by decide), he]
    rw [show S.fits (Ent.asked (j : Int) (szf a b c j) 0).frags (Ent.asked (j : Int) (szf a b c j) 0).spine = true from hfit, if_pos rfl]
    show (true, serveYes S.tick (askGot S (szf a b c j)) 0 true) = _
    rw [hag]
  have hline : (serveYes S.tick got 0 true).line = { Ent.asked j (szf a b c j) 0 with state := 1, got := got, at_ := takesAt S.tick got 0 } :: reqs a b c (j + 1) := by
    show grantL S.line got (takesAt S.tick got 0) = _
    unfold grantL
    rw [hp, if_neg (by decide), hl]
    rfl
  have hpo : placeOf (ofB (j : Int)) (serveYes S.tick got 0 true).line = 0 := by
    rw [hline]
    unfold placeOf
    rw [List.findIdx?_cons, if_pos (by simp [ofB, Ent.asked])]
    rfl
  have hget : (serveYes S.tick got 0 true).line.getD (placeOf (ofB (j : Int)) (serveYes S.tick got 0 true).line).toNat ent0 = { Ent.asked j (szf a b c j) 0 with state := 1, got := got, at_ := takesAt S.tick got 0 } := by
    rw [hpo, hline]; rfl
  have hlk : look (serveYes S.tick got 0 true) j = ((1, got, takesAt S.tick got 0), { (serveYes S.tick got 0 true).tick with line := reqs a b c (j + 1) }) := by
    unfold look
    rw [hget]
    rw [if_neg (by rw [hpo]; decide), if_neg (by simp [Ent.asked]), if_neg (by simp [Ent.asked])]
    have hd : dropL (j : Int) (serveYes S.tick got 0 true).line = reqs a b c (j + 1) := by
      unfold dropL
      rw [hpo, if_neg (by decide), hline]
      rfl
    rw [hd]
  rw [hsv]
  simp only
  rw [hlk]
  obtain ⟨h1, -, -⟩ := taken_spec hg
  obtain ⟨p1, p2⟩ := h.pair.grant hg ({ (serveYes S.tick got 0 true).tick with line := reqs a b c (j + 1) }) rfl rfl
  refine ⟨trivial, ?_, rfl, h1, ⟨p1, by rw [p2, h.fr], rfl, h.slen, h.stock⟩⟩
  rw [hline, List.length_cons]
  have := (reqs_ok (j := j + 1) hs (S := { S with line := reqs a b c (j + 1) }) rfl).2.1
  rcases (show j = 0 ∨ j = 1 ∨ j = 2 by omega) with rfl | rfl | rfl <;> simp [reqs]
end Go.Proofs.Ythebmcbpmboblaa
