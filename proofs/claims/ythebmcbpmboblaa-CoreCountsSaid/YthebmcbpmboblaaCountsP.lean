/-
  CoreCounts: what one request for one fragment leaves. No walk here.
-/
import Derived.Test.YthebmcbpmboblaaCore2
namespace Go.Proofs.Ythebmcbpmboblaa
open Go Go.RowKit
set_option linter.unusedVariables false
set_option linter.unnecessarySimpa false
set_option linter.unusedSimpArgs false
theorem lowGo_free {l : List Bool} : ∀ (f k i : Nat), ∀ x ∈ PoolS.lowGo l k f i, l.getD x.toNat false = true
  | 0, k, i, x, h => by simp [PoolS.lowGo] at h
  | f + 1, k, i, x, h => by
    rw [PoolS.lowGo] at h
    split at h
    · simp at h
    · split at h
      · rename_i hg
        rcases List.mem_cons.1 h with rfl | h
        · simpa using hg
        · exact lowGo_free f _ _ x h
      · exact lowGo_free f _ _ x h
theorem lowGo_none {l : List Bool} {k : Nat} : ∀ (f i : Nat), PoolS.lowGo l (k + 1) f i = [] → ∀ q, i ≤ q → q < i + f → l.getD q false = false
  | 0, i, h, q, h1, h2 => by omega
  | f + 1, i, h, q, h1, h2 => by
    rw [PoolS.lowGo, if_neg (by omega)] at h
    by_cases hg : l.getD i false = true
    · rw [if_pos hg] at h; cases h
    · rw [if_neg hg] at h
      by_cases hq : q = i
      · subst hq; simpa using hg
      · exact lowGo_none f (i + 1) h q (by omega) (by omega)
theorem free_none {p : PoolS} (h : ∀ q, q < p.l.length → p.l.getD q false = false) : p.free = 0 := by
  unfold PoolS.free
  rw [List.countP_eq_zero]
  intro a ha
  obtain ⟨q, hq, rfl⟩ := List.getElem_of_mem ha
  have := h q hq
  rw [List.getD_eq_getElem?_getD, List.getElem?_eq_getElem hq] at this
  simpa using this
/-- One fragment that was free. -/
theorem taken_one {p : PoolS} {l : List Int} (h : p.taken 1 = some l) : ∃ a : Nat, l = [(a : Int)] ∧ a < p.l.length := by
  have hb := fun x hx => PoolS.taken_bd h (x := x) hx
  unfold PoolS.taken at h
  split at h
  · cases h
  · rename_i hn
    split at h
    · rename_i a ha
      injection h with h
      refine ⟨a, by rw [← h]; simp, ?_⟩
      obtain ⟨j, hj, hl⟩ := hb (a : Int) (by rw [← h]; simp)
      omega
    · injection h with h
      have hlen := (PoolS.lowGo_len (l := p.l) p.l.length 1 0).1
      have hl : PoolS.lowGo p.l 1 p.l.length 0 = l := h
      rw [hl] at hlen
      rcases l with _ | ⟨x, l⟩
      · have := free_none (p := p) (fun q hq => lowGo_none (k := 0) p.l.length 0 hl q (by omega) (by omega))
        omega
      · obtain rfl : l = [] := List.length_eq_zero_iff.1 (by simp only [List.length_cons] at hlen; omega)
        obtain ⟨j, rfl, hj⟩ := hb x (by simp)
        exact ⟨j, rfl, hj⟩
theorem takes_one (p : PoolS) (a : Nat) : p.takes [(a : Int)] = ⟨p.l.set a false⟩ := by simp [PoolS.takes]
theorem tabset_len (T : TabS) (i s : Int) (h u : Bool) : (T.set i s h u).l.length = T.l.length := by unfold TabS.set; split <;> simp
theorem tabset_heads {T : TabS} (h : ∀ o ∈ T.l, o.head = false) (i s : Int) (u : Bool) : ∀ o ∈ (T.set i s false u).l, o.head = false := by
  unfold TabS.set
  split
  · intro o ho
    rcases List.mem_or_eq_of_mem_set ho with ho | rfl
    · exact h o ho
    · rfl
  · exact h
theorem setAll_len (l : List Int) (s : Int) (u : Bool) : ∀ T : TabS, (T.setAll l s u).l.length = T.l.length := by
  induction l with
  | nil => intro T; rfl
  | cons x l ih => intro T; show ((T.set x s false u).setAll l s u).l.length = _; rw [ih, tabset_len]
theorem setAll_heads (l : List Int) (s : Int) (u : Bool) : ∀ T : TabS, (∀ o ∈ T.l, o.head = false) → ∀ o ∈ (T.setAll l s u).l, o.head = false := by
  induction l with
  | nil => intro T h; exact h
  | cons x l ih => intro T h; exact ih _ (tabset_heads h x s u)
theorem tabset_other (T : TabS) (a : Nat) (i s : Int) (h u : Bool) (hi : i.toNat ≠ a) : (T.set i s h u).state a = T.state a := by
  unfold TabS.set
  split
  · unfold TabS.state TabS.at_
    simp only [List.length_set, Int.toNat_natCast]
    rw [List.getElem?_set_ne hi]
  · rfl
theorem setAll_other (a : Nat) (l : List Int) (s : Int) (u : Bool) : ∀ T : TabS, (∀ x ∈ l, x.toNat ≠ a) → (T.setAll l s u).state a = T.state a := by
  induction l with
  | nil => intro T h; rfl
  | cons x l ih =>
    intro T h
    show ((T.set x s false u).setAll l s u).state a = _
    rw [ih _ (fun y hy => h y (List.mem_cons_of_mem _ hy)), tabset_other _ _ _ _ _ _ (h x (by simp))]
theorem tabset_used (T : TabS) (a : Nat) (u : Bool) (ha : a < T.l.length) : (T.set a 2 false u).state a = 2 := by
  rw [show (2 : Int) = ((2 : Nat) : Int) from rfl, tabSet ha (by decide)]
  unfold TabS.state
  rw [TabS.at_in (o := ⟨2, false, u⟩) (by simp [ha])]
  rfl
structure KOk (S : SpaceS) : Prop where
  heads : ∀ o ∈ S.tab.l, o.head = false
  len : S.tab.l.length = S.pool.l.length
  stock : ∀ x ∈ (stockOf S 0).l, ∃ j : Nat, x = j ∧ j < S.tab.l.length
theorem KOk.head {S : SpaceS} (h : KOk S) (i : Int) : S.tab.head i = false := by
  unfold TabS.head TabS.at_
  split
  · cases ho : S.tab.l[i.toNat]? with
    | none => rfl
    | some o => exact h.heads o (List.mem_of_getElem? ho)
  · rfl
theorem stockOf_set {S : SpaceS} {s : StockS} {l : List StockS} (h : S.stocks = l.set 0 s) (hl : 0 < l.length) : stockOf S 0 = s := by
  unfold stockOf
  rw [h]
  simp [List.getD_eq_getElem?_getD, hl]
theorem ask_one (S : SpaceS) (h : KOk S) : KOk (ask S 0 1 0 true).2 ∧ ((ask S 0 1 0 true).1.1 = 1 → ∃ x, (ask S 0 1 0 true).1.2.1 = [x] ∧ (ask S 0 1 0 true).2.tab.state x = 2) := by
  have hno : askNo S 0 1 0 = false → 0 < S.stocks.length := fun hh => by
    unfold askNo inB at hh
    simp at hh
    omega
  unfold ask
  split
  · exact ⟨⟨h.heads, h.len, h.stock⟩, fun e => by simp at e⟩
  · rename_i hn
    have hs := hno (by simpa using hn)
    split
    · rename_i ho
      obtain ⟨s, hsl⟩ : ∃ s, stockOf S 0 = s := ⟨_, rfl⟩
      have hst := h.stock
      rw [hsl] at ho hst
      have h1 := ho.2
      obtain ⟨sl, sm⟩ := s
      rcases sl with _ | ⟨x, sl⟩
      · simp at h1
      obtain ⟨j, rfl, hj⟩ := hst x (by simp)
      refine ⟨⟨?_, ?_, ?_⟩, fun _ => ⟨(j : Int), by rw [hsl]; rfl, ?_⟩⟩
      · exact setAll_heads _ _ _ _ h.heads
      · show (S.tab.setAll _ _ _).l.length = _
        rw [setAll_len]; exact h.len
      · intro y hy
        rw [stockOf_set (S := askOwn S.tick 0 1 true) (s := ⟨(stockOf S 0).l.drop 1, (stockOf S 0).most⟩) rfl hs, hsl] at hy
        obtain ⟨q, hq, hq2⟩ := hst y (List.mem_of_mem_drop hy)
        exact ⟨q, hq, by show q < (S.tab.setAll _ _ _).l.length; rw [setAll_len]; exact hq2⟩
      · show (S.tab.setAll ((stockOf S 0).l.take 1) 2 true).state j = 2
        rw [hsl]
        exact tabset_used S.tab j true hj
    · split
      · exact ⟨⟨h.heads, h.len, h.stock⟩, fun e => by simp at e⟩
      · rename_i hw
        have hfit : S.fits 1 0 = true := by cases hf : S.fits 1 0 <;> simp [hf] at hw ⊢
        have hfree : (1 : Int) ≤ (S.pool.free : Int) := by
          unfold SpaceS.fits at hfit
          simp only [Bool.and_eq_true, decide_eq_true_eq] at hfit
          exact hfit.1
        obtain ⟨l, hl⟩ := PoolS.taken_some (p := S.pool) (k := 1) (by omega) hfree
        obtain ⟨a, rfl, ha⟩ := taken_one hl
        have hg : askGot S 1 = [(a : Int)] := by unfold askGot; rw [hl]; rfl
        have hg2 : askGot S.tick 1 = [(a : Int)] := hg
        have hpl : ∀ sp, (takesS S.tick [(a : Int)] sp).pool = ⟨S.pool.l.set a false⟩ := fun sp => takes_one S.pool a
        have hmore : ∀ x ∈ askMore S.tick 0 1 0, ∃ j : Nat, x = j ∧ j < S.pool.l.length ∧ j ≠ a := by
          intro x hx
          unfold askMore at hx
          rw [hg2, hpl] at hx
          obtain ⟨j, rfl, hj⟩ := PoolS.lowOnes_bd hx
          have hf := lowGo_free _ _ _ _ hx
          refine ⟨j, rfl, by simpa using hj, fun e => ?_⟩
          subst e
          rw [Int.toNat_natCast, List.getD_eq_getElem?_getD] at hf
          simp [ha] at hf
        refine ⟨⟨?_, ?_, ?_⟩, fun _ => ⟨(a : Int), hg, ?_⟩⟩
        · exact setAll_heads _ _ _ _ (setAll_heads _ _ _ _ h.heads)
        · show ((S.tab.setAll _ _ _).setAll _ _ _).l.length = ((takesS S.tick (askGot S.tick 1) 0).pool.takes _).l.length
          rw [setAll_len, setAll_len, PoolS.takes_len, hg2, hpl]
          simp only [List.length_set]
          exact h.len
        · intro y hy
          rw [stockOf_set (S := askAll S.tick 0 1 0 true) (s := ⟨(stockOf S 0).l ++ askMore S.tick 0 1 0, (stockOf S 0).most⟩) rfl hs] at hy
          have e : (askAll S.tick 0 1 0 true).tab.l.length = S.tab.l.length := by
            show ((S.tab.setAll _ _ _).setAll _ _ _).l.length = _
            rw [setAll_len, setAll_len]
          rw [e]
          rcases List.mem_append.1 hy with hy | hy
          · exact h.stock y hy
          · obtain ⟨j, hj, hj2, -⟩ := hmore y hy
            exact ⟨j, hj, by rw [h.len]; exact hj2⟩
        · show ((S.tab.setAll (askGot S.tick 1) 2 true).setAll (askMore S.tick 0 1 0) 1 true).state a = 2
          rw [setAll_other a _ _ _ _ (fun x hx => by obtain ⟨j, rfl, -, hj⟩ := hmore x hx; simpa using hj), hg2]
          exact tabset_used S.tab a true (by rw [h.len]; exact ha)
theorem fresh_ok (c : Cnf) : KOk (SpaceS.fresh c (TabS.fresh c.frags.toNat)) := by
  refine ⟨fun o ho => ?_, by simp [SpaceS.fresh, TabS.fresh], fun x hx => ?_⟩
  · have ho' : o ∈ List.replicate c.frags.toNat One.zero := ho
    rw [List.eq_of_mem_replicate ho']
    rfl
  · exfalso
    have e : (stockOf (SpaceS.fresh c (TabS.fresh c.frags.toNat)) 0).l = [] := by
      unfold stockOf SpaceS.fresh
      simp only [List.getD_eq_getElem?_getD, List.getElem?_replicate]
      split <;> rfl
    rw [e] at hx
    simp at hx
end Go.Proofs.Ythebmcbpmboblaa
