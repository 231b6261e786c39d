/-
  SpaceWhole: what every operation of a space keeps. No walk here.
-/
import Derived.Test.YtmgkfpmmlibmcaaPairP
import Derived.Test.YtmgkfpmmlibmcaaDrain
import Derived.Test.YtmgkfpmmlibmcaaMade
namespace Go.Proofs.Ytmgkfpmmlibmcaa
open Go Go.RowKit
set_option linter.unusedVariables false
set_option linter.unnecessarySimpa false
set_option linter.unusedSimpArgs false
theorem state_lt {T : TabS} {a : Nat} (h : T.state a ≠ 0) : a < T.l.length := by
  refine Decidable.byContradiction (fun hn => h ?_)
  unfold TabS.state
  rw [TabS.at_out (inB_big (by omega))]
  rfl
theorem set_state {T : TabS} {b a s : Nat} {hd u : Bool} (hb : b < T.l.length) (hs : s ≤ 2) : (T.set b s hd u).state a = if a = b then s else T.state a := by
  rw [tabSet hb hs]
  unfold TabS.state TabS.at_
  simp only [List.length_set]
  by_cases ha : a < T.l.length
  · rw [if_pos (inB_cast ha), if_pos (inB_cast ha), Int.toNat_natCast]
    by_cases e : a = b
    · subst e
      rw [List.getElem?_set_self hb, if_pos rfl]
      rfl
    · rw [List.getElem?_set_ne (Ne.symm e), if_neg e]
  · have h1 : inB (a : Int) T.l.length = false := inB_big (by omega)
    simp [h1, show ¬ a = b by omega]
theorem tset_len (T : TabS) (i s : Int) (h u : Bool) : (T.set i s h u).l.length = T.l.length := by unfold TabS.set; split <;> simp
theorem tset_ok {T : TabS} (h : ∀ o ∈ T.l, o.state ≤ 2) (i s : Int) (hd u : Bool) : ∀ o ∈ (T.set i s hd u).l, o.state ≤ 2 := by
  unfold TabS.set
  split
  · rename_i hm
    intro o ho
    rcases List.mem_or_eq_of_mem_set ho with h1 | h1
    · exact h o h1
    · subst h1
      unfold TabS.may at hm
      simp at hm
      show s.toNat ≤ 2
      omega
  · exact h
theorem setAllW (s : Nat) (u : Bool) (hs : s ≤ 2) : ∀ (l : List Int) (T : TabS), (∀ x ∈ l, ∃ a : Nat, x = a ∧ a < T.l.length) → (∀ o ∈ T.l, o.state ≤ 2) →
    (T.setAll l s u).l.length = T.l.length ∧ (∀ o ∈ (T.setAll l s u).l, o.state ≤ 2) ∧ ∀ a : Nat, (T.setAll l s u).state a = if (a : Int) ∈ l then s else T.state a
  | [], T, _, h => ⟨rfl, h, fun a => by simp [TabS.setAll]⟩
  | x :: l, T, hl, h => by
    obtain ⟨b, rfl, hb⟩ := hl x (by simp)
    have e : T.setAll ((b : Int) :: l) s u = (T.set b s false u).setAll l s u := rfl
    have hlen : (T.set b s false u).l.length = T.l.length := tset_len _ _ _ _ _
    obtain ⟨h1, h2, h3⟩ := setAllW s u hs l (T.set b s false u) (fun y hy => by rw [hlen]; exact hl y (List.mem_cons_of_mem _ hy)) (tset_ok h _ _ _ _)
    refine ⟨by rw [e, h1, hlen], by rw [e]; exact h2, fun a => ?_⟩
    rw [e, h3, set_state hb hs]
    by_cases hm : (a : Int) ∈ l
    · rw [if_pos hm, if_pos (List.mem_cons_of_mem _ hm)]
    · rw [if_neg hm]
      by_cases hab : a = b
      · subst hab; rw [if_pos rfl, if_pos (by simp)]
      · rw [if_neg hab, if_neg (fun h => by
          rcases List.mem_cons.1 h with h | h
          · omega
          · exact hm h)]
theorem takesW {got : List Int} {p : PoolS} (hg : ∀ x ∈ got, ∃ a : Nat, x = a) (a : Nat) : (p.takes got).l.getD a false = if (a : Int) ∈ got then false else p.l.getD a false := by
  by_cases hm : (a : Int) ∈ got
  · rw [if_pos hm, takes_hit got p a ⟨_, hm, Int.toNat_natCast a⟩]
  · rw [if_neg hm, PoolS.takes_getD _ _ _ (fun x hx e => by
      obtain ⟨b, rfl⟩ := hg x hx
      rw [Int.toNat_natCast] at e
      subst e
      exact hm hx)]
/-- Every fragment is somewhere. -/
structure WT (T : TabS) (P : PoolS) (K : List StockS) (n : Nat) : Prop where
  tl : T.l.length = n
  pl : P.l.length = n
  ok : ∀ o ∈ T.l, o.state ≤ 2
  free : ∀ a : Nat, a < n → (P.l.getD a false = true ↔ T.state a = 0)
  stk : ∀ x ∈ K.flatMap StockS.l, ∃ a : Nat, x = a ∧ a < n ∧ T.state a = 1
  nd : (K.flatMap StockS.l).Nodup
theorem split_at {K : List StockS} {t : Nat} (h : t < K.length) (s : StockS) : K.flatMap StockS.l = (K.take t).flatMap StockS.l ++ ((K.getD t noStock).l ++ (K.drop (t + 1)).flatMap StockS.l) ∧ (K.set t s).flatMap StockS.l = (K.take t).flatMap StockS.l ++ (s.l ++ (K.drop (t + 1)).flatMap StockS.l) := by
  have e1 : K = K.take t ++ K.getD t noStock :: K.drop (t + 1) := by
    have hg : K.getD t noStock = K[t] := by rw [List.getD_eq_getElem?_getD, List.getElem?_eq_getElem h]; rfl
    rw [hg, List.getElem_cons_drop, List.take_append_drop]
  constructor
  · conv => lhs; rw [e1]
    rw [List.flatMap_append, List.flatMap_cons]
  · rw [List.set_eq_take_append_cons_drop, if_pos h, List.flatMap_append, List.flatMap_cons]
section
variable {T : TabS} {P : PoolS} {K : List StockS} {n : Nat}
/-- So many are granted out of the pool. -/
theorem WT.grant (h : WT T P K n) {k : Int} {got : List Int} (hg : P.taken k = some got) (u : Bool) : WT (T.setAll got 2 u) (P.takes got) K n ∧ (got.length : Int) = k ∧ got.Nodup ∧ (∀ x ∈ got, ∃ a : Nat, x = a ∧ a < n ∧ T.state a = 0) ∧ ∀ a : Nat, (T.setAll got 2 u).state a = if (a : Int) ∈ got then 2 else T.state a := by
  obtain ⟨h1, h2, h3⟩ := taken_spec hg
  have h4 : ∀ x ∈ got, ∃ a : Nat, x = a ∧ a < n ∧ T.state a = 0 := fun x hx => by
    obtain ⟨j, e, hj, hf⟩ := h3 x hx
    rw [h.pl] at hj
    exact ⟨j, e, hj, (h.free j hj).1 hf⟩
  have hw := setAllW 2 u (by decide) got T (fun x hx => by obtain ⟨a, e, ha, -⟩ := h4 x hx; exact ⟨a, e, by rw [h.tl]; exact ha⟩) h.ok
  rw [show ((2 : Nat) : Int) = 2 from rfl] at hw
  obtain ⟨w1, w2, w3⟩ := hw
  refine ⟨⟨by rw [w1, h.tl], by rw [PoolS.takes_len, h.pl], w2, fun a ha => ?_, fun x hx => ?_, h.nd⟩, h1, h2, h4, w3⟩
  · rw [takesW (fun x hx => by obtain ⟨b, e, -⟩ := h4 x hx; exact ⟨b, e⟩), w3]
    by_cases hm : (a : Int) ∈ got
    · rw [if_pos hm, if_pos hm]; simp
    · rw [if_neg hm, if_neg hm]; exact h.free a ha
  · obtain ⟨a, rfl, ha, hs⟩ := h.stk x hx
    refine ⟨a, rfl, ha, ?_⟩
    rw [w3, if_neg (fun hm => ?_)]
    · exact hs
    · obtain ⟨b, e, -, hb⟩ := h4 _ hm
      obtain rfl : a = b := by omega
      omega
/-- The lowest free ones are laid into a stock. -/
theorem WT.more (h : WT T P K n) (k : Int) (u : Bool) {t : Nat} (ht : t < K.length) (most : Int) : WT (T.setAll (P.lowOnes k) 1 u) (P.takes (P.lowOnes k)) (K.set t ⟨(K.getD t noStock).l ++ P.lowOnes k, most⟩) n ∧ (∀ a : Nat, T.state a = 2 → (T.setAll (P.lowOnes k) 1 u).state a = 2) := by
  generalize hgot : P.lowOnes k = got
  have h4 : ∀ x ∈ got, ∃ a : Nat, x = a ∧ a < n ∧ T.state a = 0 := fun x hx => by
    rw [← hgot] at hx
    obtain ⟨j, e, -, hf⟩ := lowGo_ge _ _ _ x hx
    have hj : j < P.l.length := by
      refine Decidable.byContradiction (fun hn => ?_)
      rw [List.getD_eq_getElem?_getD, List.getElem?_eq_none (by omega)] at hf
      cases hf
    rw [h.pl] at hj
    exact ⟨j, e, hj, (h.free j hj).1 hf⟩
  have hnd : got.Nodup := by rw [← hgot]; exact lowGo_nodup _ _ _
  have hw := setAllW 1 u (by decide) got T (fun x hx => by obtain ⟨a, e, ha, -⟩ := h4 x hx; exact ⟨a, e, by rw [h.tl]; exact ha⟩) h.ok
  rw [show ((1 : Nat) : Int) = 1 from rfl] at hw
  obtain ⟨w1, w2, w3⟩ := hw
  obtain ⟨s1, s2⟩ := split_at ht ⟨(K.getD t noStock).l ++ got, most⟩
  have hp : ((K.set t ⟨(K.getD t noStock).l ++ got, most⟩).flatMap StockS.l).Perm (got ++ K.flatMap StockS.l) := by
    rw [s1, s2]
    simp only
    refine List.Perm.trans ?_ (List.perm_append_comm_assoc _ _ _)
    refine List.Perm.append_left _ ?_
    rw [List.append_assoc]
    exact List.perm_append_comm_assoc _ _ _
  refine ⟨⟨by rw [w1, h.tl], by rw [PoolS.takes_len, h.pl], w2, fun a ha => ?_, fun x hx => ?_, ?_⟩, fun a ha => ?_⟩
  · rw [takesW (fun x hx => by obtain ⟨b, e, -⟩ := h4 x hx; exact ⟨b, e⟩), w3]
    by_cases hm : (a : Int) ∈ got
    · rw [if_pos hm, if_pos hm]; simp
    · rw [if_neg hm, if_neg hm]; exact h.free a ha
  · rcases List.mem_append.1 (hp.mem_iff.1 hx) with hx | hx
    · obtain ⟨a, rfl, ha, -⟩ := h4 x hx
      exact ⟨a, rfl, ha, by rw [w3, if_pos hx]⟩
    · obtain ⟨a, rfl, ha, hs⟩ := h.stk x hx
      refine ⟨a, rfl, ha, ?_⟩
      rw [w3]
      split
      · rfl
      · exact hs
  · rw [hp.nodup_iff, List.nodup_append]
    refine ⟨hnd, h.nd, fun x hx y hy e => ?_⟩
    subst e
    obtain ⟨a, rfl, -, hs⟩ := h4 x hx
    obtain ⟨b, e, -, hs2⟩ := h.stk _ hy
    obtain rfl : a = b := by omega
    omega
  · rw [w3, if_neg (fun hm => ?_)]
    · exact ha
    · obtain ⟨b, e, -, hb⟩ := h4 _ hm
      obtain rfl : a = b := by omega
      omega
/-- Some of a stock's own are granted. -/
theorem WT.own (h : WT T P K n) (k : Nat) (u : Bool) {t : Nat} (ht : t < K.length) (most : Int) : WT (T.setAll ((K.getD t noStock).l.take k) 2 u) P (K.set t ⟨(K.getD t noStock).l.drop k, most⟩) n ∧ ((K.getD t noStock).l.take k).Nodup ∧ (∀ x ∈ (K.getD t noStock).l.take k, ∃ a : Nat, x = a ∧ a < n ∧ T.state a = 1) ∧ ∀ a : Nat, (T.setAll ((K.getD t noStock).l.take k) 2 u).state a = if (a : Int) ∈ (K.getD t noStock).l.take k then 2 else T.state a := by
  obtain ⟨s1, s2⟩ := split_at ht ⟨(K.getD t noStock).l.drop k, most⟩
  have hst := h.stk
  have hnd := h.nd
  rw [s1] at hst hnd
  generalize (K.getD t noStock).l = l at *
  generalize (K.take t).flatMap StockS.l = F1 at *
  generalize (K.drop (t + 1)).flatMap StockS.l = F2 at *
  have h4 : ∀ x ∈ l.take k, ∃ a : Nat, x = a ∧ a < n ∧ T.state a = 1 := fun x hx => hst x (List.mem_append.2 (Or.inr (List.mem_append.2 (Or.inl (List.mem_of_mem_take hx)))))
  have hw := setAllW 2 u (by decide) (l.take k) T (fun x hx => by obtain ⟨a, e, ha, -⟩ := h4 x hx; exact ⟨a, e, by rw [h.tl]; exact ha⟩) h.ok
  rw [show ((2 : Nat) : Int) = 2 from rfl] at hw
  obtain ⟨w1, w2, w3⟩ := hw
  have hl : (l.take k ++ (F1 ++ (l.drop k ++ F2))).Nodup := by
    have hp : (F1 ++ (l ++ F2)).Perm (l.take k ++ (F1 ++ (l.drop k ++ F2))) := by
      conv => lhs; rw [← List.take_append_drop k l]
      rw [List.append_assoc]
      exact List.perm_append_comm_assoc _ _ _
    exact hp.nodup_iff.1 hnd
  rw [List.nodup_append] at hl
  obtain ⟨n1, n2, n3⟩ := hl
  refine ⟨⟨by rw [w1, h.tl], h.pl, w2, fun a ha => ?_, fun x hx => ?_, by rw [s2]; exact n2⟩, n1, h4, w3⟩
  · rw [w3]
    by_cases hm : (a : Int) ∈ l.take k
    · obtain ⟨b, e, -, hb⟩ := h4 _ hm
      obtain rfl : a = b := by omega
      rw [if_pos hm, h.free a ha, hb]; simp
    · rw [if_neg hm]; exact h.free a ha
  · rw [s2] at hx
    have hx' : x ∈ F1 ++ (l ++ F2) := by
      rcases List.mem_append.1 hx with hx | hx
      · exact List.mem_append.2 (Or.inl hx)
      · rcases List.mem_append.1 hx with hx | hx
        · exact List.mem_append.2 (Or.inr (List.mem_append.2 (Or.inl (List.mem_of_mem_drop hx))))
        · exact List.mem_append.2 (Or.inr (List.mem_append.2 (Or.inr hx)))
    obtain ⟨a, rfl, ha, hs⟩ := hst x hx'
    refine ⟨a, rfl, ha, ?_⟩
    rw [w3, if_neg (fun hm => n3 _ hm _ hx rfl)]
    exact hs
/-- One is free again. -/
theorem WT.put {a : Nat} (hl : T.l.length = n) (pl : P.l.length = n) (ok : ∀ o ∈ T.l, o.state ≤ 2) (ha : a < n) : (T.set a 0 false false).l.length = n ∧ (P.give a).l.length = n ∧ (∀ o ∈ (T.set a 0 false false).l, o.state ≤ 2) ∧ ∀ b : Nat, (T.set a 0 false false).state b = (if b = a then 0 else T.state b) ∧ (P.give a).l.getD b false = if b = a then true else P.l.getD b false := by
  have hg : P.give a = ⟨P.l.set a true⟩ := by unfold PoolS.give; rw [if_pos (inB_cast (by rw [pl]; exact ha)), Int.toNat_natCast]
  refine ⟨by rw [tset_len, hl], by rw [hg]; simpa using pl, tset_ok ok _ _ _ _, fun b => ⟨?_, ?_⟩⟩
  · have := set_state (T := T) (a := b) (hd := false) (u := false) (by rw [hl]; exact ha) (show 0 ≤ 2 by decide)
    exact this
  · rw [hg, List.getD_eq_getElem?_getD, List.getD_eq_getElem?_getD]
    by_cases e : b = a
    · subst e; rw [if_pos rfl, List.getElem?_set_self (by rw [pl]; exact ha)]; rfl
    · rw [if_neg e, List.getElem?_set_ne (Ne.symm e)]
theorem WT.freedW : ∀ (l : List Int) (S : SpaceS), S.tab.l.length = n → S.pool.l.length = n → (∀ o ∈ S.tab.l, o.state ≤ 2) → (∀ x ∈ l, ∃ a : Nat, x = a ∧ a < n) →
    (S.freed l).tab.l.length = n ∧ (S.freed l).pool.l.length = n ∧ (∀ o ∈ (S.freed l).tab.l, o.state ≤ 2) ∧ ∀ b : Nat, (S.freed l).tab.state b = (if (b : Int) ∈ l then 0 else S.tab.state b) ∧ (S.freed l).pool.l.getD b false = if (b : Int) ∈ l then true else S.pool.l.getD b false
  | [], S, h1, h2, h3, _ => ⟨h1, h2, h3, fun b => by simp [SpaceS.freed]⟩
  | x :: l, S, h1, h2, h3, h4 => by
    obtain ⟨a, rfl, ha⟩ := h4 x (by simp)
    obtain ⟨p1, p2, p3, p4⟩ := WT.put h1 h2 h3 ha
    obtain ⟨q1, q2, q3, q4⟩ := WT.freedW l { S with tab := S.tab.set a 0 false false, pool := S.pool.give a } p1 p2 p3 (fun y hy => h4 y (List.mem_cons_of_mem _ hy))
    refine ⟨q1, q2, q3, fun b => ?_⟩
    obtain ⟨e1, e2⟩ := q4 b
    refine ⟨e1.trans ?_, e2.trans ?_⟩
    · by_cases hm : (b : Int) ∈ l
      · rw [if_pos hm, if_pos (List.mem_cons_of_mem _ hm)]
      · rw [if_neg hm]
        refine (p4 b).1.trans ?_
        by_cases hb : b = a
        · subst hb; rw [if_pos rfl, if_pos (by simp)]
        · rw [if_neg hb, if_neg (fun h => by
            rcases List.mem_cons.1 h with h | h
            · omega
            · exact hm h)]
    · by_cases hm : (b : Int) ∈ l
      · rw [if_pos hm, if_pos (List.mem_cons_of_mem _ hm)]
      · rw [if_neg hm]
        refine (p4 b).2.trans ?_
        by_cases hb : b = a
        · subst hb; rw [if_pos rfl, if_pos (by simp)]
        · rw [if_neg hb, if_neg (fun h => by
            rcases List.mem_cons.1 h with h | h
            · omega
            · exact hm h)]
theorem freed_line (S : SpaceS) (l : List Int) : (S.freed l).line = S.line := by
  unfold SpaceS.freed
  induction l generalizing S with
  | nil => rfl
  | cons x l ih => exact ih _
theorem cnt_all : ∀ l : List One, (∀ o ∈ l, o.state ≤ 2) → TabS.cnt ⟨l⟩ 0 + TabS.cnt ⟨l⟩ 1 + TabS.cnt ⟨l⟩ 2 = l.length
  | [], _ => rfl
  | o :: l, h => by
    have h1 := cnt_all l (fun x hx => h x (List.mem_cons_of_mem _ hx))
    have h2 := h o (by simp)
    unfold TabS.cnt at h1 ⊢
    simp only at h1 ⊢
    rw [List.countP_cons, List.countP_cons, List.countP_cons, List.length_cons]
    rcases (show o.state = 0 ∨ o.state = 1 ∨ o.state = 2 by omega) with e | e | e
    · rw [e]; simp; omega
    · rw [e]; simp; omega
    · rw [e]; simp; omega
theorem WT.counts (h : WT T P K n) : T.cnt 0 + T.cnt 1 + T.cnt 2 = n ∧ P.free = T.cnt 0 := by
  constructor
  · rw [← h.tl]
    exact cnt_all T.l h.ok
  · have e : P.l = T.l.map (fun o => o.state == 0) := by
      apply List.ext_getElem
      · simp [h.tl, h.pl]
      · intro i h1 h2
        have hi : i < n := by rw [← h.pl]; exact h1
        have hf := h.free i hi
        have hs : T.state i = (T.l[i]'(by rw [h.tl]; exact hi)).state := by
          unfold TabS.state
          rw [TabS.at_in (List.getElem?_eq_getElem (by rw [h.tl]; exact hi))]
          rfl
        rw [List.getD_eq_getElem?_getD, List.getElem?_eq_getElem h1, hs] at hf
        simp only [Option.getD_some] at hf
        rw [List.getElem_map]
        cases hb : P.l[i]
        · rw [hb] at hf
          simp at hf
          simp [hf]
        · rw [hb] at hf
          simp at hf
          simp [hf]
    unfold PoolS.free TabS.cnt
    rw [e, List.countP_map]
    rfl
end
end Go.Proofs.Ytmgkfpmmlibmcaa
