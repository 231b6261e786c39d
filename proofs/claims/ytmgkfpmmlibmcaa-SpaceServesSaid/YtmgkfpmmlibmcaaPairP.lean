/-
  space: what a grant and a sweep do to table and pool. No walk here.
-/
import Derived.Test.YtmgkfpmmlibmcaaSpaceM
import Derived.Test.YtmgkfpmmlibmcaaFirst21
namespace Go.Proofs.Ytmgkfpmmlibmcaa
open Go Go.RowKit
set_option linter.unusedVariables false
set_option linter.unnecessarySimpa false
set_option linter.unusedSimpArgs false
theorem lowGo_count {l : List Bool} : ∀ (f k i : Nat), (PoolS.lowGo l k f i).length = min k (((l.drop i).take f).countP id)
  | 0, k, i => by simp [PoolS.lowGo]
  | f + 1, k, i => by
    rw [PoolS.lowGo]
    by_cases hk : k = 0
    · rw [if_pos hk, hk]; simp
    · rw [if_neg hk]
      by_cases hi : i < l.length
      · have hg : l.getD i false = l[i] := by rw [List.getD_eq_getElem?_getD, List.getElem?_eq_getElem hi]; rfl
        rw [hg, List.drop_eq_getElem_cons hi, List.take_succ_cons, List.countP_cons]
        cases hb : l[i]
        · rw [if_neg (by simp), lowGo_count f k (i + 1)]; simp
        · rw [if_pos rfl, List.length_cons, lowGo_count f (k - 1) (i + 1)]; simp; omega
      · have hg : l.getD i false = false := by rw [List.getD_eq_getElem?_getD, List.getElem?_eq_none (by omega)]; rfl
        rw [hg, if_neg (by simp), lowGo_count f k (i + 1), List.drop_of_length_le (by omega), List.drop_of_length_le (by omega)]
        simp
theorem lowGo_ge {l : List Bool} : ∀ (f k i : Nat), ∀ x ∈ PoolS.lowGo l k f i, ∃ j : Nat, x = j ∧ i ≤ j ∧ l.getD j false = true
  | 0, k, i, x, h => by simp [PoolS.lowGo] at h
  | f + 1, k, i, x, h => by
    rw [PoolS.lowGo] at h
    split at h
    · simp at h
    · split at h
      · rename_i hg
        rcases List.mem_cons.1 h with rfl | h
        · exact ⟨i, rfl, Nat.le_refl _, hg⟩
        · obtain ⟨j, h1, h2, h3⟩ := lowGo_ge f _ _ x h
          exact ⟨j, h1, by omega, h3⟩
      · obtain ⟨j, h1, h2, h3⟩ := lowGo_ge f _ _ x h
        exact ⟨j, h1, by omega, h3⟩
theorem lowGo_nodup {l : List Bool} : ∀ (f k i : Nat), (PoolS.lowGo l k f i).Nodup
  | 0, k, i => by simp [PoolS.lowGo]
  | f + 1, k, i => by
    rw [PoolS.lowGo]
    split
    · simp
    · split
      · refine List.nodup_cons.2 ⟨fun h => ?_, lowGo_nodup f _ _⟩
        obtain ⟨j, h1, h2, -⟩ := lowGo_ge f _ _ _ h
        omega
      · exact lowGo_nodup f _ _
/-- What is taken: so many, none twice, each was free. -/
theorem taken_spec {p : PoolS} {k : Int} {l : List Int} (h : p.taken k = some l) : (l.length : Int) = k ∧ l.Nodup ∧ ∀ x ∈ l, ∃ j : Nat, x = j ∧ j < p.l.length ∧ p.l.getD j false = true := by
  have hb := fun x hx => PoolS.taken_bd h (x := x) hx
  unfold PoolS.taken at h
  split at h
  · cases h
  · rename_i hn
    split at h
    · rename_i a ha
      injection h with h
      obtain ⟨h1, h2, h3⟩ := PoolS.run_spec ha
      subst h
      refine ⟨by simp; omega, ?_, fun x hx => ?_⟩
      · rw [List.Nodup, List.pairwise_map]
        exact List.Pairwise.imp (fun {a b} hab => by omega) (List.nodup_range (n := k.toNat))
      · obtain ⟨j, hj, rfl⟩ := List.mem_map.1 hx
        have := List.mem_range.1 hj
        exact ⟨a + j, rfl, by omega, h3 _ (by omega) (by omega)⟩
    · injection h with h
      have hc := lowGo_count (l := p.l) p.l.length k.toNat 0
      have hl : PoolS.lowGo p.l k.toNat p.l.length 0 = l := h
      rw [hl] at hc
      rw [List.drop_zero, List.take_length] at hc
      have hf : (p.l.countP id : Int) = (p.free : Int) := rfl
      refine ⟨by omega, by rw [← hl]; exact lowGo_nodup _ _ _, fun x hx => ?_⟩
      obtain ⟨j, hj, hjl⟩ := hb x hx
      rw [← hl] at hx
      obtain ⟨j', h1, -, h3⟩ := lowGo_ge _ _ _ x hx
      obtain rfl : j' = j := by omega
      exact ⟨j', h1, hjl, h3⟩
theorem takes_free : ∀ (got : List Int) (p : PoolS), got.Nodup → (∀ x ∈ got, ∃ j : Nat, x = j ∧ j < p.l.length ∧ p.l.getD j false = true) → ((p.takes got).free : Int) = p.free - got.length
  | [], p, _, _ => by show (p.free : Int) = _; simp
  | x :: got, p, hn, hf => by
    obtain ⟨j, rfl, hj, hg⟩ := hf x (by simp)
    have hn' := List.nodup_cons.1 hn
    have e : p.takes ((j : Int) :: got) = PoolS.takes ⟨p.l.set j false⟩ got := by simp [PoolS.takes]
    rw [e, takes_free got ⟨p.l.set j false⟩ hn'.2 (fun y hy => by
      obtain ⟨q, rfl, hq, hqg⟩ := hf y (List.mem_cons_of_mem _ hy)
      refine ⟨q, rfl, by simpa using hq, ?_⟩
      have hne : j ≠ q := fun e => hn'.1 (by rw [e]; exact hy)
      rw [List.getD_eq_getElem?_getD] at hqg ⊢
      rw [List.getElem?_set_ne hne]
      exact hqg), PoolS.free_set hj false, hg, show PoolS.free ⟨p.l⟩ = p.free from rfl]
    simp only [List.length_cons, if_pos]
    simp
    omega
theorem takes_hit : ∀ (got : List Int) (p : PoolS) (q : Nat), (∃ x ∈ got, x.toNat = q) → (p.takes got).l.getD q false = false
  | [], p, q, h => by simp at h
  | x :: got, p, q, h => by
    have e : p.takes (x :: got) = PoolS.takes ⟨p.l.set x.toNat false⟩ got := rfl
    rw [e]
    by_cases hm : ∃ y ∈ got, y.toNat = q
    · exact takes_hit got _ q hm
    · rw [PoolS.takes_getD _ _ _ (fun y hy hq => hm ⟨y, hy, hq⟩)]
      obtain ⟨y, hy, hq⟩ := h
      rcases List.mem_cons.1 hy with rfl | hy
      · rw [List.getD_eq_getElem?_getD, hq]
        by_cases hl : q < p.l.length
        · simp [hl]
        · rw [List.getElem?_eq_none (by simp; omega)]; rfl
      · exact absurd ⟨y, hy, hq⟩ hm
theorem setAll_out (a : Nat) : ∀ (got : List Int) (T : TabS), (∀ x ∈ got, x.toNat ≠ a) → (T.setAll got 2 true).l[a]? = T.l[a]?
  | [], T, _ => rfl
  | x :: got, T, h => by
    show (((T.set x 2 false true).setAll got 2 true).l)[a]? = _
    rw [setAll_out a got _ (fun y hy => h y (List.mem_cons_of_mem _ hy))]
    unfold TabS.set
    split
    · simp only; rw [List.getElem?_set_ne (h x (by simp))]
    · rfl
theorem setAll_length2 : ∀ (got : List Int) (T : TabS), (T.setAll got 2 true).l.length = T.l.length
  | [], T => rfl
  | x :: got, T => by
    show ((T.set x 2 false true).setAll got 2 true).l.length = _
    rw [setAll_length2 got]
    unfold TabS.set
    split <;> simp
theorem setAll_in (a : Nat) : ∀ (got : List Int) (T : TabS), a < T.l.length → (a : Int) ∈ got → (T.setAll got 2 true).l[a]? = some ⟨2, false, true⟩
  | [], T, _, h => by simp at h
  | x :: got, T, ha, h => by
    show (((T.set x 2 false true).setAll got 2 true).l)[a]? = _
    have hlen : (T.set x 2 false true).l.length = T.l.length := by unfold TabS.set; split <;> simp
    by_cases hm : (a : Int) ∈ got
    · exact setAll_in a got _ (by rw [hlen]; exact ha) hm
    · by_cases hm2 : ∃ y ∈ got, y.toNat = a
      · obtain ⟨y, hy, hya⟩ := hm2
        by_cases hy0 : 0 ≤ y
        · exact absurd (by rw [show (a : Int) = y by omega]; exact hy) hm
        · -- a negative one sets nothing
          have hx : x = (a : Int) := by
            rcases List.mem_cons.1 h with h | h
            · exact h.symm
            · exact absurd h hm
          subst hx
          rw [show (2 : Int) = ((2 : Nat) : Int) from rfl, tabSet ha (by decide)]
          -- the rest keeps it
          exact setAll_keep a got _ (by simp [ha])
      · rw [setAll_out a got _ (fun y hy hq => hm2 ⟨y, hy, hq⟩)]
        have hx : x = (a : Int) := by
          rcases List.mem_cons.1 h with h | h
          · exact h.symm
          · exact absurd h hm
        subst hx
        rw [show (2 : Int) = ((2 : Nat) : Int) from rfl, tabSet ha (by decide)]
        simp [ha]
where
  setAll_keep (a : Nat) : ∀ (got : List Int) (T : TabS), T.l[a]? = some ⟨2, false, true⟩ → (T.setAll got 2 true).l[a]? = some ⟨2, false, true⟩
    | [], T, h => h
    | x :: got, T, h => by
      show (((T.set x 2 false true).setAll got 2 true).l)[a]? = _
      refine setAll_keep a got _ ?_
      unfold TabS.set
      split
      · simp only
        by_cases e : x.toNat = a
        · rw [e, List.getElem?_set_self (List.getElem?_eq_some_iff.1 h).1]; rfl
        · rw [List.getElem?_set_ne e]; exact h
      · exact h
/-- Table and pool agree: each fragment is free in both, or used, black for 'true', and not in the pool. -/
structure Pair (S : SpaceS) (n : Nat) : Prop where
  tl : S.tab.l.length = n
  pl : S.pool.l.length = n
  each : ∀ a, a < n → ∃ o, S.tab.l[a]? = some o ∧ ((o.state = 0 ∧ S.pool.l.getD a false = true) ∨ (o.state = 2 ∧ o.sense = true ∧ S.pool.l.getD a false = false))
theorem Pair.grant {S : SpaceS} {n : Nat} (h : Pair S n) {k : Int} {got : List Int} (hg : S.pool.taken k = some got) (S' : SpaceS) (ht : S'.tab = S.tab.setAll got 2 true) (hp : S'.pool = S.pool.takes got) : Pair S' n ∧ (S'.pool.free : Int) = S.pool.free - k := by
  obtain ⟨h1, h2, h3⟩ := taken_spec hg
  refine ⟨⟨by rw [ht, setAll_length2]; exact h.tl, by rw [hp, PoolS.takes_len]; exact h.pl, fun a ha => ?_⟩, by rw [hp, takes_free _ _ h2 h3, h1]⟩
  by_cases hm : (a : Int) ∈ got
  · exact ⟨_, by rw [ht]; exact setAll_in a got _ (by rw [h.tl]; exact ha) hm, Or.inr ⟨rfl, rfl, by rw [hp]; exact takes_hit _ _ _ ⟨_, hm, Int.toNat_natCast a⟩⟩⟩
  · have hno : ∀ x ∈ got, x.toNat ≠ a := fun x hx e => by
      obtain ⟨j, rfl, -, -⟩ := h3 x hx
      rw [Int.toNat_natCast] at e
      subst e
      exact hm hx
    obtain ⟨o, ho, hc⟩ := h.each a ha
    refine ⟨o, by rw [ht, setAll_out a got _ hno]; exact ho, ?_⟩
    rw [hp, PoolS.takes_getD _ _ _ hno]
    exact hc
/-- A sweep of a used fragment frees it. -/
theorem Pair.sweep {S : SpaceS} {n : Nat} (h : Pair S n) (i : Int) : Pair (sweepS S i false) n ∧ ((sweepS S i false).pool.free : Int) = S.pool.free + (if sweeps S i false then 1 else 0) := by
  unfold sweepS
  cases hs : sweeps S i false
  · exact ⟨⟨h.tl, h.pl, h.each⟩, by simp [SpaceS.tick]⟩
  · unfold sweeps at hs
    have hst : S.tab.state i = 2 := by simp at hs; exact hs.1
    have hin : inB i S.tab.l.length = true := by
      cases hi : inB i S.tab.l.length
      · rw [TabS.state, TabS.at_out hi] at hst; cases hst
      · rfl
    obtain ⟨a, rfl, ha⟩ := inB_true hin
    have han : a < n := by rw [← h.tl]; exact ha
    obtain ⟨o, ho, hc⟩ := h.each a han
    have hso : o.state = 2 := by rw [TabS.state, TabS.at_in ho] at hst; exact hst
    have hpf : S.pool.l.getD a false = false := by
      rcases hc with hc | hc
      · omega
      · exact hc.2.2
    have hap : a < S.pool.l.length := by rw [h.pl]; exact han
    have hgive : S.pool.give a = ⟨S.pool.l.set a true⟩ := by unfold PoolS.give; rw [if_pos (inB_cast hap), Int.toNat_natCast]
    have hset : S.tab.set a 0 false false = ⟨S.tab.l.set a ⟨0, false, false⟩⟩ := tabSet ha (by decide)
    rw [if_pos rfl]
    refine ⟨⟨?_, ?_, fun q hq => ?_⟩, ?_⟩
    · show (S.tab.set a 0 false false).l.length = n
      rw [hset]; simpa using h.tl
    · show (S.pool.give a).l.length = n
      rw [hgive]; simpa using h.pl
    · show ∃ o, (S.tab.set a 0 false false).l[q]? = some o ∧ ((o.state = 0 ∧ (S.pool.give a).l.getD q false = true) ∨ (o.state = 2 ∧ o.sense = true ∧ (S.pool.give a).l.getD q false = false))
      rw [hset, hgive]
      simp only [List.getD_eq_getElem?_getD]
      by_cases e : a = q
      · subst e
        exact ⟨⟨0, false, false⟩, List.getElem?_set_self ha, Or.inl ⟨rfl, by rw [List.getElem?_set_self hap]; rfl⟩⟩
      · obtain ⟨o, ho, hc⟩ := h.each q hq
        rw [List.getElem?_set_ne e, List.getElem?_set_ne e]
        refine ⟨o, ho, ?_⟩
        rw [List.getD_eq_getElem?_getD] at hc
        exact hc
    · show ((S.pool.give a).free : Int) = _
      rw [hgive, PoolS.free_set hap true, hpf]
      simp
end Go.Proofs.Ytmgkfpmmlibmcaa
