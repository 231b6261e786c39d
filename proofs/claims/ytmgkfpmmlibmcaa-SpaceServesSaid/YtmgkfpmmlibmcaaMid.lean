/-
  Rows that begin anywhere in their block: cut at the front, and appended to. No program here.
-/
import Derived.Test.YtmgkfpmmlibmcaaGhost
import Derived.Maps.AppendAt
namespace Go
open Go.RowKit
set_option linter.unusedVariables false
set_option linter.unusedSimpArgs false
theorem addr_mid (b o j : Nat) : (⟨b, o, none⟩ : Addr).add j = ⟨b, o + j, none⟩ := by unfold Addr.add; split <;> simp_all
theorem run_append_room_mid {P : Program} (w : World) (t ty e : TypeId) (i : TypeInfo) (ht : P.underlying t = some (.slice e)) (hi : P.info? e = some i)
    (g off sLen sCap : Nat) (cur : Array Value) (hg : w.heap[g]? = some (.cells cur e (0, 0)))
    (a : Addr) (m c : Nat) (news : List Value) (hl : news.length = m * i.size) (hnews : ∀ j u, news[j]? = some u → w.cell? (a.add j) = some u) (h1 : ∀ u ∈ news, u.oneCell' = true)
    (hroom : sLen + m ≤ sCap) (hfit : off + sLen * i.size + news.length ≤ cur.size) :
    (Builtin.append_ #[t, t] ty #[.slice (some ⟨g, off, none⟩) sLen sCap, .slice (some a) m c]).run P w =
      .ok (.slice (some ⟨g, off, none⟩) (sLen + m) sCap) (w.setRow g (cur.toList.take (off + sLen * i.size) ++ news ++ cur.toList.drop (off + sLen * i.size + news.length)).toArray) := by
  have hf := run_firstCells_some (P := P) w i.size m a m c news hl hnews
  have hst := run_storeCells_at P g (off + sLen * i.size) e news 0 cur w hg (by simpa using hfit) h1
  simp only [Nat.add_zero] at hst
  simp [Builtin.append_, run_underlying ht, sizeOf, typeInfo, hi, Builtin.lenOf, hroom, hf, addr_mid, hst]
/-- A row of an object's, of cells, that begins anywhere in its block. -/
structure MRow (g : GW) (t : Nat) (E : TypeId) (v : Value) (xs : List Value) : Prop where
  row : (v = .slice none 0 0 ∧ xs = []) ∨ ∃ b o cap cur, v = .slice (some ⟨b, o, none⟩) xs.length cap ∧ g.w.heap[b]? = some (.cells cur E) ∧ xs.length ≤ cap ∧ cap ≤ 9223372036854775807 ∧ o + cap ≤ cur.size ∧ (cur.toList.drop o).take xs.length = xs ∧ g.own b = t
namespace MRow
variable {g g' : GW} {t : Nat} {E : TypeId} {v : Value} {xs : List Value}
theorem nil (g : GW) (t : Nat) (E : TypeId) : MRow g t E (.slice none 0 0) [] := ⟨Or.inl ⟨rfl, rfl⟩⟩
theorem keep {S : Nat → Prop} (h : MRow g t E v xs) (m : Mod S g g') (hs : ¬ S t) : MRow g' t E v xs := by
  rcases h.row with h | ⟨b, o, cap, cur, hv, hb, r1, r2, r3, r4, ho⟩
  · exact ⟨Or.inl h⟩
  · have hl : b < g.w.heap.size := (Array.getElem?_eq_some_iff.1 hb).1
    exact ⟨Or.inr ⟨b, o, cap, cur, hv, by rw [m.block b hl (by rw [ho]; exact hs)]; exact hb, r1, r2, r3, r4, by rw [m.own b hl]; exact ho⟩⟩
theorem form (h : MRow g t E v xs) : ∃ A c, v = .slice A xs.length c ∧ xs.length ≤ c ∧ c ≤ 9223372036854775807 := by
  rcases h.row with ⟨hv, hx⟩ | ⟨b, o, cap, cur, hv, hb, r1, r2, r3, r4, ho⟩
  · exact ⟨none, 0, by rw [hv, hx]; rfl, by rw [hx]; exact Nat.le_refl _, by decide⟩
  · exact ⟨_, _, hv, r1, r2⟩
/-- The cell of an element. -/
theorem cell {A : Option Addr} {n c : Nat} (h : MRow g t E (.slice A n c) xs) {i : Nat} (hi : i < xs.length) : ∃ b o, A = some ⟨b, o, none⟩ ∧ n = xs.length ∧ b < g.w.heap.size ∧ g.own b = t ∧ g.w.cell? ⟨b, o + i, none⟩ = xs[i]? ∧ g.w.frozen? ⟨b, o + i, none⟩ = false := by
  rcases h.row with ⟨hv, hx⟩ | ⟨b, o, cap, cur, hv, hb, r1, r2, r3, r4, ho⟩
  · rw [hx] at hi; simp at hi
  · simp only [Value.slice.injEq] at hv
    obtain ⟨rfl, rfl, rfl⟩ := hv
    refine ⟨b, o, rfl, rfl, (Array.getElem?_eq_some_iff.1 hb).1, ho, ?_, by simp [World.frozen?, hb]⟩
    have hc : o + i < cur.size := by omega
    conv => rhs; rw [← r4]
    rw [List.getElem?_take_of_lt hi, List.getElem?_drop]
    simp [World.cell?, hb]
theorem store {b o n c : Nat} (h : MRow g t E (.slice (some ⟨b, o, none⟩) n c) xs) {i : Nat} (hi : i < xs.length) (u : Value) : MRow ⟨g.own, g.w.setCell ⟨b, o + i, none⟩ u⟩ t E (.slice (some ⟨b, o, none⟩) n c) (xs.set i u) := by
  rcases h.row with ⟨hv, hx⟩ | ⟨b', o', cap, cur, hv, hb, r1, r2, r3, r4, ho⟩
  · cases hv
  · simp only [Value.slice.injEq, Option.some.injEq, Addr.mk.injEq, and_true] at hv
    obtain ⟨⟨rfl, rfl⟩, rfl, rfl⟩ := hv
    have hl : b < g.w.heap.size := (Array.getElem?_eq_some_iff.1 hb).1
    refine ⟨Or.inr ⟨b, o, c, cur.setIfInBounds (o + i) u, by rw [List.length_set], ?_, by rw [List.length_set]; exact r1, r2, by simpa using r3, ?_, ho⟩⟩
    · rw [World.setCell_row _ hb]; exact World.row_put _ hl
    · rw [List.length_set]
      apply List.ext_getElem?
      intro j
      have h4 := congrArg (fun l : List Value => l[j]?) r4
      simp only [List.getElem?_take, List.getElem?_drop] at h4 ⊢
      rw [List.getElem?_set]
      by_cases hj : j < xs.length
      · rw [if_pos hj] at h4 ⊢
        simp only [Array.toList_setIfInBounds, List.getElem?_set]
        by_cases he : i = j
        · subst he
          rw [if_pos rfl, if_pos rfl, if_pos (by simp; omega), if_pos hj]
        · rw [if_neg (by omega), if_neg he]; exact h4
      · rw [if_neg hj, List.getElem?_eq_none (by omega)]
        split
        · rename_i he
          subst he
          exact absurd hi hj
        · rfl
theorem setOther {b' : Nat} (h : MRow g t E v xs) (i : Nat) (u : Value) (hb' : ∀ b o n c, v = .slice (some ⟨b, o, none⟩) n c → b' ≠ b) : MRow ⟨g.own, g.w.setCell ⟨b', i, none⟩ u⟩ t E v xs := by
  rcases h.row with h | ⟨b, o, cap, cur, hv, hb, r1, r2, r3, r4, ho⟩
  · exact ⟨Or.inl h⟩
  · exact ⟨Or.inr ⟨b, o, cap, cur, hv, by rw [Below.heap_setCell _ _ _ _ (fun e => hb' b o _ _ hv (by simpa using e.symm))]; exact hb, r1, r2, r3, r4, ho⟩⟩
/-- Cut at the front. -/
theorem tail {b o n c : Nat} {x : Value} (h : MRow g t E (.slice (some ⟨b, o, none⟩) n c) (x :: xs)) : MRow g t E (.slice (some ⟨b, o + 1, none⟩) (n - 1) (c - 1)) xs := by
  rcases h.row with ⟨hv, hx⟩ | ⟨b', o', cap, cur, hv, hb, r1, r2, r3, r4, ho⟩
  · cases hv
  · simp only [Value.slice.injEq, Option.some.injEq, Addr.mk.injEq, and_true] at hv
    obtain ⟨⟨rfl, rfl⟩, rfl, rfl⟩ := hv
    simp only [List.length_cons] at r1 r4 ⊢
    refine ⟨Or.inr ⟨b, o + 1, c - 1, cur, by rw [Nat.add_sub_cancel], hb, by omega, by omega, by omega, ?_, ho⟩⟩
    have h2 := congrArg (List.drop 1) r4
    rw [List.drop_take, List.drop_drop] at h2
    simpa using h2
end MRow
theorem setRow_grown (w : World) (g : Nat) (cs : Array Value) : w.grownBy (w.setRow g cs) (some g) := ⟨rfl, rfl, rfl, by simp, fun k _ hk => setRow_other w g k _ (fun e => hk (by rw [e]))⟩
/-- append of one element. -/
theorem MRow.append {P : Program} {g : GW} {t : Nat} {e : TypeId} {v : Value} {xs : List Value} (h : MRow g t e v xs) (s ty : TypeId) (i : TypeInfo) (z : Value) (ht : P.underlying s = some (.slice e)) (hi : P.info? e = some i) (hz : i.zero = some z) (hsize : i.size = 1) (hby : i.bytes ≤ 8) (hzs : z.cells.size = 1)
    (a : Addr) (c : Nat) (y : Value) (hy : g.w.cell? (a.add 0) = some y) (h1 : y.oneCell' = true) (hlen : xs.length < 1000000) :
    ∃ v' own' w', (Builtin.append_ #[s, s] ty #[v, .slice (some a) 1 c]).run P g.w = .ok v' w' ∧ Mod (fun x => x = t) g ⟨own', w'⟩ ∧ MRow ⟨own', w'⟩ t e v' (xs ++ [y]) := by
  have hnews : ∀ j u, ([y] : List Value)[j]? = some u → g.w.cell? (a.add j) = some u := fun j u hj => by
    match j, hj with
    | 0, hj => simp at hj; subst hj; exact hy
  have hl1 : ([y] : List Value).length = 1 * i.size := by rw [hsize]; rfl
  have grown : ∀ (old : Nat), MRow (g.to t (g.w.drew.alloc (.cells (xs.toArray ++ ([y] : List Value).toArray ++ Builtin.zeroCells z.cells (grownCap g.w (xs.length + 1) old e - (xs.length + 1))) e))) t e (.slice (some ⟨g.w.heap.size, 0, none⟩) (xs.length + 1) (grownCap g.w (xs.length + 1) old e)) (xs ++ [y]) ∧ Mod (fun x => x = t) g (g.to t (g.w.drew.alloc (.cells (xs.toArray ++ ([y] : List Value).toArray ++ Builtin.zeroCells z.cells (grownCap g.w (xs.length + 1) old e - (xs.length + 1))) e))) := fun old => by
    have hge := grownCap_ge g.w (xs.length + 1) old e
    have hcm : grownCap g.w (xs.length + 1) old e ≤ maxLen := grownCap_le_maxLen g.w (xs.length + 1) old e (by simp only [maxLen]; omega)
    refine ⟨⟨Or.inr ⟨g.w.heap.size, 0, _, _, by rw [List.length_append]; rfl, heap_alloc_new g.w.drew _, by rw [List.length_append]; exact hge, by simpa [maxLen] using hcm, ?_, ?_, GW.to_new (Nat.le_refl _)⟩⟩, ?_⟩
    · simp only [Array.size_append, List.size_toArray, size_zeroCells, hzs, List.length_singleton]
      omega
    · rw [List.drop_zero]
      simp only [Array.toList_append, List.append_assoc]
      rw [← List.append_assoc]
      exact List.take_left
    · refine Mod.grown (row := none) ?_ t (fun k hk => by cases hk)
      exact ⟨rfl, rfl, rfl, by simp, fun k hk _ => heap_alloc_old g.w.drew _ hk⟩
  rcases h.row with ⟨rfl, rfl⟩ | ⟨b, o, cap, cur, rfl, hb, r1, r2, r3, r4, ho⟩
  · obtain ⟨g1, g2⟩ := grown 0
    have hr := run_append_nil (P := P) g.w s ty e i z ht hi hz a 1 c [y] hl1 hnews (by decide) (by decide) (by omega)
    simp only [List.length_nil, Nat.zero_add, List.nil_append, Array.empty_append] at g1 g2
    exact ⟨_, _, _, hr, g2, g1⟩
  · by_cases hroom : xs.length + 1 ≤ cap
    · have hr := run_append_room_mid (P := P) g.w s ty e i ht hi b o xs.length cap cur hb a 1 c [y] hl1 hnews (fun u hu => by rw [List.mem_singleton.1 hu]; exact h1) hroom (by rw [hsize]; simp; omega)
      refine ⟨_, g.own, _, hr, ?_, ?_⟩
      · have hm := setRow_grown g.w b (cur.toList.take (o + xs.length * i.size) ++ [y] ++ cur.toList.drop (o + xs.length * i.size + ([y] : List Value).length)).toArray
        exact ⟨hm.os, hm.tape, hm.output, hm.size, fun k hk => rfl, fun k hk hn => hm.block k hk (fun e => by
          injection e with e
          subst e
          exact hn ho)⟩
      · refine ⟨Or.inr ⟨b, o, cap, _, by rw [List.length_append]; rfl, setRow_heap g.w b cur _ e _ hb, by rw [List.length_append]; exact hroom, r2, ?_, ?_, ho⟩⟩
        · rw [hsize]
          simp only [List.size_toArray, List.length_append, List.length_take, List.length_drop, Array.length_toList, List.length_singleton]
          omega
        · rw [hsize, Nat.mul_one]
          have hcl : cur.toList.length = cur.size := by simp
          have hlo : (cur.toList.take (o + xs.length)).drop o = xs := by
            rw [List.drop_take, Nat.add_sub_cancel_left]; exact r4
          rw [List.append_assoc, List.drop_append, List.length_take, Nat.min_eq_left (by omega), hlo, show o - (o + xs.length) = 0 by omega, List.drop_zero, ← List.append_assoc]
          exact List.take_left
    · obtain ⟨g1, g2⟩ := grown cap
      have hr := run_append_grow (P := P) g.w s ty e i z ht hi hz ⟨b, o, none⟩ xs.length cap xs (by rw [hsize, Nat.mul_one]) (fun j u hj => by
        have hjl := (List.getElem?_eq_some_iff.1 hj).1
        rw [addr_mid, ← hj]
        conv => rhs; rw [← r4]
        rw [List.getElem?_take_of_lt hjl, List.getElem?_drop]
        simp [World.cell?, hb]) a 1 c [y] hl1 hnews (by omega) (by omega) (growslice_fits (by omega) (by
          have : (xs.length + 1) * i.bytes ≤ 1000000 * 8 := Nat.mul_le_mul (by omega) hby
          omega))
      exact ⟨_, _, _, hr, g2, g1⟩
/-- .. at the operation. -/
theorem wpList_append_mrow {P : Program} {ops : Array Oper} {rest : List Oper} {o : Oper} {a : Act} {Q : Exit → Act → World → Prop} (own : Nat → Nat) (w : World) (hgd : o.guard = none) (s x : Operand) (st : TypeId)
    (ho : o.op = .call { callee := .builtin .append, args := #[s, x], argTypes := #[st, st] })
    (t : Nat) (e : TypeId) (i : TypeInfo) (z : Value) (ht : P.underlying st = some (.slice e)) (hi : P.info? e = some i) (hz : i.zero = some z) (hsize : i.size = 1) (hby : i.bytes ≤ 8) (hzs : z.cells.size = 1)
    (v : Value) (xs : List Value) (hs : a.eval s = v) (hrow : MRow ⟨own, w⟩ t e v xs)
    (ad : Addr) (c : Nat) (y : Value) (hx : a.eval x = .slice (some ad) 1 c) (hy : w.cell? (ad.add 0) = some y) (h1 : y.oneCell' = true) (hlen : xs.length < 1000000)
    (h : ∀ v' own' w', Mod (fun x => x = t) ⟨own, w⟩ ⟨own', w'⟩ → MRow ⟨own', w'⟩ t e v' (xs ++ [y]) → wpList P ops Q rest (a.put o.dst v') w') :
    wpList P ops Q (o :: rest) a w := by
  refine wpList_plain hgd fun K hK => ?_
  obtain ⟨v', own', w', hr, h2, h3⟩ := hrow.append (P := P) st o.type i z ht hi hz hsize hby hzs ad c y hy h1 hlen
  unfold Oper.wp execOp
  simp only [ho, resolve, invoke, builtin, Sem.run_bind, Sem.run_pure, Result.andThen_ok, List.map_toArray, List.map_cons, List.map_nil, hs, hx, hr]
  exact hK _ _ (h v' own' w' h2 h3)
end Go
