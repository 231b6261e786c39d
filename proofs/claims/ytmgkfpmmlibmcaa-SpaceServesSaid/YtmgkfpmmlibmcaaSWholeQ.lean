/-
  SpaceWhole: the operations of a space. No walk here.
-/
import Derived.Test.YtmgkfpmmlibmcaaSWholeP
namespace Go.Proofs.Ytmgkfpmmlibmcaa
open Go Go.RowKit
set_option linter.unusedVariables false
set_option linter.unnecessarySimpa false
set_option linter.unusedSimpArgs false
/-- Who is in the line. -/
structure WLn (L : List Ent) (cnt : Int) (n : Nat) : Prop where
  ents : ∀ e ∈ L, e.fair2 ∧ (∀ x ∈ e.got, ∃ a : Nat, x = (a : Int) ∧ a < n) ∧ 0 ≤ e.cycles ∧ e.cycles ≤ cnt
  len : (L.length : Int) ≤ cnt
structure WS (S : SpaceS) (n : Nat) : Prop where
  wt : WT S.tab S.pool S.stocks n
  ln : WLn S.line S.count n
theorem WLn.mono {L : List Ent} {c c' : Int} {n : Nat} (h : WLn L c n) (hc : c ≤ c') : WLn L c' n := ⟨fun e he => by obtain ⟨h1, h2, h3, h4⟩ := h.ents e he; exact ⟨h1, h2, h3, by omega⟩, by have := h.len; omega⟩
theorem WLn.modify {L : List Ent} {c : Int} {n i : Nat} {f : Ent → Ent} (h : WLn L c n) (hf : ∀ e, (e.fair2 ∧ (∀ x ∈ e.got, ∃ a : Nat, x = (a : Int) ∧ a < n) ∧ 0 ≤ e.cycles ∧ e.cycles ≤ c) → ((f e).fair2 ∧ (∀ x ∈ (f e).got, ∃ a : Nat, x = (a : Int) ∧ a < n) ∧ 0 ≤ (f e).cycles ∧ (f e).cycles ≤ c)) : WLn (L.modify i f) c n := by
  refine ⟨fun e he => ?_, by rw [List.length_modify]; exact h.len⟩
  obtain ⟨j, hj, rfl⟩ := List.mem_iff_getElem.1 he
  rw [List.getElem_modify]
  rw [List.length_modify] at hj
  split
  · exact hf _ (h.ents _ (List.getElem_mem hj))
  · exact h.ents _ (List.getElem_mem hj)
theorem stockOf_in {S : SpaceS} {t : Int} (h : inB t S.stocks.length = true) : ∃ j : Nat, t = j ∧ j < S.stocks.length ∧ stockOf S t = S.stocks.getD j noStock := by
  obtain ⟨j, rfl, hj⟩ := inB_true h
  exact ⟨j, rfl, hj, by unfold stockOf; rw [Int.toNat_natCast]⟩
theorem wait_append (L : List Ent) (e : Ent) : Ent.wait (L ++ [e]) = Ent.wait L + (if waitB e then 1 else 0) := by
  unfold Ent.wait
  rw [List.countP_append]
  simp [List.countP_cons]
/-- What a grant is: fragments that nobody had, each once. -/
def Fresh (S S' : SpaceS) (n : Nat) (got : List Int) : Prop := got.Nodup ∧ ∀ x ∈ got, ∃ a : Nat, x = a ∧ a < n ∧ S.tab.state a ≠ 2 ∧ S'.tab.state a = 2
def Keeps2 (S S' : SpaceS) : Prop := ∀ a : Nat, S.tab.state a = 2 → S'.tab.state a = 2
theorem ask_whole {S : SpaceS} {n : Nat} (h : WS S n) (t fr sp : Int) (u : Bool) :
    WS (ask S t fr sp u).2 n ∧ Keeps2 S (ask S t fr sp u).2 ∧ (0 < Ent.wait S.line → (ask S t fr sp u).2.pool.free = S.pool.free) ∧ ((ask S t fr sp u).1.1 = 1 → ((ask S t fr sp u).1.2.1.length : Int) = fr ∧ Fresh S (ask S t fr sp u).2 n (ask S t fr sp u).1.2.1) ∧ (ask S t fr sp u).2.count = S.count + 1 := by
  unfold ask
  cases hno : askNo S t fr sp
  · rw [if_neg (by decide)]
    have hin : inB t S.stocks.length = true ∧ 1 ≤ fr ∧ 0 ≤ sp := by
      unfold askNo at hno
      simp only [Bool.or_eq_false_iff, Bool.not_eq_false', decide_eq_false_iff_not] at hno
      exact ⟨hno.1.1.1, by omega, by omega⟩
    obtain ⟨j, rfl, hj, hst⟩ := stockOf_in hin.1
    by_cases h1 : sp = 0 ∧ fr ≤ (stockOf S j).l.length
    · rw [if_pos h1]
      obtain ⟨w1, w2, w3, w4⟩ := h.wt.own fr.toNat u hj (S.stocks.getD j noStock).most
      have e1 : askOwn S.tick (j : Int) fr u = { S.tick with stocks := S.stocks.set j ⟨(S.stocks.getD j noStock).l.drop fr.toNat, (S.stocks.getD j noStock).most⟩, tab := S.tab.setAll ((S.stocks.getD j noStock).l.take fr.toNat) 2 u } := by
        unfold askOwn
        have : stockOf S.tick (j : Int) = S.stocks.getD j noStock := hst
        rw [this, Int.toNat_natCast]
        rfl
      simp only [e1]
      rw [hst] at h1 ⊢
      refine ⟨⟨w1, h.ln.mono (by show S.count ≤ S.count + 1; omega)⟩, fun a ha => ?_, fun _ => rfl, fun _ => ⟨by rw [List.length_take]; omega, w2, fun x hx => ?_⟩, rfl⟩
      · show (S.tab.setAll _ 2 u).state a = 2
        rw [w4]; split
        · rfl
        · exact ha
      · obtain ⟨a, rfl, ha, hs⟩ := w3 x hx
        refine ⟨a, rfl, ha, by omega, ?_⟩
        show (S.tab.setAll _ 2 u).state a = 2
        rw [w4, if_pos hx]
    · rw [if_neg h1]
      by_cases h2 : 0 < Ent.wait S.line ∨ S.fits fr sp = false
      · rw [if_pos h2]
        refine ⟨⟨h.wt, ⟨fun e he => ?_, ?_⟩⟩, fun a ha => ha, fun _ => rfl, fun h3 => absurd h3 (by simp), rfl⟩
        · have hl := h.ln.len
          show _ ∧ _ ∧ _ ∧ _ ≤ S.count + 1
          rcases List.mem_append.1 he with he | he
          · obtain ⟨q1, q2, q3, q4⟩ := h.ln.ents e he
            exact ⟨q1, q2, q3, by omega⟩
          · simp only [List.mem_singleton] at he
            subst he
            have h0 : (0 : Int) ≤ S.line.length := by omega
            exact ⟨⟨hin.2.1, hin.2.2⟩, fun x hx => absurd (show x ∈ ([] : List Int) from hx) (by simp), Int.le_refl _, by show (0 : Int) ≤ S.count + 1; omega⟩
        · show ((S.line ++ [Ent.asked (j : Int) fr sp]).length : Int) ≤ S.count + 1
          have := h.ln.len
          simp
          omega
      · rw [if_neg h2]
        have hw : ¬ 0 < Ent.wait S.line := fun h3 => h2 (Or.inl h3)
        have hf : S.fits fr sp = true := by
          cases hb : S.fits fr sp
          · exact absurd (Or.inr hb) h2
          · rfl
        obtain ⟨got, hgot⟩ := PoolS.taken_some hin.2.1 (show fr ≤ (S.pool.free : Int) by unfold SpaceS.fits at hf; simp at hf; exact hf.1)
        have hag : askGot S fr = got := by unfold askGot; rw [hgot]; rfl
        obtain ⟨w1, w2, w3, w4, w5⟩ := h.wt.grant hgot u
        obtain ⟨v1, v2⟩ := w1.more ((S.stocks.getD j noStock).most - (S.stocks.getD j noStock).l.length) u hj (S.stocks.getD j noStock).most
        have e2 : stockOf S.tick (j : Int) = S.stocks.getD j noStock := hst
        have e3 : askGot S.tick fr = got := hag
        have e4 : askMore S.tick (j : Int) fr sp = (S.pool.takes got).lowOnes ((S.stocks.getD j noStock).most - (S.stocks.getD j noStock).l.length) := by
          unfold askMore
          rw [e2, e3]
          rfl
        rw [hag]
        refine ⟨⟨?_, h.ln.mono (by show S.count ≤ S.count + 1; omega)⟩, fun a ha => ?_, fun h3 => absurd h3 hw, fun _ => ⟨w2, w3, fun x hx => ?_⟩, rfl⟩
        · show WT (((takesS S.tick (askGot S.tick fr) sp).tab.setAll (askGot S.tick fr) 2 u).setAll (askMore S.tick (j : Int) fr sp) 1 u) ((takesS S.tick (askGot S.tick fr) sp).pool.takes (askMore S.tick (j : Int) fr sp)) (S.stocks.set (j : Int).toNat ⟨(stockOf S.tick (j : Int)).l ++ askMore S.tick (j : Int) fr sp, (stockOf S.tick (j : Int)).most⟩) n
          rw [e4, e3, e2, Int.toNat_natCast]
          exact v1
        · show (((takesS S.tick (askGot S.tick fr) sp).tab.setAll (askGot S.tick fr) 2 u).setAll (askMore S.tick (j : Int) fr sp) 1 u).state a = 2
          rw [e4, e3]
          refine v2 a ?_
          rw [w5]; split
          · rfl
          · exact ha
        · obtain ⟨a, rfl, ha, hs⟩ := w4 x hx
          refine ⟨a, rfl, ha, by omega, ?_⟩
          show (((takesS S.tick (askGot S.tick fr) sp).tab.setAll (askGot S.tick fr) 2 u).setAll (askMore S.tick (j : Int) fr sp) 1 u).state a = 2
          rw [e4, e3]
          exact v2 a (by rw [w5, if_pos hx])
  · rw [if_pos rfl]
    exact ⟨⟨h.wt, h.ln.mono (by show S.count ≤ S.count + 1; omega)⟩, fun a ha => ha, fun _ => rfl, fun h3 => absurd h3 (by simp), rfl⟩
theorem dropL_mem {th : Int} {L : List Ent} {e : Ent} (h : e ∈ dropL th L) : e ∈ L := by
  unfold dropL at h
  split at h
  · exact h
  · exact List.mem_of_mem_eraseIdx h
theorem dropL_len (th : Int) (L : List Ent) : (dropL th L).length ≤ L.length := by
  unfold dropL
  split
  · exact Nat.le_refl _
  · exact List.length_eraseIdx_le _ _
theorem look_whole {S : SpaceS} {n : Nat} (h : WS S n) (t : Int) : WS (look S t).2 n ∧ (look S t).2.tab = S.tab ∧ ((look S t).1.1 = 1 → ∀ x ∈ (look S t).1.2.1, ∃ a : Nat, x = a ∧ a < n) ∧ (look S t).2.count = S.count + 1 := by
  have htk : WS S.tick n := ⟨h.wt, h.ln.mono (by show S.count ≤ S.count + 1; omega)⟩
  have hdr : WS { S.tick with line := dropL t S.line } n := ⟨h.wt, ⟨fun e he => by
    obtain ⟨q1, q2, q3, q4⟩ := h.ln.ents e (dropL_mem he)
    exact ⟨q1, q2, q3, by show e.cycles ≤ S.count + 1; omega⟩, by
    have := dropL_len t S.line
    have h2 := h.ln.len
    show ((dropL t S.line).length : Int) ≤ S.count + 1
    omega⟩⟩
  unfold look
  split
  · exact ⟨htk, rfl, fun h3 => absurd h3 (by simp), rfl⟩
  · rename_i hp
    have hb := placeOf_bd (ofB t) S.line
    have hlt : (placeOf (ofB t) S.line).toNat < S.line.length := by omega
    split
    · exact ⟨htk, rfl, fun h3 => absurd h3 (by simp), rfl⟩
    · rename_i h0
      split
      · exact ⟨hdr, rfl, fun h3 => absurd h3 (by simp), rfl⟩
      · rename_i h2
        refine ⟨hdr, rfl, fun _ x hx => ?_, rfl⟩
        have hg : S.line.getD (placeOf (ofB t) S.line).toNat ent0 = S.line[(placeOf (ofB t) S.line).toNat] := by rw [List.getD_eq_getElem?_getD, List.getElem?_eq_getElem hlt]; rfl
        rw [hg] at h0 h2
        simp only [hg] at hx
        obtain ⟨-, q2, -⟩ := h.ln.ents _ (List.getElem_mem hlt)
        exact q2 x hx
theorem drain_whole {S : SpaceS} {n : Nat} (h : WS S n) (t : Int) : WS (drainS S t) n ∧ Keeps2 S (drainS S t) ∧ (drainS S t).count = S.count + 1 := by
  unfold drainS
  cases hin : inB t S.stocks.length
  · rw [if_neg (by decide)]
    exact ⟨⟨h.wt, h.ln.mono (by show S.count ≤ S.count + 1; omega)⟩, fun a ha => ha, rfl⟩
  · rw [if_pos rfl]
    obtain ⟨j, rfl, hj, hst⟩ := stockOf_in hin
    obtain ⟨s1, s2⟩ := split_at hj ⟨[], (S.stocks.getD j noStock).most⟩
    rw [hst, Int.toNat_natCast]
    have hstk := h.wt.stk
    have hnd := h.wt.nd
    rw [s1] at hstk hnd
    generalize hSx : ({ S.tick with stocks := S.stocks.set j ⟨[], (S.stocks.getD j noStock).most⟩ } : SpaceS) = Sx
    have ht : Sx.tab = S.tab := by rw [← hSx]; rfl
    have hp : Sx.pool = S.pool := by rw [← hSx]; rfl
    have hk : Sx.stocks = S.stocks.set j ⟨[], (S.stocks.getD j noStock).most⟩ := by rw [← hSx]
    have hl : Sx.line = S.line := by rw [← hSx]; rfl
    have hc : Sx.count = S.count + 1 := by rw [← hSx]; rfl
    generalize (S.stocks.getD j noStock).l = l at *
    have h4 : ∀ x ∈ l, ∃ a : Nat, x = a ∧ a < n ∧ S.tab.state a = 1 := fun x hx => hstk x (List.mem_append.2 (Or.inr (List.mem_append.2 (Or.inl hx))))
    obtain ⟨q1, q2, q3, q4⟩ := WT.freedW (n := n) l Sx (by rw [ht]; exact h.wt.tl) (by rw [hp]; exact h.wt.pl) (by rw [ht]; exact h.wt.ok) (fun x hx => by obtain ⟨a, e, ha, -⟩ := h4 x hx; exact ⟨a, e, ha⟩)
    obtain ⟨k1, k2⟩ := SpaceS.freed_keep Sx l
    rw [ht, hp] at q4
    refine ⟨⟨⟨q1, q2, q3, fun a ha => ?_, fun x hx => ?_, ?_⟩, ?_⟩, fun a ha => ?_, by rw [k2, hc]⟩
    · rw [(q4 a).1, (q4 a).2]
      by_cases hm : (a : Int) ∈ l
      · rw [if_pos hm, if_pos hm]; simp
      · rw [if_neg hm, if_neg hm]; exact h.wt.free a ha
    · rw [k1, hk, s2] at hx
      have hx' : x ∈ (S.stocks.take j).flatMap StockS.l ++ (l ++ (S.stocks.drop (j + 1)).flatMap StockS.l) := by
        rcases List.mem_append.1 hx with hx | hx
        · exact List.mem_append.2 (Or.inl hx)
        · exact List.mem_append.2 (Or.inr (List.mem_append.2 (Or.inr (by simpa using hx))))
      obtain ⟨a, rfl, ha, hs⟩ := hstk x hx'
      refine ⟨a, rfl, ha, ?_⟩
      rw [(q4 a).1, if_neg (fun hm => ?_)]
      · exact hs
      · have hp2 := (List.perm_append_comm_assoc ((S.stocks.take j).flatMap StockS.l) l ((S.stocks.drop (j + 1)).flatMap StockS.l)).nodup_iff.1 hnd
        rw [List.nodup_append] at hp2
        exact hp2.2.2 _ hm _ (by
          rcases List.mem_append.1 hx with hx | hx
          · exact List.mem_append.2 (Or.inl hx)
          · exact List.mem_append.2 (Or.inr (by simpa using hx))) rfl
    · rw [k1, hk, s2]
      have hp2 := (List.perm_append_comm_assoc ((S.stocks.take j).flatMap StockS.l) l ((S.stocks.drop (j + 1)).flatMap StockS.l)).nodup_iff.1 hnd
      rw [List.nodup_append] at hp2
      exact hp2.2.1
    · rw [freed_line, hl, k2, hc]
      exact h.ln.mono (by omega)
    · rw [(q4 a).1, if_neg (fun hm => ?_)]
      · exact ha
      · obtain ⟨b, e, -, hb⟩ := h4 _ hm
        obtain rfl : a = b := by omega
        omega
theorem sweep_whole {S : SpaceS} {n : Nat} (h : WS S n) (i : Int) (u : Bool) : WS (sweepS S i u) n ∧ (sweeps S i u = true → ∃ a : Nat, i = a ∧ a < n ∧ ∀ b : Nat, b ≠ a → (sweepS S i u).tab.state b = S.tab.state b) ∧ (sweeps S i u = false → (sweepS S i u).tab = S.tab) ∧ (sweepS S i u).count = S.count + 1 := by
  unfold sweepS
  cases hs : sweeps S i u
  · rw [if_neg (by decide)]
    exact ⟨⟨h.wt, h.ln.mono (by show S.count ≤ S.count + 1; omega)⟩, fun h3 => absurd h3 (by simp), fun _ => rfl, rfl⟩
  · rw [if_pos rfl]
    have hst : S.tab.state i = 2 := by unfold sweeps at hs; simp at hs; exact hs.1
    have hin : inB i S.tab.l.length = true := by
      cases hi : inB i S.tab.l.length
      · rw [TabS.state, TabS.at_out hi] at hst; cases hst
      · rfl
    obtain ⟨a, rfl, ha⟩ := inB_true hin
    rw [h.wt.tl] at ha
    obtain ⟨p1, p2, p3, p4⟩ := WT.put h.wt.tl h.wt.pl h.wt.ok ha
    refine ⟨⟨⟨p1, p2, p3, fun b hb => ?_, fun x hx => ?_, h.wt.nd⟩, h.ln.mono (by show S.count ≤ S.count + 1; omega)⟩, fun _ => ⟨a, rfl, ha, fun b hb => ?_⟩, fun h3 => absurd h3 (by simp), rfl⟩
    · show (S.pool.give a).l.getD b false = true ↔ (S.tab.set a 0 false false).state b = 0
      rw [(p4 b).1, (p4 b).2]
      by_cases e : b = a
      · rw [if_pos e, if_pos e]; simp
      · rw [if_neg e, if_neg e]; exact h.wt.free b hb
    · obtain ⟨b, rfl, hb, hsb⟩ := h.wt.stk x hx
      refine ⟨b, rfl, hb, ?_⟩
      show (S.tab.set a 0 false false).state b = 1
      rw [(p4 b).1, if_neg (fun e => by subst e; omega)]
      exact hsb
    · show (S.tab.set a 0 false false).state b = S.tab.state b
      rw [(p4 b).1, if_neg hb]
theorem begin_whole {S : SpaceS} {n : Nat} (h : WS S n) : WS (beginS S) n ∧ (beginS S).tab = S.tab ∧ (beginS S).count = S.count + 1 := by
  refine ⟨⟨h.wt, ⟨fun e he => ?_, ?_⟩⟩, rfl, rfl⟩
  · obtain ⟨e0, he0, rfl⟩ := List.mem_map.1 (show e ∈ S.line.map noteE from he)
    obtain ⟨q1, q2, q3, q4⟩ := h.ln.ents e0 he0
    exact ⟨q1, q2, q3, by show e0.cycles ≤ S.count + 1; omega⟩
  · show ((S.line.map noteE).length : Int) ≤ S.count + 1
    have := h.ln.len
    rw [List.length_map]; omega
theorem end_whole {S : SpaceS} {n : Nat} (h : WS S n) : WS (endS S) n ∧ (endS S).tab = S.tab ∧ (endS S).count = S.count + 1 := by
  refine ⟨⟨h.wt, ⟨fun e he => ?_, ?_⟩⟩, rfl, rfl⟩
  · obtain ⟨e0, he0, rfl⟩ := List.mem_map.1 (show e ∈ S.line.map endE from he)
    obtain ⟨q1, q2, q3, q4⟩ := h.ln.ents e0 he0
    refine ⟨q1, q2, ?_, ?_⟩
    · show 0 ≤ (if e0.noted && waitB e0 then e0.cycles + 1 else e0.cycles)
      split <;> omega
    · show (if e0.noted && waitB e0 then e0.cycles + 1 else e0.cycles) ≤ S.count + 1
      split <;> omega
  · show ((S.line.map endE).length : Int) ≤ S.count + 1
    have := h.ln.len
    rw [List.length_map]; omega
theorem wait_first {L : List Ent} (h : 0 ≤ placeOf waitB L) : ∃ i : Nat, placeOf waitB L = i ∧ ∃ hi : i < L.length, waitB L[i] = true ∧ ∀ j, (hj : j < i) → waitB (L[j]'(by omega)) = false := by
  unfold placeOf at h ⊢
  cases hf : L.findIdx? waitB with
  | none => rw [hf] at h; simp at h
  | some i =>
    obtain ⟨hl, h1, h2⟩ := List.findIdx?_eq_some_iff_getElem.1 hf
    exact ⟨i, rfl, hl, h1, fun j hj => by have := h2 j hj; simpa using this⟩
theorem wait_modify {L : List Ent} {i : Nat} (hi : i < L.length) (hw : waitB L[i] = true) (f : Ent → Ent) (hf : ∀ e, waitB (f e) = false) : Ent.wait (L.modify i f) + 1 = Ent.wait L := by
  unfold Ent.wait
  have e1 : L = L.take i ++ L[i] :: L.drop (i + 1) := by rw [List.getElem_cons_drop, List.take_append_drop]
  have e2 : L.modify i f = L.take i ++ f L[i] :: L.drop (i + 1) := by
    rw [List.modify_eq_take_cons_drop hi]
  rw [e2]
  conv => rhs; rw [e1]
  rw [List.countP_append, List.countP_append, List.countP_cons, List.countP_cons, hw, hf]
  simp
  omega
theorem serve_whole {S : SpaceS} {n : Nat} (h : WS S n) (u : Bool) : WS (serve S u).2 n ∧ Keeps2 S (serve S u).2 ∧ Ent.wait (serve S u).2.line ≤ Ent.wait S.line ∧ Ent.wait S.line ≤ Ent.wait (serve S u).2.line + 1 ∧ (serve S u).2.count = S.count + 1 := by
  have htk : WS S.tick n := ⟨h.wt, h.ln.mono (by show S.count ≤ S.count + 1; omega)⟩
  unfold serve
  by_cases hp : placeOf waitB S.line < 0
  · rw [if_pos hp]
    exact ⟨htk, fun a ha => ha, Nat.le_refl _, Nat.le_succ _, rfl⟩
  · rw [if_neg hp]
    obtain ⟨i, hpi, hi, hw, -⟩ := wait_first (show 0 ≤ placeOf waitB S.line by omega)
    have hE : serveE S = S.line[i] := by unfold serveE; rw [hpi, Int.toNat_natCast, List.getD_eq_getElem?_getD, List.getElem?_eq_getElem hi]; rfl
    obtain ⟨hfair, -, -, -⟩ := h.ln.ents _ (List.getElem_mem hi)
    cases hf : S.fits (serveE S).frags (serveE S).spine
    · rw [if_neg (by decide)]
      by_cases hc : 2 ≤ (serveE S).cycles
      · rw [if_pos hc]
        have hfl : failL S.line = S.line.modify i fun e => { e with state := 2 } := by unfold failL; rw [if_neg hp, hpi, Int.toNat_natCast]
        have hwm := wait_modify hi hw (fun e => { e with state := 2 }) (fun e => rfl)
        refine ⟨⟨h.wt, ?_⟩, fun a ha => ha, ?_, ?_, rfl⟩
        · show WLn (failL S.line) (S.count + 1) n
          rw [hfl]
          exact (h.ln.mono (by omega)).modify (fun e he => ⟨he.1, he.2.1, he.2.2⟩)
        · show Ent.wait (failL S.line) ≤ _
          rw [hfl]; omega
        · show _ ≤ Ent.wait (failL S.line) + 1
          rw [hfl]; omega
      · rw [if_neg hc]
        exact ⟨htk, fun a ha => ha, Nat.le_refl _, Nat.le_succ _, rfl⟩
    · rw [if_pos rfl]
      rw [hE] at hf ⊢
      obtain ⟨got, hgot⟩ := PoolS.taken_some hfair.1 (show S.line[i].frags ≤ (S.pool.free : Int) by unfold SpaceS.fits at hf; simp at hf; exact hf.1)
      have hag : askGot S S.line[i].frags = got := by unfold askGot; rw [hgot]; rfl
      rw [hag]
      obtain ⟨w1, w2, w3, w4, w5⟩ := h.wt.grant hgot u
      have hgl : ∀ x, grantL S.line got x = S.line.modify i fun e => { e with state := 1, got := got, at_ := x } := fun x => by unfold grantL; rw [if_neg hp, hpi, Int.toNat_natCast]
      have hwm := fun x : Int => wait_modify hi hw (fun e => { e with state := 1, got := got, at_ := x }) (fun e => rfl)
      refine ⟨⟨w1, ?_⟩, fun a ha => ?_, ?_, ?_, rfl⟩
      · show WLn (grantL S.line got _) (S.count + 1) n
        rw [hgl]
        exact (h.ln.mono (by omega)).modify (fun e he => ⟨he.1, fun x hx => by obtain ⟨a, e1, ha, -⟩ := w4 x hx; exact ⟨a, e1, ha⟩, he.2.2⟩)
      · show (S.tab.setAll got 2 u).state a = 2
        rw [w5]; split
        · rfl
        · exact ha
      · show Ent.wait (grantL S.line got _) ≤ _
        have := hwm (takesAt S.tick got S.line[i].spine)
        rw [hgl]; omega
      · show _ ≤ Ent.wait (grantL S.line got _) + 1
        have := hwm (takesAt S.tick got S.line[i].spine)
        rw [hgl]; omega
/-- At first all are free. -/
theorem fresh_whole (c : Cnf) {n : Nat} (hn : c.frags = n) : WS (SpaceS.fresh c (TabS.fresh n)) n := by
  refine ⟨⟨by simp [SpaceS.fresh, TabS.fresh], by simp [SpaceS.fresh, hn], fun o ho => ?_, fun a ha => ?_, fun x hx => ?_, ?_⟩, ⟨fun e he => ?_, ?_⟩⟩
  · have : o = One.zero := by
      have h1 : o ∈ List.replicate n One.zero := ho
      exact List.eq_of_mem_replicate h1
    rw [this]; decide
  · have h1 : (SpaceS.fresh c (TabS.fresh n)).pool.l.getD a false = true := by
      show (List.replicate c.frags.toNat true).getD a false = true
      rw [hn, Int.toNat_natCast, List.getD_eq_getElem?_getD, List.getElem?_replicate, if_pos ha]; rfl
    have h2 : (SpaceS.fresh c (TabS.fresh n)).tab.state a = 0 := by
      show (TabS.fresh n).state a = 0
      unfold TabS.state
      rw [TabS.at_in (o := One.zero) (by show (List.replicate n One.zero)[a]? = _; rw [List.getElem?_replicate, if_pos ha])]
      rfl
    exact ⟨fun _ => h2, fun _ => h1⟩
  · have h1 : x ∈ (List.replicate c.threads.toNat (⟨[], c.cache⟩ : StockS)).flatMap StockS.l := hx
    obtain ⟨s, hs, hx2⟩ := List.mem_flatMap.1 h1
    rw [List.eq_of_mem_replicate hs] at hx2
    exact absurd hx2 (by simp)
  · have : (List.replicate c.threads.toNat (⟨[], c.cache⟩ : StockS)).flatMap StockS.l = [] := by
      rw [List.flatMap_eq_nil_iff]
      intro s hs
      rw [List.eq_of_mem_replicate hs]
    show ((List.replicate c.threads.toNat (⟨[], c.cache⟩ : StockS)).flatMap StockS.l).Nodup
    rw [this]
    exact List.nodup_nil
  · exact absurd (show e ∈ ([] : List Ent) from he) (by simp)
  · show ((([] : List Ent).length : Nat) : Int) ≤ 0
    decide
end Go.Proofs.Ytmgkfpmmlibmcaa
