import Derived.Test.YtoaehfdjffejeaaGreatKL11
/-
  Packed: Moves, From, Scope2.
-/
open Go.Ext renaming alloc → zA, patch → zP, drew → zD, drewN → zN, more → zM, refl → zR, setCell → zS
open Nat renaming le_refl → zL, le_add_right → zK
/-
  Moves that may come late: taken first. No program here.
-/
namespace Go
section
variable {P : Program} {ops : Array Oper} {Q : Exit → Act → World → Prop} {md : Region.Mode} {w0 : World}
def moveOf (ops : Array Oper) (i : Nat) : Option (Option Tmp × Operand) := match ops[i]? with
  | some o => match o.op, o.guard with
    | .move x, none => some (o.dst, x)
    | _, _ => none
  | none => none
def movesOk (md : Region.Mode) (ops : Array Oper) : List Nat → Array Bool → Bool
  | [], _ => true
  | i :: E, l => (moveOf ops i).isSome && (Region.ready md ops l).contains i && Region.free md ops l i && movesOk md ops E (l.setIfInBounds i true)
def movesAct (ops : Array Oper) : List Nat → Act → Act
  | [], a => a
  | i :: E, a => match moveOf ops i with
    | some (d, x) => movesAct ops E (a.put d (a.eval x))
    | none => movesAct ops E a
def movesList : List Nat → Array Bool → Array Bool
  | [], l => l
  | i :: E, l => movesList E (l.setIfInBounds i true)
theorem moveOf_spec {i : Nat} {d : Option Tmp} {x : Operand} (h : moveOf ops i = some (d, x)) : ∃ o, ops[i]? = some o ∧ o.op = .move x ∧ o.guard = none ∧ o.dst = d := by
  unfold moveOf at h
  split at h
  · rename_i o ho
    split at h
    · rename_i y h1 h2
      simp only [Option.some.injEq, Prod.mk.injEq] at h
      obtain ⟨rfl, rfl⟩ := h
      exact ⟨o, ho, h1, h2, rfl⟩
    · cases h
  · cases h
theorem yields_move {o : Oper} {x : Operand} {a : Act} (h1 : o.op = .move x) (h2 : o.guard = none) : Yields P ops o (a.eval x) a := by
  unfold Yields
  refine Or.inl ⟨by simp [Region.wanted, h2], fun w => ?_⟩
  unfold execOp
  rw [h1]
  rfl
theorem wpAny_moves (hs : Region.noSelect ops = true) (hQ : ∀ (c : List PanicEntry) (a : Act) (d : Option Tmp) (v : Value) (w : World), Q (.panic c) (a.put d v) w → Q (.panic c) a w) : ∀ (E : List Nat) (fuel : Nat) (listed : Array Bool) (a : Act) (w : World), movesOk md ops E listed = true →
    wpAny P md ops Q fuel (movesList E listed) (movesAct ops E a) w → wpAny P md ops Q (fuel + E.length) listed a w
  | [], _, _, _, _, _, h => h
  | i :: E, fuel, listed, a, w, hm, h => by
    simp only [movesOk, Bool.and_eq_true] at hm
    obtain ⟨⟨⟨h1, h2⟩, h3⟩, h4⟩ := hm
    obtain ⟨⟨d, x⟩, hx⟩ := Option.isSome_iff_exists.1 h1
    obtain ⟨o, ho, hop, hg, rfl⟩ := moveOf_spec hx
    simp only [movesAct, hx, movesList] at h
    exact wpAny_take (v := a.eval x) ho hs h3 h2 (fun c a w h => hQ c a _ _ w h) (yields_move hop hg) (wpAny_moves hs hQ E fuel _ _ w h4 h)
def Region.sinkE (md : Region.Mode) (ops : Array Oper) (E : List Nat) (n : Nat) : Bool :=
  (List.range n).all fun i => E.contains i || (List.range (n + 1)).any fun j => decide (i < j) && Region.waitsFor md ops j i
def Region.treeB (md : Region.Mode) (ops : Array Oper) (L : Nat) : Bool := (List.range ops.size).all fun t => decide (t ≤ L) || (List.range t).any fun s => decide (L ≤ s) && Region.waitsFor md ops t s
def Region.lastE (md : Region.Mode) (ops : Array Oper) (E : List Nat) (L : Nat) : Bool := Region.sinkE md ops E L && Region.treeB md ops L && decide (L < ops.size)
theorem listed_tree {L : Nat} {listed : Array Bool} (hc : Closed md ops listed) (hC : Region.treeB md ops L = true) : ∀ (d t : Nat), t - L = d → L ≤ t → listed.getD t false = true → listed.getD L false = true := by
  intro d
  induction d using Nat.strongRecOn with
  | _ d ih =>
    intro t hd hL hl
    by_cases htL : t = L
    · rw [← htL]; exact hl
    · have htlt : t < ops.size := by
        rw [← hc.1]
        rcases Nat.lt_or_ge t listed.size with h | h
        · exact h
        · simp [Array.getElem?_eq_none h] at hl
      have h1 := List.all_eq_true.1 hC t (List.mem_range.2 htlt)
      simp only [Bool.or_eq_true, decide_eq_true_eq] at h1
      rcases h1 with h1 | h1
      · omega
      · obtain ⟨s, hs, hs2⟩ := List.any_eq_true.1 h1
        simp only [Bool.and_eq_true, decide_eq_true_eq] at hs2
        obtain ⟨oj, hoj, e, he, hb, hon⟩ := Region.waitsFor_spec hs2.2
        have h2 := hc.2 t oj hoj hl e he hb
        rw [hon] at h2
        have h3 := List.mem_range.1 hs
        exact ih (s - L) (by omega) s rfl hs2.1 h2
theorem belowE {L : Nat} {E : List Nat} {listed : Array Bool} (hc : Closed md ops listed) (hs : Region.sinkE md ops E L = true) (hE : ∀ i, E.contains i = true → listed.getD i false = true) (hL : ∀ oj, ops[L]? = some oj → ∀ e ∈ oj.after, Region.binds md e = true → listed.getD e.on false = true) : ∀ (d i : Nat), L - i = d → i < L → listed.getD i false = true := by
  intro d
  induction d using Nat.strongRecOn with
  | _ d ih =>
    intro i hd hi
    have h1 := List.all_eq_true.1 hs i (List.mem_range.2 hi)
    rw [Bool.or_eq_true] at h1
    rcases h1 with h1 | h1
    · exact hE i h1
    · obtain ⟨j, hj, hj2⟩ := List.any_eq_true.1 h1
      simp only [Bool.and_eq_true, decide_eq_true_eq] at hj2
      obtain ⟨oj, hoj, e, he, hb, hon⟩ := Region.waitsFor_spec hj2.2
      have hjle : j ≤ L := by have := List.mem_range.1 hj; omega
      rw [← hon]
      by_cases hjL : j = L
      · subst hjL
        exact hL oj hoj e he hb
      · exact hc.2 j oj hoj (ih (L - j) (by omega) j rfl (by omega)) e he hb
theorem last_waitsE {L : Nat} {E : List Nat} (hL : Region.lastE md ops E L = true) {listed : Array Bool} (hc : Closed md ops listed) (hE : ∀ i, E.contains i = true → listed.getD i false = true) {i : Nat} (hi : i ∈ Region.ready md ops listed) (hne : i < L) : ∀ j ∈ Region.ready md ops listed, j < L := by
  intro j hr
  simp only [Region.lastE, Bool.and_eq_true, decide_eq_true_eq] at hL
  obtain ⟨⟨hs, hC⟩, hz⟩ := hL
  obtain ⟨hun, -⟩ := mem_ready.1 hi
  refine Nat.lt_of_not_le fun hLj => ?_
  obtain ⟨hjun, oj, hoj, hall⟩ := mem_ready.1 hr
  have hbelow : listed.getD i false = true := by
    by_cases hjL : j = L
    · subst hjL
      exact belowE hc hs hE (fun o ho e he hb => by rw [hoj] at ho; injection ho with ho; subst ho; exact hall e he hb) _ i rfl hne
    · have h1 := List.all_eq_true.1 hC j (List.mem_range.2 (Array.getElem?_eq_some_iff.1 hoj).1)
      simp only [Bool.or_eq_true, decide_eq_true_eq] at h1
      rcases h1 with h1 | h1
      · omega
      · obtain ⟨s, hs', hs2⟩ := List.any_eq_true.1 h1
        simp only [Bool.and_eq_true, decide_eq_true_eq] at hs2
        obtain ⟨oj', hoj', e, he, hb, hon⟩ := Region.waitsFor_spec hs2.2
        rw [hoj] at hoj'
        injection hoj' with hoj'
        subst hoj'
        have h2 := hall e he hb
        rw [hon] at h2
        have h3 := listed_tree hc hC _ s rfl hs2.1 h2
        exact belowE hc hs hE (fun o ho e he hb => hc.2 L o ho h3 e he hb) _ i rfl hne
  rw [getD_both hun] at hbelow
  cases hbelow
theorem wpAnyM_firstE {L : Nat} {E : List Nat} {i : Nat} {oi : Oper} {v : Value} (hLast : Region.lastE md ops E L = true) (hiL : i < L) (hi : ops[i]? = some oi) (hsel : ∀ (j : Nat) (o : Oper) cs b, ops[j]? = some o → o.op ≠ .select cs b)
    (hQ : ∀ c a w, Q (.panic c) (a.put oi.dst v) w → Q (.panic c) a w) :
    ∀ (fuel : Nat) (listed : Array Bool) (a : Act) (w : World), Closed md ops listed → (∀ i, E.contains i = true → listed.getD i false = true) →
      (∀ j oj, ops[j]? = some oj → j ≠ i → listed.getD j true = false → (∀ e ∈ oj.after, Region.binds md e = true → e.on ≠ i) → oi.apart ops oj = true) →
      i ∈ Region.ready md ops listed → YieldsE P ops w0 oi v a → Ext w0 w →
      wpAnyM P md ops Q w0 L fuel (listed.setIfInBounds i true) (a.put oi.dst v) w → wpAnyM P md ops Q w0 L (fuel + 1) listed a w := by
  intro fuel
  induction fuel with
  | zero =>
    intro listed a w hcl _ _ hr hy hS H w1 hw1
    refine ⟨fun h => (by rw [h] at hr; cases hr), fun j hj => ?_⟩
    by_cases hji : j = i
    · subst hji
      exact ⟨fun _ => hy.wpOp hi (hS.trans hw1) (fun w' hw' => ⟨(hS.trans hw1).trans hw', H.ext (hw1.trans hw')⟩), fun h => by omega⟩
    · have := ready_mono hj hji
      rw [H.1] at this
      cases this
  | succ fuel ih =>
    intro listed a w hcl hEl hfree hr hy hS H w1 hw1
    refine ⟨fun h => (by rw [h] at hr; cases hr), fun j hj => ?_⟩
    have hjL : j < L := last_waitsE hLast hcl hEl hr hiL j hj
    refine ⟨fun _ => ?_, fun h => by omega⟩
    by_cases hji : j = i
    · subst hji
      exact hy.wpOp hi (hS.trans hw1) (fun w' hw' => ⟨(hS.trans hw1).trans hw', H.ext (hw1.trans hw')⟩)
    · have h1 := ((H w1 hw1).2 j (ready_mono hj hji)).1 hjL
      obtain ⟨hjun, oj, hoj, hall⟩ := mem_ready.1 hj
      have hnot : ∀ e ∈ oj.after, Region.binds md e = true → e.on ≠ i := fun e he hb heq => by
        have h1 := hall e he hb
        have h0 := (mem_ready.1 hr).1
        rw [heq] at h1
        rcases Nat.lt_or_ge i listed.size with h' | h'
        · simp [h'] at h0 h1; rw [h0] at h1; cases h1
        · simp [Array.getElem?_eq_none h'] at h1
      have h2 := wpOp_putE hoj (hfree j oj hoj hji hjun hnot) (fun cs b => hsel i oi cs b hi) (fun cs b => hsel j oj cs b hoj) hQ hy h1
      have hfree' : ∀ k ok, ops[k]? = some ok → k ≠ i → (listed.setIfInBounds j true).getD k true = false →
          (∀ e ∈ ok.after, Region.binds md e = true → e.on ≠ i) → oi.apart ops ok = true := fun k ok hk hki hun hno => by
        refine hfree k ok hk hki ?_ hno
        by_cases hjk : j = k
        · subst hjk; exact hjun
        · rw [getD_set_ne true hjk] at hun; exact hun
      refine wpOp_mono (fun a' w' h3 => ⟨h3.2.1, ih (listed.setIfInBounds j true) a' w' (hcl.set hj) (fun k hk => getD_set_true (hEl k hk)) hfree' (ready_mono hr (Ne.symm hji)) h3.1 h3.2.1 ?_⟩) h2
      rw [Array.setIfInBounds_comm _ _ hji]
      exact h3.2.2
theorem wpAnyM_lexE {L : Nat} {E : List Nat} (hLast : Region.lastE md ops E L = true) (hs : Region.noSelect ops = true) (hQ : ∀ (c : List PanicEntry) (a : Act) (d : Option Tmp) (v : Value) (w : World), Q (.panic c) (a.put d v) w → Q (.panic c) a w) (n : Nat) : ∀ (m : List Bool) (l : List Oper) (k : Nat) (listed : Array Bool) (a : Act), Closed md ops listed → (∀ i, E.contains i = true → listed.getD i false = true) → (∀ j, l[j]? = ops[k + j]?) → m.length ≤ l.length →
    lexMask md ops m k listed = true → maskBut L m k = true → wpCalm P ops w0 (fun a' => ∀ X, wpAnyM P md ops Q w0 L n (markOps m k listed) a' (w0.patch X)) (pickOps m l) a →
    ∀ X, wpAnyM P md ops Q w0 L (n + countB m) listed a (w0.patch X)
  | [], _, _, _, _, _, _, _, _, _, _, h, X => by
    simp only [pickOps, wpCalm, markOps] at h
    exact h X
  | _ :: _, [], _, _, _, _, _, _, hlen, _, _, _, _ => by simp at hlen
  | false :: m, o :: l, k, listed, a, hcl, hEl, hl, hlen, hB, hM, h, X =>
    wpAnyM_lexE hLast hs hQ n m l (k + 1) listed a hcl hEl (fun j => by have := hl (j + 1); simpa [Nat.add_assoc, Nat.add_comm 1 j] using this) (by simpa using hlen) (by simpa [lexMask] using hB) (by simpa [maskBut] using hM) (by simpa [pickOps, markOps] using h) X
  | true :: m, o :: l, k, listed, a, hcl, hEl, hl, hlen, hB, hM, h, X => by
    have h0 : ops[k]? = some o := by simpa using (hl 0).symm
    simp only [lexMask, Bool.and_eq_true] at hB
    obtain ⟨⟨hr, hf⟩, hB'⟩ := hB
    simp only [maskBut, Bool.and_eq_true, decide_eq_true_eq] at hM
    simp only [pickOps, markOps] at h
    obtain ⟨v, hy, hK⟩ := yieldsE_of_wpCalm h
    have hr' : k ∈ Region.ready md ops listed := by simpa using hr
    refine wpAnyM_firstE hLast hM.1 h0 (Region.noSelect_spec hs) (fun c a w h => hQ c a _ _ w h) (n + countB m) listed a _ hcl hEl (Region.free_spec h0 hf) hr' hy ⟨X, rfl⟩ ?_
    exact wpAnyM_lexE hLast hs hQ n m l (k + 1) _ _ (hcl.set hr') (fun k hk => getD_set_true (hEl k hk)) (fun j => by have := hl (j + 1); simpa [Nat.add_assoc, Nat.add_comm 1 j] using this) (by simpa using hlen) hB' hM.2 hK X
theorem closed_moves : ∀ (E : List Nat) (listed : Array Bool), Closed md ops listed → movesOk md ops E listed = true → Closed md ops (movesList E listed) ∧ ∀ i, listed.getD i false = true ∨ E.contains i = true → (movesList E listed).getD i false = true
  | [], listed, hc, _ => ⟨hc, fun i h => by rcases h with h | h; exact h; simp at h⟩
  | i :: E, listed, hc, hm => by
    simp only [movesOk, Bool.and_eq_true] at hm
    obtain ⟨⟨⟨h1, h2⟩, h3⟩, h4⟩ := hm
    have hr : i ∈ Region.ready md ops listed := by simpa using h2
    obtain ⟨c1, c2⟩ := closed_moves E _ (hc.set hr) h4
    refine ⟨c1, fun k hk => c2 k ?_⟩
    rcases hk with hk | hk
    · exact Or.inl (getD_set_true hk)
    · by_cases hki : k = i
      · subst hki
        refine Or.inl ?_
        obtain ⟨_, o, ho, _⟩ := mem_ready.1 hr
        have hlt : k < listed.size := by rw [hc.1]; exact (Array.getElem?_eq_some_iff.1 ho).1
        simp [hlt]
      · refine Or.inr ?_
        simpa [hki] using hk
theorem wp_region_moves {id : Nat} {a : Act} {w : World} {l : List Oper} (E : List Nat) (m : List Bool) (n L : Nat) (hm : P.follows .mixedOrders = true) (hs : Region.noSelect l.toArray = true) (hE : movesOk .any l.toArray E (Array.replicate l.length false) = true) (hLast : Region.lastE .any l.toArray E L = true) (hQ : ∀ (c : List PanicEntry) (a : Act) (d : Option Tmp) (v : Value) (w : World), Q (.panic c) (a.put d v) w → Q (.panic c) a w)
    (hlen : m.length ≤ l.length) (hn : n + countB m + E.length = l.length) (hM : maskBut L m 0 = true) (hB : lexMask .any l.toArray m 0 (movesList E (Array.replicate l.length false)) = true)
    (h : ∀ X00 : Extra, wpQuiet P l.toArray (fun w' => ∃ X : Extra, w' = w.patch ⟨X00.blocks ++ X.blocks, X.drawn⟩) (fun a' => ∀ X, wpAnyM P .any l.toArray Q w L n (markOps m 0 (movesList E (Array.replicate l.length false))) a' (w.patch X)) (pickOps m l) (movesAct l.toArray E a)) : (Code.region id l.toArray true).wp P Q a w := by
  obtain ⟨c1, c2⟩ := closed_moves (md := .any) (ops := l.toArray) E _ (Closed.start _ (by simp)) hE
  obtain ⟨X, hX⟩ := Ext.drew (Ext.refl w)
  have := wpAnyM_lexE (md := .any) hLast hs hQ n m l 0 _ _ c1 (fun i hi => c2 i (Or.inr hi)) (by simp) hlen hB hM (wpCalm_of_quiet _ _ h) X
  rw [← hX] at this
  refine wp_region_any hm ?_
  have h2 := wpAny_moves (md := .any) hs hQ E (n + countB m) _ a _ hE (wpAny_of_M (w0 := w) (L := L) _ _ _ _ this)
  simpa [hn] using h2
theorem closed_lex : ∀ (m : List Bool) (k : Nat) (listed : Array Bool), Closed md ops listed → lexMask md ops m k listed = true → Closed md ops (markOps m k listed)
  | [], _, _, hc, _ => hc
  | false :: m, k, listed, hc, h => closed_lex m (k + 1) listed hc (by simpa [lexMask] using h)
  | true :: m, k, listed, hc, h => by
    simp only [lexMask, Bool.and_eq_true] at h
    obtain ⟨⟨hr, hf⟩, hB'⟩ := h
    exact closed_lex m (k + 1) _ (hc.set (by simpa using hr)) hB'
theorem maskBut_all {L : Nat} : ∀ (m : List Bool) (k : Nat), k + m.length ≤ L → maskBut L m k = true
  | [], _, _ => rfl
  | true :: m, k, h => by
    simp only [List.length_cons] at h
    simp only [maskBut, Bool.and_eq_true, decide_eq_true_eq]
    exact ⟨by omega, maskBut_all m (k + 1) (by omega)⟩
  | false :: m, k, h => by
    simp only [List.length_cons] at h
    simp only [maskBut]
    exact maskBut_all m (k + 1) (by omega)
theorem wpCalm_mono {Q1 Q2 : Act → Prop} (h : ∀ a, Q1 a → Q2 a) : ∀ (l : List Oper) (a : Act), wpCalm P ops w0 Q1 l a → wpCalm P ops w0 Q2 l a
  | [], _, hh => h _ hh
  | o :: rest, a, hh => by
    unfold wpCalm at hh ⊢
    split
    · rename_i hw
      rw [if_pos hw] at hh
      obtain ⟨v, h1, h2⟩ := hh
      exact ⟨v, h1, wpCalm_mono h rest _ h2⟩
    · rename_i hw
      rw [if_neg hw] at hh
      exact wpCalm_mono h rest _ hh
theorem wpAny_calm {n : Nat} {listed : Array Bool} {a : Act} {w : World} {l : List Oper} (hc : Closed md l.toArray listed) (hs : Region.noSelect l.toArray = true) (hQ : ∀ (c : List PanicEntry) (a : Act) (d : Option Tmp) (v : Value) (w : World), Q (.panic c) (a.put d v) w → Q (.panic c) a w) (m : List Bool) (hlen : m.length ≤ l.length) (hn : countB m = n) (hB : lexMask md l.toArray m 0 listed = true) (hr : Region.ready md l.toArray (markOps m 0 listed) = [])
    (h : ∀ X00 : Extra, wpQuiet P l.toArray (fun w' => ∃ X : Extra, w' = w.patch ⟨X00.blocks ++ X.blocks, X.drawn⟩) (fun a' => ∀ X, Q .normal a' (w.patch X)) (pickOps m l) a) : wpAny P md l.toArray Q n listed a w := by
  subst hn
  refine wpAny_of_M (w0 := w) (L := l.toArray.size) _ _ _ _ ?_
  obtain ⟨X, hX⟩ := Ext.refl w
  have h2 : wpCalm P l.toArray w (fun a' => ∀ X, wpAnyM P md l.toArray Q w l.toArray.size 0 (markOps m 0 listed) a' (w.patch X)) (pickOps m l) a :=
    wpCalm_mono (fun a' h3 X => wpAnyM_done hr (fun Y => by
      obtain ⟨Z, hZ⟩ := (show Ext w ((w.patch X).patch Y) from Ext.trans ⟨X, rfl⟩ ⟨Y, rfl⟩)
      rw [hZ]
      exact h3 Z) 0) _ _ (wpCalm_of_quiet _ _ h)
  have h4 := wpAnyM_lex (md := md) (w0 := w) (L := l.toArray.size) (by simp [Region.lastB]) hs hQ 0 m l 0 listed a hc (by simp) hlen hB (maskBut_all m 0 (by simpa using hlen)) h2 X
  rw [← hX] at h4
  simpa using h4
theorem wp_region_split {id : Nat} {a : Act} {w : World} {l : List Oper} (m : List Bool) (L : Nat) (o : Oper) (m2 : List Bool) (hm : P.follows .mixedOrders = true) (hs : Region.noSelect l.toArray = true) (hLast : Region.lastE .any l.toArray [] L = true) (hQ : ∀ (c : List PanicEntry) (a : Act) (d : Option Tmp) (v : Value) (w : World), Q (.panic c) (a.put d v) w → Q (.panic c) a w)
    (hlen : m.length ≤ l.length) (hlen2 : m2.length ≤ l.length) (hn : countB m2 + 1 + countB m = l.length) (hM : maskBut L m 0 = true) (hB : lexMask .any l.toArray m 0 (Array.replicate l.length false) = true)
    (hr : Region.ready .any l.toArray (markOps m 0 (Array.replicate l.length false)) = [L]) (ho : l[L]? = some o) (hg : o.guard = none)
    (hB2 : lexMask .any l.toArray m2 0 ((markOps m 0 (Array.replicate l.length false)).setIfInBounds L true) = true) (hr2 : Region.ready .any l.toArray (markOps m2 0 ((markOps m 0 (Array.replicate l.length false)).setIfInBounds L true)) = [])
    (h : ∀ X00 : Extra, wpQuiet P l.toArray (fun w' => ∃ X : Extra, w' = w.patch ⟨X00.blocks ++ X.blocks, X.drawn⟩) (fun a' => ∀ X, ∀ K : Act → World → Prop, ∀ Q' : Exit → Act → World → Prop,
      (∀ a2 w2, (∀ X02 : Extra, wpQuiet P l.toArray (fun w' => ∃ X : Extra, w' = w2.patch ⟨X02.blocks ++ X.blocks, X.drawn⟩) (fun a3 => ∀ Y, Q .normal a3 (w2.patch Y)) (pickOps m2 l) a2) → K a2 w2) → o.wp P a' (w.patch X) K Q') (pickOps m l) a) : (Code.region id l.toArray true).wp P Q a w := by
  have hcl := closed_lex (md := .any) (ops := l.toArray) m 0 _ (Closed.start l.length (by simp)) hB
  have hcl2 := hcl.set (i := L) (by rw [hr]; exact List.mem_singleton.2 rfl)
  obtain ⟨X, hX⟩ := Ext.drew (Ext.refl w)
  have h2 : wpCalm P l.toArray w (fun a' => ∀ X, wpAnyM P .any l.toArray Q w L (countB m2 + 1) (markOps m 0 (Array.replicate l.length false)) a' (w.patch X)) (pickOps m l) a := by
    refine wpCalm_mono (fun a' h3 X => ?_) _ _ (wpCalm_of_quiet _ _ h)
    rintro w1 ⟨Y, rfl⟩
    refine ⟨fun h0 => (by rw [hr] at h0; cases h0), fun j hj => ?_⟩
    rw [hr] at hj
    simp only [List.mem_singleton] at hj
    subst hj
    refine ⟨fun h0 => by omega, fun _ => ?_⟩
    obtain ⟨Z, hZ⟩ := (show Ext w ((w.patch X).patch Y) from Ext.trans ⟨X, rfl⟩ ⟨Y, rfl⟩)
    rw [hZ]
    have ho' : l.toArray[j]? = some o := by simpa using ho
    unfold wpOp
    simp only [ho', Region.wanted, hg, if_true]
    exact .inl (h3 Z _ Q fun a2 w2 h4 => wpAny_calm hcl2 hs hQ m2 hlen2 rfl hB2 hr2 h4)
  have h5 := wpAnyM_lexE (md := .any) hLast hs hQ (countB m2 + 1) m l 0 (Array.replicate l.length false) a (Closed.start _ (by simp)) (fun i hi => by simp at hi) (by simp) hlen hB hM h2 X
  rw [← hX] at h5
  refine wp_region_any hm ?_
  have h6 := wpAny_of_M (w0 := w) (L := L) _ _ _ _ h5
  simpa [hn] using h6
end
end Go

/-
  A scope in which the run comes to one label and jumps back to it. No program here.
-/
namespace Go
theorem wp_scope_from {P : Program} {a : Act} {w : World} {Q : Exit → Act → World → Prop} {c R : Code} (l : Nat) (J : Act → World → Prop) (μ : Act → World → Nat) (hf : findLabel c l = some (Code.skip.seq R))
    (pass : ∀ a w, J a w → R.wp P (Exit.jump l (fun a' w' => J a' w' ∧ μ a' w' < μ a w) Q) a w)
    (first : (∀ a w, J a w → R.wp P (Exit.jump l J Q) a w) → c.wp P (Exit.jump l J Q) a w) : (Code.scope c).wp P Q a w := by
  refine wp_scope_jumps l J μ hf (first fun a w h => wp_mono (pass a w h) fun e _ _ hq => ?_) fun a w h => ?_
  · cases e <;> first | exact hq | exact ⟨hq.1, hq.2.1⟩
  · exact wp_seq (wp_skip (pass a w h))
end Go

/-
  Merged: XScope2, XVia.
-/
/-
  A scope with a label ahead (the end) and a label behind (a loop). No program here.
-/
namespace Go
def Exit.jump2 (l0 : Nat) (J0 : Act → World → Prop) (l1 : Nat) (J1 : Act → World → Prop) (Q : Exit → Act → World → Prop) : Exit → Act → World → Prop
  | .goto l, a, w => (l = l0 ∧ J0 a w) ∨ (l = l1 ∧ J1 a w)
  | e, a, w => Q e a w
section
variable {P : Program} {a : Act} {w : World} {Q : Exit → Act → World → Prop}
end
end Go
/-
  A scope with labels that are jumped to forward only, in the order of a list. No program here.
-/
namespace Go
def Exit.via (P : Program) (Q : Exit → Act → World → Prop) : List (Nat × Code) → Exit → Act → World → Prop
  | [], .goto _, _, _ => False
  | (l', r) :: L, .goto l, a, w => (l = l' ∧ r.wp P (Exit.via P Q L) a w) ∨ Exit.via P Q L (.goto l) a w
  | _, e, a, w => Q e a w
section
variable {P : Program} {a : Act} {w : World} {Q : Exit → Act → World → Prop}
theorem Exit.via_ret {L : List (Nat × Code)} : Exit.via P Q L .ret a w = Q .ret a w := by cases L <;> rfl
theorem via_here {l : Nat} {r : Code} {L : List (Nat × Code)} (h : r.wp P (Exit.via P Q L) a w) : Exit.via P Q ((l, r) :: L) (.goto l) a w := Or.inl ⟨rfl, h⟩
theorem via_next {l l' : Nat} {r : Code} {L : List (Nat × Code)} (h : Exit.via P Q L (.goto l) a w) : Exit.via P Q ((l', r) :: L) (.goto l) a w := Or.inr h
theorem via_goto {l : Nat} : ∀ {L : List (Nat × Code)}, Exit.via P Q L (.goto l) a w → ∃ r L', (l, r) ∈ L ∧ L'.length < L.length ∧ (∀ x ∈ L', x ∈ L) ∧ r.wp P (Exit.via P Q L') a w
  | [], h => h.elim
  | (l', r) :: L, h => by
    rcases h with ⟨rfl, h⟩ | h
    · exact ⟨r, L, List.mem_cons_self, Nat.lt_succ_self _, fun x hx => List.mem_cons_of_mem _ hx, h⟩
    · obtain ⟨r2, L2, h1, h2, h3, h4⟩ := via_goto h
      exact ⟨r2, L2, List.mem_cons_of_mem _ h1, Nat.lt_succ_of_lt h2, fun x hx => List.mem_cons_of_mem _ (h3 x hx), h4⟩
theorem wp_scope_via {c : Code} (L : List (Nat × Code)) (hL : ∀ p ∈ L, findLabel c p.1 = some p.2) (first : c.wp P (Exit.via P Q L) a w) : (Code.scope c).wp P Q a w := by
  intro b k cs
  have key : ∀ (n : Nat) (L : List (Nat × Code)), L.length = n → (∀ p ∈ L, findLabel c p.1 = some p.2) → ∀ (r : Code) (a : Act) (w : World), r.wp P (Exit.via P Q L) a w → ∃ e a' w', Q e a' w' ∧ Arrives P (lone (b.at a (.code r :: .inScope c :: k)) cs w) b k cs e a' w' := by
    intro n
    induction n using Nat.strongRecOn with
    | _ n ih =>
      intro L hn hL r a w h
      obtain ⟨e, a₁, w₁, hq, harr⟩ := h b (.inScope c :: k) cs
      cases e with
      | normal => exact ⟨.normal, a₁, w₁, by cases L <;> exact hq, Steps.trans harr (.one step_inScope)⟩
      | exit id => exact ⟨.exit id, a₁, w₁, by cases L <;> exact hq, fun k' hk => harr k' (by simp [exitTo, hk])⟩
      | goto l' =>
        obtain ⟨r2, L2, h1, h2, h3, h4⟩ := via_goto hq
        have hg : gotoIn l' (.inScope c :: k) = some (.code r2 :: .inScope c :: k) := by simp [gotoIn, hL _ h1]
        obtain ⟨e₂, a₂, w₂, hq₂, harr₂⟩ := ih L2.length (by omega) L2 rfl (fun p hp => hL p (h3 p hp)) r2 a₁ w₁ h4
        exact ⟨e₂, a₂, w₂, hq₂, .of_steps (harr _ hg) harr₂⟩
      | ret => exact ⟨.ret, a₁, w₁, by cases L <;> exact hq, harr⟩
      | panic ch => exact ⟨.panic ch, a₁, w₁, by cases L <;> exact hq, harr⟩
      | outgrown => exact ⟨.outgrown, a₁, w₁, by cases L <;> exact hq, harr⟩
  exact let ⟨e, a', w', hq, harr⟩ := key L.length L rfl hL c a w first; ⟨e, a', w', hq, .of_steps (.one step_scope) harr⟩
end
end Go

