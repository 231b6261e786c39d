/-
  Merged: XMoves, XFindG, XFindH.
-/
import Derived.Test.YtmgkfpmmlibmcaaBase
import Derived.Test.YtmgkfpmmlibmcaaFindE
/-
  Moves that may come late: taken first. No program here.
-/
namespace Go
section
variable {P : Program} {ops : Array Oper} {Q : Exit → Act → World → Prop} {md : Region.Mode} {w0 : World}
def moveOf (ops : Array Oper) (i : Nat) : Option (Option Tmp × Operand) := match ops[i]? with
  | some o => match o.op, o.guard with
    | .move x, none => some (o.dst, x)
    | _, _ => none
  | none => none
def movesOk (md : Region.Mode) (ops : Array Oper) : List Nat → Array Bool → Bool
  | [], _ => true
  | i :: E, l => (moveOf ops i).isSome && (Region.ready md ops l).contains i && Region.free md ops l i && movesOk md ops E (l.setIfInBounds i true)
def movesAct (ops : Array Oper) : List Nat → Act → Act
  | [], a => a
  | i :: E, a => match moveOf ops i with
    | some (d, x) => movesAct ops E (a.put d (a.eval x))
    | none => movesAct ops E a
def movesList : List Nat → Array Bool → Array Bool
  | [], l => l
  | i :: E, l => movesList E (l.setIfInBounds i true)
theorem moveOf_spec {i : Nat} {d : Option Tmp} {x : Operand} (h : moveOf ops i = some (d, x)) : ∃ o, ops[i]? = some o ∧ o.op = .move x ∧ o.guard = none ∧ o.dst = d := by
  unfold moveOf at h
  split at h
  · rename_i o ho
    split at h
    · rename_i y h1 h2
      simp only [Option.some.injEq, Prod.mk.injEq] at h
      obtain ⟨rfl, rfl⟩ := h
      exact ⟨o, ho, h1, h2, rfl⟩
    · cases h
  · cases h
theorem yields_move {o : Oper} {x : Operand} {a : Act} (h1 : o.op = .move x) (h2 : o.guard = none) : Yields P ops o (a.eval x) a := by
  unfold Yields
  refine Or.inl ⟨by simp [Region.wanted, h2], fun w => ?_⟩
  unfold execOp
  rw [h1]
  rfl
theorem wpAny_moves (hs : Region.noSelect ops = true) (hQ : ∀ (c : List PanicEntry) (a : Act) (d : Option Tmp) (v : Value) (w : World), Q (.panic c) (a.put d v) w → Q (.panic c) a w) : ∀ (E : List Nat) (fuel : Nat) (listed : Array Bool) (a : Act) (w : World), movesOk md ops E listed = true →
    wpAny P md ops Q fuel (movesList E listed) (movesAct ops E a) w → wpAny P md ops Q (fuel + E.length) listed a w
  | [], _, _, _, _, _, h => h
  | i :: E, fuel, listed, a, w, hm, h => by
    simp only [movesOk, Bool.and_eq_true] at hm
    obtain ⟨⟨⟨h1, h2⟩, h3⟩, h4⟩ := hm
    obtain ⟨⟨d, x⟩, hx⟩ := Option.isSome_iff_exists.1 h1
    obtain ⟨o, ho, hop, hg, rfl⟩ := moveOf_spec hx
    simp only [movesAct, hx, movesList] at h
    exact wpAny_take (v := a.eval x) ho hs h3 h2 (fun c a w h => hQ c a _ _ w h) (yields_move hop hg) (wpAny_moves hs hQ E fuel _ _ w h4 h)
def Region.sinkE (md : Region.Mode) (ops : Array Oper) (E : List Nat) (n : Nat) : Bool :=
  (List.range n).all fun i => E.contains i || (List.range (n + 1)).any fun j => decide (i < j) && Region.waitsFor md ops j i
def Region.lastE (md : Region.Mode) (ops : Array Oper) (E : List Nat) (L : Nat) : Bool := Region.sinkE md ops E L && Region.chainB md ops L && decide (L < ops.size)
/-- Where number L may come up, all below have come up. -/
theorem belowE {L : Nat} {E : List Nat} {listed : Array Bool} (hc : Closed md ops listed) (hs : Region.sinkE md ops E L = true) (hE : ∀ i, E.contains i = true → listed.getD i false = true) (hL : ∀ oj, ops[L]? = some oj → ∀ e ∈ oj.after, Region.binds md e = true → listed.getD e.on false = true) : ∀ (d i : Nat), L - i = d → i < L → listed.getD i false = true := by
  intro d
  induction d using Nat.strongRecOn with
  | _ d ih =>
    intro i hd hi
    have h1 := List.all_eq_true.1 hs i (List.mem_range.2 hi)
    rw [Bool.or_eq_true] at h1
    rcases h1 with h1 | h1
    · exact hE i h1
    · obtain ⟨j, hj, hj2⟩ := List.any_eq_true.1 h1
      simp only [Bool.and_eq_true, decide_eq_true_eq] at hj2
      obtain ⟨oj, hoj, e, he, hb, hon⟩ := Region.waitsFor_spec hj2.2
      have hjle : j ≤ L := by have := List.mem_range.1 hj; omega
      rw [← hon]
      by_cases hjL : j = L
      · subst hjL
        exact hL oj hoj e he hb
      · exact hc.2 j oj hoj (ih (L - j) (by omega) j rfl (by omega)) e he hb
theorem last_waitsE {L : Nat} {E : List Nat} (hL : Region.lastE md ops E L = true) {listed : Array Bool} (hc : Closed md ops listed) (hE : ∀ i, E.contains i = true → listed.getD i false = true) {i : Nat} (hi : i ∈ Region.ready md ops listed) (hne : i < L) : ∀ j ∈ Region.ready md ops listed, j < L := by
  intro j hr
  simp only [Region.lastE, Bool.and_eq_true, decide_eq_true_eq] at hL
  obtain ⟨⟨hs, hC⟩, hz⟩ := hL
  obtain ⟨hun, -⟩ := mem_ready.1 hi
  refine Nat.lt_of_not_le fun hLj => ?_
  obtain ⟨hjun, oj, hoj, hall⟩ := mem_ready.1 hr
  have hbelow : listed.getD i false = true := by
    by_cases hjL : j = L
    · subst hjL
      exact belowE hc hs hE (fun o ho e he hb => by rw [hoj] at ho; injection ho with ho; subst ho; exact hall e he hb) _ i rfl hne
    · have h1 := List.all_eq_true.1 hC j (List.mem_range.2 (Array.getElem?_eq_some_iff.1 hoj).1)
      simp only [Bool.or_eq_true, decide_eq_true_eq] at h1
      rcases h1 with h1 | h1
      · omega
      · obtain ⟨oj', hoj', e, he, hb, hon⟩ := Region.waitsFor_spec h1
        rw [hoj] at hoj'
        injection hoj' with hoj'
        subst hoj'
        have h2 := hall e he hb
        rw [hon] at h2
        have h3 := listed_chain hc hC (j - 1 - L) (j - 1) (by omega) h2
        exact belowE hc hs hE (fun o ho e he hb => hc.2 L o ho h3 e he hb) _ i rfl hne
  rw [getD_both hun] at hbelow
  cases hbelow
theorem wpAnyM_firstE {L : Nat} {E : List Nat} {i : Nat} {oi : Oper} {v : Value} (hLast : Region.lastE md ops E L = true) (hiL : i < L) (hi : ops[i]? = some oi) (hsel : ∀ (j : Nat) (o : Oper) cs b, ops[j]? = some o → o.op ≠ .select cs b)
    (hQ : ∀ c a w, Q (.panic c) (a.put oi.dst v) w → Q (.panic c) a w) :
    ∀ (fuel : Nat) (listed : Array Bool) (a : Act) (w : World), Closed md ops listed → (∀ i, E.contains i = true → listed.getD i false = true) →
      (∀ j oj, ops[j]? = some oj → j ≠ i → listed.getD j true = false → (∀ e ∈ oj.after, Region.binds md e = true → e.on ≠ i) → oi.apart ops oj = true) →
      i ∈ Region.ready md ops listed → YieldsE P ops w0 oi v a → Ext w0 w →
      wpAnyM P md ops Q w0 L fuel (listed.setIfInBounds i true) (a.put oi.dst v) w → wpAnyM P md ops Q w0 L (fuel + 1) listed a w := by
  intro fuel
  induction fuel with
  | zero =>
    intro listed a w hcl _ _ hr hy hS H w1 hw1
    refine ⟨fun h => (by rw [h] at hr; cases hr), fun j hj => ?_⟩
    by_cases hji : j = i
    · subst hji
      exact ⟨fun _ => hy.wpOp hi (hS.trans hw1) (fun w' hw' => ⟨(hS.trans hw1).trans hw', H.ext (hw1.trans hw')⟩), fun h => by omega⟩
    · have := ready_mono hj hji
      rw [H.1] at this
      cases this
  | succ fuel ih =>
    intro listed a w hcl hEl hfree hr hy hS H w1 hw1
    refine ⟨fun h => (by rw [h] at hr; cases hr), fun j hj => ?_⟩
    have hjL : j < L := last_waitsE hLast hcl hEl hr hiL j hj
    refine ⟨fun _ => ?_, fun h => by omega⟩
    by_cases hji : j = i
    · subst hji
      exact hy.wpOp hi (hS.trans hw1) (fun w' hw' => ⟨(hS.trans hw1).trans hw', H.ext (hw1.trans hw')⟩)
    · have h1 := ((H w1 hw1).2 j (ready_mono hj hji)).1 hjL
      obtain ⟨hjun, oj, hoj, hall⟩ := mem_ready.1 hj
      have hnot : ∀ e ∈ oj.after, Region.binds md e = true → e.on ≠ i := fun e he hb heq => by
        have h1 := hall e he hb
        have h0 := (mem_ready.1 hr).1
        rw [heq] at h1
        rcases Nat.lt_or_ge i listed.size with h' | h'
        · simp [h'] at h0 h1; rw [h0] at h1; cases h1
        · simp [Array.getElem?_eq_none h'] at h1
      have h2 := wpOp_putE hoj (hfree j oj hoj hji hjun hnot) (fun cs b => hsel i oi cs b hi) (fun cs b => hsel j oj cs b hoj) hQ hy h1
      have hfree' : ∀ k ok, ops[k]? = some ok → k ≠ i → (listed.setIfInBounds j true).getD k true = false →
          (∀ e ∈ ok.after, Region.binds md e = true → e.on ≠ i) → oi.apart ops ok = true := fun k ok hk hki hun hno => by
        refine hfree k ok hk hki ?_ hno
        by_cases hjk : j = k
        · subst hjk; exact hjun
        · rw [getD_set_ne true hjk] at hun; exact hun
      refine wpOp_mono (fun a' w' h3 => ⟨h3.2.1, ih (listed.setIfInBounds j true) a' w' (hcl.set hj) (fun k hk => getD_set_true (hEl k hk)) hfree' (ready_mono hr (Ne.symm hji)) h3.1 h3.2.1 ?_⟩) h2
      rw [Array.setIfInBounds_comm _ _ hji]
      exact h3.2.2
theorem wpAnyM_lexE {L : Nat} {E : List Nat} (hLast : Region.lastE md ops E L = true) (hs : Region.noSelect ops = true) (hQ : ∀ (c : List PanicEntry) (a : Act) (d : Option Tmp) (v : Value) (w : World), Q (.panic c) (a.put d v) w → Q (.panic c) a w) (n : Nat) : ∀ (m : List Bool) (l : List Oper) (k : Nat) (listed : Array Bool) (a : Act), Closed md ops listed → (∀ i, E.contains i = true → listed.getD i false = true) → (∀ j, l[j]? = ops[k + j]?) → m.length ≤ l.length →
    lexMask md ops m k listed = true → maskBut L m k = true → wpCalm P ops w0 (fun a' => ∀ X, wpAnyM P md ops Q w0 L n (markOps m k listed) a' (w0.patch X)) (pickOps m l) a →
    ∀ X, wpAnyM P md ops Q w0 L (n + countB m) listed a (w0.patch X)
  | [], _, _, _, _, _, _, _, _, _, _, h, X => by
    simp only [pickOps, wpCalm, markOps] at h
    exact h X
  | _ :: _, [], _, _, _, _, _, _, hlen, _, _, _, _ => by simp at hlen
  | false :: m, o :: l, k, listed, a, hcl, hEl, hl, hlen, hB, hM, h, X =>
    wpAnyM_lexE hLast hs hQ n m l (k + 1) listed a hcl hEl (fun j => by have := hl (j + 1); simpa [Nat.add_assoc, Nat.add_comm 1 j] using this) (by simpa using hlen) (by simpa [lexMask] using hB) (by simpa [maskBut] using hM) (by simpa [pickOps, markOps] using h) X
  | true :: m, o :: l, k, listed, a, hcl, hEl, hl, hlen, hB, hM, h, X => by
    have h0 : ops[k]? = some o := by simpa using (hl 0).symm
    simp only [lexMask, Bool.and_eq_true] at hB
    obtain ⟨⟨hr, hf⟩, hB'⟩ := hB
    simp only [maskBut, Bool.and_eq_true, decide_eq_true_eq] at hM
    simp only [pickOps, markOps] at h
    obtain ⟨v, hy, hK⟩ := yieldsE_of_wpCalm h
    have hr' : k ∈ Region.ready md ops listed := by simpa using hr
    refine wpAnyM_firstE hLast hM.1 h0 (Region.noSelect_spec hs) (fun c a w h => hQ c a _ _ w h) (n + countB m) listed a _ hcl hEl (Region.free_spec h0 hf) hr' hy ⟨X, rfl⟩ ?_
    exact wpAnyM_lexE hLast hs hQ n m l (k + 1) _ _ (hcl.set hr') (fun k hk => getD_set_true (hEl k hk)) (fun j => by have := hl (j + 1); simpa [Nat.add_assoc, Nat.add_comm 1 j] using this) (by simpa using hlen) hB' hM.2 hK X
theorem closed_moves : ∀ (E : List Nat) (listed : Array Bool), Closed md ops listed → movesOk md ops E listed = true → Closed md ops (movesList E listed) ∧ ∀ i, listed.getD i false = true ∨ E.contains i = true → (movesList E listed).getD i false = true
  | [], listed, hc, _ => ⟨hc, fun i h => by rcases h with h | h; exact h; simp at h⟩
  | i :: E, listed, hc, hm => by
    simp only [movesOk, Bool.and_eq_true] at hm
    obtain ⟨⟨⟨h1, h2⟩, h3⟩, h4⟩ := hm
    have hr : i ∈ Region.ready md ops listed := by simpa using h2
    obtain ⟨c1, c2⟩ := closed_moves E _ (hc.set hr) h4
    refine ⟨c1, fun k hk => c2 k ?_⟩
    rcases hk with hk | hk
    · exact Or.inl (getD_set_true hk)
    · by_cases hki : k = i
      · subst hki
        refine Or.inl ?_
        obtain ⟨_, o, ho, _⟩ := mem_ready.1 hr
        have hlt : k < listed.size := by rw [hc.1]; exact (Array.getElem?_eq_some_iff.1 ho).1
        simp [hlt]
      · refine Or.inr ?_
        simpa [hki] using hk
/-- A region that draws, with moves (E) that may come late: those first, then the calm operations by the mask, then the rest. -/
theorem wp_region_moves {id : Nat} {a : Act} {w : World} {l : List Oper} (E : List Nat) (m : List Bool) (n L : Nat) (hm : P.follows .mixedOrders = true) (hs : Region.noSelect l.toArray = true) (hE : movesOk .any l.toArray E (Array.replicate l.length false) = true) (hLast : Region.lastE .any l.toArray E L = true) (hQ : ∀ (c : List PanicEntry) (a : Act) (d : Option Tmp) (v : Value) (w : World), Q (.panic c) (a.put d v) w → Q (.panic c) a w)
    (hlen : m.length ≤ l.length) (hn : n + countB m + E.length = l.length) (hM : maskBut L m 0 = true) (hB : lexMask .any l.toArray m 0 (movesList E (Array.replicate l.length false)) = true)
    (h : ∀ X00 : Extra, wpQuiet P l.toArray (fun w' => ∃ X : Extra, w' = w.patch ⟨X00.blocks ++ X.blocks, X.drawn⟩) (fun a' => ∀ X, wpAnyM P .any l.toArray Q w L n (markOps m 0 (movesList E (Array.replicate l.length false))) a' (w.patch X)) (pickOps m l) (movesAct l.toArray E a)) : (Code.region id l.toArray true).wp P Q a w := by
  obtain ⟨c1, c2⟩ := closed_moves (md := .any) (ops := l.toArray) E _ (Closed.start _ (by simp)) hE
  obtain ⟨X, hX⟩ := Ext.drew (Ext.refl w)
  have := wpAnyM_lexE (md := .any) hLast hs hQ n m l 0 _ _ c1 (fun i hi => c2 i (Or.inr hi)) (by simp) hlen hB hM (wpCalm_of_quiet _ _ h) X
  rw [← hX] at this
  refine wp_region_any hm ?_
  have h2 := wpAny_moves (md := .any) hs hQ E (n + countB m) _ a _ hE (wpAny_of_M (w0 := w) (L := L) _ _ _ _ this)
  simpa [hn] using h2
end
end Go
/-
  find: the head of an object; the links.
-/
namespace Go.Proofs.Ytmgkfpmmlibmcaa
open Go Go.RowKit
set_option linter.unusedVariables false
set_option linter.unnecessarySimpa false
set_option linter.unusedSimpArgs false
set_option maxHeartbeats 1500000
set_option maxRecDepth 100000
/-- A field that stands at once: in the head's fragment, or side by side. -/
theorem find_first_here (g : GW) (t b : Nat) (S : FindS) (p q : Nat) (kd md : Int) (refs : List Bool) (k : Nat) (h : FindAt g t b S) (ht : ∀ w, Calls Try.prog 198 #[.complex .f64 p q] w (Gives (.tuple #[.int .i64 kd, .int .i64 md, .bool true]) w)) (hat : S.c.shapeAt kd = some (false, refs)) (ha : S.array = false) (hk : S.k = k) (hlt : k < refs.length)
    (hfd : ∀ A cap, Shp.hasField ⟨false, A, cap, refs⟩ k = true) (hmd : md = 1 ∨ md = 0 ∧ Shp.placeF k = 0) (hh : 0 ≤ S.head ∧ S.head ≤ 100000) :
    Calls Try.prog 161 #[.pointer (some ⟨b, 0, none⟩), .complex .f64 p q] g.w (Does (.bool false) g (fun x => x = t) (fun g' => FindAt g' t b (FindS.stands { S with ref := refs.getD k false } (S.head + Shp.placeF k) (Shp.placeW k)))) := by
  have HA := Lib.hid ha
  have HK := Lib.hid hk
  have HMD := Lib.hid hmd
  have HHH := Lib.hid hh
  clear ha hk hmd hh
  have HSH := Lib.hid (fun w' (he : Ext g.w w') => shape_any S.c kd w' (h.cnf.ok.ext he))
  unfold Cnf.val at HSH
  have H := Lib.hid h
  have HT := Lib.hid (ht g.w)
  clear h ht
  go_enter Try.func161, Try.ntmps161
  go_wp2_with fail
  refine HT.out.mono ?_
  rintro e w1 ⟨rfl, hE⟩
  have HE1 := Lib.hid (Mod.ext (T := fun _ => False) (g := g) (show Ext g.w w1 from hE) 0)
  have H1 := Lib.hid (H.out.keep HE1.out id id)
  have HX1 := Lib.hid (show Ext g.w w1 from hE)
  clear hE HT
  have k0 := H1.out.blk.cell (i := 0) rfl
  have k1 := H1.out.blk.cell (i := 1) rfl
  have k2 := H1.out.blk.cell (i := 2) rfl
  have k3 := H1.out.blk.cell (i := 3) rfl
  have k4 := H1.out.blk.cell (i := 4) rfl
  have k5 := H1.out.blk.cell (i := 5) rfl
  have k6 := H1.out.blk.cell (i := 6) rfl
  have k7 := H1.out.blk.cell (i := 7) rfl
  have k8 := H1.out.blk.cell (i := 8) rfl
  have hl := H1.out.blk.lt
  simp only [GW.to] at k0 k1 k2 k3 k4 k5 k6 k7 k8 hl
  go_wp2_with fail
  refine (HSH.out _ HX1.out).mono ?_
  rintro e w2 ⟨s', rfl, hs, hfr, hok, hE⟩
  have HS := Lib.hid (hs.trans (by rw [hat]; rfl : _ = (false, refs)))
  have HI := Lib.hid (show (S.c.shapeAt kd).isSome = true by rw [hat]; rfl)
  have HOK := Lib.hid hok
  clear hs hfr hok HSH k0 k1 k2 k3 k4 k5 k6 k7 k8 hl hat
  rw [HI.out]
  obtain ⟨arr', A', cap', refs'⟩ := s'
  have ha : arr' = false := congrArg Prod.fst HS.out
  have hr : refs' = refs := congrArg Prod.snd HS.out
  subst ha hr
  clear HS HI
  unfold Shp.val
  have HE2 := Lib.hid (Mod.ext (T := fun _ => False) (g := g.to 0 w1) (show Ext w1 (w2.alloc (.cells #[.bool false, .slice A' refs'.length cap'] 29)) from (show Ext w1 w2 from hE).trans (by (repeat (first | (with_reducible assumption) | (with_reducible exact Ext.refl _) | (with_reducible exact Ext.more _ _ _ _) | apply Ext.alloc | refine Ext.setCell ?_ (by first | exact Nat.le_refl _ | exact Nat.le_add_right _ _ | assumption) _ | apply Ext.patch | apply Ext.drew | apply Ext.drewN)))) 0)
  have HE := Lib.hid (HE1.out.trans HE2.out)
  have H2 := Lib.hid (H1.out.keep HE2.out id id)
  have HB := Lib.hid (show (w2.alloc (.cells #[.bool false, .slice A' refs'.length cap'] 29)).heap[w2.heap.size]? = some (.cells #[.bool false, .slice A' refs'.length cap'] 29) from World.row_alloc_new _)
  have HOK2 := Lib.hid (HOK.out.ext (show Ext w2 (w2.alloc (.cells #[.bool false, .slice A' refs'.length cap'] 29)) by (repeat (first | (with_reducible assumption) | (with_reducible exact Ext.refl _) | (with_reducible exact Ext.more _ _ _ _) | apply Ext.alloc | refine Ext.setCell ?_ (by first | exact Nat.le_refl _ | exact Nat.le_add_right _ _ | assumption) _ | apply Ext.patch | apply Ext.drew | apply Ext.drewN))))
  clear hE H1 HX1 HE1 HE2 H HOK
  go_upto_region 3 with fail
  generalize w2.heap.size = bs at *
  generalize w2.alloc (.cells #[.bool false, .slice A' refs'.length cap'] 29) = wb at *
  have c1 := H2.out.blk.cell (i := 11) rfl
  have c2 := H2.out.blk.cell (i := 12) rfl
  have c3 := H2.out.blk.cell (i := 20) rfl
  have c4 := H2.out.blk.cell (i := 10) rfl
  have c5 := H2.out.blk.cell (i := 9) rfl
  have f2 := H2.out.blk.live 12
  have f3 := H2.out.blk.live 20
  have f4 := H2.out.blk.live 14
  have f5 := H2.out.blk.live 15
  have hl := H2.out.blk.lt
  have s0 : wb.cell? ⟨bs, 0, none⟩ = some (.bool false) := by simp only [World.cell?, HB.out]; rfl
  have s1 : wb.cell? ⟨bs, 1, none⟩ = some (.slice A' refs'.length cap') := by simp only [World.cell?, HB.out]; rfl
  have hbs : bs < wb.heap.size := (Array.getElem?_eq_some_iff.1 HB.out).1
  simp only [GW.to] at c1 c2 c3 c4 c5 f2 f3 f4 f5 hl
  have HO := Lib.hid H2.out.blk.own
  rw [HA.out] at c1
  rw [HK.out] at c4
  have hlen : refs'.length ≤ 140737488355328 := HOK2.out.max
  have HPL := Lib.hid (fun X => (show Calls Try.prog 21 #[.agg #[.bool false, .slice A' refs'.length cap'], .int .i64 k] (wb.patch X) (Gives (.tuple #[.int .i64 (Shp.placeF k), .int .i64 (Shp.placeW k), .bool true]) (wb.patch X)) from by
    have h1 := place_any ⟨false, A', cap', refs'⟩ k (wb.patch X) (HOK2.out.ext ⟨X, rfl⟩) (by omega) (by omega)
    unfold Shp.place at h1
    rw [if_pos (hfd A' cap')] at h1
    exact h1))
  obtain ⟨bq, oq, hA, hbq, hcq⟩ := HOK2.out.refs.cases (by simpa using Nat.lt_of_le_of_lt (Nat.zero_le _) hlt)
  have z0 := hcq k (.bool (refs'.getD k false)) (by rw [List.getElem?_map, List.getElem?_eq_getElem hlt, List.getD_eq_getElem?_getD, List.getElem?_eq_getElem hlt]; rfl)
  simp only at hA
  subst hA
  generalize hrf : refs'.getD k false = rf at *
  have HRF := Lib.hid hrf
  have HEX := Lib.hid (H2.out.st 20 (.bool rf) { S with ref := rf } rfl rfl)
  have hpb : 0 ≤ Shp.placeF k ∧ Shp.placeF k ≤ 140737488355328 := by unfold Shp.placeF; split <;> omega
  generalize hpf : Shp.placeF (k : Int) = pf at *
  generalize hpw : Shp.placeW (k : Int) = pw at *
  have HPF := Lib.hid (And.intro hpf hpw)
  obtain ⟨hh0, hh1⟩ := HHH.out
  obtain ⟨hp0, hp1⟩ := hpb
  have hik : (k : Int) < refs'.length := by omega
  clear hcq hrf hpf hpw hfd
  have HSTD := Lib.hid (fun X => find_stands (GW.pt ⟨((g.to 0 w1).to 0 wb).own, wb.setCell ⟨b, 20, none⟩ (.bool rf)⟩ X) t b { S with ref := rf } (S.head + pf) pw (HEX.out.keep (Mod.pt (Mod.refl (fun _ => False) _) X) id id))
  have HEND := Lib.hid (fun own3 (w3 : World) (M : Mod (fun x => x = t) ⟨((g.to 0 w1).to 0 wb).own, wb.setCell ⟨b, 20, none⟩ (.bool rf)⟩ ⟨own3, w3⟩) (r : FindAt ⟨own3, w3⟩ t b (FindS.stands { S with ref := rf } (S.head + pf) pw)) => show Does (.bool false) g (fun x => x = t) (fun g' => FindAt g' t b (FindS.stands { S with ref := refs'.getD k false } (S.head + Shp.placeF k) (Shp.placeW k))) (.returned (.bool false)) w3 from by
    refine ⟨rfl, own3, (HE.out.mono (fun _ => False.elim)).trans ((Mod.st Mod.self HO.out).trans M), ?_⟩
    rw [HRF.out, HPF.out.1, HPF.out.2]
    exact r)
  rcases HMD.out with rfl | ⟨rfl, h0⟩
  · clear HMD
    go_wp2_with fail
    refine wp_region_mixed [true, true, true, true, true, true, true, true] 0 8 (by kernel_rfl) (by kernel_rfl) (by kernel_rfl) ?_ (by decide) (by decide) (by decide) (by kernel_rfl) ?_
    · intro c a d v w h; cases d <;> exact h
    intro X00
    simp only [pickOps]
    repeat (go_big_quiet_step (fail))
    refine wpQuiet_nil (fun X0 => ?_)
    clear X00
    refine wpAnyM_done (by kernel_rfl) (fun X0' => ?_) _
    go_wp2_with fail
    refine wp_forget (base := wb) (by (repeat (first | (with_reducible assumption) | (with_reducible exact Ext.refl _) | (with_reducible exact Ext.more _ _ _ _) | apply Ext.alloc | refine Ext.setCell ?_ (by first | exact Nat.le_refl _ | exact Nat.le_add_right _ _ | assumption) _ | apply Ext.patch | apply Ext.drew | apply Ext.drewN))) (fun Z => ?_)
    refine wp_region_mixed [true, true, true, true, true, true, true, true, true, true, true, true, true] 0 13 (by kernel_rfl) (by kernel_rfl) (by kernel_rfl) ?_ (by decide) (by decide) (by decide) (by kernel_rfl) ?_
    · intro c a d v w h; cases d <;> exact h
    intro X00
    simp only [pickOps]
    repeat (go_big_quiet_step ((go_at_call 21; exact Calls.added2 (HPL.out _))))
    refine wpQuiet_nil (fun X0 => ?_)
    clear X00
    refine wpAnyM_done (by kernel_rfl) (fun X0' => ?_) _
    go_wp2_with fail
    refine wp_region_mixed [true, true, true, true, true, true, true, true, true, true, true, false] 1 11 (by kernel_rfl) (by kernel_rfl) (by kernel_rfl) ?_ (by decide) (by decide) (by decide) (by kernel_rfl) ?_
    · intro c a d v w h; cases d <;> exact h
    intro X00
    simp only [pickOps]
    repeat (go_big_quiet_step (fail))
    refine wpQuiet_nil (fun X0 => ?_)
    clear X00
    refine wpAnyM_tailL rfl (by kernel_rfl) (fun X2 => ?_)
    simp only [List.drop_succ_cons, List.drop_zero]
    go_wp2_with fail
    refine (HSTD.out _).mono ?_
    rintro e w3 ⟨rfl, own3, m3, r3⟩
    have M3 := Lib.hid m3
    have R3 := Lib.hid r3
    clear m3 r3
    go_wp2_with fail
    go_ret
    exact HEND.out own3 w3 ((Mod.pt (Mod.refl _ _) _).trans M3.out) R3.out
  · have hpz : (pf == 0) = true := beq_iff_eq.2 h0
    clear h0 HMD
    go_wp2_with fail
    refine wp_region_mixed [true, true, true, true, true, true, true, true] 0 8 (by kernel_rfl) (by kernel_rfl) (by kernel_rfl) ?_ (by decide) (by decide) (by decide) (by kernel_rfl) ?_
    · intro c a d v w h; cases d <;> exact h
    intro X00
    simp only [pickOps]
    repeat (go_big_quiet_step (fail))
    refine wpQuiet_nil (fun X0 => ?_)
    clear X00
    refine wpAnyM_done (by kernel_rfl) (fun X0' => ?_) _
    go_wp2_with fail
    refine wp_forget (base := wb) (by (repeat (first | (with_reducible assumption) | (with_reducible exact Ext.refl _) | (with_reducible exact Ext.more _ _ _ _) | apply Ext.alloc | refine Ext.setCell ?_ (by first | exact Nat.le_refl _ | exact Nat.le_add_right _ _ | assumption) _ | apply Ext.patch | apply Ext.drew | apply Ext.drewN))) (fun Z => ?_)
    refine wp_region_mixed [true, true, true, true, true, true, true, true, true, true, true, true, true] 0 13 (by kernel_rfl) (by kernel_rfl) (by kernel_rfl) ?_ (by decide) (by decide) (by decide) (by kernel_rfl) ?_
    · intro c a d v w h; cases d <;> exact h
    intro X00
    simp only [pickOps]
    repeat (go_big_quiet_step ((go_at_call 21; exact Calls.added2 (HPL.out _))))
    refine wpQuiet_nil (fun X0 => ?_)
    clear X00
    refine wpAnyM_done (by kernel_rfl) (fun X0' => ?_) _
    go_wp2_with fail
    refine wp_region_mixed [true, true, true, true, true, true, true, true, true, true, true, false] 1 11 (by kernel_rfl) (by kernel_rfl) (by kernel_rfl) ?_ (by decide) (by decide) (by decide) (by kernel_rfl) ?_
    · intro c a d v w h; cases d <;> exact h
    intro X00
    simp only [pickOps]
    repeat (go_big_quiet_step (fail))
    refine wpQuiet_nil (fun X0 => ?_)
    clear X00
    refine wpAnyM_tailL rfl (by kernel_rfl) (fun X2 => ?_)
    simp only [List.drop_succ_cons, List.drop_zero]
    go_wp2_with fail
    refine (HSTD.out _).mono ?_
    rintro e w3 ⟨rfl, own3, m3, r3⟩
    have M3 := Lib.hid m3
    have R3 := Lib.hid r3
    clear m3 r3
    go_wp2_with fail
    go_ret
    exact HEND.out own3 w3 ((Mod.pt (Mod.refl _ _) _).trans M3.out) R3.out
/-- A link. -/
theorem find_begins_link (g : GW) (t b tm bm : Nat) (S : FindS) (m : MemS) (nx : Int) (h : FindAt g t b S) (hm : MemAt g tm bm m) (hc : 0 ≤ m.count ∧ m.count ≤ 1099511627776) (hpc : S.pc = 1) (hok : S.okAt S.frag 0 = true) (hin : inB (S.frag * 8 + 0) m.l.length = true) (hw : m.peek (S.frag * 8 + 0) = (floatOfInt .f64 (nx + 1), 4607182418800017408)) (ht : t ≠ tm) (ht1 : t + 1 ≠ tm)
    (hn0 : 0 ≤ nx) (hn1 : nx < S.c.frags) (hn2 : nx ≤ 1099511627776) (had : 1 ≤ S.ahead ∧ S.ahead ≤ 1000000) :
    Calls Try.prog 97 #[.pointer (some ⟨b, 0, none⟩), .pointer (some ⟨bm, 0, none⟩)] g.w (Does (.bool (S.ahead == 1)) g (fun x => x = t ∨ x = tm) (fun g' => FindAt g' t b (if S.ahead = 1 then FindS.stands { S with frag := nx, ahead := S.ahead - 1 } nx S.word else { S with frag := nx, ahead := S.ahead - 1 }) ∧ MemAt g' tm bm m.tick)) := by
  have c0 := h.blk.cell (i := 12) rfl
  have c1 := h.blk.cell (i := 13) rfl
  have hl := h.blk.lt
  rw [hpc] at c0
  have HT := Lib.hid (And.intro ht ht1)
  have HR := Lib.hid (find_read_ok g t b tm bm S m S.frag 0 h hm hc hok hin _ _ hw ht ht1)
  have HI := Lib.hid (fun w => index_ref nx hn0 hn2 w)
  generalize floatOfInt .f64 (nx + 1) = p at *
  clear h hm hpc hok hin hw ht ht1
  go_enter Try.func97, Try.ntmps97
  go_wp2_with fail
  refine wp_scope_fwd 0 rfl ?_
  go_wp2_with fail
  go_step3
  refine ⟨rfl, ?_⟩
  go_wp2_with fail
  refine HR.out.mono ?_
  rintro e w1 ⟨rfl, own1, m1, r1, r2⟩
  have M1 := Lib.hid m1
  have R1 := Lib.hid r1
  have R2 := Lib.hid r2
  clear m1 r1 r2 c0 c1 hl
  go_wp2_with fail
  refine (HI.out _).mono ?_
  rintro e w2 ⟨rfl, hE⟩
  have M2 := Lib.hid (Mod.ext (T := fun _ => False) (g := ⟨own1, w1⟩) (show Ext w1 w2 from hE) 0)
  have R3 := Lib.hid (R2.out.keep M2.out id id)
  have R1' := Lib.hid (R1.out.keep M2.out id)
  clear hE
  have c0 := R3.out.blk.cell (i := 0) rfl
  have c1 := R3.out.blk.cell (i := 13) rfl
  have c2 := R3.out.blk.cell (i := 14) rfl
  have c3 := R3.out.blk.cell (i := 15) rfl
  have f1 := R3.out.blk.live 13
  have f2 := R3.out.blk.live 14
  have hl := R3.out.blk.lt
  have HO := Lib.hid R3.out.blk.own
  simp only [GW.to] at c0 c1 c2 c3 f1 f2 hl
  have d1 : decide (S.c.frags ≤ nx) = false := decide_eq_false (by omega)
  obtain ⟨ha0, ha1⟩ := had
  have M3 := Lib.hid (show Mod (fun x => x = t) (GW.to ⟨own1, w1⟩ 0 w2) ⟨(GW.to ⟨own1, w1⟩ 0 w2).own, (w2.setCell ⟨b, 13, none⟩ (.int .i64 nx)).setCell ⟨b, 14, none⟩ (.int .i64 (S.ahead - 1))⟩ from Mod.st (Mod.st Mod.self HO.out) HO.out)
  have R4 := Lib.hid ((R3.out.st 13 (.int .i64 nx) { S with frag := nx } rfl rfl).st 14 (.int .i64 (S.ahead - 1)) { S with frag := nx, ahead := S.ahead - 1 } rfl rfl)
  have R5 := Lib.hid (R1'.out.keep M3.out (fun e => HT.out.1 e.symm))
  by_cases h1 : S.ahead = 1
  · have hz : (S.ahead - 1 == 0) = true := beq_iff_eq.2 (by omega)
    have h1b := Lib.hid (show (S.ahead == 1) = true from beq_iff_eq.2 h1)
    have H1 := Lib.hid h1
    clear h1
    have HST := Lib.hid (find_stands _ t b { S with frag := nx, ahead := S.ahead - 1 } nx S.word R4.out)
    go_wp2_with fail
    refine HST.out.mono ?_
    rintro e w3 ⟨rfl, own3, m3, r3⟩
    have M4 := Lib.hid m3
    have R6 := Lib.hid r3
    clear m3 r3
    go_wp2_with fail
    rw [Exit.noGoto_ret]
    go_ret
    refine ⟨by rw [h1b.out]; rfl, own3, (M1.out.mono (fun x hx => Or.inr hx)).trans ((M2.out.mono (fun _ => False.elim)).trans ((M3.out.mono (fun x hx => Or.inl hx)).trans (M4.out.mono (fun x hx => Or.inl hx)))), ?_, R5.out.keep M4.out (fun e => HT.out.1 e.symm)⟩
    rw [if_pos H1.out]
    exact R6.out
  · have hz : (S.ahead - 1 == 0) = false := beq_eq_false_iff_ne.2 (by omega)
    have h1b := Lib.hid (show (S.ahead == 1) = false from beq_eq_false_iff_ne.2 h1)
    have H1 := Lib.hid h1
    clear h1
    go_wp2_with fail
    rw [Exit.noGoto_ret]
    go_ret
    refine ⟨by rw [h1b.out]; rfl, _, (M1.out.mono (fun x hx => Or.inr hx)).trans ((M2.out.mono (fun _ => False.elim)).trans (M3.out.mono (fun x hx => Or.inl hx))), ?_, R5.out⟩
    rw [if_neg H1.out]
    exact R4.out
end Go.Proofs.Ytmgkfpmmlibmcaa
/-
  find: the head of an object, where the field is behind links. (Does not build yet: region 18.)
-/
namespace Go.Proofs.Ytmgkfpmmlibmcaa
open Go Go.RowKit
set_option linter.unusedVariables false
set_option linter.unnecessarySimpa false
set_option linter.unusedSimpArgs false
set_option maxHeartbeats 1500000
set_option maxRecDepth 100000
/-- A field of a fragment behind links. -/
theorem find_first_far (g : GW) (t b : Nat) (S : FindS) (p q : Nat) (kd : Int) (refs : List Bool) (k : Nat) (h : FindAt g t b S) (ht : ∀ w, Calls Try.prog 198 #[.complex .f64 p q] w (Gives (.tuple #[.int .i64 kd, .int .i64 0, .bool true]) w)) (hat : S.c.shapeAt kd = some (false, refs)) (ha : S.array = false) (hk : S.k = k) (hlt : k < refs.length)
    (hfd : ∀ A cap, Shp.hasField ⟨false, A, cap, refs⟩ k = true) (hmd : 0 < Shp.placeF k) :
    Calls Try.prog 161 #[.pointer (some ⟨b, 0, none⟩), .complex .f64 p q] g.w (Does (.bool true) g (fun x => x = t) (fun g' => FindAt g' t b { S with ref := refs.getD k false, ahead := Shp.placeF k, word := Shp.placeW k, pc := 1 })) := by
  have HA := Lib.hid ha
  have HK := Lib.hid hk
  clear ha hk
  have HSH := Lib.hid (fun w' (he : Ext g.w w') => shape_any S.c kd w' (h.cnf.ok.ext he))
  unfold Cnf.val at HSH
  have H := Lib.hid h
  have HT := Lib.hid (ht g.w)
  clear h ht
  go_enter Try.func161, Try.ntmps161
  go_wp2_with fail
  refine HT.out.mono ?_
  rintro e w1 ⟨rfl, hE⟩
  have HE1 := Lib.hid (Mod.ext (T := fun _ => False) (g := g) (show Ext g.w w1 from hE) 0)
  have H1 := Lib.hid (H.out.keep HE1.out id id)
  have HX1 := Lib.hid (show Ext g.w w1 from hE)
  clear hE HT
  have k0 := H1.out.blk.cell (i := 0) rfl
  have k1 := H1.out.blk.cell (i := 1) rfl
  have k2 := H1.out.blk.cell (i := 2) rfl
  have k3 := H1.out.blk.cell (i := 3) rfl
  have k4 := H1.out.blk.cell (i := 4) rfl
  have k5 := H1.out.blk.cell (i := 5) rfl
  have k6 := H1.out.blk.cell (i := 6) rfl
  have k7 := H1.out.blk.cell (i := 7) rfl
  have k8 := H1.out.blk.cell (i := 8) rfl
  have hl := H1.out.blk.lt
  simp only [GW.to] at k0 k1 k2 k3 k4 k5 k6 k7 k8 hl
  go_wp2_with fail
  refine (HSH.out _ HX1.out).mono ?_
  rintro e w2 ⟨s', rfl, hs, hfr, hok, hE⟩
  have HS := Lib.hid (hs.trans (by rw [hat]; rfl : _ = (false, refs)))
  have HI := Lib.hid (show (S.c.shapeAt kd).isSome = true by rw [hat]; rfl)
  have HOK := Lib.hid hok
  clear hs hfr hok HSH k0 k1 k2 k3 k4 k5 k6 k7 k8 hl hat
  rw [HI.out]
  obtain ⟨arr', A', cap', refs'⟩ := s'
  have ha : arr' = false := congrArg Prod.fst HS.out
  have hr : refs' = refs := congrArg Prod.snd HS.out
  subst ha hr
  clear HS HI
  unfold Shp.val
  have HE2 := Lib.hid (Mod.ext (T := fun _ => False) (g := g.to 0 w1) (show Ext w1 (w2.alloc (.cells #[.bool false, .slice A' refs'.length cap'] 29)) from (show Ext w1 w2 from hE).trans (by (repeat (first | (with_reducible assumption) | (with_reducible exact Ext.refl _) | (with_reducible exact Ext.more _ _ _ _) | apply Ext.alloc | refine Ext.setCell ?_ (by first | exact Nat.le_refl _ | exact Nat.le_add_right _ _ | assumption) _ | apply Ext.patch | apply Ext.drew | apply Ext.drewN)))) 0)
  have HE := Lib.hid (HE1.out.trans HE2.out)
  have H2 := Lib.hid (H1.out.keep HE2.out id id)
  have HB := Lib.hid (show (w2.alloc (.cells #[.bool false, .slice A' refs'.length cap'] 29)).heap[w2.heap.size]? = some (.cells #[.bool false, .slice A' refs'.length cap'] 29) from World.row_alloc_new _)
  have HOK2 := Lib.hid (HOK.out.ext (show Ext w2 (w2.alloc (.cells #[.bool false, .slice A' refs'.length cap'] 29)) by (repeat (first | (with_reducible assumption) | (with_reducible exact Ext.refl _) | (with_reducible exact Ext.more _ _ _ _) | apply Ext.alloc | refine Ext.setCell ?_ (by first | exact Nat.le_refl _ | exact Nat.le_add_right _ _ | assumption) _ | apply Ext.patch | apply Ext.drew | apply Ext.drewN))))
  clear hE H1 HX1 HE1 HE2 H HOK
  go_upto_region 3 with fail
  generalize w2.heap.size = bs at *
  generalize w2.alloc (.cells #[.bool false, .slice A' refs'.length cap'] 29) = wb at *
  have c1 := H2.out.blk.cell (i := 11) rfl
  have c2 := H2.out.blk.cell (i := 12) rfl
  have c3 := H2.out.blk.cell (i := 20) rfl
  have c4 := H2.out.blk.cell (i := 10) rfl
  have c5 := H2.out.blk.cell (i := 9) rfl
  have f2 := H2.out.blk.live 12
  have f3 := H2.out.blk.live 20
  have f4 := H2.out.blk.live 14
  have f5 := H2.out.blk.live 15
  have hl := H2.out.blk.lt
  have s0 : wb.cell? ⟨bs, 0, none⟩ = some (.bool false) := by simp only [World.cell?, HB.out]; rfl
  have s1 : wb.cell? ⟨bs, 1, none⟩ = some (.slice A' refs'.length cap') := by simp only [World.cell?, HB.out]; rfl
  have hbs : bs < wb.heap.size := (Array.getElem?_eq_some_iff.1 HB.out).1
  simp only [GW.to] at c1 c2 c3 c4 c5 f2 f3 f4 f5 hl
  have HO := Lib.hid H2.out.blk.own
  have c6 := H2.out.blk.cell (i := 14) rfl
  have c7 := H2.out.blk.cell (i := 15) rfl
  simp only [GW.to] at c6 c7
  rw [HA.out] at c1
  rw [HK.out] at c4
  have hlen : refs'.length ≤ 140737488355328 := HOK2.out.max
  have HPL := Lib.hid (fun X => (show Calls Try.prog 21 #[.agg #[.bool false, .slice A' refs'.length cap'], .int .i64 k] (wb.patch X) (Gives (.tuple #[.int .i64 (Shp.placeF k), .int .i64 (Shp.placeW k), .bool true]) (wb.patch X)) from by
    have h1 := place_any ⟨false, A', cap', refs'⟩ k (wb.patch X) (HOK2.out.ext ⟨X, rfl⟩) (by omega) (by omega)
    unfold Shp.place at h1
    rw [if_pos (hfd A' cap')] at h1
    exact h1))
  obtain ⟨bq, oq, hA, hbq, hcq⟩ := HOK2.out.refs.cases (by simpa using Nat.lt_of_le_of_lt (Nat.zero_le _) hlt)
  have z0 := hcq k (.bool (refs'.getD k false)) (by rw [List.getElem?_map, List.getElem?_eq_getElem hlt, List.getD_eq_getElem?_getD, List.getElem?_eq_getElem hlt]; rfl)
  simp only at hA
  subst hA
  generalize hrf : refs'.getD k false = rf at *
  have HRF := Lib.hid hrf
  generalize hpf : Shp.placeF (k : Int) = pf at *
  generalize hpw : Shp.placeW (k : Int) = pw at *
  have HPF := Lib.hid (And.intro hpf hpw)
  have HEX := Lib.hid ((((H2.out.st 20 (.bool rf) { S with ref := rf } rfl rfl).st 14 (.int .i64 pf) { S with ref := rf, ahead := pf } rfl rfl).st 15 (.int .i64 pw) { S with ref := rf, ahead := pf, word := pw } rfl rfl).st 12 (.int .i64 1) { S with ref := rf, ahead := pf, word := pw, pc := 1 } rfl rfl)
  have hik : (k : Int) < refs'.length := by omega
  have hpz : (pf == 0) = false := beq_eq_false_iff_ne.2 (by omega)
  clear hcq hrf hpf hpw hfd
  go_wp2_with fail
  refine wp_region_mixed [true, true, true, true, true, true, true, true] 0 8 (by kernel_rfl) (by kernel_rfl) (by kernel_rfl) ?_ (by decide) (by decide) (by decide) (by kernel_rfl) ?_
  · intro c a d v w h; cases d <;> exact h
  intro X00
  simp only [pickOps]
  repeat (go_big_quiet_step (fail))
  refine wpQuiet_nil (fun X0 => ?_)
  clear X00
  refine wpAnyM_done (by kernel_rfl) (fun X0' => ?_) _
  go_wp2_with fail
  refine wp_forget (base := wb) (by (repeat (first | (with_reducible assumption) | (with_reducible exact Ext.refl _) | (with_reducible exact Ext.more _ _ _ _) | apply Ext.alloc | refine Ext.setCell ?_ (by first | exact Nat.le_refl _ | exact Nat.le_add_right _ _ | assumption) _ | apply Ext.patch | apply Ext.drew | apply Ext.drewN))) (fun Z => ?_)
  refine wp_region_mixed [true, true, true, true, true, true, true, true, true, true, true, true, true] 0 13 (by kernel_rfl) (by kernel_rfl) (by kernel_rfl) ?_ (by decide) (by decide) (by decide) (by kernel_rfl) ?_
  · intro c a d v w h; cases d <;> exact h
  intro X00
  simp only [pickOps]
  repeat (go_big_quiet_step ((go_at_call 21; exact Calls.added2 (HPL.out _))))
  refine wpQuiet_nil (fun X0 => ?_)
  clear X00
  refine wpAnyM_done (by kernel_rfl) (fun X0' => ?_) _
  go_wp2_with fail
  refine wp_region_moves [1, 2, 3, 12, 13] [true, false, false, false, true, true, true, true, true, true, true, true] 12 14 (by kernel_rfl) (by kernel_rfl) (by kernel_rfl) (by kernel_rfl) ?_ (by decide) (by decide) (by decide) (by kernel_rfl) ?_
  · intro c a d v w h; cases d <;> exact h
  intro X00
  simp only [pickOps, movesAct, moveOf, List.getElem?_toArray, List.getElem?_cons_zero, List.getElem?_cons_succ]
  go_simp
  repeat (go_big_quiet_step (fail))
  refine wpQuiet_nil (fun X0 => ?_)
  clear X00
  refine wpAnyM_tailL rfl (by kernel_rfl) (fun X2 => ?_)
  simp only [List.drop_succ_cons, List.drop_zero]
  go_wp2_with fail
  go_ret
  refine Does.ext ⟨((g.to 0 w1).to 0 wb).own, (((wb.setCell ⟨b, 20, none⟩ (.bool rf)).setCell ⟨b, 14, none⟩ (.int .i64 pf)).setCell ⟨b, 15, none⟩ (.int .i64 pw)).setCell ⟨b, 12, none⟩ (.int .i64 1)⟩ (by (repeat (first | (with_reducible assumption) | (with_reducible exact Ext.refl _) | (with_reducible exact Ext.more _ _ _ _) | apply Ext.alloc | refine Ext.setCell ?_ (by first | exact Nat.le_refl _ | exact Nat.le_add_right _ _ | assumption) _ | apply Ext.patch | apply Ext.drew | apply Ext.drewN))) rfl ((HE.out.mono (fun _ => False.elim)).trans (Mod.st (Mod.st (Mod.st (Mod.st Mod.self HO.out) HO.out) HO.out) HO.out)) (fun g2 m => ?_)
  rw [HRF.out, HPF.out.1, HPF.out.2]
  exact HEX.out.keep m id id
end Go.Proofs.Ytmgkfpmmlibmcaa
