/-
  tale.Ops: an operation of each four bytes, a thousand at most.
-/
import Derived.Test.YtlddahifhefjiaaChunk
import Derived.Test.YtlddahifhefjiaaTale1
namespace Go
open Go.RowKit
set_option linter.unusedVariables false
theorem keepsOthers_ext {W W' : World} (h : Ext W W') : KeepsOthers W W' := ⟨h.size, fun k _ hk _ => (h.heap k (Array.getElem?_eq_some_iff.1 hk).1).trans hk⟩
theorem Boxed.ext {W W' : World} {B : Nat} {t : TypeId} {v : Value} (h : Boxed W B t v) (he : Ext W W') : Boxed W' B t v := h.kept (grown_of_ext he) (by simp)
/-- An append to the row that a box holds, and the store back. -/
theorem Boxed.appended2 {W W2 w1 : World} {n₀ B : Nat} {t e : TypeId} {size : Nat} {v v' : Value} {k m : Nat} {xs ys : List Value}
    (hE : Ext W W2) (hv : Boxed W B t v) (hte : t ≠ e) (hrow : W.ownsRow n₀ e size v k xs) (hn₀ : n₀ ≤ W.heap.size) (hB : n₀ ≤ B)
    (hown' : w1.ownsRow n₀ e size v' m ys) (hgrow : W2.grownBy w1 v.ownBlock) :
    Boxed w1 B t v ∧ Boxed (w1.setCell ⟨B, 0, none⟩ v') B t v' ∧ (w1.setCell ⟨B, 0, none⟩ v').ownsRow n₀ e size v' m ys ∧ KeepsOthers W (w1.setCell ⟨B, 0, none⟩ v') ∧ Below n₀ W (w1.setCell ⟨B, 0, none⟩ v') := by
  have hv2 := hv.ext hE
  have hrow2 := own_ext hrow hE
  have hv1 : Boxed w1 B t v := hv2.kept hgrow (hv2.not_row hte hrow2)
  refine ⟨hv1, hv1.set v', hown'.kept (grownBy_setCell' w1 B v') (.inr (hv1.not_row hte hown').symm), ?_, ?_⟩
  · refine ((keepsOthers_ext hE).trans (KeepsOthers.of_grownBy hgrow fun j o ej hj => ?_)).trans (KeepsOthers.setCell _ _ _)
    rcases hrow2.2 with ⟨rfl, _⟩ | ⟨g, cap, cur, rfl, _, hgb, _⟩
    · simp [Value.ownBlock] at ej
    · obtain rfl : g = j := by simpa [Value.ownBlock] using ej
      rw [hgb] at hj; cases hj; rfl
  · refine (((hE.below.mono hn₀)).grown hgrow (by have := hE.size; omega) fun j ej => ?_).setCell (p := ⟨B, 0, none⟩) hB v'
    rcases hrow.2 with ⟨rfl, _⟩ | ⟨g, cap, cur, rfl, hb, _, _⟩
    · simp [Value.ownBlock] at ej
    · obtain rfl : g = j := by simpa [Value.ownBlock] using ej
      exact hb
theorem news_patch (w : World) (cs : List Value) (t : TypeId) (X : Extra) : ∀ j u, cs[j]? = some u → ((w.alloc (.cells cs.toArray t)).patch X).cell? ((⟨w.heap.size, 0, none⟩ : Addr).add j) = some u := fun j u hj => by
  rw [← news_new w cs t j u hj]
  have : ((⟨w.heap.size, 0, none⟩ : Addr).add j) = ⟨w.heap.size, j, none⟩ := by
    unfold Addr.add
    split
    · rename_i h; subst h; rfl
    · simp
  rw [this, World.cell?_patch _ _ _ _ (by simp)]
theorem oprs_one (o : Opr) : ∀ u ∈ o.cells, u.oneCell' = true := by
  intro u hu
  simp only [Opr.cells, List.mem_cons, List.not_mem_nil, or_false] at hu
  rcases hu with rfl | rfl | rfl | rfl | rfl | rfl <;> rfl
theorem getD_mem2 {l : List Int} {k : Nat} (h : k < l.length) : l.getD k 0 ∈ l := by
  rw [List.getD_eq_getElem?_getD, List.getElem?_eq_getElem h]
  exact List.getElem_mem h
theorem Boxed.beside {W W2 w1 : World} {n₀ B C : Nat} {t e : TypeId} {size : Nat} {u v v' : Value} {k : Nat} {xs : List Value}
    (hE : Ext W W2) (hv : Boxed W C t u) (hte : t ≠ e) (hrow : W.ownsRow n₀ e size v k xs) (hBC : C ≠ B) (hgrow : W2.grownBy w1 v.ownBlock) : Boxed (w1.setCell ⟨B, 0, none⟩ v') C t u := by
  have h1 : Boxed w1 C t u := (hv.ext hE).kept hgrow ((hv.ext hE).not_row hte (own_ext hrow hE))
  exact h1.kept (grownBy_setCell' w1 B v') (by simp [hBC])
end Go
namespace Go.Proofs.Ytlddahifhefjiaa
open Go Go.RowKit Go.Shelf
set_option linter.unusedVariables false
attribute [local go_sem] Oper.semAt_some

theorem infoOp : (Try.prog.info? 28).map (fun i => (i.zero, i.size, i.bytes)) = some (some (.agg #[.int .i64 0, .int .i64 0, .int .i64 0, .int .i64 0, .int .i64 0, .complex .f64 0 0]), 6, 56) := by kernel_rfl

/-- What the round has collected. -/
def Held (w : World) (bs : List Int) (ini : List Nat) (W : World) : Prop :=
  (∃ v, Boxed W w.heap.size 24 v ∧ W.ownsRow w.heap.size 28 6 v ini.length ((ini.map (opAtOf bs)).flatMap Opr.cells) ∧ True) ∧ Below w.heap.size w W
theorem held_own (w : World) (bs : List Int) (B : Nat) (hB : w.heap.size ≤ B) : OwnFrom B (Held w bs) :=
  OwnFrom.and (Own.from (holdsRow_own w.heap.size w.heap.size 24 28 6 (fun ini : List Nat => ini.length) (fun ini : List Nat => (ini.map (opAtOf bs)).flatMap Opr.cells) (fun _ _ => True)) _) (ownFrom_below (Nat.le_refl _) hB)

theorem boxed_ownFrom {X Y : World} {C B : Nat} {t : TypeId} {v : Value} {row : Option Nat} (h : Boxed X B t v) (hg : X.grownBy Y row) (hr : ∀ r, row = some r → C ≤ r ∧ ∃ o : Obj, X.heap[r]? = some o ∧ o.isCells = false) : Boxed Y B t v :=
  h.kept hg (fun e => by obtain ⟨_, o, ho, hc⟩ := hr B e.symm; rw [show X.heap[B]? = _ from h] at ho; cases ho; cases hc)

/-- What holds between two rounds. -/
def OpsI (w : World) (bs : List Int) (s : Value) (pre : List Nat) (W : World) : Prop :=
  Held w bs pre W ∧ (Boxed W (w.heap.size + 1) 22 s ∧ Boxed W (w.heap.size + 1 + 1) 3 (.int .i64 4)) ∧ pre.length ≤ 1000 ∧ ∀ x ∈ pre, 4 * x + 4 ≤ bs.length
/-- A round has left. -/
def OpsX (w : World) (bs : List Int) (c : Code) (pre : List Nat) (W : World) : Prop :=
  c = .exit 0 ∧ ∃ ini x, pre = ini ++ [x] ∧ Held w bs ini W ∧ ini.length ≤ 1000 ∧ (∀ y ∈ ini, 4 * y + 4 ≤ bs.length) ∧ (ini.length = 1000 ∨ bs.length < 4 * x + 4)
theorem opsI_own (w : World) (bs : List Int) (s : Value) (B : Nat) (hB : w.heap.size ≤ B) : OwnFrom B (OpsI w bs s) := fun pre X Y row hs hg hr =>
  ⟨held_own w bs B hB pre X Y row hs.1 hg hr, ⟨boxed_ownFrom hs.2.1.1 hg hr, boxed_ownFrom hs.2.1.2 hg hr⟩, hs.2.2⟩
theorem opsX_own (w : World) (bs : List Int) (c : Code) (B : Nat) (hB : w.heap.size ≤ B) : OwnFrom B (OpsX w bs c) := fun pre X Y row hs hg hr => by
  obtain ⟨h1, ini, x, h2, h3, h4⟩ := hs
  exact ⟨h1, ini, x, h2, held_own w bs B hB ini X Y row h3 hg hr, h4⟩

theorem byte_at {w : World} {b off : Nat} {bs : List Int} (h : ∀ i v, (bs.map (Value.int .u8))[i]? = some v → w.cell? ⟨b, off + i, none⟩ = some v) {i : Nat} (hi : i < bs.length) : w.cell? ⟨b, off + i, none⟩ = some (.int .u8 (bs.getD i 0)) :=
  h i _ (by simp [List.getD_eq_getElem?_getD, hi])
theorem byte_in {bs : List Int} (hw : ∀ x ∈ bs, 0 ≤ x ∧ x ≤ 255) {i : Nat} (hi : i < bs.length) : 0 ≤ bs.getD i 0 ∧ bs.getD i 0 ≤ 255 := hw _ (getD_mem2 hi)

set_option maxRecDepth 100000 in
set_option maxHeartbeats 400000 in
theorem ops_any (A : Option Addr) (cap : Nat) (bs : List Int) (w : World) (hb : CellsAt w A (bs.map (Value.int .u8))) (hcap : bs.length ≤ cap) (hmax : cap ≤ 9223372036854775807) (hlen : bs.length ≤ 140737488355328) (hw : ∀ x ∈ bs, 0 ≤ x ∧ x ≤ 255) :
    Calls Try.prog 16 #[.slice A bs.length cap] w fun e W' => ∃ v, e = .returned v ∧ W'.ownsRow w.heap.size 28 6 v (opsOf bs).length ((opsOf bs).flatMap Opr.cells) ∧ Below w.heap.size w W' := by
  obtain ⟨i0, hi, hz0, hz1, hz2⟩ := info_parts infoOp
  obtain ⟨b, off, hA⟩ : ∃ b off, 0 < bs.length → A = some ⟨b, off, none⟩ ∧ b < w.heap.size ∧ ∀ i v, (bs.map (Value.int .u8))[i]? = some v → w.cell? ⟨b, off + i, none⟩ = some v := by
    by_cases h0 : 0 < bs.length
    · obtain ⟨b, o, h1, h2, h3⟩ := hb.cases (by simpa using h0)
      exact ⟨b, o, fun _ => ⟨h1, h2, h3⟩⟩
    · exact ⟨0, 0, fun h => absurd h h0⟩
  refine callsIn_wide (n := 3) |>.1 ?_
  refine callsIn_of_wp_marks Try.func16 rfl trivial ?_ rfl
  simp only [Try.ntmps16, List.size_toArray, List.length_cons, List.length_nil, Nat.reduceAdd, Nat.reduceSub, Array.replicate_succ, Array.replicate_zero, List.push_toArray, List.append_toArray, List.nil_append, List.cons_append]
  gi_wp2_with (refine ⟨trivial, ?_⟩; gi_at_call 77; refine (callsIn_wide.2 (chunk_any _ _ _ _)).mono ?_; rintro e w' ⟨rfl, rfl⟩)
  have bB := ((Boxed.new w 24 (.slice none 0 0)).alloc (.cells #[.slice A bs.length cap] 22)).alloc (.cells #[.int .i64 4] 3)
  have bS := (Boxed.new (w.alloc (.cells #[.slice none 0 0] 24)) 22 (.slice A bs.length cap)).alloc (.cells #[.int .i64 4] 3)
  have bN := Boxed.new ((w.alloc (.cells #[.slice none 0 0] 24)).alloc (.cells #[.slice A bs.length cap] 22)) 3 (.int .i64 4)
  rw [World.size_alloc] at bS bN
  rw [World.size_alloc] at bN
  have hB0 : Below w.heap.size w (((w.alloc (.cells #[.slice none 0 0] 24)).alloc (.cells #[.slice A bs.length cap] 22)).alloc (.cells #[.int .i64 4] 3)) := (((Below.refl _ w).alloc (Nat.le_refl _) _).alloc (by simp) _).alloc (by simp <;> omega) _
  refine wpIn_rangeFunc_ownG rfl (by decide) (gf := 163) (lb := #[.pointer (some ⟨w.heap.size + 1, 0, none⟩), .pointer (some ⟨w.heap.size + 1 + 1, 0, none⟩)]) rfl trivial (enters_of Try.func163 (by kernel_rfl) rfl)
    (chunk_stops 2 (by decide) (w.heap.size + 1) (w.heap.size + 1 + 1) w.heap.size b off bs.length cap A (fun h => (hA h).1) hcap hmax hlen _ bS bN)
    (fun h k => h.trans k) (ChunkKeeps.put (by simp <;> omega) (by simp <;> omega) (by simp)) (Below.refl _ _) (fun _ => rfl)
    (OpsI w bs (.slice A bs.length cap)) (OpsX w bs) (opsI_own w bs _ _ (by simp <;> omega)) (fun c => opsX_own w bs c _ (by simp <;> omega))
    ⟨⟨⟨_, bB, World.ownsRow_nil _ _ _ _, trivial⟩, hB0⟩, ⟨bS, bN⟩, by simp, by simp⟩
    (fun x => { tmps := #[.slice A bs.length cap, undef, .slice none 0 0, .pointer (some ⟨w.heap.size, 0, none⟩), chunkOf b off bs.length x, .slice A bs.length cap, .func (.func 163) #[] #[.pointer (some ⟨w.heap.size + 1, 0, none⟩), .pointer (some ⟨w.heap.size + 1 + 1, 0, none⟩)], chunkOf b off bs.length x, undef, undef, undef, undef, undef, undef, undef, undef, undef, undef, undef, undef, undef, undef, undef, undef, undef, undef, undef, undef, undef, undef, undef, undef, undef, undef, undef, undef], defers := [] }) ?assign ?body ?done ?stop
  case assign =>
    intro l x W K hK
    gi_wp2
    exact hK
  case body =>
    rintro l pre x W ⟨⟨⟨v, hv, hrow, _⟩, hB⟩, ⟨hs, hn⟩, h1000, hfull⟩ hlt
    obtain ⟨Av, cv, rfl⟩ := own_form hrow
    have hc := hv.cell
    by_cases hx : 4 * x + 4 ≤ bs.length
    · have e : chunkOf b off bs.length x = .slice (some ⟨b, off + 4 * x, none⟩) 4 4 := by
        have : chunkLen bs.length x = 4 := by unfold chunkLen; omega
        rw [chunkOf, this]
      simp only [e]
      clear e
      by_cases hp : pre.length = 1000
      · have HX := Lib.hid (show OpsX w bs (.exit 0) (pre ++ [x]) W from ⟨rfl, pre, x, rfl, ⟨⟨_, hv, hrow, trivial⟩, hB⟩, h1000, hfull, .inl hp⟩)
        have hp' : ((pre.length : Int) == 1000) = true := by simp [hp]
        clear hrow hv hB hs hn hfull hp hA hb hw hcap hmax bB bS bN hB0
        gi_wp2
        exact ⟨KeepsFrom.refl _ _, HX.out⟩
      · obtain ⟨hbW, hcell⟩ := (hA (by omega)).2
        have b0 := byte_in hw (show 4 * x < bs.length by omega)
        have b1 := byte_in hw (show 4 * x + 1 < bs.length by omega)
        have b2 := byte_in hw (show 4 * x + 2 < bs.length by omega)
        have b3 := byte_in hw (show 4 * x + 3 < bs.length by omega)
        have cW : ∀ i, w.cell? ⟨b, off + i, none⟩ = W.cell? ⟨b, off + i, none⟩ := fun i => (hB.cell (p := ⟨b, off + i, none⟩) hbW).symm
        have c0 := (cW _).symm.trans (byte_at hcell (show 4 * x < bs.length by omega))
        have c1 := (cW _).symm.trans (byte_at hcell (show 4 * x + 1 < bs.length by omega))
        have c2 := (cW _).symm.trans (byte_at hcell (show 4 * x + 2 < bs.length by omega))
        have c3 := (cW _).symm.trans (byte_at hcell (show 4 * x + 3 < bs.length by omega))
        rw [← Nat.add_assoc] at c1 c2 c3
        have hsz := hB.size
        have hbW' : b < W.heap.size := by omega
        have hBW := hv.lt
        have HO := Lib.hid (show opAtOf bs x = opOf (bs.getD (4 * x) 0) (bs.getD (4 * x + 1) 0) (bs.getD (4 * x + 2) 0) (bs.getD (4 * x + 3) 0) from rfl)
        have HC := Lib.hid (fun w' => one_any (bs.getD (4 * x) 0) (bs.getD (4 * x + 1) 0) (bs.getD (4 * x + 2) 0) (bs.getD (4 * x + 3) 0) w' b0 b1 b2 b3)
        generalize bs.getD (4 * x) 0 = k0 at *
        generalize bs.getD (4 * x + 1) 0 = k1 at *
        generalize bs.getD (4 * x + 2) 0 = k2 at *
        generalize bs.getD (4 * x + 3) 0 = k3 at *
        generalize opOf k0 k1 k2 k3 = o at *
        simp only [Opr.val] at HC
        have HV := Lib.hid hv
        have HR := Lib.hid hrow
        have HB := Lib.hid hB
        have HS := Lib.hid hs
        have HN := Lib.hid hn
        have HF := Lib.hid hfull
        have hp' : ((pre.length : Int) == 1000) = false := by simp; omega
        have w1 := IntWalk.i64_in k1 (by omega)
        have w2 := IntWalk.i64_in k2 (by omega)
        have w3 := IntWalk.i64_in k3 (by omega)
        clear hv hrow hB hs hn hfull cW hA hb hw hcap hmax bB bS bN hB0 hcell b0 b1 b2 b3
        gi_wp2
        refine wpIn_region_mixed [true, true, true, true, true, true, true, true, true, true, true, true, true, true, true, true, true, false, false, false] 3 18 (by kernel_rfl) (by kernel_rfl) (by kernel_rfl) (by kernel_rfl) (by rintro ⟨_, _, h⟩; exact h) ?_ (by decide) (by decide) (by decide) (by kernel_rfl) ?_
        · intro c a d v w h; cases d <;> exact h
        intro X00
        simp only [pickOps]
        repeat (go_big_quiet_step ((go_at_call 78; exact Calls.added (HC.out _))))
        refine wpQuiet_nil (fun X0 => ?_)
        clear X00
        refine wpAnyM_one 17 _ (by kernel_rfl) rfl rfl (by decide) (fun X1 K Q' hK => ?_)
        go_simp
        refine hK _ _ ?_ ?_
        · (repeat (first | (with_reducible assumption) | (with_reducible exact Ext.refl _) | (with_reducible exact Ext.more _ _ _ _) | apply Ext.alloc | refine Ext.setCell ?_ (by first | exact Nat.le_refl _ | exact Nat.le_add_right _ _ | assumption) _ | apply Ext.patch | apply Ext.drew | apply Ext.drewN))
        clear hK K Q'
        refine wpAnyM_tailL rfl (by kernel_rfl) (fun X2 => ?_)
        simp only [List.drop_succ_cons, List.drop_zero]
        have hE : ∀ o, Ext W (((W.patch ⟨X0.blocks ++ X1.blocks, X1.drawn⟩).alloc o).patch X2) := fun o => by (repeat (first | (with_reducible assumption) | (with_reducible exact Ext.refl _) | (with_reducible exact Ext.more _ _ _ _) | apply Ext.alloc | refine Ext.setCell ?_ (by first | exact Nat.le_refl _ | exact Nat.le_add_right _ _ | assumption) _ | apply Ext.patch | apply Ext.drew | apply Ext.drewN))
        have HE := Lib.hid (hE (.cells #[.int .i64 o.kind, .int .i64 o.a, .int .i64 o.b, .int .i64 o.c, .int .i64 o.n, .complex .f64 o.re o.im] 28))
        clear hE
        generalize W.patch ⟨X0.blocks ++ X1.blocks, X1.drawn⟩ = W1 at *
        have HW := Lib.hid (news_patch W1 o.cells 28 X2)
        have hsz2 : w.heap.size ≤ ((W1.alloc (.cells #[.int .i64 o.kind, .int .i64 o.a, .int .i64 o.b, .int .i64 o.c, .int .i64 o.n, .complex .f64 o.re o.im] 28)).patch X2).heap.size := Nat.le_trans hsz HE.out.size
        go_wp2_with (at_builtin; refine wpList_append_own _ rfl _ _ 24 rfl w.heap.size 28 i0 (.agg #[.int .i64 0, .int .i64 0, .int .i64 0, .int .i64 0, .int .i64 0, .complex .f64 0 0]) 6 56 Try.underlying24 hi hz0 hz1 hz2 rfl (by decide) _ _ _ rfl (own_ext HR.out HE.out) ⟨W1.heap.size, 0, none⟩ 1 1 o.cells rfl rfl HW.out (oprs_one o) (by unfold maxLen; omega) (by omega) hsz2 ?_; intro v' w1 hown' hgrow _; obtain ⟨g', cap', rfl⟩ := ownsRow_succ hown'; obtain ⟨hv1, hv2, hr2, hk2, hb2⟩ := HV.out.appended2 HE.out (by decide) HR.out hsz (Nat.le_refl _) hown' hgrow; have hc1 := hv1.cell; have hf1 := hv1.frozen)
        have hs2 := Boxed.beside (v' := .slice (some ⟨g', 0, none⟩) (pre.length + 1) cap') (B := w.heap.size) HE.out HS.out (by decide) HR.out (by omega) hgrow
        have hn2 := Boxed.beside (v' := .slice (some ⟨g', 0, none⟩) (pre.length + 1) cap') (B := w.heap.size) HE.out HN.out (by decide) HR.out (by omega) hgrow
        refine ⟨hk2.from _, ⟨hb2, fun _ => hs2, fun _ => hn2⟩, ⟨⟨⟨_, hv2, ?_, trivial⟩, HB.out.trans hb2⟩, ⟨hs2, hn2⟩, by simp; omega, fun y hy => ?_⟩⟩
        · rw [List.map_append, List.flatMap_append, List.length_append]
          simp only [List.map_cons, List.map_nil, List.flatMap_cons, List.flatMap_nil, List.append_nil, HO.out]
          exact hr2
        · rcases List.mem_append.1 hy with hy | hy
          · exact HF.out y hy
          · simp at hy; omega
    · have HX := Lib.hid (show OpsX w bs (.exit 0) (pre ++ [x]) W from ⟨rfl, pre, x, rfl, ⟨⟨_, hv, hrow, trivial⟩, hB⟩, h1000, hfull, .inr (by omega)⟩)
      have hlt' : chunkLen bs.length x < 4 := by unfold chunkLen; omega
      simp only [chunkOf]
      generalize chunkLen bs.length x = m at *
      clear hrow hv hB hs hn hfull hA hb hw hcap hmax bB bS bN hB0 h1000 hx
      gi_wp2
      exact ⟨KeepsFrom.refl _ _, HX.out⟩
  case done =>
    rintro D ys W hD rfl ⟨⟨⟨v, hv, hrow, _⟩, hB⟩, _, h1000, hfull⟩ hK
    have hN : opCount bs = (bs.length + 3) / 4 := by
      simp only [List.length_range] at h1000
      have h1 := fun h => hfull ((bs.length + 3) / 4 - 1) (List.mem_range.2 h)
      unfold opCount
      by_cases h0 : bs.length = 0
      · omega
      · have := h1 (by omega)
        omega
    have HR := Lib.hid (show W.ownsRow w.heap.size 28 6 v (opsOf bs).length ((opsOf bs).flatMap Opr.cells) by
      unfold opsOf opsTo
      rw [hN, List.length_map]
      exact hrow)
    have hc := hv.cell
    clear hN hrow hfull h1000 hA hb bB bS bN hB0
    gi_wp2
    refine ⟨by simp, .inl ⟨_, _, rfl, run_takeDeferred hK, ?_⟩⟩
    exact ⟨_, results_tmp rfl _ _ _, v, rfl, ownsRow_putObj HR.out _ hK rfl, hB.trans (belowK_b (w := w) (Nat.le_refl _) W D _ _ (by simp at hD; omega) hK rfl rfl)⟩
  case stop =>
    rintro D c pre W hD ⟨k, hk, rfl⟩ ⟨rfl, ini, x, h2, ⟨⟨v, hv, hrow, _⟩, hB⟩, h4, h5, h6⟩ hK
    obtain ⟨k', rfl⟩ : ∃ k', k = k' + 1 := by
      cases k with
      | zero => simp at h2
      | succ k' => exact ⟨k', rfl⟩
    rw [List.range_succ] at h2
    obtain ⟨rfl, e5⟩ := List.append_inj' h2 rfl
    obtain rfl : k' = x := by simpa using e5
    have hN : opCount bs = k' := by
      simp only [List.length_range] at h4 h6
      have h1 := fun h => h5 (k' - 1) (List.mem_range.2 h)
      unfold opCount
      by_cases h0 : k' = 0
      · omega
      · have := h1 (by omega)
        omega
    have HR := Lib.hid (show W.ownsRow w.heap.size 28 6 v (opsOf bs).length ((opsOf bs).flatMap Opr.cells) by
      unfold opsOf opsTo
      rw [hN, List.length_map]
      exact hrow)
    have hc := hv.cell
    clear hN hrow h5 h4 h6 h2 e5 hA hb bB bS bN hB0
    gi_wp2
    refine ⟨by simp, .inl ⟨_, _, rfl, run_takeDeferred hK, ?_⟩⟩
    exact ⟨_, results_tmp rfl _ _ _, v, rfl, ownsRow_putObj HR.out _ hK rfl, hB.trans (belowK_b (w := w) (Nat.le_refl _) W D _ _ (by simp at hD; omega) hK rfl rfl)⟩
end Go.Proofs.Ytlddahifhefjiaa
