import Derived.WalkKit
import Derived.WalkLawsBesides
import Derived.Deep.QuietTactic
import Derived.BigQuiet
import Derived.Lib.Hide
import Derived.OrdersHeld
import Derived.StillTail
import Derived.OrdersIn
import Derived.RangeFuncCalls
import Derived.TacticsIn
import Derived.Deep.RegionWith
import Derived.Deep.DeepFit
namespace Go

@[go_sem] theorem run_store_complex (P : Program) (w : World) (a : Addr) (m : Mode) (k : FloatKind) (x y : Nat) : (store a (.complex k x y) m).run P w = stored P w a (.complex k x y) m := run_store P w a _ m rfl
/-- What a call may add to a world: new blocks, and draws. -/
structure Extra where
  blocks : Array Obj
  drawn : Nat
  deriving Inhabited

/-- The world with new blocks behind the old ones. -/
def World.patch (w : World) (X : Extra) : World := { w with heap := w.heap ++ X.blocks, drawn := X.drawn }

section
variable (w : World) (X Y : Extra)
theorem World.heap_patch (b : Nat) (h : b < w.heap.size) : (w.patch X).heap[b]? = w.heap[b]? := by
  show (w.heap ++ X.blocks)[b]? = _
  rw [Array.getElem?_append_left h]
@[go_sem] theorem World.cell?_patch (b o : Nat) (h : b < w.heap.size) : (w.patch X).cell? ⟨b, o, none⟩ = w.cell? ⟨b, o, none⟩ := by
  simp only [World.cell?, World.heap_patch w X b h]
@[go_sem] theorem World.frozen?_patch (b o : Nat) (h : b < w.heap.size) : (w.patch X).frozen? ⟨b, o, none⟩ = w.frozen? ⟨b, o, none⟩ := by
  simp only [World.frozen?, World.heap_patch w X b h]
theorem World.size_patch : (w.patch X).heap.size = w.heap.size + X.blocks.size := by
  show (w.heap ++ X.blocks).size = _
  simp
@[go_sem] theorem World.lt_patch (n : Nat) (h : n < w.heap.size) : (n < (w.patch X).heap.size) = True := by
  rw [World.size_patch]
  exact eq_true (by omega)
@[go_sem] theorem World.lt_patch_more (n : Nat) (h : n < w.heap.size) : (n < (w.patch X).heap.size + 1) = True := by
  rw [World.size_patch]
  exact eq_true (by omega)
@[go_sem, simp] theorem World.tape_patch : (w.patch X).tape = w.tape := rfl
@[go_sem] theorem World.patch_patch : (w.patch X).patch Y = w.patch ⟨X.blocks ++ Y.blocks, Y.drawn⟩ := by
  simp [World.patch]
@[go_sem] theorem World.drew_patch : (w.patch X).drew = w.patch ⟨X.blocks, X.drawn + 1⟩ := rfl
@[go_sem] theorem World.drewN_patch (n : Nat) : (w.patch X).drewN n = w.patch ⟨X.blocks, X.drawn + n⟩ := rfl
@[go_sem] theorem World.patch_drew : w.drew.patch X = w.patch X := rfl
@[go_sem] theorem World.patch_drewN (n : Nat) : (w.drewN n).patch X = w.patch X := rfl
@[go_sem] theorem World.setCell_patch (b o : Nat) (v : Value) (h : b < w.heap.size) : (w.patch X).setCell ⟨b, o, none⟩ v = (w.setCell ⟨b, o, none⟩ v).patch X := by
  simp only [World.setCell, World.patch, World.mk.injEq, and_true]
  apply Array.ext_getElem?
  intro i
  simp only [Array.getElem?_modify]
  by_cases hi : i < w.heap.size
  · rw [Array.getElem?_append_left hi, Array.getElem?_append_left (by simpa using hi), Array.getElem?_modify]
  · rw [if_neg (by omega), Array.getElem?_append_right (by omega), Array.getElem?_append_right (by simp; omega)]
    simp
end

section
variable (w : World) (X Y Z : Extra) (o u : Obj)
@[go_sem] theorem World.cell?_p1 (b i : Nat) (h : b < w.heap.size) : ((w.patch X).alloc o).cell? ⟨b, i, none⟩ = w.cell? ⟨b, i, none⟩ :=
  (World.cell?_alloc_past _ _ _ (by rw [World.size_patch]; omega)).trans (World.cell?_patch _ _ _ _ h)
@[go_sem] theorem World.cell?_p2 (b i : Nat) (h : b < w.heap.size) : (((w.patch X).alloc o).patch Y).cell? ⟨b, i, none⟩ = w.cell? ⟨b, i, none⟩ :=
  (World.cell?_patch _ _ _ _ (by rw [World.size_alloc, World.size_patch]; omega)).trans (World.cell?_p1 _ _ _ _ _ h)
@[go_sem] theorem World.cell?_p3 (b i : Nat) (h : b < w.heap.size) : ((((w.patch X).alloc o).patch Y).alloc u).cell? ⟨b, i, none⟩ = w.cell? ⟨b, i, none⟩ :=
  (World.cell?_alloc_past _ _ _ (by rw [World.size_patch, World.size_alloc, World.size_patch]; omega)).trans (World.cell?_p2 _ _ _ _ _ _ h)
@[go_sem] theorem World.cell?_p4 (b i : Nat) (h : b < w.heap.size) : (((((w.patch X).alloc o).patch Y).alloc u).patch Z).cell? ⟨b, i, none⟩ = w.cell? ⟨b, i, none⟩ :=
  (World.cell?_patch _ _ _ _ (by rw [World.size_alloc, World.size_patch, World.size_alloc, World.size_patch]; omega)).trans (World.cell?_p3 _ _ _ _ _ _ _ h)
@[go_sem] theorem World.frozen?_p1 (b i : Nat) (h : b < w.heap.size) : ((w.patch X).alloc o).frozen? ⟨b, i, none⟩ = w.frozen? ⟨b, i, none⟩ :=
  (World.frozen?_alloc_past _ _ _ (by rw [World.size_patch]; omega)).trans (World.frozen?_patch _ _ _ _ h)
@[go_sem] theorem World.frozen?_p2 (b i : Nat) (h : b < w.heap.size) : (((w.patch X).alloc o).patch Y).frozen? ⟨b, i, none⟩ = w.frozen? ⟨b, i, none⟩ :=
  (World.frozen?_patch _ _ _ _ (by rw [World.size_alloc, World.size_patch]; omega)).trans (World.frozen?_p1 _ _ _ _ _ h)
@[go_sem] theorem World.frozen?_p3 (b i : Nat) (h : b < w.heap.size) : ((((w.patch X).alloc o).patch Y).alloc u).frozen? ⟨b, i, none⟩ = w.frozen? ⟨b, i, none⟩ :=
  (World.frozen?_alloc_past _ _ _ (by rw [World.size_patch, World.size_alloc, World.size_patch]; omega)).trans (World.frozen?_p2 _ _ _ _ _ _ h)
@[go_sem] theorem World.frozen?_p4 (b i : Nat) (h : b < w.heap.size) : (((((w.patch X).alloc o).patch Y).alloc u).patch Z).frozen? ⟨b, i, none⟩ = w.frozen? ⟨b, i, none⟩ :=
  (World.frozen?_patch _ _ _ _ (by rw [World.size_alloc, World.size_patch, World.size_alloc, World.size_patch]; omega)).trans (World.frozen?_p3 _ _ _ _ _ _ _ h)
end

/-- One world and a later one: nothing that was there has turned. -/
def Ext (w w' : World) : Prop := ∃ X, w' = w.patch X
theorem Ext.refl (w : World) : Ext w w := ⟨⟨#[], w.drawn⟩, by simp [World.patch]⟩
theorem Ext.trans {a b c : World} (h : Ext a b) (k : Ext b c) : Ext a c := by
  obtain ⟨X, rfl⟩ := h
  obtain ⟨Y, rfl⟩ := k
  exact ⟨_, World.patch_patch _ _ _⟩
theorem Ext.patch {a b : World} (h : Ext a b) (X : Extra) : Ext a (b.patch X) := h.trans ⟨X, rfl⟩
theorem Ext.more (b : World) (X : Extra) (Y : Array Obj) (d : Nat) : Ext (b.patch X) (b.patch ⟨X.blocks ++ Y, d⟩) := ⟨⟨Y, d⟩, (World.patch_patch b X ⟨Y, d⟩).symm⟩
theorem Ext.drew {a b : World} (h : Ext a b) : Ext a b.drew := h.trans ⟨⟨#[], b.drawn + 1⟩, by show World.drew b = _; simp only [World.patch, Array.append_empty]; rfl⟩
theorem Ext.drewN {a b : World} (h : Ext a b) (n : Nat) : Ext a (b.drewN n) := h.trans ⟨⟨#[], b.drawn + n⟩, by simp [World.patch, World.drewN]⟩
theorem Ext.alloc {a b : World} (h : Ext a b) (o : Obj) : Ext a (b.alloc o) := h.trans ⟨⟨#[o], b.drawn⟩, by simp only [World.patch, Array.append_singleton]; rfl⟩
theorem Ext.size {a b : World} (h : Ext a b) : a.heap.size ≤ b.heap.size := by obtain ⟨X, rfl⟩ := h; rw [World.size_patch]; omega
theorem Ext.heap {a b : World} (h : Ext a b) (k : Nat) (hk : k < a.heap.size) : b.heap[k]? = a.heap[k]? := by obtain ⟨X, rfl⟩ := h; exact World.heap_patch _ _ _ hk
theorem ext_of_below {a b : World} (h : RowKit.Below a.heap.size a b) : Ext a b := by
  refine ⟨⟨b.heap.extract a.heap.size b.heap.size, b.drawn⟩, ?_⟩
  obtain ⟨h1, h2, h3, h4, h5⟩ := h
  have e : b.heap = a.heap ++ b.heap.extract a.heap.size b.heap.size := by
    apply Array.ext_getElem?
    intro i
    by_cases hi : i < a.heap.size
    · rw [Array.getElem?_append_left hi, h5 i hi]
    · rw [Array.getElem?_append_right (by omega), Array.getElem?_extract]
      by_cases hb : i < b.heap.size
      · rw [if_pos (by omega)]; congr 1; omega
      · rw [if_neg (by omega), Array.getElem?_eq_none (by omega)]
  cases b
  simp only [World.patch, World.mk.injEq] at *
  exact ⟨e, h2, trivial, h1, h3⟩
theorem Ext.below {a b : World} (h : Ext a b) : RowKit.Below a.heap.size a b := by
  obtain ⟨X, rfl⟩ := h
  exact ⟨rfl, rfl, rfl, by rw [World.size_patch]; omega, fun k hk => World.heap_patch _ _ _ hk⟩
theorem Ext.setCell {a b : World} (h : Ext a b) {p : Addr} (hp : a.heap.size ≤ p.block) (v : Value) : Ext a (b.setCell p v) :=
  ext_of_below (h.below.setCell hp v)

/-- What lies behind base is forgotten. -/
theorem wp_forget {P : Program} {c : Code} {Q : Exit → Act → World → Prop} {a : Act} {base w : World} (he : Ext base w) (h : ∀ Z, c.wp P Q a (base.patch Z)) : c.wp P Q a w := by
  obtain ⟨Z, rfl⟩ := he
  exact h Z

/-- A contract's end: this value, and nothing that was there has turned. -/
def Gives (v : Value) (w : World) (e : Ending) (w' : World) : Prop := e = .returned v ∧ ∃ X, w' = w.patch X
theorem Gives.mk {v v' : Value} {w w' : World} (hv : v' = v) (h : Ext w w') : Gives v w (.returned v') w' := ⟨by rw [hv], h⟩
theorem Gives.bool {b b' : Bool} {w w' : World} (h : b = b') (he : Ext w w') : Gives (.bool b') w (.returned (.bool b)) w' := ⟨by rw [h], he⟩
theorem Gives.int {k : IntKind} {a b : Int} {w w' : World} (h : a = b) (he : Ext w w') : Gives (.int k b) w (.returned (.int k a)) w' := ⟨by rw [h], he⟩
theorem Gives.iib {k : IntKind} {a b c d : Int} {x y : Bool} {w w' : World} (h : a = c) (h' : b = d) (hx : x = y) (he : Ext w w') : Gives (.tuple #[.int k c, .int k d, .bool y]) w (.returned (.tuple #[.int k a, .int k b, .bool x])) w' := ⟨by rw [h, h', hx], he⟩
theorem Gives.ii {k l : IntKind} {a b c d : Int} {w w' : World} (h : a = c) (h' : b = d) (he : Ext w w') : Gives (.tuple #[.int k c, .int l d]) w (.returned (.tuple #[.int k a, .int l b])) w' := ⟨by rw [h, h'], he⟩
theorem Gives.bb {a b c d : Bool} {w w' : World} (h : a = c) (h' : b = d) (he : Ext w w') : Gives (.tuple #[.bool c, .bool d]) w (.returned (.tuple #[.bool a, .bool b])) w' := ⟨by rw [h, h'], he⟩
theorem Gives.of_ext {v : Value} {w w' : World} (h : Ext w w') : Gives v w (.returned v) w' := ⟨rfl, h⟩

/-- A callee's contract within a quiet region over the class 'w and new blocks'. -/
theorem Calls.patch_of {P : Program} {f : FuncId} {args : Array Value} {w : World} {X : Extra} {v : Value}
    (h : Calls P f args (w.patch X) (Gives v (w.patch X))) : Calls P f args (w.patch X) fun e w'' => e = .returned v ∧ ∃ Y, w'' = w.patch Y :=
  h.mono fun _ _ ⟨he, _, hY⟩ => ⟨he, _, hY.trans (World.patch_patch _ _ _)⟩

/-- .. with a beginning. -/
theorem Calls.added {P : Program} {f : FuncId} {args : Array Value} {w : World} {B : Array Obj} {X : Extra} {v : Value}
    (h : Calls P f args (w.patch ⟨B ++ X.blocks, X.drawn⟩) (Gives v (w.patch ⟨B ++ X.blocks, X.drawn⟩))) : Calls P f args (w.patch ⟨B ++ X.blocks, X.drawn⟩) fun e w'' => e = .returned v ∧ ∃ Y : Extra, w'' = w.patch ⟨B ++ Y.blocks, Y.drawn⟩ :=
  h.mono fun _ _ ⟨he, Y, hY⟩ => ⟨he, ⟨X.blocks ++ Y.blocks, Y.drawn⟩, by rw [hY, World.patch_patch, Array.append_assoc]⟩

/-- A region that draws: one walk, over the class 'w and new blocks'. -/
theorem wp_region_patch {P : Program} {id : Nat} {Q : Exit → Act → World → Prop} {a : Act} {w : World} {l : List Oper} (hm : P.follows .mixedOrders = true) (hB : Region.lexB .any l.toArray = true)
    (h : wpQuiet P l.toArray (fun w' => ∃ X, w' = w.patch X) (fun a' => ∀ w', (∃ X, w' = w.patch X) → Q .normal a' w') l a) : (Code.region id l.toArray true).wp P Q a w :=
  wp_region_quiet (C := fun w' => ∃ X, w' = w.patch X) hm hB (Ext.drew (Ext.refl w)) (by simpa using h)
end Go
namespace Go
/-- A caller at which the machine ends at once. -/
def stopFrame : Frame := { fn := 0, tmps := #[], todo := [.code (.refuse "")], defers := [], mode := .run, kind := .normal }
theorem stopFrame_finish (v : Value) : stopFrame.finish v = stopFrame := rfl
theorem step_stopFrame (P : Program) (w : World) : ∃ o w', step P (lone stopFrame [] w) = .ended o w' := by
  refine ⟨_, _, step_lone_ended (w' := w) (o := ?_) ?_⟩
  rotate_left
  · simp [stepG, stepG.exec, stopFrame]
    rfl
theorem lone_inj {fr fr' : Frame} {cs cs' : List Frame} {w w' : World} (h : lone fr cs w = lone fr' cs' w') : fr = fr' ∧ cs = cs' ∧ w = w' := by
  simp only [lone, Machine.mk.injEq, Array.mk.injEq, List.cons.injEq, Goroutine.mk.injEq, and_true] at h
  exact ⟨h.2.1, h.2.2, h.1⟩

theorem Calls.later {P : Program} {f : FuncId} {args : Array Value} {w : World} {v u : Value} {w1 w2 : World} {fr1 fr2 : Frame} {n k : Nat}
    (h1 : runN P n (lone (Frame.enter P f args .normal) [stopFrame] w) = .next (lone fr1 [stopFrame] w1)) (l1 : fr1.leaving P w1 (.returned v))
    (h2 : runN P (n + k) (lone (Frame.enter P f args .normal) [stopFrame] w) = .next (lone fr2 [stopFrame] w2)) (l2 : fr2.leaving P w2 (.returned u)) : v = u := by
  rw [runN_add, h1] at h2
  simp only at h2
  cases k with
  | zero =>
    simp only [runN] at h2
    injection h2 with h2
    obtain ⟨rfl, _, rfl⟩ := lone_inj h2
    obtain ⟨_, _, _, fn, hf, hr⟩ := l1
    obtain ⟨_, _, _, fn', hf', hr'⟩ := l2
    rw [hf] at hf'
    injection hf' with hf'
    subst hf'
    rw [hr] at hr'
    injection hr'
  | succ k =>
    have hs := step_leave_returned (c := stopFrame) (cs := []) l1
    simp only [runN, hs, stopFrame_finish] at h2
    cases k with
    | zero =>
      simp only [runN] at h2
      injection h2 with h2
      have := (lone_inj h2).2.1
      cases this
    | succ k =>
      obtain ⟨o, w', ho⟩ := step_stopFrame P w1
      simp only [runN, ho] at h2
      cases h2

/-- A call hands back one value. -/
theorem Calls.same {P : Program} {f : FuncId} {args : Array Value} {w : World} {v u : Value} {A B : World → Prop}
    (h : Calls P f args w fun e w' => e = .returned v ∧ A w') (h' : Calls P f args w fun e w' => e = .returned u ∧ B w') : v = u := by
  obtain ⟨e1, w1, fr1, ⟨rfl, _⟩, ⟨n1, hn1⟩, _, l1⟩ := h [stopFrame]
  obtain ⟨e2, w2, fr2, ⟨rfl, _⟩, ⟨n2, hn2⟩, _, l2⟩ := h' [stopFrame]
  rcases Nat.le_total n1 n2 with hle | hle
  · obtain ⟨k, rfl⟩ := Nat.exists_eq_add_of_le hle
    exact Calls.later hn1 l1 hn2 l2
  · obtain ⟨k, rfl⟩ := Nat.exists_eq_add_of_le hle
    exact (Calls.later hn2 l2 hn1 l1).symm
end Go
namespace Go
section
variable {P : Program} {ops : Array Oper} {Q : Exit → Act → World → Prop} {md : Region.Mode} {w0 : World}

/-- What is asked of one operation's outcome: the value v and the very world; or a call that gives v and only adds to the world. -/
def Oper.calmUpon (P : Program) (w1 : World) (v : Value) : Result Next → Prop
  | .ok (.value u) w' => w' = w1 ∧ u = v
  | .ok .skip w' => w' = w1 ∧ v = undef
  | .ok (.enter f args) w' => w' = w1 ∧ Calls P f args w1 (Gives v w1)
  | _ => False
def Oper.calmAt (P : Program) (o : Oper) (a : Act) (w1 : World) (v : Value) : Prop := Oper.calmUpon P w1 v ((execOp a.eval o).run P w1)
/-- One value, in every world that has more blocks than w0. -/
def Oper.calm (P : Program) (o : Oper) (a : Act) (w0 : World) (next : Act → Prop) : Prop := ∃ v, (∀ X, o.calmAt P a (w0.patch X) v) ∧ next (a.put o.dst v)
attribute [go_sem] Oper.calm Oper.calmAt Oper.calmUpon

def wpCalm (P : Program) (ops : Array Oper) (w0 : World) (Q : Act → Prop) : List Oper → Act → Prop
  | [], a => Q a
  | o :: rest, a => if Region.wanted o (yielded ops a.tmps) then o.calm P a w0 (wpCalm P ops w0 Q rest) else wpCalm P ops w0 Q rest (a.put o.dst undef)
theorem wpCalm_nil {Q : Act → Prop} {a : Act} (h : Q a) : wpCalm P ops w0 Q [] a := h
theorem wpCalm_step {Q : Act → Prop} {a : Act} {o : Oper} {rest : List Oper}
    (h : ∀ K : Act → Prop, (∀ a, wpCalm P ops w0 Q rest a → K a) → if Region.wanted o (yielded ops a.tmps) then o.calm P a w0 K else K (a.put o.dst undef)) : wpCalm P ops w0 Q (o :: rest) a :=
  h _ (fun _ h => h)

/-- In state a, in every world of the class, the operation leaves v, and only adds to the world. -/
def YieldsE (P : Program) (ops : Array Oper) (w0 : World) (o : Oper) (v : Value) (a : Act) : Prop :=
  (Region.wanted o (yielded ops a.tmps) = true ∧ ∀ X, o.calmAt P a (w0.patch X) v) ∨ (Region.wanted o (yielded ops a.tmps) = false ∧ v = undef)
theorem YieldsE.of_same {o : Oper} {v : Value} {a a' : Act} (hy : YieldsE P ops w0 o v a) (he : execOp a'.eval o = execOp a.eval o)
    (hw : Region.wanted o (yielded ops a'.tmps) = Region.wanted o (yielded ops a.tmps)) : YieldsE P ops w0 o v a' := by
  unfold YieldsE Oper.calmAt at *
  rw [he, hw]
  exact hy
theorem YieldsE.wpOp {i : Nat} {o : Oper} {v : Value} {a : Act} (hi : ops[i]? = some o) (hy : YieldsE P ops w0 o v a)
    {K : Act → World → Prop} {w : World} (hS : Ext w0 w) (h : ∀ w', Ext w w' → K (a.put o.dst v) w') : wpOp P ops Q i K a w := by
  unfold Go.wpOp
  simp only [hi]
  rcases hy with ⟨hw, hv⟩ | ⟨hw, rfl⟩
  · simp only [hw, if_true]
    obtain ⟨X, rfl⟩ := hS
    have h3 := hv X
    unfold Oper.calmAt at h3
    refine .inl ?_
    unfold Oper.wp
    generalize (execOp a.eval o).run P (w0.patch X) = r at *
    cases r with
    | ok n w' =>
      cases n <;> simp only [Oper.calmUpon] at h3 <;> simp only [Oper.upon]
      case value u =>
        obtain ⟨e1, e2⟩ := h3
        rw [e1, e2]
        exact h _ (Ext.refl _)
      case skip =>
        obtain ⟨e1, e2⟩ := h3
        rw [e1, ← e2]
        exact h _ (Ext.refl _)
      case enter f args =>
        obtain ⟨e1, hc⟩ := h3
        rw [e1]
        exact hc.mono fun e w'' ⟨he, hw''⟩ => by subst he; exact h _ hw''
    | halt x w' => simp only [Oper.calmUpon] at h3
  · simp only [hw, Bool.false_eq_true, if_false]
    exact h _ (Ext.refl _)
theorem yieldsE_of_wpCalm {o : Oper} {rest : List Oper} {a : Act} {Q : Act → Prop} (h : wpCalm P ops w0 Q (o :: rest) a) : ∃ v, YieldsE P ops w0 o v a ∧ wpCalm P ops w0 Q rest (a.put o.dst v) := by
  unfold wpCalm at h
  by_cases hw : Region.wanted o (yielded ops a.tmps) = true
  · simp only [hw, if_true] at h
    obtain ⟨v, h1, h2⟩ := h
    exact ⟨v, .inl ⟨hw, h1⟩, h2⟩
  · simp only [hw] at h
    exact ⟨undef, .inr ⟨by simpa using hw, rfl⟩, h⟩

/-- One walk of the kit's, for every beginning X0 of what is added: the same values whatever X0 is, for a call hands back one value. -/
def withX (w0 : World) (X0 : Extra) (w' : World) : Prop := ∃ X : Extra, w' = w0.patch ⟨X0.blocks ++ X.blocks, X.drawn⟩
theorem withX_self (X : Extra) : withX w0 X (w0.patch X) := ⟨⟨#[], X.drawn⟩, by simp⟩
theorem withX_ext {X : Extra} {w' : World} (h : withX w0 X w') : Ext (w0.patch X) w' := by
  obtain ⟨Y, rfl⟩ := h
  exact ⟨Y, (World.patch_patch _ _ _).symm⟩
theorem wpCalm_of_quiet {Q : Act → Prop} : ∀ (l : List Oper) (a : Act), (∀ X0, wpQuiet P ops (withX w0 X0) Q l a) → wpCalm P ops w0 Q l a
  | [], _, h => h default
  | o :: rest, a, h => by
    unfold wpCalm
    by_cases hw : Region.wanted o (yielded ops a.tmps) = true
    · rw [if_pos hw]
      have h' : ∀ X0, o.quiet P a (withX w0 X0) (wpQuiet P ops (withX w0 X0) Q rest) := fun X0 => by
        have := h X0
        unfold wpQuiet at this
        rwa [if_pos hw] at this
      obtain ⟨v, hv, _⟩ := h' ⟨#[], w0.drawn⟩
      have same : ∀ X, o.calmAt P a (w0.patch X) v ∧ wpQuiet P ops (withX w0 X) Q rest (a.put o.dst v) := fun X => by
        obtain ⟨u, hu, hk⟩ := h' X
        have h1 := hv (w0.patch X) ⟨X, by simp⟩
        have h2 := hu (w0.patch X) (withX_self X)
        unfold Oper.quietAt at h1 h2
        unfold Oper.calmAt
        generalize (execOp a.eval o).run P (w0.patch X) = r at *
        cases r with
        | halt x w' => simp only [Oper.quietUpon] at h1
        | ok n w' =>
          cases n <;> simp only [Oper.quietUpon] at h1 h2 <;> simp only [Oper.calmUpon]
          case value t =>
            obtain ⟨e1, e2⟩ := h1
            obtain ⟨_, e3⟩ := h2
            have e4 : u = v := e3.symm.trans e2
            subst e4
            exact ⟨⟨e1, e2⟩, hk⟩
          case skip =>
            have e4 : u = v := h2.2.trans h1.2.symm
            subst e4
            exact ⟨h1, hk⟩
          case enter f args =>
            obtain ⟨e1, hc1⟩ := h1
            obtain ⟨_, hc2⟩ := h2
            subst e1
            have e4 : u = v := Calls.same hc2 hc1
            subst e4
            exact ⟨⟨rfl, hc2.mono fun e w'' ⟨he, hw''⟩ => ⟨he, withX_ext hw''⟩⟩, hk⟩
      exact ⟨v, fun X => (same X).1, wpCalm_of_quiet rest _ fun X => (same X).2⟩
    · rw [if_neg hw]
      refine wpCalm_of_quiet rest _ fun X0 => ?_
      have := h X0
      unfold wpQuiet at this
      rwa [if_neg hw] at this

/-- The operations that have come up: whoever has come up, all that he waits for has come up. -/
def Closed (md : Region.Mode) (ops : Array Oper) (listed : Array Bool) : Prop :=
  listed.size = ops.size ∧ ∀ j oj, ops[j]? = some oj → listed.getD j false = true → ∀ e ∈ oj.after, Region.binds md e = true → listed.getD e.on false = true
theorem Closed.set {listed : Array Bool} {i : Nat} (h : Closed md ops listed) (hi : i ∈ Region.ready md ops listed) : Closed md ops (listed.setIfInBounds i true) := by
  obtain ⟨_, oi, hoi, hall⟩ := mem_ready.1 hi
  refine ⟨by simp [h.1], fun j oj hj hl e he hb => ?_⟩
  by_cases hij : i = j
  · subst hij
    have : oj = oi := Option.some.inj (hj.symm.trans hoi)
    subst this
    exact getD_set_true (hall e he hb)
  · rw [getD_set_ne false hij] at hl
    exact getD_set_true (h.2 j oj hj hl e he hb)
theorem Closed.start (n : Nat) (h : n = ops.size) : Closed md ops (Array.replicate n false) := by
  refine ⟨by simp [h], fun j oj hj hl => ?_⟩
  rw [getD_replicate_false] at hl
  cases hl
/-- Whoever has come up, and whom the others below him lead to: all below have come up. -/
theorem listed_below {L : Nat} {listed : Array Bool} (hc : Closed md ops listed) (hs : Region.sinkB md ops L = true) (hL : listed.getD L false = true) : ∀ (d i : Nat), L - i = d → i < L → listed.getD i false = true := by
  intro d
  induction d using Nat.strongRecOn with
  | _ d ih =>
    intro i hd hi
    have h1 := List.all_eq_true.1 hs i (List.mem_range.2 hi)
    obtain ⟨j, hj, hj2⟩ := List.any_eq_true.1 h1
    simp only [Bool.and_eq_true, decide_eq_true_eq] at hj2
    obtain ⟨oj, hoj, e, he, hb, hon⟩ := Region.waitsFor_spec hj2.2
    have hjle : j ≤ L := by have := List.mem_range.1 hj; omega
    have hjl : listed.getD j false = true := by
      by_cases hjL : j = L
      · rw [hjL]; exact hL
      · exact ih (L - j) (by omega) j rfl (by omega)
    rw [← hon]
    exact hc.2 j oj hoj hjl e he hb
theorem listed_chain {L : Nat} {listed : Array Bool} (hc : Closed md ops listed) (hC : Region.chainB md ops L = true) : ∀ (d t : Nat), t = L + d → listed.getD t false = true → listed.getD L false = true
  | 0, t, ht, hl => by rw [← show t = L by omega]; exact hl
  | d + 1, t, ht, hl => by
    have htlt : t < ops.size := by
      rw [← hc.1]
      rcases Nat.lt_or_ge t listed.size with h | h
      · exact h
      · simp [Array.getElem?_eq_none h] at hl
    have h1 := List.all_eq_true.1 hC t (List.mem_range.2 htlt)
    simp only [Bool.or_eq_true, decide_eq_true_eq] at h1
    rcases h1 with h1 | h1
    · omega
    · obtain ⟨oj, hoj, e, he, hb, hon⟩ := Region.waitsFor_spec h1
      have := hc.2 t oj hoj hl e he hb
      rw [hon] at this
      exact listed_chain hc hC d (t - 1) (by omega) this
/-- Number L and those behind it come last, in the text's order: all others are waited for on the way to L (or there is no such number). -/
def Region.lastB (md : Region.Mode) (ops : Array Oper) (L : Nat) : Bool := L == ops.size || (Region.sinkB md ops L && Region.chainB md ops L && decide (L < ops.size))
theorem last_waits {L : Nat} (hL : Region.lastB md ops L = true) {listed : Array Bool} (hc : Closed md ops listed) {i : Nat} (hi : i ∈ Region.ready md ops listed) (hne : i < L) : ∀ j ∈ Region.ready md ops listed, j < L := by
  intro j hr
  obtain ⟨hun, oi, hoi, _⟩ := mem_ready.1 hi
  obtain ⟨_, oj, hoj, _⟩ := mem_ready.1 hr
  have hjl := (Array.getElem?_eq_some_iff.1 hoj).1
  simp only [Region.lastB, Bool.or_eq_true, beq_iff_eq, Bool.and_eq_true, decide_eq_true_eq] at hL
  rcases hL with hL | ⟨⟨hs, hC⟩, hz⟩
  · omega
  · refine Nat.lt_of_not_le fun hLj => ?_
    refine tail_waits (md := md) (ops := ops) (n := L) hs hC hz ⟨hc.1, hc.2, fun t ht ht' => ?_⟩ (L - i) i rfl hne hun j hLj hr
    refine getD_in (by rw [hc.1]; exact ht') ?_
    cases hl : listed.getD t false with
    | false => rfl
    | true =>
      have h1 := listed_chain hc hC (t - L) t (by omega) hl
      have h2 := listed_below hc hs h1 _ i rfl hne
      rw [getD_both hun] at h2
      cases h2

/-- Whatever order is picked from here on, whatever is added to the world between two operations ahead of number L; what was in w0 stays as it was till L comes up. -/
def wpAnyM (P : Program) (md : Region.Mode) (ops : Array Oper) (Q : Exit → Act → World → Prop) (w0 : World) (L : Nat) : Nat → Array Bool → Act → World → Prop
  | 0, listed, a, w => Region.ready md ops listed = [] ∧ ∀ w1, Ext w w1 → Q .normal a w1
  | fuel + 1, listed, a, w => ∀ w1, Ext w w1 →
    (Region.ready md ops listed = [] → Q .normal a w1) ∧
    ∀ i ∈ Region.ready md ops listed, (i < L → wpOp P ops Q i (fun a' w' => Ext w0 w' ∧ wpAnyM P md ops Q w0 L fuel (listed.setIfInBounds i true) a' w') a w1) ∧
      (L ≤ i → wpOp P ops Q i (fun a' w' => wpAny P md ops Q fuel (listed.setIfInBounds i true) a' w') a w1)
theorem wpAny_of_M {L : Nat} : ∀ (fuel : Nat) (listed : Array Bool) (a : Act) (w : World), wpAnyM P md ops Q w0 L fuel listed a w → wpAny P md ops Q fuel listed a w
  | 0, _, _, _, h => ⟨h.1, h.2 _ (Ext.refl _)⟩
  | fuel + 1, _, _, w, h => ⟨(h w (Ext.refl _)).1, fun i hi => by
    have h1 := (h w (Ext.refl _)).2 i hi
    rcases Nat.lt_or_ge i L with hl | hl
    · exact wpOp_mono (fun a' w' h' => wpAny_of_M fuel _ a' w' h'.2) (h1.1 hl)
    · exact h1.2 hl⟩
theorem wpAnyM.ext {L : Nat} {fuel : Nat} {listed : Array Bool} {a : Act} {w w' : World} (h : wpAnyM P md ops Q w0 L fuel listed a w) (he : Ext w w') : wpAnyM P md ops Q w0 L fuel listed a w' := by
  cases fuel with
  | zero => exact ⟨h.1, fun w1 h1 => h.2 w1 (he.trans h1)⟩
  | succ n => exact fun w1 h1 => h w1 (he.trans h1)

theorem wpOp_putE {j : Nat} {oi oj : Oper} {v : Value} (hj : ops[j]? = some oj) (hap : oi.apart ops oj = true)
    (hsi : ∀ cs b, oi.op ≠ .select cs b) (hsj : ∀ cs b, oj.op ≠ .select cs b)
    (hQ : ∀ c a w, Q (.panic c) (a.put oi.dst v) w → Q (.panic c) a w) {K : Act → World → Prop} {a : Act} {w : World}
    (hy : YieldsE P ops w0 oi v a) (h : wpOp P ops Q j K (a.put oi.dst v) w) :
    wpOp P ops Q j (fun a' w' => YieldsE P ops w0 oi v a' ∧ K (a'.put oi.dst v) w') a w := by
  obtain ⟨h1, h2, h3⟩ := Oper.apart_spec hap
  have keep : ∀ (a : Act), YieldsE P ops w0 oi v a → ∀ u, YieldsE P ops w0 oi v (a.put oj.dst u) := fun a hy u =>
    hy.of_same (execOp_put oi hsi a oj.dst u h3) (wanted_put oi a oj.dst u h3)
  have keepD : ∀ d, YieldsE P ops w0 oi v { a with defers := d :: a.defers } := fun d => hy.of_same rfl rfl
  unfold wpOp at *
  simp only [hj] at *
  rw [wanted_put oj a oi.dst v h1] at h
  split
  · rename_i hw
    simp only [hw, if_true] at h
    rcases h with h | ⟨hasks, hlets⟩
    case inr => exact .inr ⟨by unfold Oper.asks at *; rw [execOp_put oj hsj a oi.dst v h1] at hasks; exact hasks, hlets⟩
    refine .inl ?_
    unfold Oper.wp at *
    rw [execOp_put oj hsj a oi.dst v h1] at h
    generalize (execOp a.eval oj).run P w = r at *
    cases r with
    | ok n w' =>
      cases n <;> simp only [Oper.upon] at h ⊢
      case value u => exact ⟨keep a hy u, by rw [← Act.put_comm a v u h2]; exact h⟩
      case skip => exact ⟨keep a hy _, by rw [← Act.put_comm a v undef h2]; exact h⟩
      case defer d =>
        refine ⟨keep _ (keepD d) _, ?_⟩
        rw [← Act.put_comm _ v undef h2, ← Act.put_defers]
        exact h
      case enter f args =>
        refine Calls.mono h fun e w'' he => ?_
        cases e with
        | returned u => exact ⟨keep a hy u, by rw [← Act.put_comm a v u h2]; exact he⟩
        | panicked c => exact hQ _ _ _ he
        | outgrown => exact he
      case row row args => exact Rows.mono h fun u w'' he => ⟨keep a hy u, by rw [← Act.put_comm a v u h2]; exact he⟩
    | halt x w' =>
      cases x <;> simp only [Oper.upon] at h ⊢
      case panic u => exact hQ _ _ _ h
  · rename_i hw
    simp only [hw] at h
    exact ⟨keep a hy _, by rw [← Act.put_comm a v undef h2]; exact h⟩

theorem wpAnyM_first {L : Nat} {i : Nat} {oi : Oper} {v : Value} (hLast : Region.lastB md ops L = true) (hiL : i < L) (hi : ops[i]? = some oi) (hsel : ∀ (j : Nat) (o : Oper) cs b, ops[j]? = some o → o.op ≠ .select cs b)
    (hQ : ∀ c a w, Q (.panic c) (a.put oi.dst v) w → Q (.panic c) a w) :
    ∀ (fuel : Nat) (listed : Array Bool) (a : Act) (w : World), Closed md ops listed →
      (∀ j oj, ops[j]? = some oj → j ≠ i → listed.getD j true = false → (∀ e ∈ oj.after, Region.binds md e = true → e.on ≠ i) → oi.apart ops oj = true) →
      i ∈ Region.ready md ops listed → YieldsE P ops w0 oi v a → Ext w0 w →
      wpAnyM P md ops Q w0 L fuel (listed.setIfInBounds i true) (a.put oi.dst v) w → wpAnyM P md ops Q w0 L (fuel + 1) listed a w := by
  intro fuel
  induction fuel with
  | zero =>
    intro listed a w hcl _ hr hy hS H w1 hw1
    refine ⟨fun h => (by rw [h] at hr; cases hr), fun j hj => ?_⟩
    by_cases hji : j = i
    · subst hji
      exact ⟨fun _ => hy.wpOp hi (hS.trans hw1) (fun w' hw' => ⟨(hS.trans hw1).trans hw', H.ext (hw1.trans hw')⟩), fun h => by omega⟩
    · have := ready_mono hj hji
      rw [H.1] at this
      cases this
  | succ fuel ih =>
    intro listed a w hcl hfree hr hy hS H w1 hw1
    refine ⟨fun h => (by rw [h] at hr; cases hr), fun j hj => ?_⟩
    have hjL : j < L := last_waits hLast hcl hr hiL j hj
    refine ⟨fun _ => ?_, fun h => by omega⟩
    by_cases hji : j = i
    · subst hji
      exact hy.wpOp hi (hS.trans hw1) (fun w' hw' => ⟨(hS.trans hw1).trans hw', H.ext (hw1.trans hw')⟩)
    · have h1 := ((H w1 hw1).2 j (ready_mono hj hji)).1 hjL
      obtain ⟨hjun, oj, hoj, hall⟩ := mem_ready.1 hj
      have hnot : ∀ e ∈ oj.after, Region.binds md e = true → e.on ≠ i := fun e he hb heq => by
        have h1 := hall e he hb
        have h0 := (mem_ready.1 hr).1
        rw [heq] at h1
        rcases Nat.lt_or_ge i listed.size with h' | h'
        · simp [h'] at h0 h1; rw [h0] at h1; cases h1
        · simp [Array.getElem?_eq_none h'] at h1
      have h2 := wpOp_putE hoj (hfree j oj hoj hji hjun hnot) (fun cs b => hsel i oi cs b hi) (fun cs b => hsel j oj cs b hoj) hQ hy h1
      have hfree' : ∀ k ok, ops[k]? = some ok → k ≠ i → (listed.setIfInBounds j true).getD k true = false →
          (∀ e ∈ ok.after, Region.binds md e = true → e.on ≠ i) → oi.apart ops ok = true := fun k ok hk hki hun hno => by
        refine hfree k ok hk hki ?_ hno
        by_cases hjk : j = k
        · subst hjk; exact hjun
        · rw [getD_set_ne true hjk] at hun; exact hun
      refine wpOp_mono (fun a' w' h3 => ⟨h3.2.1, ih (listed.setIfInBounds j true) a' w' (hcl.set hj) hfree' (ready_mono hr (Ne.symm hji)) h3.1 h3.2.1 ?_⟩) h2
      rw [Array.setIfInBounds_comm _ _ hji]
      exact h3.2.2

/-! ### The calm operations by a mask, in the text's order; then the others -/
def pickOps : List Bool → List Oper → List Oper
  | true :: m, o :: l => o :: pickOps m l
  | false :: m, _ :: l => pickOps m l
  | _, _ => []
def markOps : List Bool → Nat → Array Bool → Array Bool
  | true :: m, k, l => markOps m (k + 1) (l.setIfInBounds k true)
  | false :: m, k, l => markOps m (k + 1) l
  | [], _, l => l
def countB : List Bool → Nat
  | true :: m => countB m + 1
  | false :: m => countB m
  | [] => 0
def lexMask (md : Region.Mode) (ops : Array Oper) : List Bool → Nat → Array Bool → Bool
  | true :: m, k, l => (Region.ready md ops l).contains k && Region.free md ops l k && lexMask md ops m (k + 1) (l.setIfInBounds k true)
  | false :: m, k, l => lexMask md ops m (k + 1) l
  | [], _, _ => true

/-- The mask's numbers lie below L. -/
def maskBut (L : Nat) : List Bool → Nat → Bool
  | true :: m, k => decide (k < L) && maskBut L m (k + 1)
  | false :: m, k => maskBut L m (k + 1)
  | [], _ => true

theorem wpAnyM_lex {L : Nat} (hLast : Region.lastB md ops L = true) (hs : Region.noSelect ops = true) (hQ : ∀ (c : List PanicEntry) (a : Act) (d : Option Tmp) (v : Value) (w : World), Q (.panic c) (a.put d v) w → Q (.panic c) a w) (n : Nat) : ∀ (m : List Bool) (l : List Oper) (k : Nat) (listed : Array Bool) (a : Act), Closed md ops listed → (∀ j, l[j]? = ops[k + j]?) → m.length ≤ l.length →
    lexMask md ops m k listed = true → maskBut L m k = true → wpCalm P ops w0 (fun a' => ∀ X, wpAnyM P md ops Q w0 L n (markOps m k listed) a' (w0.patch X)) (pickOps m l) a →
    ∀ X, wpAnyM P md ops Q w0 L (n + countB m) listed a (w0.patch X)
  | [], _, _, _, _, _, _, _, _, _, h, X => by
    simp only [pickOps, wpCalm, markOps] at h
    exact h X
  | _ :: _, [], _, _, _, _, _, hlen, _, _, _, _ => by simp at hlen
  | false :: m, o :: l, k, listed, a, hcl, hl, hlen, hB, hM, h, X =>
    wpAnyM_lex hLast hs hQ n m l (k + 1) listed a hcl (fun j => by have := hl (j + 1); simpa [Nat.add_assoc, Nat.add_comm 1 j] using this) (by simpa using hlen) (by simpa [lexMask] using hB) (by simpa [maskBut] using hM) (by simpa [pickOps, markOps] using h) X
  | true :: m, o :: l, k, listed, a, hcl, hl, hlen, hB, hM, h, X => by
    have h0 : ops[k]? = some o := by simpa using (hl 0).symm
    simp only [lexMask, Bool.and_eq_true] at hB
    obtain ⟨⟨hr, hf⟩, hB'⟩ := hB
    simp only [maskBut, Bool.and_eq_true, decide_eq_true_eq] at hM
    simp only [pickOps, markOps] at h
    obtain ⟨v, hy, hK⟩ := yieldsE_of_wpCalm h
    have hr' : k ∈ Region.ready md ops listed := by simpa using hr
    refine wpAnyM_first hLast hM.1 h0 (Region.noSelect_spec hs) (fun c a w h => hQ c a _ _ w h) (n + countB m) listed a _ hcl (Region.free_spec h0 hf) hr' hy ⟨X, rfl⟩ ?_
    exact wpAnyM_lex hLast hs hQ n m l (k + 1) _ _ (hcl.set hr') (fun j => by have := hl (j + 1); simpa [Nat.add_assoc, Nat.add_comm 1 j] using this) (by simpa using hlen) hB' hM.2 hK X

/-- A region that draws: the calm operations (the mask's) first, in the text's order; the others in whatever order, with whatever added between; number L, if there is one, comes last and may write where it likes. -/
theorem wp_region_mixed {id : Nat} {a : Act} {w : World} {l : List Oper} (m : List Bool) (n L : Nat) (hm : P.follows .mixedOrders = true) (hs : Region.noSelect l.toArray = true) (hLast : Region.lastB .any l.toArray L = true) (hQ : ∀ (c : List PanicEntry) (a : Act) (d : Option Tmp) (v : Value) (w : World), Q (.panic c) (a.put d v) w → Q (.panic c) a w)
    (hlen : m.length ≤ l.length) (hn : n + countB m = l.length) (hM : maskBut L m 0 = true) (hB : lexMask .any l.toArray m 0 (Array.replicate l.length false) = true)
    (h : ∀ X00 : Extra, wpQuiet P l.toArray (fun w' => ∃ X : Extra, w' = w.patch ⟨X00.blocks ++ X.blocks, X.drawn⟩) (fun a' => ∀ X, wpAnyM P .any l.toArray Q w L n (markOps m 0 (Array.replicate l.length false)) a' (w.patch X)) (pickOps m l) a) : (Code.region id l.toArray true).wp P Q a w := by
  refine wp_region_any hm (wpAny_of_M (w0 := w) (L := L) _ _ _ _ ?_)
  obtain ⟨X, hX⟩ := Ext.drew (Ext.refl w)
  have := wpAnyM_lex (md := .any) hLast hs hQ n m l 0 (Array.replicate l.length false) a (Closed.start _ (by simp)) (by simp) hlen hB hM (wpCalm_of_quiet _ _ h) X
  rw [← hX] at this
  simpa [hn] using this

/-- Only one may come up. -/
theorem wpAnyM_one {L n : Nat} {listed : Array Bool} {a : Act} {w : World} (i : Nat) (o : Oper) (hr : Region.ready md ops listed = [i]) (ho : ops[i]? = some o) (hg : o.guard = none) (hiL : i < L)
    (h : ∀ X, ∀ K : Act → World → Prop, ∀ Q' : Exit → Act → World → Prop, (∀ a' w', Ext w0 w' → wpAnyM P md ops Q w0 L n (listed.setIfInBounds i true) a' w' → K a' w') → o.wp P a (w.patch X) K Q') : wpAnyM P md ops Q w0 L (n + 1) listed a w := by
  rintro w1 ⟨X, rfl⟩
  refine ⟨fun h0 => (by rw [hr] at h0; cases h0), fun j hj => ?_⟩
  rw [hr] at hj
  simp only [List.mem_singleton] at hj
  subst hj
  refine ⟨fun _ => ?_, fun h => by omega⟩
  unfold wpOp
  simp only [ho, Region.wanted, hg, if_true]
  exact .inl (h X _ Q fun a' w' h1 h2 => ⟨h1, h2⟩)
theorem wpAnyM_done {L : Nat} {listed : Array Bool} {a : Act} {w : World} (hr : Region.ready md ops listed = []) (h : ∀ X, Q .normal a (w.patch X)) : ∀ fuel, wpAnyM P md ops Q w0 L fuel listed a w
  | 0 => ⟨hr, by rintro w1 ⟨X, rfl⟩; exact h X⟩
  | _ + 1 => by
    rintro w1 ⟨X, rfl⟩
    exact ⟨fun _ => h X, by rw [hr]; simp⟩
/-- The tail: from number L on, one behind the other. -/
theorem wpAnyM_tail {L n : Nat} {listed : Array Bool} {a : Act} {w : World} {l : List Oper} (hn : n = l.length) (hl : ∀ j, l[j]? = ops[L + j]?) (hB : Region.seqB md ops l.length L listed = true)
    (h : ∀ X, wpList P ops Q l a (w.patch X)) : wpAnyM P md ops Q w0 L n listed a w := by
  subst hn
  cases l with
  | nil =>
    have hr : Region.ready md ops listed = [] := by simpa [Region.seqB] using hB
    exact ⟨hr, by rintro w1 ⟨X, rfl⟩; exact h X⟩
  | cons o l =>
    rintro w1 ⟨X, rfl⟩
    have := wpAny_of_seq (md := md) (Q' := Q) (o :: l) L listed a (w.patch X) hl hB (h X)
    simp only [List.length_cons] at this ⊢
    refine ⟨this.1, fun i hi => ⟨fun hiL => ?_, fun _ => this.2 i hi⟩⟩
    have := seqB_ready hB i hi
    omega
theorem wpAnyM_tailL {l0 : List Oper} {L n : Nat} {listed : Array Bool} {a : Act} {w : World} (hn : n = (l0.drop L).length) (hB : Region.seqB md l0.toArray (l0.drop L).length L listed = true)
    (h : ∀ X, wpList P l0.toArray Q (l0.drop L) a (w.patch X)) : wpAnyM P md l0.toArray Q w0 L n listed a w :=
  wpAnyM_tail hn (fun j => by simp [List.getElem?_drop]) hB h
/-- The last one. -/
theorem wpAnyM_last {n : Nat} {listed : Array Bool} {a : Act} {w : World} (i : Nat) (o : Oper) (hr : Region.ready md ops listed = [i]) (hr' : Region.ready md ops (listed.setIfInBounds i true) = []) (ho : ops[i]? = some o) (hg : o.guard = none)
    (h : ∀ X, ∀ K : Act → World → Prop, ∀ Q' : Exit → Act → World → Prop, (∀ a' w', (∀ Y, Q .normal a' (w'.patch Y)) → K a' w') → o.wp P a (w.patch X) K Q') : wpAnyM P md ops Q w0 i (n + 1) listed a w := by
  rintro w1 ⟨X, rfl⟩
  refine ⟨fun h0 => (by rw [hr] at h0; cases h0), fun j hj => ?_⟩
  rw [hr] at hj
  simp only [List.mem_singleton] at hj
  subst hj
  refine ⟨fun h => by omega, fun _ => ?_⟩
  unfold wpOp
  simp only [ho, Region.wanted, hg, if_true]
  refine .inl (h X _ Q fun a' w' h1 => wpAny_of_M (w0 := w0) (L := j) _ _ _ _ (wpAnyM_done hr' h1 _))
/-- One of two may come up. -/
theorem wpAnyM_two {L n : Nat} {listed : Array Bool} {a : Act} {w : World} (i j : Nat) (o u : Oper) (hr : Region.ready md ops listed = [i, j]) (ho : ops[i]? = some o) (hu : ops[j]? = some u) (hg : o.guard = none) (hg' : u.guard = none) (hiL : i < L) (hjL : j < L)
    (h : ∀ X, ∀ K : Act → World → Prop, ∀ Q' : Exit → Act → World → Prop, (∀ a' w', Ext w0 w' → wpAnyM P md ops Q w0 L n (listed.setIfInBounds i true) a' w' → K a' w') → o.wp P a (w.patch X) K Q')
    (h' : ∀ X, ∀ K : Act → World → Prop, ∀ Q' : Exit → Act → World → Prop, (∀ a' w', Ext w0 w' → wpAnyM P md ops Q w0 L n (listed.setIfInBounds j true) a' w' → K a' w') → u.wp P a (w.patch X) K Q') : wpAnyM P md ops Q w0 L (n + 1) listed a w := by
  rintro w1 ⟨X, rfl⟩
  refine ⟨fun h0 => (by rw [hr] at h0; cases h0), fun k hk => ?_⟩
  rw [hr] at hk
  simp only [List.mem_cons, List.not_mem_nil, or_false] at hk
  rcases hk with rfl | rfl
  · refine ⟨fun _ => ?_, fun h => by omega⟩
    unfold wpOp
    simp only [ho, Region.wanted, hg, if_true]
    exact .inl (h X _ Q fun a' w' h1 h2 => ⟨h1, h2⟩)
  · refine ⟨fun _ => ?_, fun h => by omega⟩
    unfold wpOp
    simp only [hu, Region.wanted, hg', if_true]
    exact .inl (h' X _ Q fun a' w' h1 h2 => ⟨h1, h2⟩)
end

/-! ### The same in a round of a range over a function -/
section
variable {P : Program} {ops : Array Oper} {Q : Exit → Act → World → Prop} {md : Region.Mode}
theorem wpOpIn_of_wpOp {l n i : Nat} (hQ : ¬ LetsOut Q) (hd : ∀ o c, ops[i]? = some o → o.op ≠ .defer c) {K : Act → World → Prop} {a : Act} {w : World} (h : wpOp P ops Q i K a w) : wpOpIn (Fence.wide.inRound l) n P ops Q i K a w := by
  unfold wpOp at h
  unfold wpOpIn
  split
  · rename_i h0
    simpa [h0] using h
  · rename_i o ho
    simp only [ho] at h
    split
    · rename_i hw
      simp only [hw, if_true] at h
      rcases h with h | ⟨_, h⟩
      case inr => exact absurd h hQ
      refine ⟨fun _ _ => trivial, ?_⟩
      unfold Oper.wp at h
      rw [Oper.semAt_eq _ _ _ (fun c => hd o c ho)]
      generalize (execOp a.eval o).run P w = r at *
      cases r with
      | ok x w' =>
        cases x <;> simp only [Oper.upon] at h <;> simp only [Oper.uponIn]
        case value => exact h
        case skip => exact h
        case defer => exact h
        case enter f args => exact ⟨(fun hh => by cases hh), callsIn_wide.2 h⟩
        case row row args =>
          refine ⟨(fun hh => by cases hh), fun c cs _ => ?_⟩
          obtain ⟨v, w', r, s⟩ := h c cs
          exact ⟨v, w', r, stepsIn_wide.2 s⟩
      | halt x w' => cases x <;> simp only [Oper.upon] at h <;> simp only [Oper.uponIn]; exact h
    · rename_i hw
      simp only [hw] at h
      exact ⟨fun _ _ => trivial, h⟩
def Region.noDefer (ops : Array Oper) : Bool := ops.all fun o => match o.op with | .defer _ => false | _ => true
theorem Region.noDefer_spec (h : Region.noDefer ops = true) : ∀ (i : Nat) o c, ops[i]? = some o → o.op ≠ .defer c := by
  intro i o c ho e
  unfold Region.noDefer at h
  rw [Array.all_eq_true] at h
  obtain ⟨hi, rfl⟩ := Array.getElem?_eq_some_iff.1 ho
  have := h i hi
  rw [e] at this
  cases this
theorem wpAnyIn_of_wpAny {l n : Nat} (hQ : ¬ LetsOut Q) (hd : Region.noDefer ops = true) : ∀ (fuel : Nat) (listed : Array Bool) (a : Act) (w : World), wpAny P md ops Q fuel listed a w → wpAnyIn (Fence.wide.inRound l) n P md ops Q fuel listed a w
  | 0, _, _, _, h => h
  | fuel + 1, _, _, _, h => ⟨h.1, fun i hi => wpOpIn_mono (fun a' w' h' => wpAnyIn_of_wpAny hQ hd fuel _ a' w' h') (wpOpIn_of_wpOp hQ (fun o c ho => Region.noDefer_spec hd i o c ho) (h.2 i hi))⟩
theorem wpIn_region_mixed {id k N : Nat} {a : Act} {w : World} {l : List Oper} (m : List Bool) (n L : Nat) (hm : P.follows .mixedOrders = true) (hs : Region.noSelect l.toArray = true) (hd : Region.noDefer l.toArray = true) (hLast : Region.lastB .any l.toArray L = true) (hLO : ¬ LetsOut Q) (hQ : ∀ (c : List PanicEntry) (a : Act) (d : Option Tmp) (v : Value) (w : World), Q (.panic c) (a.put d v) w → Q (.panic c) a w)
    (hlen : m.length ≤ l.length) (hn : n + countB m = l.length) (hM : maskBut L m 0 = true) (hB : lexMask .any l.toArray m 0 (Array.replicate l.length false) = true)
    (h : ∀ X00 : Extra, wpQuiet P l.toArray (fun w' => ∃ X : Extra, w' = w.patch ⟨X00.blocks ++ X.blocks, X.drawn⟩) (fun a' => ∀ X, wpAnyM P .any l.toArray Q w L n (markOps m 0 (Array.replicate l.length false)) a' (w.patch X)) (pickOps m l) a) : (Code.region id l.toArray true).wpIn (Fence.wide.inRound k) N P Q a w := by
  refine wpIn_region_any hm (wpAnyIn_of_wpAny hLO hd _ _ _ _ (wpAny_of_M (w0 := w) (L := L) _ _ _ _ ?_))
  obtain ⟨X, hX⟩ := Ext.drew (Ext.refl w)
  have := wpAnyM_lex (md := .any) hLast hs hQ n m l 0 (Array.replicate l.length false) a (Closed.start _ (by simp)) (by simp) hlen hB hM (wpCalm_of_quiet _ _ h) X
  rw [← hX] at this
  simpa [hn] using this
end
end Go
