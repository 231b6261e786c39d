import Derived.Test.YtnebimabokgofaaGreatLine
import Derived.Test.YtnebimabokgofaaGreatSpaceC
import Derived.Deep.RegionLaw
import Derived.Laws.IdiomCopy
import Derived.Deep.MidRow
/-
  Merged: XLineT, XLineU, XLineD.
-/
/-
  line: the first that waits (first, First), Fail, Begin, End.
-/
namespace Go
theorem flat_put {α : Type} {f : α → List Value} {n : Nat} (hf : ∀ a, (f a).length = n) (l : List α) (k j : Nat) (x y : α) (v : Value) (hk : l[k]? = some x) (hj : j < n) (hy : f y = (f x).set j v) : (l.set k y).flatMap f = (l.flatMap f).set (k * n + j) v := by
  induction l generalizing k with
  | nil => simp at hk
  | cons z l ih =>
    cases k with
    | zero =>
      simp at hk
      subst hk
      simp only [List.set_cons_zero, List.flatMap_cons, Nat.zero_mul, Nat.zero_add]
      rw [List.set_append_left _ _ (by rw [hf]; exact hj), hy]
    | succ k =>
      simp only [List.set_cons_succ, List.flatMap_cons]
      rw [List.set_append_right _ _ (by rw [hf, Nat.succ_mul]; omega), hf, ih k (by simpa using hk)]
      congr 2
      rw [Nat.succ_mul]
      omega
/-- The first k turned. -/
def upto {α : Type} (f : α → α) (l : List α) (k : Nat) : List α := (l.take k).map f ++ l.drop k
theorem upto_zero {α : Type} (f : α → α) (l : List α) : upto f l 0 = l := by simp [upto]
theorem upto_all {α : Type} (f : α → α) (l : List α) : upto f l l.length = l.map f := by simp [upto]
theorem upto_len {α : Type} (f : α → α) (l : List α) (k : Nat) : (upto f l k).length = l.length := by simp [upto]; omega
theorem upto_at {α : Type} (f : α → α) (l : List α) (k : Nat) : (upto f l k)[k]? = l[k]? := by
  unfold upto
  by_cases h : k < l.length
  · rw [List.getElem?_append_right (by simp; omega)]
    simp [List.length_take, Nat.min_eq_left (Nat.le_of_lt h)]
  · rw [List.getElem?_eq_none (by simp; omega), List.getElem?_eq_none (by omega)]
theorem upto_succ {α : Type} (f : α → α) (l : List α) (k : Nat) (x : α) (h : l[k]? = some x) : upto f l (k + 1) = (upto f l k).set k (f x) := by
  obtain ⟨hk, hx⟩ := List.getElem?_eq_some_iff.1 h
  unfold upto
  rw [List.take_add_one, h, List.map_append, List.set_append_right _ _ (by simp; omega)]
  have e : k - ((l.take k).map f).length = 0 := by simp; omega
  rw [e, ← List.getElem_cons_drop hk]
  simp [hx]
theorem upto_mem {α : Type} {f : α → α} {l : List α} {k : Nat} {x : α} (h : x ∈ upto f l k) : ∃ y ∈ l, x = y ∨ x = f y := by
  unfold upto at h
  rcases List.mem_append.1 h with h | h
  · obtain ⟨y, hy, rfl⟩ := List.mem_map.1 h
    exact ⟨y, List.mem_of_mem_take hy, Or.inr rfl⟩
  · exact ⟨x, List.mem_of_mem_drop h, Or.inl rfl⟩
end Go
namespace Go.Proofs.YtnebimabokgofaaGreat
open Go Go.RowKit
set_option linter.unusedVariables false
set_option linter.unnecessarySimpa false
set_option linter.unusedSimpArgs false
set_option maxHeartbeats 2000000
theorem first1_any (m : EntM) (w : World) : Calls Tryz.prog 258 #[.agg #[.int .i64 m.e.thread, .int .i64 m.e.frags, .int .i64 m.e.spine, .int .i64 m.e.state, .int .i64 m.e.cycles, .int .i64 m.e.at_, .slice m.A m.e.got.length m.cap, .bool m.e.noted]] w (Gives (.bool (waitB m.e)) w) := by
  go_enter Tryz.func258, Tryz.ntmps258
  go_wp2_with fail
  go_ret
  exact Gives.bool rfl (by (repeat (first | (with_reducible assumption) | (with_reducible exact Ext.refl _) | (with_reducible exact Ext.more _ _ _ _) | apply Ext.alloc | refine Ext.setCell ?_ (by first | exact Nat.le_refl _ | exact Nat.le_add_right _ _ | assumption) _ | apply Ext.patch | apply Ext.drew | apply Ext.drewN)))
theorem idx_first (A : Option Addr) (c : Nat) (ms : List EntM) (w : World) (hc : CellsAt w A (ms.flatMap EntM.cells)) (hl : ms.length ≤ 1000000) :
    Calls Tryz.prog 257 #[.slice A ms.length c, .func (.func 258) #[] #[]] w (IdxGot (waitB) ms w) := by
  have HC := Lib.hid hc
  clear hc
  go_enter Tryz.func257, Tryz.ntmps257
  go_wp2_with fail
  go_loopw [8] (fun i wr => ∃ k : Nat, k ≤ ms.length ∧ i = .int .i64 k ∧ Hid (∀ e ∈ (ms.map EntM.e).take k, waitB e = false) ∧ Hid (Ext w wr)) (fun i _ => ms.length - (intOf i).toNat)
  case atStart => exact ⟨0, Nat.zero_le _, rfl, Lib.hid (by simp), Lib.hid (Ext.refl _)⟩
  case round =>
    obtain ⟨k, hk, rfl, hm, HE⟩ := hrel
    by_cases hlt : k < ms.length
    · obtain ⟨b, o, hA, hb, g0, g1, g2, g3, g4, g5, g6, g7⟩ := ent_cells (HC.out.ext HE.out) hlt
      have hx := List.getElem?_eq_getElem hlt
      have HX := Lib.hid (show (ms.map EntM.e)[k]? = some ms[k].e by rw [List.getElem?_map, hx]; rfl)
      generalize ms[k] = m at *
      have HF := Lib.hid (first1_any m wr)
      subst hA
      clear hx
      go_wp2_with fail
      refine HF.out.mono ?_
      rintro e w1 ⟨rfl, hX⟩
      have HE1 := Lib.hid (HE.out.trans (show Ext wr w1 from hX))
      clear hX
      cases hv : waitB m.e
      · have HN := Lib.hid (take_all HX.out hm.out hv)
        clear hv
        go_wp2_with fail
        go_roundw
        case rel => exact ⟨k + 1, by omega, by go_num, HN, HE1⟩
        case measure => simp [intOf]; omega
      · have HN := Lib.hid (placeOf_some HX.out hv hm.out)
        clear hv
        go_wp2_with fail
        go_ret
        exact Gives.int HN.out.symm HE1.out
    · have HN := Lib.hid (placeOf_none (p := waitB) (l := ms.map EntM.e) (fun e he => hm.out e (by rw [List.take_of_length_le (by simp; omega)]; exact he)))
      go_wp2_with fail
      go_ret
      exact Gives.int HN.out.symm HE.out

theorem line_first (g : GW) (t b : Nat) (L : List Ent) (h : LineAt g t b L) :
    Calls Tryz.prog 205 #[.pointer (some ⟨b, 0, none⟩)] g.w (Gives (.int .i64 (placeOf (waitB) L)) g.w) := by
  obtain ⟨A, c, ms, hb, hr, hm, -⟩ := h.ex
  have hml : ms.length = L.length := by rw [← hm, List.length_map]
  have HI := Lib.hid (fun w' (he : Ext g.w w') => idx_first A c ms w' (hr.cells.ext he) (by have := h.len; omega))
  unfold IdxGot at HI
  rw [hm, hml] at HI
  have c0 := hb.cell (i := 0) rfl
  have hbl := hb.lt
  clear hr hm hml hb h
  go_enter Tryz.func205, Tryz.ntmps205
  go_wp2_with fail
  refine (HI.out _ (by (repeat (first | (with_reducible assumption) | (with_reducible exact Ext.refl _) | (with_reducible exact Ext.more _ _ _ _) | apply Ext.alloc | refine Ext.setCell ?_ (by first | exact Nat.le_refl _ | exact Nat.le_add_right _ _ | assumption) _ | apply Ext.patch | apply Ext.drew | apply Ext.drewN)))).mono ?_
  rintro e w1 ⟨rfl, hX⟩
  have HE := Lib.hid (show Ext g.w w1 from hX)
  clear hX
  go_wp2_with fail
  go_ret
  exact Gives.int rfl HE.out

/-- The first that waits. -/
theorem line_First (g : GW) (t b : Nat) (L : List Ent) (h : LineAt g t b L) :
    Calls Tryz.prog 164 #[.pointer (some ⟨b, 0, none⟩)] g.w (Makes g (fun _ => False) (ReqOf L (placeOf (waitB) L))) := by
  have HO := Lib.hid (fun g' (m : Mod (fun _ => False) g g') => line_first g' t b L (h.keep m id id))
  have HA := Lib.hid (fun g' (m : Mod (fun _ => False) g g') => line_at g' t b (placeOf (waitB) L) L (h.keep m id id) (placeOf_bd _ _).2)
  generalize placeOf (waitB) L = i at *
  clear h
  go_enter Tryz.func164, Tryz.ntmps164
  go_wp2_with fail
  have hE0 : Ext g.w (g.w.alloc (.cells #[.int .i64 0, .int .i64 0, .int .i64 0, .int .i64 0, .int .i64 0, .int .i64 0, .slice none 0 0] 198)) := by (repeat (first | (with_reducible assumption) | (with_reducible exact Ext.refl _) | (with_reducible exact Ext.more _ _ _ _) | apply Ext.alloc | refine Ext.setCell ?_ (by first | exact Nat.le_refl _ | exact Nat.le_add_right _ _ | assumption) _ | apply Ext.patch | apply Ext.drew | apply Ext.drewN))
  have B0 := Lib.hid (Blk.new g 9 198 [.int .i64 0, .int .i64 0, .int .i64 0, .int .i64 0, .int .i64 0, .int .i64 0, .slice none 0 0])
  have M0 := Lib.hid (Mod.ext (T := fun _ => False) hE0 9)
  clear hE0
  refine (HO.out (g.to 9 (g.w.alloc (.cells #[.int .i64 0, .int .i64 0, .int .i64 0, .int .i64 0, .int .i64 0, .int .i64 0, .slice none 0 0] 198))) M0.out).mono ?_
  rintro e w1 ⟨rfl, hE1⟩
  have E1 := Lib.hid (show Ext (g.w.alloc (.cells #[.int .i64 0, .int .i64 0, .int .i64 0, .int .i64 0, .int .i64 0, .int .i64 0, .slice none 0 0] 198)) w1 from hE1)
  have N1 := Lib.hid (Mod.ext (T := fun _ => False) (g := g.to 9 (g.w.alloc (.cells #[.int .i64 0, .int .i64 0, .int .i64 0, .int .i64 0, .int .i64 0, .int .i64 0, .slice none 0 0] 198))) E1.out 0)
  have M1 := Lib.hid (M0.out.trans N1.out)
  have B1 := Lib.hid (B0.out.keep N1.out id)
  clear hE1
  go_wp2_with fail
  refine (HA.out _ M1.out).mono ?_
  rintro e w2 ⟨v, own2, rfl, m2, r, ok, rfl, hn, hp⟩
  have M2 := Lib.hid (M1.out.trans m2)
  have B2 := Lib.hid (B1.out.keep m2 id)
  clear m2 E1
  have d0 := B2.out.cell (i := 0) rfl
  have d1 := B2.out.cell (i := 1) rfl
  have d2 := B2.out.cell (i := 2) rfl
  have d3 := B2.out.cell (i := 3) rfl
  have d4 := B2.out.cell (i := 4) rfl
  have d5 := B2.out.cell (i := 5) rfl
  have d6 := B2.out.cell (i := 6) rfl
  have df0 := B2.out.live 0
  have df1 := B2.out.live 1
  have df2 := B2.out.live 2
  have df3 := B2.out.live 3
  have df4 := B2.out.live 4
  have df5 := B2.out.live 5
  have df6 := B2.out.live 6
  have dl := B2.out.lt
  (try simp only [GW.to] at d0 d1 d2 d3 d4 d5 d6 df0 df1 df2 df3 df4 df5 df6 dl)
  by_cases h0 : i < 0
  · obtain ⟨rfl, rfl⟩ := hn h0
    have HN := Lib.hid hp
    have H0 := Lib.hid h0
    clear hn hp h0
    go_wp2_with fail
    refine bodyPost_ret (v := .tuple #[.agg #[.int .i64 0, .int .i64 0, .int .i64 0, .int .i64 0, .int .i64 0, .int .i64 0, .slice none 0 0], .bool false]) (by simp [results, Tryz.results164, go_sem, d0, d1, d2, d3, d4, d5, d6]) rfl ?_
    have M9 : Mod (fun _ => False) g ⟨own2, _⟩ := Mod.stn (Mod.stn (Mod.stn (Mod.stn (Mod.stn (Mod.stn (Mod.stn (b := g.w.heap.size) (i := 0) (v := .int .i64 0) M2.out (Nat.le_refl _)) (b := g.w.heap.size) (i := 1) (v := .int .i64 0) (Nat.le_refl _)) (b := g.w.heap.size) (i := 2) (v := .int .i64 0) (Nat.le_refl _)) (b := g.w.heap.size) (i := 3) (v := .int .i64 0) (Nat.le_refl _)) (b := g.w.heap.size) (i := 4) (v := .int .i64 0) (Nat.le_refl _)) (b := g.w.heap.size) (i := 5) (v := .int .i64 0) (Nat.le_refl _)) (b := g.w.heap.size) (i := 6) (v := .slice none 0 0) (Nat.le_refl _)
    exact ⟨_, _, rfl, M9, [.int .i64 0, .int .i64 0, .int .i64 0, .int .i64 0, .int .i64 0, .int .i64 0, .slice none 0 0], false, rfl, fun _ => ⟨rfl, rfl⟩, fun hh => by have := H0.out; omega⟩
  · obtain ⟨rfl, e, A', c', hL, rfl, hr⟩ := hp (by omega)
    have HL := Lib.hid hL
    have HR := Lib.hid hr
    have H0 := Lib.hid h0
    clear hn hL hr h0
    go_wp2_with fail
    refine bodyPost_ret (v := .tuple #[.agg #[.int .i64 e.thread, .int .i64 e.frags, .int .i64 e.spine, .int .i64 e.state, .int .i64 e.cycles, .int .i64 e.at_, .slice A' e.got.length c'], .bool true]) (by simp [results, Tryz.results164, go_sem, d0, d1, d2, d3, d4, d5, d6]) rfl ?_
    have M9 : Mod (fun _ => False) g ⟨own2, _⟩ := Mod.stn (Mod.stn (Mod.stn (Mod.stn (Mod.stn (Mod.stn (Mod.stn (b := g.w.heap.size) (i := 0) (v := .int .i64 e.thread) M2.out (Nat.le_refl _)) (b := g.w.heap.size) (i := 1) (v := .int .i64 e.frags) (Nat.le_refl _)) (b := g.w.heap.size) (i := 2) (v := .int .i64 e.spine) (Nat.le_refl _)) (b := g.w.heap.size) (i := 3) (v := .int .i64 e.state) (Nat.le_refl _)) (b := g.w.heap.size) (i := 4) (v := .int .i64 e.cycles) (Nat.le_refl _)) (b := g.w.heap.size) (i := 5) (v := .int .i64 e.at_) (Nat.le_refl _)) (b := g.w.heap.size) (i := 6) (v := .slice A' e.got.length c') (Nat.le_refl _)
    have T9 : Mod (fun x => x = 9) ⟨own2, w2⟩ ⟨own2, _⟩ := Mod.st (Mod.st (Mod.st (Mod.st (Mod.st (Mod.st (Mod.st (b := g.w.heap.size) (i := 0) (v := .int .i64 e.thread) (Mod.refl _ _) B2.out.own) (b := g.w.heap.size) (i := 1) (v := .int .i64 e.frags) B2.out.own) (b := g.w.heap.size) (i := 2) (v := .int .i64 e.spine) B2.out.own) (b := g.w.heap.size) (i := 3) (v := .int .i64 e.state) B2.out.own) (b := g.w.heap.size) (i := 4) (v := .int .i64 e.cycles) B2.out.own) (b := g.w.heap.size) (i := 5) (v := .int .i64 e.at_) B2.out.own) (b := g.w.heap.size) (i := 6) (v := .slice A' e.got.length c') B2.out.own
    exact ⟨_, _, rfl, M9, [.int .i64 e.thread, .int .i64 e.frags, .int .i64 e.spine, .int .i64 e.state, .int .i64 e.cycles, .int .i64 e.at_, .slice A' e.got.length c'], true, rfl, fun hh => by have := H0.out; omega, fun _ => ⟨rfl, e, A', c', HL.out, rfl, HR.out.keep T9 (by decide)⟩⟩
end Go.Proofs.YtnebimabokgofaaGreat
/-
  line: Fail, Grant, Begin, End.
-/
namespace Go
def failL (L : List Ent) : List Ent := if placeOf waitB L < 0 then L else L.modify (placeOf waitB L).toNat fun e => { e with state := 2 }
def grantL (L : List Ent) (got : List Int) (a : Int) : List Ent := if placeOf waitB L < 0 then L else L.modify (placeOf waitB L).toNat fun e => { e with state := 1, got := got, at_ := a }
def noteE (e : Ent) : Ent := { e with noted := waitB e }
def endE (e : Ent) : Ent := { e with cycles := if e.noted && waitB e then e.cycles + 1 else e.cycles, noted := false }
def EntM.failed (m : EntM) : EntM := ⟨{ m.e with state := 2 }, m.A, m.cap⟩
def EntM.gr1 (m : EntM) : EntM := ⟨{ m.e with state := 1 }, m.A, m.cap⟩
def EntM.gr2 (m : EntM) (got : List Int) (A : Option Addr) (c : Nat) : EntM := ⟨{ m.e with state := 1, got := got }, A, c⟩
def EntM.gr3 (m : EntM) (got : List Int) (a : Int) (A : Option Addr) (c : Nat) : EntM := ⟨{ m.e with state := 1, got := got, at_ := a }, A, c⟩
def EntM.noted' (m : EntM) : EntM := ⟨noteE m.e, m.A, m.cap⟩
def EntM.ended (m : EntM) : EntM := ⟨endE m.e, m.A, m.cap⟩
def EntM.cyc (m : EntM) (v : Int) : EntM := ⟨{ m.e with cycles := v }, m.A, m.cap⟩
def EntM.unn (m : EntM) : EntM := ⟨{ m.e with noted := false }, m.A, m.cap⟩
theorem map_upto (f : Ent → Ent) (fm : EntM → EntM) (hf : ∀ m, (fm m).e = f m.e) (ms : List EntM) : (ms.map fm).map EntM.e = (ms.map EntM.e).map f := by
  simp [List.map_map]
  intro m _
  exact hf m
theorem modify_set {α : Type} (l : List α) (k : Nat) (f : α → α) (x : α) (h : l[k]? = some x) : l.modify k f = l.set k (f x) := by
  apply List.ext_getElem?
  intro i
  rw [List.getElem?_modify, List.getElem?_set]
  by_cases e : k = i
  · subst e
    obtain ⟨hl, hx⟩ := List.getElem?_eq_some_iff.1 h
    simp [hl, hx]
  · simp [e]
end Go
namespace Go.Proofs.YtnebimabokgofaaGreat
open Go Go.RowKit
set_option linter.unusedVariables false
set_option linter.unnecessarySimpa false
set_option linter.unusedSimpArgs false
set_option maxHeartbeats 2000000
structure LineIn (g : GW) (t b : Nat) (A : Option Addr) (c : Nat) (ms : List EntM) : Prop where
  blk : Blk g t b 187 [.slice A ms.length c]
  row : Row g t 226 8 (.slice A ms.length c) ms.length (ms.flatMap EntM.cells)
  at_ : ∀ m ∈ ms, m.At g (t + 1)
theorem LineAt.in_ {g : GW} {t b : Nat} {L : List Ent} (h : LineAt g t b L) : ∃ A c ms, LineIn g t b A c ms ∧ ms.map EntM.e = L := by
  obtain ⟨A, c, ms, h1, h2, h3, h4⟩ := h.ex
  have e : L.length = ms.length := by rw [← h3, List.length_map]
  rw [e] at h1 h2
  exact ⟨A, c, ms, ⟨h1, h2, h4⟩, h3⟩
theorem LineIn.out {g : GW} {t b c : Nat} {A : Option Addr} {ms : List EntM} {L : List Ent} (h : LineIn g t b A c ms) (e : ms.map EntM.e = L) (hl : L.length ≤ 1000000) : LineAt g t b L := by
  have e' : L.length = ms.length := by rw [← e, List.length_map]
  refine ⟨⟨A, c, ms, ?_, ?_, e, h.at_⟩, hl⟩
  · rw [e']; exact h.blk
  · rw [e']; exact h.row
theorem LineIn.keep {S : Nat → Prop} {g g' : GW} {t b c : Nat} {A : Option Addr} {ms : List EntM} (h : LineIn g t b A c ms) (d : Mod S g g') (hs : ¬ S t) (hs1 : ¬ S (t + 1)) : LineIn g' t b A c ms :=
  ⟨h.blk.keep d hs, h.row.keep d hs, fun m hm => (h.at_ m hm).keep d hs1⟩
/-- An entry's cells. -/
theorem LineIn.elem {g : GW} {t b c : Nat} {A : Option Addr} {ms : List EntM} (h : LineIn g t b A c ms) {k : Nat} {m : EntM} (hk : ms[k]? = some m) : ∃ r, A = some ⟨r, 0, none⟩ ∧ r < g.w.heap.size ∧ g.own r = t ∧ b ≠ r ∧ (∀ j, g.w.frozen? ⟨r, j, none⟩ = false) ∧ ∀ j v, j < 8 → m.cells[j]? = some v → g.w.cell? ⟨r, k * 8 + j, none⟩ = some v := by
  obtain ⟨hl, -⟩ := List.getElem?_eq_some_iff.1 hk
  obtain ⟨r, rfl, h1, h2, h3, h4⟩ := h.row.block (by omega)
  exact ⟨r, rfl, h1, h2, h.row.ne_type h.blk (by decide) rfl, h4, fun j v hj hv => h3 _ _ (by rw [flat_at EntM.cells_len ms k j m hk hj]; exact hv)⟩
theorem LineIn.put {g : GW} {t b r c : Nat} {ms : List EntM} (h : LineIn g t b (some ⟨r, 0, none⟩) c ms) {k j : Nat} {x y : EntM} {v : Value} (hk : ms[k]? = some x) (hj : j < 8) (hy : y.cells = x.cells.set j v) (ho : g.own r = t) (hn : b ≠ r) (hat : y.At g (t + 1)) :
    LineIn ⟨g.own, g.w.setCell ⟨r, k * 8 + j, none⟩ v⟩ t b (some ⟨r, 0, none⟩) c (ms.set k y) := by
  have m1 : Mod (fun x => x = t) g ⟨g.own, g.w.setCell ⟨r, k * 8 + j, none⟩ v⟩ := Mod.set ho
  refine ⟨?_, ?_, fun m hm => ?_⟩
  · simp only [List.length_set]; exact h.blk.setOther _ _ (fun e => hn e.symm)
  · simp only [List.length_set]
    rw [flat_put EntM.cells_len ms k j x y v hk hj hy]
    exact h.row.store _ _
  · rcases List.mem_or_eq_of_mem_set hm with hm | rfl
    · exact (h.at_ m hm).keep m1 (by omega)
    · exact hat.keep m1 (by omega)
theorem line_fail (g : GW) (t b : Nat) (L : List Ent) (h : LineAt g t b L) :
    Calls Tryz.prog 169 #[.pointer (some ⟨b, 0, none⟩)] g.w (Does (.bool (decide (0 ≤ placeOf waitB L))) g (fun x => x = t) (fun g' => LineAt g' t b (failL L))) := by
  have HI := Lib.hid (line_first g t b L h)
  have H := Lib.hid h
  have HL := Lib.hid h.len
  have hbd := placeOf_bd waitB L
  clear h
  go_enter Tryz.func169, Tryz.ntmps169
  go_wp2_with fail
  refine HI.out.mono ?_
  rintro e w1 ⟨rfl, hX⟩
  obtain ⟨own1, m1⟩ := Mod.ofExt (show Ext g.w w1 from hX) g.own
  have M1 := Lib.hid (show Mod (fun _ => False) g ⟨own1, w1⟩ from m1)
  have H1 := Lib.hid (H.out.keep M1.out id id)
  clear m1 hX
  by_cases h0 : placeOf waitB L < 0
  · have HV := Lib.hid (show failL L = L from if_pos h0)
    have HD := Lib.hid (show decide (0 ≤ placeOf waitB L) = false from decide_eq_false (by omega))
    go_wp2_with fail
    go_ret
    exact Does.of ⟨own1, w1⟩ rfl (by rw [HD.out]; try rfl) (M1.out.mono (fun x hx => hx.elim)) (by rw [HV.out]; exact H1.out)
  · have HV := Lib.hid (show failL L = L.modify (placeOf waitB L).toNat (fun e => { e with state := 2 }) from if_neg h0)
    have HD := Lib.hid (show decide (0 ≤ placeOf waitB L) = true from decide_eq_true (by omega))
    obtain ⟨k, hk⟩ := Int.eq_ofNat_of_zero_le (show 0 ≤ placeOf waitB L by omega)
    rw [hk] at HV hbd ⊢
    obtain ⟨A, c, ms, hin, hms⟩ := H1.out.in_
    have hml : ms.length = L.length := by rw [← hms, List.length_map]
    have hkm : k < ms.length := by omega
    have hx := List.getElem?_eq_getElem hkm
    obtain ⟨r, rfl, hr1, hr2, hr3, hr4, hc⟩ := hin.elem hx
    have hxL : L[k]? = some ms[k].e := by rw [← hms, List.getElem?_map, hx]; rfl
    have HR := Lib.hid (show LineAt ⟨own1, w1.setCell ⟨r, k * 8 + 3, none⟩ (.int .i64 2)⟩ t b (failL L) by
      refine (hin.put (y := ms[k].failed) hx (by decide) rfl hr2 hr3 ?_).out ?_ (by rw [HV.out, Int.toNat_natCast, List.length_modify]; exact HL.out)
      · exact ⟨(hin.at_ _ (List.getElem_mem hkm)).seg, (hin.at_ _ (List.getElem_mem hkm)).len⟩
      · rw [HV.out, Int.toNat_natCast, List.map_set, hms, modify_set _ _ _ _ hxL]
        rfl)
    have HM := Lib.hid (show Mod (fun x => x = t) g ⟨own1, w1.setCell ⟨r, k * 8 + 3, none⟩ (.int .i64 2)⟩ from Mod.st (M1.out.mono (fun x hx => hx.elim)) hr2)
    have c0 := hin.blk.cell (i := 0) rfl
    have g3 := hc 3 _ (by decide) rfl
    have f3 := hr4 (k * 8 + 3)
    have hbl := hin.blk.lt
    simp only at c0 g3 f3 hbl hr1
    rw [hml] at c0 hkm
    generalize L.length = n at *
    clear hc hr4 hx hxL hin hms hml hr2
    go_wp2_with fail
    go_ret
    exact Does.of ⟨own1, _⟩ rfl (by rw [HD.out]; try rfl) HM.out HR.out
theorem line_grant (g : GW) (t b : Nat) (A0 : Option Addr) (c0 n0 : Nat) (got : List Int) (a : Int) (L : List Ent) (h : LineAt g t b L) (hn0 : got.length = n0) (hg : CellsAt g.w A0 (got.map (Value.int .i64))) (hgl : n0 ≤ 1024) :
    Calls Tryz.prog 168 #[.pointer (some ⟨b, 0, none⟩), .slice A0 n0 c0, .int .i64 a] g.w (Does (.bool (decide (0 ≤ placeOf waitB L))) g (fun x => x = t) (fun g' => LineAt g' t b (grantL L got a))) := by
  have HI := Lib.hid (line_first g t b L h)
  have H := Lib.hid h
  have HL := Lib.hid h.len
  have hbd := placeOf_bd waitB L
  have HCL := Lib.hid (fun g' (m : Mod (fun _ => False) g g') => cloneIntN A0 c0 n0 got (t + 1) g' hn0 (hg.ext m.toExt) (by omega))
  have HN0 := Lib.hid hn0
  have HGL := Lib.hid hgl
  clear h hg hn0
  go_enter Tryz.func168, Tryz.ntmps168
  go_wp2_with fail
  refine HI.out.mono ?_
  rintro e w1 ⟨rfl, hX⟩
  obtain ⟨own1, m1⟩ := Mod.ofExt (show Ext g.w w1 from hX) g.own
  have M1 := Lib.hid (show Mod (fun _ => False) g ⟨own1, w1⟩ from m1)
  have H1 := Lib.hid (H.out.keep M1.out id id)
  clear m1 hX
  by_cases h0 : placeOf waitB L < 0
  · have HV := Lib.hid (show grantL L got a = L from if_pos h0)
    have HD := Lib.hid (show decide (0 ≤ placeOf waitB L) = false from decide_eq_false (by omega))
    go_wp2_with fail
    go_ret
    exact Does.of ⟨own1, w1⟩ rfl (by rw [HD.out]; try rfl) (M1.out.mono (fun x hx => hx.elim)) (by rw [HV.out]; exact H1.out)
  · have HV := Lib.hid (show grantL L got a = L.modify (placeOf waitB L).toNat (fun e => { e with state := 1, got := got, at_ := a }) from if_neg h0)
    have HD := Lib.hid (show decide (0 ≤ placeOf waitB L) = true from decide_eq_true (by omega))
    obtain ⟨k, hk⟩ := Int.eq_ofNat_of_zero_le (show 0 ≤ placeOf waitB L by omega)
    rw [hk] at HV hbd ⊢
    obtain ⟨A, c, ms, hin, hms⟩ := H1.out.in_
    have hml : ms.length = L.length := by rw [← hms, List.length_map]
    have hkm : k < ms.length := by omega
    have hx := List.getElem?_eq_getElem hkm
    obtain ⟨r, rfl, hr1, hr2, hr3, hr4, hc⟩ := hin.elem hx
    have hxL : L[k]? = some ms[k].e := by rw [← hms, List.getElem?_map, hx]; rfl
    have HIN := Lib.hid hin
    have c0' := hin.blk.cell (i := 0) rfl
    have hbl := hin.blk.lt
    simp only at c0' hbl hr1
    rw [hml] at c0'
    have HX := Lib.hid (And.intro hx (And.intro hxL (And.intro hms hkm)))
    have HO := Lib.hid (And.intro hr2 hr3)
    have hkl : k < L.length := by omega
    generalize hLn : L.length = n at *
    have HLN := Lib.hid hLn
    clear hc hr4 hx hxL hin hms hml hr2 hr3 hLn
    go_wp2_with fail
    refine (HCL.out ⟨own1, w1⟩ M1.out).mono ?_
    rintro e w2 ⟨A', c', rfl, m2, r2, -, -⟩
    obtain ⟨own2, m2, r2⟩ : ∃ own2, Mod (fun _ => False) ⟨own1, w1⟩ ⟨own2, w2⟩ ∧ Row ⟨own2, w2⟩ (t + 1) 3 1 (.slice A' n0 c') n0 (got.map (Value.int .i64)) := ⟨_, m2, r2⟩
    have hin2 := HIN.out.keep m2 id id
    obtain ⟨hx, hxL, hms, hkm⟩ := HX.out
    obtain ⟨r', hre, hr1', hr2, hr3, hr4, hc⟩ := hin2.elem hx
    injection hre with hre
    injection hre with hre
    subst hre
    have p1 := hin2.put (y := ms[k].gr1) hx (j := 3) (v := .int .i64 1) (by decide) rfl hr2 hr3 ⟨(hin2.at_ _ (List.getElem_mem hkm)).seg, (hin2.at_ _ (List.getElem_mem hkm)).len⟩
    have q1 : Mod (fun x => x = t) ⟨own2, w2⟩ ⟨own2, w2.setCell ⟨r, k * 8 + 3, none⟩ (.int .i64 1)⟩ := Mod.set hr2
    have r3 := r2.keep q1 (by omega)
    have p2 := p1.put (y := ms[k].gr2 got A' c') (x := ms[k].gr1) (j := 6) (v := .slice A' n0 c') (List.getElem?_set_self hkm) (by decide) (by rw [← HN0.out]; rfl) hr2 hr3 ⟨r3.seg, by rw [show (ms[k].gr2 got A' c').e.got = got from rfl, HN0.out]; exact HGL.out⟩
    have r4 := r3.keep (Mod.set (T := fun x => x = t) (g := ⟨own2, w2.setCell ⟨r, k * 8 + 3, none⟩ (.int .i64 1)⟩) (b := r) (i := k * 8 + 6) (v := .slice A' n0 c') hr2) (by omega)
    have p3 := p2.put (y := ms[k].gr3 got a A' c') (x := ms[k].gr2 got A' c') (j := 5) (v := .int .i64 a) (List.getElem?_set_self (by simpa using hkm)) (by decide) (by simp [EntM.gr2, EntM.gr3, EntM.cells, EntM.req]) hr2 hr3 ⟨r4.seg, by rw [show (ms[k].gr3 got a A' c').e.got = got from rfl, HN0.out]; exact HGL.out⟩
    have HR := Lib.hid (p3.out (L := grantL L got a) (by rw [HV.out, Int.toNat_natCast, List.set_set, List.set_set, List.map_set, hms, modify_set _ _ _ _ hxL]; rfl) (by rw [HV.out, Int.toNat_natCast, List.length_modify, HLN.out]; exact HL.out))
    have HM := Lib.hid (Mod.st (b := r) (i := k * 8 + 5) (v := .int .i64 a) (Mod.st (b := r) (i := k * 8 + 6) (v := .slice A' n0 c') (Mod.st (b := r) (i := k * 8 + 3) (v := .int .i64 1) ((M1.out.trans m2).mono (S := fun x => x = t) (fun x hx => hx.elim)) hr2) hr2) hr2)
    have g3 := hc 3 _ (by decide) rfl
    have f3 := hr4 (k * 8 + 3)
    have g6 := hc 6 _ (by decide) rfl
    have f6 := hr4 (k * 8 + 6)
    have g5 := hc 5 _ (by decide) rfl
    have f5 := hr4 (k * 8 + 5)
    have hrl2 := Nat.lt_of_lt_of_le hr1 m2.size
    simp only at g3 f3 g6 f6 g5 f5 hrl2
    clear hc hr4 hx hxL hms m2 r2 r3 r4 p1 p2 p3 q1 hin2 hr1' hr2 hr3
    go_wp2_with fail
    go_ret
    exact Does.of ⟨own2, _⟩ rfl (by rw [HD.out]; try rfl) HM.out HR.out
set_option maxRecDepth 100000 in
theorem line_begin (g : GW) (t b : Nat) (L : List Ent) (h : LineAt g t b L) :
    Calls Tryz.prog 146 #[.pointer (some ⟨b, 0, none⟩)] g.w (Does (.tuple #[]) g (fun x => x = t) (fun g' => LineAt g' t b (L.map noteE))) := by
  obtain ⟨A, c, ms, hin, hms⟩ := h.in_
  have hml : ms.length = L.length := by rw [← hms, List.length_map]
  have hlen := h.len
  rw [← hml] at hlen
  have HMS := Lib.hid hms
  have HLEN := Lib.hid h.len
  have HIN := Lib.hid hin
  have c0 := hin.blk.cell (i := 0) rfl
  have cl := hin.blk.lt
  clear hin hms hml h
  generalize hn : ms.length = n at *
  have HN := Lib.hid hn
  clear hn
  go_enter Tryz.func146, Tryz.ntmps146
  go_wp2_with fail
  go_loopw [8] (fun i wr => ∃ (k : Nat) (own : Nat → Nat), k ≤ n ∧ i = .int .i64 k ∧ Hid (Mod (fun x => x = t) g ⟨own, wr⟩) ∧ Hid (LineIn ⟨own, wr⟩ t b A c (upto EntM.noted' ms k))) (fun i _ => n - (intOf i).toNat)
  case atStart => exact ⟨0, g.own, Nat.zero_le _, rfl, Lib.hid Mod.self, by rw [upto_zero]; exact HIN⟩
  case round =>
    obtain ⟨k, own, hk, rfl, M, S⟩ := hrel
    clear c0 cl
    by_cases hlt : k < n
    · have hkm : k < ms.length := by rw [HN.out]; exact hlt
      have hx := List.getElem?_eq_getElem hkm
      have hxu : (upto EntM.noted' ms k)[k]? = some ms[k] := by rw [upto_at]; exact hx
      obtain ⟨r, rfl, hr1, hr2, hr3, hr4, hc⟩ := S.out.elem hxu
      have hmem := S.out.at_ _ (List.mem_of_getElem? hxu)
      have HR := Lib.hid (show LineIn ⟨own, wr.setCell ⟨r, k * 8 + 7, none⟩ (.bool (waitB ms[k].e))⟩ t b (some ⟨r, 0, none⟩) c (upto EntM.noted' ms (k + 1)) by
        rw [upto_succ _ _ _ _ hx]
        exact S.out.put hxu (by decide) rfl hr2 hr3 ⟨hmem.seg, hmem.len⟩)
      have HM := Lib.hid (Mod.st (b := r) (i := k * 8 + 7) (v := .bool (waitB ms[k].e)) M.out hr2)
      have c0 := S.out.blk.cell (i := 0) rfl
      have cl := S.out.blk.lt
      have g3 := hc 3 _ (by decide) rfl
      have g7 := hc 7 _ (by decide) rfl
      have f7 := hr4 (k * 8 + 7)
      simp only [upto_len] at c0
      rw [HN.out] at c0
      simp only at cl g3 g7 f7 hr1
      have hwb : waitB ms[k].e = (ms[k].e.state == 0) := rfl
      rw [hwb] at HR HM
      generalize ms[k].e.state = st at *
      generalize ms[k].e.noted = nt at *
      clear hc hr4 hx hxu hmem hr2 hwb
      go_wp2_with fail
      refine wp_region_mixed [true, true, true, true, true, true, true, true, true, true, true, true, true, true, true, true, true, false] 1 17 (by kernel_rfl) (by kernel_rfl) (by kernel_rfl) ?_ (by decide) (by decide) (by decide) (by kernel_rfl) ?_
      · intro c a d v w h; cases d <;> exact h
      intro X00
      simp only [pickOps]
      repeat (go_big_quiet_step (fail))
      refine wpQuiet_nil (fun X0 => ?_)
      clear X00
      refine wpAnyM_last 17 _ (by kernel_rfl) (by kernel_rfl) rfl rfl (fun X1 K Q' hK => ?_)
      go_simp
      refine hK _ _ (fun X2 => ?_)
      clear hK K Q'
      go_wp2_with fail
      go_roundw
      case rel => exact ⟨k + 1, _, by omega, by go_num, Lib.hid (Mod.pt HM.out _), Lib.hid (HR.out.keep (Mod.pt (Mod.refl (fun _ => False) _) _) id id)⟩
      case measure => simp [intOf]; omega
    · obtain rfl : k = n := by omega
      go_wp2_with fail
      refine bodyPost_end (results_none rfl _ _ _) rfl (Does.of ⟨own, wr⟩ rfl rfl M.out ?_)
      have := S.out
      rw [← HN.out, upto_all] at this
      refine this.out ?_ (by rw [List.length_map]; exact HLEN.out)
      rw [← HMS.out]
      exact map_upto noteE EntM.noted' (fun m => rfl) ms
set_option maxRecDepth 100000 in
theorem line_end (g : GW) (t b : Nat) (L : List Ent) (h : LineAt g t b L) (hcy : ∀ e ∈ L, 0 ≤ e.cycles ∧ e.cycles ≤ 1099511627776) :
    Calls Tryz.prog 163 #[.pointer (some ⟨b, 0, none⟩)] g.w (Does (.tuple #[]) g (fun x => x = t) (fun g' => LineAt g' t b (L.map endE))) := by
  obtain ⟨A, c, ms, hin, hms⟩ := h.in_
  have hml : ms.length = L.length := by rw [← hms, List.length_map]
  have hlen := h.len
  rw [← hml] at hlen
  have HMS := Lib.hid hms
  have HLEN := Lib.hid h.len
  have HIN := Lib.hid hin
  have HCY := Lib.hid (show ∀ m ∈ ms, 0 ≤ m.e.cycles ∧ m.e.cycles ≤ 1099511627776 from fun m hm => hcy _ (by rw [← hms]; exact List.mem_map_of_mem hm))
  have c0 := hin.blk.cell (i := 0) rfl
  have cl := hin.blk.lt
  clear hin hms hml h hcy
  generalize hn : ms.length = n at *
  have HN := Lib.hid hn
  clear hn
  go_enter Tryz.func163, Tryz.ntmps163
  go_wp2_with fail
  go_loopw [9] (fun i wr => ∃ (k : Nat) (own : Nat → Nat), k ≤ n ∧ i = .int .i64 k ∧ Hid (Mod (fun x => x = t) g ⟨own, wr⟩) ∧ Hid (LineIn ⟨own, wr⟩ t b A c (upto EntM.ended ms k))) (fun i _ => n - (intOf i).toNat)
  case atStart => exact ⟨0, g.own, Nat.zero_le _, rfl, Lib.hid Mod.self, by rw [upto_zero]; exact HIN⟩
  case round =>
    obtain ⟨k, own, hk, rfl, M, S⟩ := hrel
    clear c0 cl
    by_cases hlt : k < n
    · have hkm : k < ms.length := by rw [HN.out]; exact hlt
      have hx := List.getElem?_eq_getElem hkm
      have hxu : (upto EntM.ended ms k)[k]? = some ms[k] := by rw [upto_at]; exact hx
      obtain ⟨hy0, hy1⟩ := HCY.out _ (List.getElem_mem hkm)
      obtain ⟨r, rfl, hr1, hr2, hr3, hr4, hc⟩ := S.out.elem hxu
      have hmem := S.out.at_ _ (List.mem_of_getElem? hxu)
      have c0 := S.out.blk.cell (i := 0) rfl
      have cl := S.out.blk.lt
      have g3 := hc 3 _ (by decide) rfl
      have g4 := hc 4 _ (by decide) rfl
      have g7 := hc 7 _ (by decide) rfl
      have f4 := hr4 (k * 8 + 4)
      have f7 := hr4 (k * 8 + 7)
      simp only [upto_len] at c0
      rw [HN.out] at c0
      simp only at cl g3 g4 g7 f7 f4 hr1
      cases hb : (ms[k].e.noted && waitB ms[k].e)
      · have HR := Lib.hid (show LineIn ⟨own, wr.setCell ⟨r, k * 8 + 7, none⟩ (.bool false)⟩ t b (some ⟨r, 0, none⟩) c (upto EntM.ended ms (k + 1)) by
          rw [upto_succ _ _ _ _ hx]
          exact S.out.put hxu (by decide) (by simp [EntM.ended, endE, EntM.cells, EntM.req, hb]) hr2 hr3 ⟨hmem.seg, hmem.len⟩)
        have HM := Lib.hid (Mod.st (b := r) (i := k * 8 + 7) (v := .bool false) M.out hr2)
        have hwb : waitB ms[k].e = (ms[k].e.state == 0) := rfl
        rw [hwb] at hb
        generalize ms[k].e.state = st at *
        generalize ms[k].e.noted = nt at *
        generalize ms[k].e.cycles = cy at *
        clear hc hr4 hx hxu hmem hr2 hwb
        cases nt
        · go_wp2_with fail
          go_roundw
          case rel => exact ⟨k + 1, _, by omega, by go_num, HM, HR⟩
          case measure => simp [intOf]; omega
        · have hst : (st == 0) = false := by simpa using hb
          clear hb
          go_wp2_with fail
          go_roundw
          case rel => exact ⟨k + 1, _, by omega, by go_num, HM, HR⟩
          case measure => simp [intOf]; omega
      · have HR := Lib.hid (show LineIn ⟨own, (wr.setCell ⟨r, k * 8 + 4, none⟩ (.int .i64 (ms[k].e.cycles + 1))).setCell ⟨r, k * 8 + 7, none⟩ (.bool false)⟩ t b (some ⟨r, 0, none⟩) c (upto EntM.ended ms (k + 1)) by
          rw [upto_succ _ _ _ _ hx]
          have p1 := S.out.put (y := ms[k].cyc (ms[k].e.cycles + 1)) hxu (j := 4) (v := .int .i64 (ms[k].e.cycles + 1)) (by decide) rfl hr2 hr3 ⟨hmem.seg, hmem.len⟩
          have hku : k < (upto EntM.ended ms k).length := by rw [upto_len]; exact hkm
          have p2 := p1.put (y := ms[k].ended) (x := ms[k].cyc (ms[k].e.cycles + 1)) (j := 7) (v := .bool false) (List.getElem?_set_self hku) (by decide) (by simp [EntM.ended, endE, EntM.cells, EntM.req, hb, EntM.cyc]) hr2 hr3 ⟨(hmem.keep (Mod.set (T := fun x => x = t) (g := ⟨own, wr⟩) (b := r) (i := k * 8 + 4) (v := .int .i64 (ms[k].e.cycles + 1)) hr2) (by omega)).seg, hmem.len⟩
          rw [List.set_set] at p2
          exact p2)
        have HM := Lib.hid (Mod.st (b := r) (i := k * 8 + 7) (v := .bool false) (Mod.st (b := r) (i := k * 8 + 4) (v := .int .i64 (ms[k].e.cycles + 1)) M.out hr2) hr2)
        have hwb : waitB ms[k].e = (ms[k].e.state == 0) := rfl
        rw [hwb, Bool.and_eq_true] at hb
        obtain ⟨hn1, hst⟩ := hb
        rw [hn1] at g7
        generalize ms[k].e.state = st at *
        generalize ms[k].e.cycles = cy at *
        clear hc hr4 hx hxu hmem hr2 hwb hn1
        go_wp2_with fail
        go_roundw
        case rel => exact ⟨k + 1, _, by omega, by go_num, HM, HR⟩
        case measure => simp [intOf]; omega
    · obtain rfl : k = n := by omega
      go_wp2_with fail
      refine bodyPost_end (results_none rfl _ _ _) rfl (Does.of ⟨own, wr⟩ rfl rfl M.out ?_)
      have := S.out
      rw [← HN.out, upto_all] at this
      refine this.out ?_ (by rw [List.length_map]; exact HLEN.out)
      rw [← HMS.out]
      exact map_upto endE EntM.ended (fun m => rfl) ms
end Go.Proofs.YtnebimabokgofaaGreat
/-
  line: slices.Delete at its entries; Drop.
-/
namespace Go
open Go.RowKit
def setL : List Value → Nat → List Value → List Value
  | xs, _, [] => xs
  | xs, i, v :: vs => setL (xs.set i v) (i + 1) vs
theorem setL_eq : ∀ (vs xs : List Value) (i : Nat), i + vs.length ≤ xs.length → setL xs i vs = xs.take i ++ vs ++ xs.drop (i + vs.length)
  | [], xs, i, _ => by simp [setL]
  | v :: vs, xs, i, h => by
    simp only [List.length_cons] at h
    have ih := setL_eq vs (xs.set i v) (i + 1) (by simp; omega)
    have h1 : (xs.set i v).take (i + 1) = xs.take i ++ [v] := by
      rw [List.take_add_one, List.getElem?_set_self (by omega), List.take_set, List.set_eq_of_length_le (by simp; omega)]
      rfl
    have h2 : (xs.set i v).drop (i + 1 + vs.length) = xs.drop (i + (vs.length + 1)) := by
      rw [List.drop_set_of_lt (by omega), show i + 1 + vs.length = i + (vs.length + 1) by omega]
    rw [setL, ih, h1, h2]
    simp
theorem setL_len : ∀ (vs xs : List Value) (i : Nat), (setL xs i vs).length = xs.length
  | [], xs, i => rfl
  | v :: vs, xs, i => by rw [setL, setL_len]; simp
theorem row_setCells {g : GW} {t : Nat} {E : TypeId} {size n b c : Nat} : ∀ (vs xs : List Value) (i : Nat) (w : World), Row ⟨g.own, w⟩ t E size (.slice (some ⟨b, 0, none⟩) n c) n xs → Row ⟨g.own, w.setCells b i vs⟩ t E size (.slice (some ⟨b, 0, none⟩) n c) n (setL xs i vs)
  | [], xs, i, w, h => h
  | v :: vs, xs, i, w, h => by
    rw [World.setCells, setL]
    exact row_setCells vs _ _ _ (h.store i v)
theorem Mod.stCells {T : Nat → Prop} {g : GW} {o : Nat → Nat} {b : Nat} (hb : T (o b)) : ∀ (vs : List Value) (i : Nat) (W : World), Mod T g ⟨o, W⟩ → Mod T g ⟨o, W.setCells b i vs⟩
  | [], _, _, h => h
  | v :: vs, i, W, h => by
    rw [World.setCells]
    exact Mod.stCells hb vs _ _ (Mod.st h hb)
theorem Blk.setCells {own : Nat → Nat} {t b b' : Nat} {T : TypeId} {ws : List Value} (hn : b' ≠ b) : ∀ (vs : List Value) (i : Nat) (W : World), Blk ⟨own, W⟩ t b T ws → Blk ⟨own, W.setCells b' i vs⟩ t b T ws
  | [], _, _, h => h
  | v :: vs, i, W, h => by
    rw [World.setCells]
    exact Blk.setCells hn vs _ _ (h.setOther i v hn)
variable {P : Program}
/-- 'clear(s)', s of one element. -/
theorem run_clear_one (w : World) (t e ty : TypeId) (z : Value) (zs : List Value) (ht : P.underlying t = some (.slice e)) (hv : ∀ w, (zeroValue e).run P w = .ok z w) (hz : (Builtin.zeroCells z.cells 1).toList = zs) (h1 : ∀ v ∈ zs, v.oneCell' = true) (b o c : Nat)
    (hc : ∀ j, j < zs.length → (w.cell? ⟨b, o + j, none⟩).isSome = true) (hf : ∀ j, j < zs.length → w.frozen? ⟨b, o + j, none⟩ = false) :
    (Builtin.clear_ #[t] ty #[.slice (some ⟨b, o, none⟩) 1 c]).run P w = .ok (.tuple #[]) (w.setCells b o zs) := by
  have hst := run_storeCells_cells (P := P) b o zs 0 w (by simpa using hc) (by simpa using hf) h1
  simp only [Nat.add_zero] at hst
  simp [Builtin.clear_, run_underlying ht, hv, hz, hst]
theorem flat_erase (ms : List EntM) (k : Nat) (hk : k < ms.length) (zs : List Value) (hz : zs.length = 8) :
    ((setL (setL (ms.flatMap EntM.cells) (k * 8) ((ms.drop (k + 1)).flatMap EntM.cells)) ((ms.length - 1) * 8) zs).take ((ms.length - 1) * 8)) = (ms.eraseIdx k).flatMap EntM.cells := by
  have hl : (ms.flatMap EntM.cells).length = ms.length * 8 := flat_size ms EntM.cells_len
  have hd : ((ms.drop (k + 1)).flatMap EntM.cells).length = (ms.length - (k + 1)) * 8 := by rw [flat_size _ EntM.cells_len, List.length_drop]
  have hsplit : ms.flatMap EntM.cells = (ms.take k).flatMap EntM.cells ++ (ms.drop k).flatMap EntM.cells := by rw [← List.flatMap_append, List.take_append_drop]
  have ht : ((ms.take k).flatMap EntM.cells).length = k * 8 := by rw [flat_size _ EntM.cells_len, List.length_take, Nat.min_eq_left (by omega)]
  rw [setL_eq _ _ _ (by rw [setL_len, hl, hz]; omega), setL_eq _ (ms.flatMap EntM.cells) _ (by rw [hl, hd]; omega), List.append_assoc, List.take_append_of_le_length (by simp [hl, hd]; omega), List.take_take, Nat.min_self, List.take_append_of_le_length (by simp [hl, hd]; omega), List.eraseIdx_eq_take_drop_succ, List.flatMap_append, List.take_of_length_le (by simp [hl, hd]; omega)]
  congr 1
  rw [hsplit, List.take_append_of_le_length (by omega), List.take_of_length_le (by omega)]
end Go
namespace Go.Proofs.YtnebimabokgofaaGreat
open Go Go.RowKit
set_option linter.unusedVariables false
set_option linter.unnecessarySimpa false
set_option linter.unusedSimpArgs false
set_option maxHeartbeats 4000000
def zeroEnt : Value := .agg #[.int .i64 0, .int .i64 0, .int .i64 0, .int .i64 0, .int .i64 0, .int .i64 0, .slice none 0 0, .bool false]
theorem zeroEnt_run (w : World) : (zeroValue 226).run Tryz.prog w = .ok zeroEnt w := by
  obtain ⟨i0, hi, hz0, hz1, hz2⟩ := info_parts infoEnt
  have hti : (typeInfo 226).run Tryz.prog w = .ok i0 w := by simp [typeInfo, hi]
  simp [zeroValue, hti, hz0, zeroEnt]
def zeroCs : List Value := [.int .i64 0, .int .i64 0, .int .i64 0, .int .i64 0, .int .i64 0, .int .i64 0, .slice none 0 0, .bool false]
theorem zeroEnt_cells : (Builtin.zeroCells zeroEnt.cells 1).toList = zeroCs := by kernel_rfl
theorem zeroCs_one : ∀ v ∈ zeroCs, v.oneCell' = true := by decide
set_option maxRecDepth 100000 in
theorem line_delete (g : GW) (t b r c k j n : Nat) (ms : List EntM) (h : LineIn g t b (some ⟨r, 0, none⟩) c ms) (hn : ms.length = n) (hk : k < n) (hj : j = k + 1) (hl : n ≤ 1000000) (hr : g.own r = t) (hbr : b ≠ r) :
    Calls Tryz.prog 236 #[.slice (some ⟨r, 0, none⟩) n c, .int .i64 k, .int .i64 j] g.w (fun e w' => e = .returned (.slice (some ⟨r, 0, none⟩) (k + (n - j)) c) ∧ ∃ own', Mod (fun x => x = t) g ⟨own', w'⟩ ∧ Blk ⟨own', w'⟩ t b 187 [.slice (some ⟨r, 0, none⟩) n c] ∧ Row ⟨own', w'⟩ t 226 8 (.slice (some ⟨r, 0, none⟩) (k + (n - j)) c) (k + (n - j)) ((ms.eraseIdx k).flatMap EntM.cells)) := by
  obtain ⟨i0, hi, hz0, hz1, hz2⟩ := info_parts infoEnt
  have hrow := h.row
  rw [hn] at hrow
  obtain ⟨A', c', he, hcn, hcm, -⟩ := hrow.form
  injection he with e1 e2 e3
  subst e3
  clear e1 e2 A'
  obtain ⟨_, e, hrl, -, hcell, hlive⟩ := hrow.block (by omega)
  injection e with e
  injection e with e
  subst e
  have hlen : (ms.flatMap EntM.cells).length = n * 8 := by rw [flat_size ms EntM.cells_len, hn]
  obtain ⟨news, hnews⟩ : ∃ news, news = (ms.drop (k + 1)).flatMap EntM.cells := ⟨_, rfl⟩
  have hnl : news.length = (n - j) * 8 := by rw [hnews, flat_size _ EntM.cells_len, List.length_drop, hn, hj]
  have hget : ∀ q u, news[q]? = some u → (ms.flatMap EntM.cells)[j * 8 + q]? = some u := by
    intro q u hu
    have e : ms.flatMap EntM.cells = (ms.take (k + 1)).flatMap EntM.cells ++ news := by rw [hnews, ← List.flatMap_append, List.take_append_drop]
    have ht : ((ms.take (k + 1)).flatMap EntM.cells).length = j * 8 := by rw [flat_size _ EntM.cells_len, List.length_take, Nat.min_eq_left (by omega), hj]
    rw [e, List.getElem?_append_right (by omega), ht, Nat.add_sub_cancel_left]
    exact hu
  obtain ⟨A, hA, hsrc⟩ : ∃ A : Addr, (if c = j then some (⟨r, 0, none⟩ : Addr) else some ⟨r, j * 8, none⟩) = some A ∧ Hid (∀ q u, news[q]? = some u → g.w.drew.cell? (A.add q) = some u) := by
    by_cases h : c = j
    · refine ⟨⟨r, 0, none⟩, by simp [h], fun q u hu => ?_⟩
      have h0 : news.length = 0 := by rw [hnl]; omega
      rw [List.length_eq_zero_iff.1 h0] at hu
      simp at hu
    · refine ⟨⟨r, j * 8, none⟩, by simp [h], fun q u hu => ?_⟩
      have e : (⟨r, j * 8, none⟩ : Addr).add q = ⟨r, j * 8 + q, none⟩ := by unfold Addr.add; split <;> simp_all
      rw [e]
      exact hcell _ _ (hget q u hu)
  have s1 : Hid (news.length = (n - j) * 8) := hnl
  have s2 : Hid (∀ u ∈ news, u.oneCell' = true) := by
    intro u hu
    rw [hnews] at hu
    obtain ⟨m, _, hm⟩ := List.mem_flatMap.1 hu
    simp [EntM.cells, EntM.req] at hm
    rcases hm with rfl | rfl | rfl | rfl | rfl | rfl | rfl | rfl <;> rfl
  have hsome : ∀ q, q < n * 8 → (g.w.cell? ⟨r, q, none⟩).isSome = true := fun q hq => by rw [hcell q _ (List.getElem?_eq_getElem (by rw [hlen]; exact hq))]; rfl
  have s3 : Hid (∀ q, q < news.length → (g.w.drew.cell? ⟨r, 0 + k * 8 + q, none⟩).isSome = true ∧ g.w.drew.frozen? ⟨r, 0 + k * 8 + q, none⟩ = false) := by
    intro q hq
    rw [hnl] at hq
    exact ⟨hsome _ (by omega), hlive _⟩
  obtain ⟨W1, hW1⟩ : ∃ W1, W1 = g.w.drew.setCells r (0 + k * 8) news := ⟨_, rfl⟩
  have hcl : ∀ ty, (Builtin.clear_ #[185] ty #[.slice (some ⟨r, (k + (n - j)) * 8, none⟩) (n - (k + (n - j))) (c - (k + (n - j)))]).run Tryz.prog W1 = .ok (.tuple #[]) (W1.setCells r ((k + (n - j)) * 8) zeroCs) := fun ty => by
    rw [show n - (k + (n - j)) = 1 by omega]
    exact run_clear_one W1 _ _ ty zeroEnt zeroCs Tryz.underlying185 zeroEnt_run zeroEnt_cells zeroCs_one r _ _ (fun q hq => by rw [hW1]; exact World.isSome_setCells _ _ _ _ _ (hsome _ (by simp [zeroCs] at hq; omega))) (fun q hq => by rw [hW1, World.frozen?_setCells]; exact hlive _)
  have hW : Hid (W1 = g.w.drew.setCells r (0 + k * 8) news) := hW1
  have HN := Lib.hid hnews
  have H := Lib.hid h
  have HR := Lib.hid hrow
  have HX := Lib.hid (And.intro hr (And.intro hbr (And.intro hn hj)))
  have hkc : k ≤ c := by omega
  have hcne : ¬ (c = k + (n - j)) := by omega
  have hjc : j ≤ c := by omega
  have hjn : j ≤ n := by omega
  have hkj : k ≤ j := by omega
  have hkjn : ((k : Int) == (j : Int)) = false := by rw [beq_cast]; simp; omega
  clear hW1 hcell hlive hsome hget hnews hnl h hrow hr hbr hn hj hlen
  go_enter Tryz.func236, Tryz.ntmps236
  go_wp2_with fail
  go_region_law (refine step_append_room rfl (.tmp 22) (.tmp 25) 185 rfl 226 i0 8 Tryz.underlying185 hi hz1 r 0 k c (by simp [Act.eval, Act.put]) A (n - j) (c - j) news (by simp [Act.eval, Act.put]) s1.out hsrc.out s2.out (by omega) s3.out ?_; rw [← hW.out])
  go_wp2_with fail
  go_ret
  obtain ⟨hr, hbr, hn, hj⟩ := HX.out
  have m0 : Mod (fun x => x = t) g (g.to 0 g.w.drew) := Mod.ext (by (repeat (first | (with_reducible assumption) | (with_reducible exact Ext.refl _) | (with_reducible exact Ext.more _ _ _ _) | apply Ext.alloc | refine Ext.setCell ?_ (by first | exact Nat.le_refl _ | exact Nat.le_add_right _ _ | assumption) _ | apply Ext.patch | apply Ext.drew | apply Ext.drewN))) 0
  have m0' : Mod (fun _ => False) g (g.to 0 g.w.drew) := Mod.ext (by (repeat (first | (with_reducible assumption) | (with_reducible exact Ext.refl _) | (with_reducible exact Ext.more _ _ _ _) | apply Ext.alloc | refine Ext.setCell ?_ (by first | exact Nat.le_refl _ | exact Nat.le_add_right _ _ | assumption) _ | apply Ext.patch | apply Ext.drew | apply Ext.drewN))) 0
  have hro : (g.to 0 g.w.drew).own r = t := by rw [GW.to_old hrl]; exact hr
  have k1 := HR.out.keep m0' id
  have k2 := H.out.blk.keep m0' id
  have w1 := row_setCells (g := g.to 0 g.w.drew) news _ (0 + k * 8) g.w.drew k1
  have b1 := Blk.setCells (fun e => hbr e.symm) news (0 + k * 8) g.w.drew k2
  have m1 := Mod.stCells (T := fun x => x = t) hro news (0 + k * 8) g.w.drew m0
  rw [← hW.out] at w1 b1 m1
  have w2 := row_setCells (g := ⟨(g.to 0 g.w.drew).own, W1⟩) zeroCs _ ((k + (n - j)) * 8) W1 w1
  have b2 := Blk.setCells (fun e => hbr e.symm) zeroCs ((k + (n - j)) * 8) W1 b1
  have m2 := Mod.stCells (T := fun x => x = t) hro zeroCs ((k + (n - j)) * 8) W1 m1
  rw [hn] at b2
  refine ⟨rfl, _, m2, b2, ?_⟩
  have w3 := w2.cut (m := k + (n - j)) (by omega)
  have hf := flat_erase ms k (by omega) zeroCs rfl
  rw [hn, show n - 1 = k + (n - j) by omega, ← HN.out] at hf
  rw [Nat.zero_add] at w3
  rw [hf] at w3
  exact w3
def dropL (th : Int) (L : List Ent) : List Ent := if placeOf (ofB th) L < 0 then L else L.eraseIdx (placeOf (ofB th) L).toNat
theorem wrap_succ (k : Nat) (h : (k : Int) < 1048576) : wrap64 ((k : Int) + 1) = (k : Int) + 1 := by
  simp only [wrap64]
  omega
set_option maxRecDepth 100000 in
theorem line_drop (g : GW) (t b : Nat) (th : Int) (L : List Ent) (h : LineAt g t b L) :
    Calls Tryz.prog 195 #[.pointer (some ⟨b, 0, none⟩), .int .i64 th] g.w (Does (.bool (decide (0 ≤ placeOf (ofB th) L))) g (fun x => x = t) (fun g' => LineAt g' t b (dropL th L))) := by
  have HI := Lib.hid (line_of g t b th L h)
  have H := Lib.hid h
  have hlen := h.len
  have HL := Lib.hid h.len
  have hbd := placeOf_bd (ofB th) L
  clear h
  go_enter Tryz.func195, Tryz.ntmps195
  go_wp2_with fail
  refine HI.out.mono ?_
  rintro e w1 ⟨rfl, hX⟩
  obtain ⟨own1, m1⟩ := Mod.ofExt (show Ext g.w w1 from hX) g.own
  have M1 := Lib.hid (show Mod (fun _ => False) g ⟨own1, w1⟩ from m1)
  have H1 := Lib.hid (H.out.keep M1.out id id)
  clear m1 hX
  by_cases h0 : placeOf (ofB th) L < 0
  · have HV := Lib.hid (show dropL th L = L from if_pos h0)
    have HD := Lib.hid (show decide (0 ≤ placeOf (ofB th) L) = false from decide_eq_false (by omega))
    go_wp2_with fail
    go_ret
    exact Does.of ⟨own1, w1⟩ rfl (by rw [HD.out]; try rfl) (M1.out.mono (fun x hx => hx.elim)) (by rw [HV.out]; exact H1.out)
  · have HV := Lib.hid (show dropL th L = L.eraseIdx (placeOf (ofB th) L).toNat from if_neg h0)
    have HD := Lib.hid (show decide (0 ≤ placeOf (ofB th) L) = true from decide_eq_true (by omega))
    obtain ⟨k, hk⟩ := Int.eq_ofNat_of_zero_le (show 0 ≤ placeOf (ofB th) L by omega)
    rw [hk] at HV hbd ⊢
    obtain ⟨A, c, ms, hin, hms⟩ := H1.out.in_
    have hml : ms.length = L.length := by rw [← hms, List.length_map]
    have hkm : k < ms.length := by omega
    have hx := List.getElem?_eq_getElem hkm
    obtain ⟨r, rfl, hr1, hr2, hr3, hr4, hc⟩ := hin.elem hx
    obtain ⟨n, hn'⟩ : ∃ n, n = ms.length := ⟨_, rfl⟩
    have hn := hn'.symm
    clear hn'
    have hkn : k < n := by omega
    have HDL := Lib.hid (line_delete ⟨own1, w1⟩ t b r c k (k + 1) n ms hin hn hkn rfl (by omega) hr2 hr3)
    rw [show ((k + 1 : Nat) : Int) = (k : Int) + 1 from by omega] at HDL
    have HMS := Lib.hid hms
    have HIN := Lib.hid hin
    have HKM := Lib.hid (And.intro hn hml)
    have c0 := hin.blk.cell (i := 0) rfl
    have hbl := hin.blk.lt
    simp only [hn] at c0 hbl
    have HK1 := Lib.hid (show (k : Int) < 1048576 by omega)
    have HH := Lib.hid (And.intro hn (And.intro hkm (And.intro hr2 hr3)))
    clear hc hr4 hx hin hms hr2 hml hlen hn hkm hbd hr3 hk h0 HI
    simp only at hr1
    have hk0 : decide ((k : Int) < 0) = false := decide_eq_false (Int.not_lt.2 (Int.natCast_nonneg k))
    clear hkn
    go_wp2_with fail
    rw [wrap_succ k HK1.out]
    refine HDL.out.mono ?_
    rintro e w2 ⟨rfl, own2, m2, b2, r2⟩
    obtain ⟨hn, hkm, hr2, hr3⟩ := HH.out
    have c1 := b2.cell (i := 0) rfl
    have cf := b2.live 0
    have cl := b2.lt
    simp only at c1 cf cl
    have m3 : Mod (fun x => x = t) g ⟨own2, w2.setCell ⟨b, 0, none⟩ (.slice (some ⟨r, 0, none⟩) (k + (n - (k + 1))) c)⟩ := Mod.st ((M1.out.mono (fun x hx => hx.elim)).trans m2) b2.own
    have hat := fun m hm => ((HIN.out.at_ m hm).keep m2 (by omega)).keep (Mod.set (T := fun x => x = t) (g := ⟨own2, w2⟩) (b := b) (i := 0) (v := .slice (some ⟨r, 0, none⟩) (k + (n - (k + 1))) c) b2.own) (by omega)
    have hlE : (ms.eraseIdx k).length = k + (n - (k + 1)) := by rw [List.length_eraseIdx_of_lt hkm, hn]; omega
    have hin : LineIn ⟨own2, w2.setCell ⟨b, 0, none⟩ (.slice (some ⟨r, 0, none⟩) (k + (n - (k + 1))) c)⟩ t b (some ⟨r, 0, none⟩) c (ms.eraseIdx k) := by
      refine ⟨?_, ?_, fun m hm => hat m (List.mem_of_mem_eraseIdx hm)⟩
      · rw [hlE]; exact b2.set 0 _
      · rw [hlE]; exact r2.setOther 0 _ (fun x hx => r2.ne_type b2 (by decide) hx)
    have HIN2 := Lib.hid (hin.out (L := dropL th L) (by rw [HV.out, Int.toNat_natCast, ← HMS.out, List.eraseIdx_eq_take_drop_succ, List.eraseIdx_eq_take_drop_succ, List.map_append, List.map_take, List.map_drop]) (by rw [HV.out, Int.toNat_natCast]; exact Nat.le_trans (List.length_eraseIdx_le _ _) HL.out))
    have M3 := Lib.hid m3
    clear m2 b2 r2 m3 hat hlE hin hn hkm hr2 hr3
    go_wp2_with fail
    go_ret
    exact Does.of ⟨own2, _⟩ rfl (by rw [HD.out]; try rfl) M3.out HIN2.out
end Go.Proofs.YtnebimabokgofaaGreat

