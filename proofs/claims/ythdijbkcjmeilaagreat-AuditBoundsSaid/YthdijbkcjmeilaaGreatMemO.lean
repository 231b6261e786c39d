/-
  mem: words.
-/
import Derived.Test.YthdijbkcjmeilaaGreatChecked
import Derived.Test.YthdijbkcjmeilaaGreatSt
namespace Go.Proofs.YthdijbkcjmeilaaGreat
open Go Go.RowKit
set_option linter.unusedVariables false
set_option linter.unnecessarySimpa false
set_option linter.unusedSimpArgs false

structure MemAt (g : GW) (t b : Nat) (m : MemS) : Prop where
  ex : ∃ A c, Blk g t b 247 [.slice A m.l.length c, .int .i64 m.count] ∧ Row g t 206 1 (.slice A m.l.length c) m.l.length (m.l.map cx)
  len : m.l.length ≤ 1048576
theorem MemAt.keep {S : Nat → Prop} {g g' : GW} {t b : Nat} {m : MemS} (h : MemAt g t b m) (d : Mod S g g') (hs : ¬ S t) : MemAt g' t b m := by
  obtain ⟨A, c, h1, h2⟩ := h.ex
  exact ⟨⟨A, c, h1.keep d hs, h2.keep d hs⟩, h.len⟩
theorem MemAt.pt {g : GW} {t b : Nat} {m : MemS} (h : MemAt g t b m) (X : Extra) : MemAt (g.pt X) t b m := h.keep (S := fun _ => False) (Mod.pt (Mod.refl _ _) X) id

theorem mem_has (b : Nat) (i : Int) (A : Option Addr) (n c : Nat) (w : World) (h0 : w.cell? ⟨b, 0, none⟩ = some (.slice A n c)) :
    Calls Tryz.prog 195 #[.pointer (some ⟨b, 0, none⟩), .int .i64 i] w (fun e w' => e = .returned (.bool (inB i n)) ∧ w = w') := by
  by_cases hi : 0 ≤ i
  · by_cases hl : i < n
    · have HV := Lib.hid (show inB i n = true by unfold inB; simp; omega)
      go_enter Tryz.func195, Tryz.ntmps195
      go_wp2_with fail
      go_ret
      exact ⟨by rw [HV.out]; try rfl, rfl⟩
    · have HV := Lib.hid (show inB i n = false from inB_big (by omega))
      go_enter Tryz.func195, Tryz.ntmps195
      go_wp2_with fail
      go_ret
      exact ⟨by rw [HV.out]; try rfl, rfl⟩
  · have HV := Lib.hid (show inB i n = false from inB_neg (by omega))
    go_enter Tryz.func195, Tryz.ntmps195
    go_wp2_with fail
    go_ret
    exact ⟨by rw [HV.out]; try rfl, rfl⟩

/-- The cell of a word. -/
theorem MemAt.word {g : GW} {t b : Nat} {m : MemS} (h : MemAt g t b m) {k : Nat} (hk : k < m.l.length) : ∃ r c x, m.l[k]? = some x ∧ Blk g t b 247 [.slice (some ⟨r, 0, none⟩) m.l.length c, .int .i64 m.count] ∧
    Row g t 206 1 (.slice (some ⟨r, 0, none⟩) m.l.length c) m.l.length (m.l.map cx) ∧ r < g.w.heap.size ∧ g.w.cell? ⟨r, k, none⟩ = some (.complex .f64 x.1 x.2) ∧ g.w.frozen? ⟨r, k, none⟩ = false ∧ b ≠ r := by
  obtain ⟨A, c, hb, hr⟩ := h.ex
  obtain ⟨r, rfl, hl, ho, hc, hf⟩ := hr.block (by omega)
  have hx := List.getElem?_eq_getElem hk
  refine ⟨r, c, _, hx, hb, hr, hl, hc _ _ (by rw [List.getElem?_map, hx]; rfl), hf _, hr.ne_type hb (by decide) rfl⟩
theorem MemS.peek_in {m : MemS} {k : Nat} {x : Nat × Nat} (h : m.l[k]? = some x) : m.peek k = x := by
  unfold MemS.peek
  rw [if_pos (inB_cast (List.getElem?_eq_some_iff.1 h).1), Int.toNat_natCast, List.getD_eq_getElem?_getD, h]
  rfl
theorem MemS.peek_out {m : MemS} {a : Int} (h : inB a m.l.length = false) : m.peek a = (0, 0) := by unfold MemS.peek; rw [h]; rfl

theorem mem_peek (g : GW) (t b : Nat) (a : Int) (m : MemS) (h : MemAt g t b m) :
    Calls Tryz.prog 209 #[.pointer (some ⟨b, 0, none⟩), .int .i64 a] g.w (fun e w' => e = .returned (.complex .f64 (m.peek a).1 (m.peek a).2) ∧ g.w = w') := by
  cases hin : inB a m.l.length
  · have HV := Lib.hid (MemS.peek_out hin)
    obtain ⟨A, c, hb, hr⟩ := h.ex
    have c0 := hb.cell (i := 0) rfl
    clear hb hr h
    go_enter Tryz.func209, Tryz.ntmps209
    go_wp2_with fail
    refine (mem_has _ _ _ _ _ _ c0).mono ?_
    rintro e w1 ⟨rfl, rfl⟩
    go_wp2_with fail
    go_ret
    exact ⟨by rw [HV.out]; try rfl, rfl⟩
  · obtain ⟨k, rfl, hk⟩ := inB_true hin
    obtain ⟨r, c, ⟨p, q⟩, hx, hb, -, hrl, k0, -, -⟩ := h.word hk
    have HV := Lib.hid (MemS.peek_in hx)
    have c0 := hb.cell (i := 0) rfl
    have hlen := h.len
    simp only at k0
    generalize m.l.length = n at *
    clear hb h hx
    go_enter Tryz.func209, Tryz.ntmps209
    go_wp2_with fail
    refine (mem_has _ _ _ _ _ _ c0).mono ?_
    rintro e w1 ⟨rfl, rfl⟩
    go_wp2_with fail
    go_ret
    exact ⟨by rw [HV.out]; try rfl, rfl⟩

theorem MemAt.ticked {g : GW} {t b : Nat} {m : MemS} (h : MemAt g t b m) : MemAt ⟨g.own, g.w.setCell ⟨b, 1, none⟩ (.int .i64 (m.count + 1))⟩ t b m.tick := by
  obtain ⟨A, c, hb, hr⟩ := h.ex
  exact ⟨⟨A, c, hb.set 1 _, hr.setOther _ _ (fun k hk => hr.ne_type hb (by decide) hk)⟩, h.len⟩
theorem MemAt.laid {g : GW} {t b r c k p q : Nat} {m : MemS} (h : MemAt g t b m) (hk : k < m.l.length) (hb : Blk g t b 247 [.slice (some ⟨r, 0, none⟩) m.l.length c, .int .i64 m.count]) : MemAt ⟨g.own, g.w.setCell ⟨r, k, none⟩ (.complex .f64 p q)⟩ t b (m.lay k (p, q)) := by
  obtain ⟨A', c', hb', hr⟩ := h.ex
  have e := hb'.same hb
  injection e with e _
  injection e with e1 _ e2
  subst e1 e2
  have e2 : m.lay k (p, q) = { m with l := m.l.set k (p, q) } := by unfold MemS.lay; rw [if_pos (inB_cast hk), Int.toNat_natCast]
  rw [e2]
  refine ⟨⟨some ⟨r, 0, none⟩, c', ?_, ?_⟩, by simpa using h.len⟩
  · simp only [List.length_set]
    exact hb'.setOther _ _ (fun e => hr.ne_type hb' (by decide) rfl e.symm)
  · simp only [List.length_set]
    have := hr.store k (.complex .f64 p q)
    rw [List.map_set]
    exact this
theorem MemS.lay_out {m : MemS} {a : Int} {x : Nat × Nat} (h : inB a m.l.length = false) : m.lay a x = m := by unfold MemS.lay; rw [h]; rfl

theorem mem_lay (g : GW) (t b : Nat) (a : Int) (p q : Nat) (m : MemS) (h : MemAt g t b m) :
    Calls Tryz.prog 153 #[.pointer (some ⟨b, 0, none⟩), .int .i64 a, .complex .f64 p q] g.w (Does (.tuple #[]) g (fun x => x = t) (fun g' => MemAt g' t b (m.lay a (p, q)))) := by
  cases hin : inB a m.l.length
  · have HV := Lib.hid (MemS.lay_out (x := (p, q)) hin)
    obtain ⟨A, c, hb, hr⟩ := h.ex
    have H := Lib.hid h
    have c0 := hb.cell (i := 0) rfl
    clear hb hr h
    go_enter Tryz.func153, Tryz.ntmps153
    go_wp2_with fail
    refine (mem_has _ _ _ _ _ _ c0).mono ?_
    rintro e w1 ⟨rfl, rfl⟩
    go_wp2_with fail
    refine bodyPost_end (results_none rfl _ _ _) rfl (Does.of g rfl rfl (Mod.refl _ _) (by rw [HV.out]; exact H.out))
  · obtain ⟨k, rfl, hk⟩ := inB_true hin
    obtain ⟨r, c, ⟨p', q'⟩, hx, hb, hr, hrl, k0, kf, hne⟩ := h.word hk
    have HR := Lib.hid (hr.own r rfl)
    have H := Lib.hid (MemAt.laid (p := p) (q := q) h hk hb)
    have c0 := hb.cell (i := 0) rfl
    have hlen := h.len
    simp only at k0
    clear hb h hx hr
    go_enter Tryz.func153, Tryz.ntmps153
    go_wp2_with fail
    refine (mem_has _ _ _ _ _ _ c0).mono ?_
    rintro e w1 ⟨rfl, rfl⟩
    go_wp2_with fail
    refine bodyPost_end (results_none rfl _ _ _) rfl (Does.of ⟨g.own, _⟩ rfl rfl (Mod.st Mod.self HR.out) H.out)

theorem infoCx : (Tryz.prog.info? 206).map (fun i => (i.zero, i.size, i.bytes)) = some (some (.complex .f64 0 0), 1, 16) := by kernel_rfl
/-- Made: an object of the owner t. -/
def MemMade (n : Int) (t : Nat) (g : GW) (e : Ending) (w' : World) : Prop :=
  if 0 ≤ n ∧ n ≤ 1048576 then ∃ own' b, e = .returned (.tuple #[.pointer (some ⟨b, 0, none⟩), .int .i64 0]) ∧ Mod (fun _ => False) g ⟨own', w'⟩ ∧ MemAt ⟨own', w'⟩ t b ⟨List.replicate n.toNat (0, 0), 0⟩
  else e = .returned (.tuple #[.pointer none, .int .i64 1]) ∧ Ext g.w w'
theorem mem_new (n : Int) (t : Nat) (g : GW) : Calls Tryz.prog 147 #[.int .i64 n] g.w (MemMade n t g) := by
  obtain ⟨i0, hi, hz0, hz1, hz2⟩ := info_parts infoCx
  by_cases h0 : n < 0
  · have HV := Lib.hid (show ¬ (0 ≤ n ∧ n ≤ 1048576) by omega)
    go_enter Tryz.func147, Tryz.ntmps147
    go_wp2_with fail
    go_ret2
    unfold MemMade
    rw [if_neg HV.out]
    exact ⟨rfl, Ext.refl _⟩
  by_cases h1 : 1048576 < n
  · have HV := Lib.hid (show ¬ (0 ≤ n ∧ n ≤ 1048576) by omega)
    go_enter Tryz.func147, Tryz.ntmps147
    go_wp2_with fail
    go_ret2
    unfold MemMade
    rw [if_neg HV.out]
    exact ⟨rfl, Ext.refl _⟩
  obtain ⟨k, rfl⟩ := Int.eq_ofNat_of_zero_le (show 0 ≤ n by omega)
  have HV := Lib.hid (show (0 : Int) ≤ k ∧ (k : Int) ≤ 1048576 by omega)
  have hmk := run_made (P := Tryz.prog) 245 206 i0 _ 1 16 Tryz.underlying245 hi hz0 hz1 hz2 k (by omega) (by omega)
  simp only [Value.cells, made_one] at hmk
  have HK := Lib.hid (show k ≤ 1048576 by omega)
  go_enter Tryz.func147, Tryz.ntmps147
  go_wp2_with fail
  go_ret2
  unfold MemMade
  rw [if_pos HV.out]
  obtain ⟨q1, q2⟩ := two_blocks g.w (.cells (List.replicate k (Value.complex .f64 0 0)).toArray 206) (.cells #[.slice (some ⟨g.w.heap.size, 0, none⟩) k k, .int .i64 0] 247)
  refine ⟨_, _, rfl, Mod.ext (show Ext g.w _ by (repeat (first | (with_reducible assumption) | (with_reducible exact Ext.refl _) | (with_reducible exact Ext.more _ _ _ _) | apply Ext.alloc | refine Ext.setCell ?_ (by first | exact Nat.le_refl _ | exact Nat.le_add_right _ _ | assumption) _ | apply Ext.patch | apply Ext.drew | apply Ext.drewN))) t, ⟨⟨some ⟨g.w.heap.size, 0, none⟩, k, ?_, ?_⟩, by simpa using HK.out⟩⟩
  · simp only [Int.toNat_natCast, List.length_replicate]
    exact Blk.made q2 (by omega)
  · simp only [Int.toNat_natCast, List.length_replicate, List.map_replicate]
    exact Row.made q1 (Nat.le_refl _) (by simp) (by have := HK.out; omega)
end Go.Proofs.YthdijbkcjmeilaaGreat
