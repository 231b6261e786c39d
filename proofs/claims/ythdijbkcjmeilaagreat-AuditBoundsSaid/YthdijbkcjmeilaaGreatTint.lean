/-
  tint: the table of states and colours.
-/
import Derived.Test.YthdijbkcjmeilaaGreatChecked
import Derived.Test.YthdijbkcjmeilaaGreatSt
namespace Go.Proofs.YthdijbkcjmeilaaGreat
open Go Go.RowKit
set_option linter.unusedVariables false
set_option linter.unnecessarySimpa false

structure TabAt (g : GW) (t b : Nat) (T : TabS) : Prop where
  ex : ∃ A c, Blk g t b 99 [.slice A T.l.length c, .int .i64 (T.cnt 0), .int .i64 (T.cnt 1), .int .i64 (T.cnt 2)] ∧ Row g t 124 3 (.slice A T.l.length c) T.l.length (T.l.flatMap One.cells)
  len : T.l.length ≤ 1024
  st : ∀ o ∈ T.l, o.state ≤ 2
theorem TabAt.keep {S : Nat → Prop} {g g' : GW} {t b : Nat} {T : TabS} (h : TabAt g t b T) (m : Mod S g g') (hs : ¬ S t) : TabAt g' t b T := by
  obtain ⟨A, c, h1, h2⟩ := h.ex
  exact ⟨⟨A, c, h1.keep m hs, h2.keep m hs⟩, h.len, h.st⟩

theorem tab_has (b : Nat) (i : Int) (A : Option Addr) (n c : Nat) (w : World) (h0 : w.cell? ⟨b, 0, none⟩ = some (.slice A n c)) :
    Calls Tryz.prog 81 #[.pointer (some ⟨b, 0, none⟩), .int .i64 i] w (fun e w' => e = .returned (.bool (inB i n)) ∧ w = w') := by
  by_cases hi : 0 ≤ i
  · by_cases hl : i < n
    · have HV := Lib.hid (show inB i n = true by unfold inB; simp; omega)
      go_enter Tryz.func81, Tryz.ntmps81
      go_wp2_with fail
      go_ret
      exact ⟨by rw [HV.out]; try rfl, rfl⟩
    · have HV := Lib.hid (show inB i n = false from inB_big (by omega))
      go_enter Tryz.func81, Tryz.ntmps81
      go_wp2_with fail
      go_ret
      exact ⟨by rw [HV.out]; try rfl, rfl⟩
  · have HV := Lib.hid (show inB i n = false from inB_neg (by omega))
    go_enter Tryz.func81, Tryz.ntmps81
    go_wp2_with fail
    go_ret
    exact ⟨by rw [HV.out]; try rfl, rfl⟩

theorem tab_len (g : GW) (t b : Nat) (T : TabS) (h : TabAt g t b T) :
    Calls Tryz.prog 44 #[.pointer (some ⟨b, 0, none⟩)] g.w (fun e w' => e = .returned (.int .i64 T.l.length) ∧ g.w = w') := by
  obtain ⟨A, c, hb, hr⟩ := h.ex
  have c0 := hb.cell (i := 0) rfl
  clear hb hr h
  go_enter Tryz.func44, Tryz.ntmps44
  go_wp2_with fail
  go_ret
  exact ⟨rfl, rfl⟩

/-- The cells of a fragment. -/
theorem TabAt.one {g : GW} {t b : Nat} {T : TabS} (h : TabAt g t b T) {k : Nat} (hk : k < T.l.length) : ∃ r c o, T.l[k]? = some o ∧ o.state ≤ 2 ∧
    Blk g t b 99 [.slice (some ⟨r, 0, none⟩) T.l.length c, .int .i64 (T.cnt 0), .int .i64 (T.cnt 1), .int .i64 (T.cnt 2)] ∧ Row g t 124 3 (.slice (some ⟨r, 0, none⟩) T.l.length c) T.l.length (T.l.flatMap One.cells) ∧ r < g.w.heap.size ∧
    g.w.cell? ⟨r, k * 3, none⟩ = some (.int .i64 o.state) ∧ g.w.cell? ⟨r, k * 3 + 1, none⟩ = some (.bool o.head) ∧ g.w.cell? ⟨r, k * 3 + 2, none⟩ = some (.bool o.sense) ∧ (∀ j, g.w.frozen? ⟨r, j, none⟩ = false) ∧ b ≠ r := by
  obtain ⟨A, c, hb, hr⟩ := h.ex
  obtain ⟨r, rfl, hl, ho, hc, hf⟩ := hr.block (by omega)
  have hx := List.getElem?_eq_getElem hk
  have hm := h.st _ (List.getElem_mem hk)
  generalize T.l[k] = o at *
  refine ⟨r, c, o, hx, hm, hb, hr, hl, ?_, ?_, ?_, hf, ?_⟩
  · exact hc _ _ (flat_at One.cells_len T.l k 0 o hx (by omega))
  · exact hc _ _ (flat_at One.cells_len T.l k 1 o hx (by omega))
  · exact hc _ _ (flat_at One.cells_len T.l k 2 o hx (by omega))
  · exact hr.ne_type hb (by decide) rfl

theorem tab_state (g : GW) (t b : Nat) (i : Int) (T : TabS) (h : TabAt g t b T) :
    Calls Tryz.prog 18 #[.pointer (some ⟨b, 0, none⟩), .int .i64 i] g.w (fun e w' => e = .returned (.int .i64 (T.state i)) ∧ g.w = w') := by
  cases hin : inB i T.l.length
  · have HV := Lib.hid (show T.state i = 0 by unfold TabS.state; rw [TabS.at_out hin]; rfl)
    obtain ⟨A, c, hb, hr⟩ := h.ex
    have c0 := hb.cell (i := 0) rfl
    clear hb hr h
    go_enter Tryz.func18, Tryz.ntmps18
    go_wp2_with fail
    refine (tab_has _ _ _ _ _ _ c0).mono ?_
    rintro e w1 ⟨rfl, rfl⟩
    go_wp2_with fail
    go_ret
    exact ⟨by rw [HV.out]; try rfl, rfl⟩
  · obtain ⟨k, rfl, hk⟩ := inB_true hin
    obtain ⟨r, c, o, ho, h2, hb, -, hrl, k0, -, -, -, -⟩ := h.one hk
    have HV := Lib.hid (show T.state k = o.state by unfold TabS.state; rw [TabS.at_in ho]; rfl)
    have c0 := hb.cell (i := 0) rfl
    have hlen := h.len
    generalize T.l.length = n at *
    clear hb h ho
    go_enter Tryz.func18, Tryz.ntmps18
    go_wp2_with fail
    refine (tab_has _ _ _ _ _ _ c0).mono ?_
    rintro e w1 ⟨rfl, rfl⟩
    go_wp2_with fail
    go_ret
    exact ⟨by rw [HV.out]; try rfl, rfl⟩

theorem tab_head (g : GW) (t b : Nat) (i : Int) (T : TabS) (h : TabAt g t b T) :
    Calls Tryz.prog 20 #[.pointer (some ⟨b, 0, none⟩), .int .i64 i] g.w (fun e w' => e = .returned (.bool (T.head i)) ∧ g.w = w') := by
  cases hin : inB i T.l.length
  · have HV := Lib.hid (show T.head i = false by unfold TabS.head; rw [TabS.at_out hin]; rfl)
    obtain ⟨A, c, hb, hr⟩ := h.ex
    have c0 := hb.cell (i := 0) rfl
    clear hb hr h
    go_enter Tryz.func20, Tryz.ntmps20
    go_wp2_with fail
    refine (tab_has _ _ _ _ _ _ c0).mono ?_
    rintro e w1 ⟨rfl, rfl⟩
    go_wp2_with fail
    go_ret
    exact ⟨by rw [HV.out]; try rfl, rfl⟩
  · obtain ⟨k, rfl, hk⟩ := inB_true hin
    obtain ⟨r, c, o, ho, h2, hb, -, hrl, -, k1, -, -, -⟩ := h.one hk
    have HV := Lib.hid (show T.head k = o.head by unfold TabS.head; rw [TabS.at_in ho]; rfl)
    have c0 := hb.cell (i := 0) rfl
    have hlen := h.len
    generalize T.l.length = n at *
    clear hb h ho
    go_enter Tryz.func20, Tryz.ntmps20
    go_wp2_with fail
    refine (tab_has _ _ _ _ _ _ c0).mono ?_
    rintro e w1 ⟨rfl, rfl⟩
    go_wp2_with fail
    go_ret
    exact ⟨by rw [HV.out]; try rfl, rfl⟩

theorem tab_black (g : GW) (t b : Nat) (i : Int) (s : Bool) (T : TabS) (h : TabAt g t b T) :
    Calls Tryz.prog 22 #[.pointer (some ⟨b, 0, none⟩), .int .i64 i, .bool s] g.w (fun e w' => e = .returned (.bool (T.black i s)) ∧ g.w = w') := by
  cases hst : T.state i == 2
  · have HV := Lib.hid (show T.black i s = false by unfold TabS.black; rw [hst]; rfl)
    have hz : ((T.state i : Int) == 2) = false := by rw [show (2 : Int) = ((2 : Nat) : Int) from rfl, beq_cast]; simpa using hst
    have HS := Lib.hid (tab_state g t b i T h)
    generalize T.state i = x at *
    clear hst
    go_enter Tryz.func22, Tryz.ntmps22
    go_wp2_with fail
    refine (HS.out).mono ?_
    rintro e w1 ⟨rfl, rfl⟩
    go_wp2_with fail
    go_ret
    exact ⟨by rw [HV.out]; try rfl, rfl⟩
  · cases hin : inB i T.l.length
    · rw [show T.state i = 0 by unfold TabS.state; rw [TabS.at_out hin]; rfl] at hst
      cases hst
    obtain ⟨k, rfl, hk⟩ := inB_true hin
    obtain ⟨r, c, o, ho, h2, hb, -, hrl, -, -, k2, -, -⟩ := h.one hk
    have HV := Lib.hid (show T.black k s = (o.sense == s) by unfold TabS.black TabS.sense; rw [hst, TabS.at_in ho]; rfl)
    have HS := Lib.hid (tab_state g t b k T h)
    have e2 : T.state k = 2 := by simpa using hst
    rw [e2] at HS
    have c0 := hb.cell (i := 0) rfl
    have hlen := h.len
    generalize T.l.length = n at *
    clear hb h ho hst e2
    go_enter Tryz.func22, Tryz.ntmps22
    go_wp2_with fail
    refine (HS.out).mono ?_
    rintro e w1 ⟨rfl, rfl⟩
    go_wp2_with fail
    go_ret
    exact ⟨by rw [HV.out]; try rfl, rfl⟩

theorem tab_counts (g : GW) (t b : Nat) (T : TabS) (h : TabAt g t b T) :
    Calls Tryz.prog 16 #[.pointer (some ⟨b, 0, none⟩)] g.w (Gives (.tuple #[.int .i64 (T.cnt 0), .int .i64 (T.cnt 1), .int .i64 (T.cnt 2)]) g.w) := by
  obtain ⟨A, c, hb, hr⟩ := h.ex
  have c1 := hb.cell (i := 1) rfl
  have c2 := hb.cell (i := 2) rfl
  have c3 := hb.cell (i := 3) rfl
  have hbl := hb.lt
  clear hb hr h
  go_enter Tryz.func16, Tryz.ntmps16
  go_wp2_with fail
  refine wp_region_mixed [true, true, true, true, true, true, true, true, true, true, true, true, true, true, true, true, true, true] 0 18 (by kernel_rfl) (by kernel_rfl) (by kernel_rfl) ?_ (by decide) (by decide) (by decide) (by kernel_rfl) ?_
  · intro c a d v w h; cases d <;> exact h
  intro X00
  simp only [pickOps]
  repeat (go_big_quiet_step (fail))
  refine wpQuiet_nil (fun X0 => ?_)
  clear X00
  refine wpAnyM_done (by kernel_rfl) (fun X0' => ?_) _
  go_wp2_with fail
  go_ret3
  exact Gives.mk rfl (by (repeat (first | (with_reducible assumption) | (with_reducible exact Ext.refl _) | (with_reducible exact Ext.more _ _ _ _) | apply Ext.alloc | refine Ext.setCell ?_ (by first | exact Nat.le_refl _ | exact Nat.le_add_right _ _ | assumption) _ | apply Ext.patch | apply Ext.drew | apply Ext.drewN)))

theorem TabS.cnt_set {l : List One} {k : Nat} {o o' : One} (h : l[k]? = some o) (q : Nat) : ((TabS.cnt ⟨l.set k o'⟩ q : Nat) : Int) = (TabS.cnt ⟨l⟩ q : Int) - (if o.state == q then 1 else 0) + (if o'.state == q then 1 else 0) := by
  obtain ⟨hk, hx⟩ := List.getElem?_eq_some_iff.1 h
  unfold TabS.cnt
  simp only
  rw [List.countP_set hk, hx]
  have hp : (o.state == q) = true → 0 < l.countP (fun o => o.state == q) := fun ho => List.countP_pos_iff.2 ⟨o, List.mem_of_getElem? h, ho⟩
  by_cases h1 : (o.state == q) = true
  · have := hp h1
    rw [if_pos h1, if_pos h1]
    split <;> omega
  · rw [if_neg h1, if_neg h1]
    split <;> omega
theorem tabSet {t : TabS} {k : Nat} {s : Nat} {head sense : Bool} (hk : k < t.l.length) (hs : s ≤ 2) : t.set k s head sense = ⟨t.l.set k ⟨s, head && s == 2, sense⟩⟩ := by
  unfold TabS.set TabS.may
  rw [inB_cast hk, if_pos (by simp; omega)]
  simp
theorem flat_set3 (l : List One) (k : Nat) (hk : k < l.length) (y : One) : (l.set k y).flatMap One.cells = (((l.flatMap One.cells).set (k * 3) (.int .i64 y.state)).set (k * 3 + 1) (.bool y.head)).set (k * 3 + 2) (.bool y.sense) := by
  induction l generalizing k with
  | nil => simp at hk
  | cons x l ih =>
    cases k with
    | zero => rfl
    | succ k =>
      have := ih k (by simpa using hk)
      rw [List.set_cons_succ, List.flatMap_cons, this, List.flatMap_cons]
      rw [show (k + 1) * 3 = (One.cells x).length + k * 3 from by rw [One.cells_len]; omega]
      rw [List.set_append_right _ _ (by omega), List.set_append_right _ _ (by omega), List.set_append_right _ _ (by omega)]
      congr 4 <;> omega
/-- What a table has become by a store of a fragment's three cells, and of the counts. -/
theorem TabAt.stored {g : GW} {t b r c k st q : Nat} {T : TabS} {o1 o2 hd sense : Bool} {y1 y2 : Int} {W : World} (h : TabAt g t b T) (hk : k < T.l.length) (ho : T.l[k]? = some ⟨st, o1, o2⟩) (h1 : st ≤ 2) (h2 : q ≤ 2)
    (hb : Blk ⟨g.own, W⟩ t b 99 (([.slice (some ⟨r, 0, none⟩) T.l.length c, .int .i64 (T.cnt 0), .int .i64 (T.cnt 1), .int .i64 (T.cnt 2)].set (1 + st) (.int .i64 y1)).set (1 + q) (.int .i64 y2)))
    (hr : Row ⟨g.own, W⟩ t 124 3 (.slice (some ⟨r, 0, none⟩) T.l.length c) T.l.length ((((T.l.flatMap One.cells).set (k * 3) (.int .i64 q)).set (k * 3 + 1) (.bool hd)).set (k * 3 + 2) (.bool sense)))
    (e1 : y1 = T.cnt st - 1) (e2 : y2 = if st = q then (T.cnt st : Int) else T.cnt q + 1) :
    TabAt ⟨g.own, W⟩ t b ⟨T.l.set k ⟨q, hd, sense⟩⟩ := by
  refine ⟨⟨some ⟨r, 0, none⟩, c, ?_, ?_⟩, by simpa using h.len, fun u hu => ?_⟩
  · simp only [List.length_set]
    rw [TabS.cnt_set ho, TabS.cnt_set ho, TabS.cnt_set ho]
    subst e1 e2
    rcases (show st = 0 ∨ st = 1 ∨ st = 2 by omega) with rfl | rfl | rfl <;> rcases (show q = 0 ∨ q = 1 ∨ q = 2 by omega) with rfl | rfl | rfl <;> simpa using hb
  · simp only [List.length_set]
    rw [flat_set3 _ _ hk]
    exact hr
  · rcases List.mem_or_eq_of_mem_set hu with hu | rfl
    · exact h.st u hu
    · exact h2
theorem TabAt.cell {g : GW} {t b r c : Nat} {T : TabS} (hb : Blk g t b 99 [.slice (some ⟨r, 0, none⟩) T.l.length c, .int .i64 (T.cnt 0), .int .i64 (T.cnt 1), .int .i64 (T.cnt 2)]) {q : Nat} (hq : q ≤ 2) :
    g.w.cell? ⟨b, 1 + q, none⟩ = some (.int .i64 (T.cnt q)) := by
  rcases (show q = 0 ∨ q = 1 ∨ q = 2 by omega) with rfl | rfl | rfl
  · exact hb.cell (i := 1) rfl
  · exact hb.cell (i := 2) rfl
  · exact hb.cell (i := 3) rfl
theorem TabAt.pt {g : GW} {t b : Nat} {T : TabS} (h : TabAt g t b T) (X : Extra) : TabAt (g.pt X) t b T := h.keep (S := fun _ => False) (Mod.pt (Mod.refl _ _) X) id

set_option maxHeartbeats 4000000 in
theorem tab_set (g : GW) (t b : Nat) (i s : Int) (hd sense : Bool) (T : TabS) (h : TabAt g t b T) :
    Calls Tryz.prog 173 #[.pointer (some ⟨b, 0, none⟩), .int .i64 i, .int .i64 s, .bool hd, .bool sense] g.w (Does (.bool (T.may i s)) g (fun x => x = t) (fun g' => TabAt g' t b (T.set i s hd sense))) := by
  cases hin : inB i T.l.length
  · have hm : T.may i s = false := by unfold TabS.may; rw [hin]; rfl
    have HV := Lib.hid hm
    have HT := Lib.hid (show T.set i s hd sense = T by unfold TabS.set; rw [hm]; rfl)
    obtain ⟨A, c, hb, hr⟩ := h.ex
    have c0 := hb.cell (i := 0) rfl
    have H := Lib.hid h
    clear hb hr h hm
    go_enter Tryz.func173, Tryz.ntmps173
    go_wp2_with fail
    refine (tab_has _ _ _ _ _ _ c0).mono ?_
    rintro e w1 ⟨rfl, rfl⟩
    go_wp2_with fail
    go_ret
    exact Does.of g rfl (by rw [HV.out]; try rfl) (Mod.refl _ _) (by rw [HT.out]; exact H.out)
  · obtain ⟨k, rfl, hk⟩ := inB_true hin
    by_cases hs : 0 ≤ s ∧ s ≤ 2
    · obtain ⟨q, rfl⟩ := Int.eq_ofNat_of_zero_le hs.1
      have hq : q ≤ 2 := by omega
      have HM := Lib.hid (show T.may k q = true by unfold TabS.may; rw [hin]; simp; omega)
      obtain ⟨r, c, o, ho, h2, hb, hr, hrl, k0, k1, k2, kf, hne⟩ := h.one hk
      have HT := Lib.hid (tabSet (head := hd) (sense := sense) hk hq)
      have HO := Lib.hid ho
      have HB := Lib.hid hb
      have HR := Lib.hid hr
      have H := Lib.hid h
      have HOB := Lib.hid hb.own
      have HOR := Lib.hid (hr.own r rfl)
      have HK := Lib.hid hk
      have hlen := h.len
      have hbl := hb.lt
      have c0 := hb.cell (i := 0) rfl
      obtain ⟨st, ho1, ho2⟩ := o
      simp only at h2 k0 k1 k2
      have cs := TabAt.cell hb h2
      have cq := TabAt.cell hb hq
      have fs := hb.live (1 + st)
      have fq := hb.live (1 + q)
      have ns : T.cnt st ≤ 1024 := Nat.le_trans List.countP_le_length hlen
      have nq : T.cnt q ≤ 1024 := Nat.le_trans List.countP_le_length hlen
      have g0 := kf (k * 3)
      have g1 := kf (k * 3 + 1)
      have g2 := kf (k * 3 + 2)
      have hne' : r ≠ b := fun e => hne e.symm
      have HN := Lib.hid hne'
      clear hb hr h ho hs kf
      obtain ⟨hd', hhd, hcase⟩ : ∃ hd', (hd && q == 2) = hd' ∧ ((hd = false ∧ hd' = false) ∨ (hd = true ∧ ((q : Int) == 2) = true ∧ hd' = true) ∨ (hd = true ∧ ((q : Int) == 2) = false ∧ hd' = false)) := by
        refine ⟨_, rfl, ?_⟩
        rw [show (2 : Int) = ((2 : Nat) : Int) from rfl, beq_cast]
        cases hd
        · simp
        · by_cases h : q = 2 <;> simp [h]
      rw [hhd] at HT
      clear hhd
      by_cases hsq : st = q
      · subst hsq
        clear cq fq nq
        rcases hcase with ⟨rfl, rfl⟩ | ⟨rfl, hq2, rfl⟩ | ⟨rfl, hq2, rfl⟩
        all_goals
          go_enter Tryz.func173, Tryz.ntmps173
          go_wp2_with fail
          refine (tab_has _ _ _ _ _ _ c0).mono ?_
          rintro e w1 ⟨rfl, rfl⟩
          go_wp2_with fail
          refine wp_region_mixed [true, true, true, true, true, true, true, true, true, true, true, true, true, true, true, true, true, false] 1 17 (by kernel_rfl) (by kernel_rfl) (by kernel_rfl) ?_ (by decide) (by decide) (by decide) (by kernel_rfl) ?_
          · intro c a d v w h; cases d <;> exact h
          intro X00
          simp only [pickOps]
          repeat (go_big_quiet_step (fail))
          refine wpQuiet_nil (fun X0 => ?_)
          clear X00
          refine wpAnyM_last 17 _ (by kernel_rfl) (by kernel_rfl) rfl rfl (fun X1 K Q' hK => ?_)
          go_simp
          refine hK _ _ (fun X2 => ?_)
          clear hK K Q'
          go_wp2_with fail
          refine wp_region_mixed [true, true, true, true, true, true, true, true, true, true, false] 1 10 (by kernel_rfl) (by kernel_rfl) (by kernel_rfl) ?_ (by decide) (by decide) (by decide) (by kernel_rfl) ?_
          · intro c a d v w h; cases d <;> exact h
          intro X00
          simp only [pickOps]
          repeat (go_big_quiet_step (fail))
          refine wpQuiet_nil (fun X0 => ?_)
          clear X00
          refine wpAnyM_last 10 _ (by kernel_rfl) (by kernel_rfl) rfl rfl (fun X1 K Q' hK => ?_)
          go_simp
          refine hK _ _ (fun X2 => ?_)
          clear hK K Q'
          go_wp2_with fail
          go_ret
          refine Does.of (GW.pt ⟨g.own, _⟩ _) rfl (by rw [HM.out]; rfl) (Mod.pt (Mod.st (Mod.st (Mod.st (Mod.st (Mod.st Mod.self HOB.out) HOB.out) HOR.out) HOR.out) HOR.out) _) ?_
          rw [HT.out]
          refine TabAt.pt (TabAt.stored (r := r) (c := c) H.out HK.out HO.out h2 hq ?hb ?hr rfl (if_pos rfl).symm) _
          case hb => exact ((((HB.out.set _ _).set _ _).setOther _ _ HN.out).setOther _ _ HN.out).setOther _ _ HN.out
          case hr => exact ((((HR.out.setOther _ _ (fun x hx e => HN.out (by injection hx with hx; exact hx.trans e.symm))).setOther _ _ (fun x hx e => HN.out (by injection hx with hx; exact hx.trans e.symm))).store _ _).store _ _).store _ _
      · have hsq' : ¬ q = st := fun e => hsq e.symm
        rcases hcase with ⟨rfl, rfl⟩ | ⟨rfl, hq2, rfl⟩ | ⟨rfl, hq2, rfl⟩
        all_goals
          go_enter Tryz.func173, Tryz.ntmps173
          go_wp2_with fail
          refine (tab_has _ _ _ _ _ _ c0).mono ?_
          rintro e w1 ⟨rfl, rfl⟩
          go_wp2_with fail
          refine wp_region_mixed [true, true, true, true, true, true, true, true, true, true, true, true, true, true, true, true, true, false] 1 17 (by kernel_rfl) (by kernel_rfl) (by kernel_rfl) ?_ (by decide) (by decide) (by decide) (by kernel_rfl) ?_
          · intro c a d v w h; cases d <;> exact h
          intro X00
          simp only [pickOps]
          repeat (go_big_quiet_step (fail))
          refine wpQuiet_nil (fun X0 => ?_)
          clear X00
          refine wpAnyM_last 17 _ (by kernel_rfl) (by kernel_rfl) rfl rfl (fun X1 K Q' hK => ?_)
          go_simp
          refine hK _ _ (fun X2 => ?_)
          clear hK K Q'
          go_wp2_with fail
          refine wp_region_mixed [true, true, true, true, true, true, true, true, true, true, false] 1 10 (by kernel_rfl) (by kernel_rfl) (by kernel_rfl) ?_ (by decide) (by decide) (by decide) (by kernel_rfl) ?_
          · intro c a d v w h; cases d <;> exact h
          intro X00
          simp only [pickOps]
          repeat (go_big_quiet_step (fail))
          refine wpQuiet_nil (fun X0 => ?_)
          clear X00
          refine wpAnyM_last 10 _ (by kernel_rfl) (by kernel_rfl) rfl rfl (fun X1 K Q' hK => ?_)
          go_simp
          refine hK _ _ (fun X2 => ?_)
          clear hK K Q'
          go_wp2_with fail
          go_ret
          refine Does.of (GW.pt ⟨g.own, _⟩ _) rfl (by rw [HM.out]; rfl) (Mod.pt (Mod.st (Mod.st (Mod.st (Mod.st (Mod.st Mod.self HOB.out) HOB.out) HOR.out) HOR.out) HOR.out) _) ?_
          rw [HT.out]
          refine TabAt.pt (TabAt.stored (r := r) (c := c) H.out HK.out HO.out h2 hq ?hb ?hr rfl (if_neg hsq).symm) _
          case hb => exact ((((HB.out.set _ _).set _ _).setOther _ _ HN.out).setOther _ _ HN.out).setOther _ _ HN.out
          case hr => exact ((((HR.out.setOther _ _ (fun x hx e => HN.out (by injection hx with hx; exact hx.trans e.symm))).setOther _ _ (fun x hx e => HN.out (by injection hx with hx; exact hx.trans e.symm))).store _ _).store _ _).store _ _
    · have hm : T.may k s = false := by unfold TabS.may; rw [hin]; simp; omega
      have HV := Lib.hid hm
      have HT := Lib.hid (show T.set k s hd sense = T by unfold TabS.set; rw [hm]; rfl)
      obtain ⟨A, c, hb, hr⟩ := h.ex
      have c0 := hb.cell (i := 0) rfl
      have H := Lib.hid h
      have hlen := h.len
      clear hb hr h hm
      by_cases h0 : s < 0
      · clear hs
        go_enter Tryz.func173, Tryz.ntmps173
        go_wp2_with fail
        refine (tab_has _ _ _ _ _ _ c0).mono ?_
        rintro e w1 ⟨rfl, rfl⟩
        go_wp2_with fail
        go_ret
        exact Does.of g rfl (by rw [HV.out]; try rfl) (Mod.refl _ _) (by rw [HT.out]; exact H.out)
      · have h2 : 2 < s := by omega
        clear hs
        go_enter Tryz.func173, Tryz.ntmps173
        go_wp2_with fail
        refine (tab_has _ _ _ _ _ _ c0).mono ?_
        rintro e w1 ⟨rfl, rfl⟩
        go_wp2_with fail
        go_ret
        exact Does.of g rfl (by rw [HV.out]; try rfl) (Mod.refl _ _) (by rw [HT.out]; exact H.out)
end Go.Proofs.YthdijbkcjmeilaaGreat
