/-
  space: stock, set, frees, none; Waits, Free, Coil, fits.
-/
import Derived.Test.YthdijbkcjmeilaaGreatSpaceS
namespace Go
/-- Fragments are given a state. -/
def TabS.setAll (t : TabS) (l : List Int) (s : Int) (sense : Bool) : TabS := l.foldl (fun t i => t.set i s false sense) t
def SpaceS.fits (S : SpaceS) (fr sp : Int) : Bool := decide (fr ≤ (S.pool.free : Int)) && (sp == 0 || (S.pool.run fr).isSome || decide (sp ≤ S.coil.room))
end Go
namespace Go.Proofs.YthdijbkcjmeilaaGreat
open Go Go.RowKit
set_option linter.unusedVariables false
set_option linter.unnecessarySimpa false
set_option linter.unusedSimpArgs false
set_option maxHeartbeats 2000000

theorem space_count (g : GW) (B b bt : Nat) (S : SpaceS) (h : SpaceAt g B b bt S) :
    Calls Tryz.prog 24 #[.pointer (some ⟨b, 0, none⟩)] g.w (fun e w' => e = .returned (.int .i64 S.count) ∧ g.w = w') := by
  obtain ⟨bp, bk, bl, A, cs, cm, bs, h⟩ := h
  have c3 := h.blk.cell (i := 3) rfl
  clear h
  go_enter Tryz.func24, Tryz.ntmps24
  go_wp2_with fail
  go_ret
  exact ⟨rfl, rfl⟩
/-- A thread's stock. -/
theorem space_stock (t : Int) {g : GW} {B b bt bp bk bl cs : Nat} {S : SpaceS} {A : Option Addr} {cm : Cnf} {bs : List Nat} (h : SpaceIn g B b bt S bp bk bl A cs cm bs) :
    Calls Tryz.prog 99 #[.pointer (some ⟨b, 0, none⟩), .int .i64 t] g.w (fun e w' => e = .returned (.pointer (if inB t S.stocks.length then some ⟨bs.getD t.toNat 0, 0, none⟩ else none)) ∧ g.w = w') := by
  have c1 := h.blk.cell (i := 1) rfl
  have hlen := h.few
  cases hin : inB t S.stocks.length
  · have hc := inB_false hin
    have HI := Lib.hid hin
    clear h hin
    by_cases h0 : t < 0
    · clear hc
      go_enter Tryz.func99, Tryz.ntmps99
      go_wp2_with fail
      go_ret
      exact ⟨rfl, rfl⟩
    · have h1 : (S.stocks.length : Int) ≤ t := by omega
      clear hc
      go_enter Tryz.func99, Tryz.ntmps99
      go_wp2_with fail
      go_ret
      exact ⟨rfl, rfl⟩
  · obtain ⟨k, rfl, hk⟩ := inB_true hin
    obtain ⟨r, rfl, hrl, ho, hcell, hfr⟩ := h.row.block (by omega)
    have hbl := h.blen
    have k0 := hcell k (.pointer (some ⟨bs.getD k 0, 0, none⟩)) (by rw [List.getElem?_map, List.getElem?_eq_getElem (by omega : k < bs.length)]; simp [List.getD_eq_getElem?_getD, (by omega : k < bs.length)])
    rw [Int.toNat_natCast]
    generalize bs.getD k 0 = x at *
    generalize S.stocks.length = n at *
    clear h hcell hfr hin ho hbl
    go_enter Tryz.func99, Tryz.ntmps99
    go_wp2_with fail
    go_ret
    exact ⟨rfl, rfl⟩
theorem space_none (st : Int) (w : World) : Calls Tryz.prog 101 #[.int .i64 st] w (Gives (.agg #[.int .i64 st, .slice none 0 0, .int .i64 (-1)]) w) := by
  go_enter Tryz.func101, Tryz.ntmps101
  go_wp2_with fail
  refine bodyPost_ret (v := .agg #[.int .i64 st, .slice none 0 0, .int .i64 (-1)]) (by simp [results, Tryz.results101, go_sem]) rfl (Gives.of_ext (by (repeat (first | (with_reducible assumption) | (with_reducible exact Ext.refl _) | (with_reducible exact Ext.more _ _ _ _) | apply Ext.alloc | refine Ext.setCell ?_ (by first | exact Nat.le_refl _ | exact Nat.le_add_right _ _ | assumption) _ | apply Ext.patch | apply Ext.drew | apply Ext.drewN))))

def shelves (cm : Cnf) (bp bk bl : Nat) : Value := .agg #[.int .i64 cm.frags, .int .i64 cm.spine, .int .i64 cm.globals, .int .i64 cm.threads, .int .i64 cm.locals, .int .i64 cm.cache, .int .i64 cm.stack, .int .i64 cm.low, .slice cm.A cm.shapes.length cm.cap, .pointer (some ⟨bp, 0, none⟩), .pointer (some ⟨bk, 0, none⟩), .pointer (some ⟨bl, 0, none⟩)]
theorem sh_waits (g : GW) (t : Nat) (cm : Cnf) (bp bk bl : Nat) (L : List Ent) (h : LineAt g t bl L) : Calls Tryz.prog 25 #[shelves cm bp bk bl] g.w (Gives (.int .i64 (Ent.wait L)) g.w) := by
  have H := Lib.hid (fun w' (he : Ext g.w w') => line_waits (g.to 9 w') t bl L (h.keep (Mod.ext (T := fun _ => False) he 9) id id))
  unfold shelves
  clear h
  go_enter Tryz.func25, Tryz.ntmps25
  go_wp2_with fail
  refine (H.out _ (by (repeat (first | (with_reducible assumption) | (with_reducible exact Ext.refl _) | (with_reducible exact Ext.more _ _ _ _) | apply Ext.alloc | refine Ext.setCell ?_ (by first | exact Nat.le_refl _ | exact Nat.le_add_right _ _ | assumption) _ | apply Ext.patch | apply Ext.drew | apply Ext.drewN)))).mono ?_
  rintro e w1 ⟨rfl, hX⟩
  have HE := Lib.hid ((show Ext g.w _ by (repeat (first | (with_reducible assumption) | (with_reducible exact Ext.refl _) | (with_reducible exact Ext.more _ _ _ _) | apply Ext.alloc | refine Ext.setCell ?_ (by first | exact Nat.le_refl _ | exact Nat.le_add_right _ _ | assumption) _ | apply Ext.patch | apply Ext.drew | apply Ext.drewN))).trans (show Ext _ w1 from hX))
  clear hX
  go_wp2_with fail
  go_ret
  exact Gives.int rfl HE.out
theorem sh_free (g : GW) (t : Nat) (cm : Cnf) (bp bk bl : Nat) (p : PoolS) (h : PoolAt g t bp p) : Calls Tryz.prog 27 #[shelves cm bp bk bl] g.w (Gives (.int .i64 p.free) g.w) := by
  have H := Lib.hid (fun w' (he : Ext g.w w') => pool_free (g.to 9 w') t bp p (h.keep (Mod.ext (T := fun _ => False) he 9) id))
  unfold shelves
  clear h
  go_enter Tryz.func27, Tryz.ntmps27
  go_wp2_with fail
  refine (H.out _ (by (repeat (first | (with_reducible assumption) | (with_reducible exact Ext.refl _) | (with_reducible exact Ext.more _ _ _ _) | apply Ext.alloc | refine Ext.setCell ?_ (by first | exact Nat.le_refl _ | exact Nat.le_add_right _ _ | assumption) _ | apply Ext.patch | apply Ext.drew | apply Ext.drewN)))).mono ?_
  rintro e w1 ⟨rfl, rfl⟩
  go_wp2_with fail
  go_ret
  exact Gives.int rfl (by simp only [GW.to]; (repeat (first | (with_reducible assumption) | (with_reducible exact Ext.refl _) | (with_reducible exact Ext.more _ _ _ _) | apply Ext.alloc | refine Ext.setCell ?_ (by first | exact Nat.le_refl _ | exact Nat.le_add_right _ _ | assumption) _ | apply Ext.patch | apply Ext.drew | apply Ext.drewN)))
theorem sh_coil (w : World) (cm : Cnf) (bp bk bl : Nat) : Calls Tryz.prog 14 #[shelves cm bp bk bl] w (Gives (.pointer (some ⟨bk, 0, none⟩)) w) := by
  unfold shelves
  go_enter Tryz.func14, Tryz.ntmps14
  go_wp2_with fail
  go_ret
  exact Gives.of_ext (by (repeat (first | (with_reducible assumption) | (with_reducible exact Ext.refl _) | (with_reducible exact Ext.more _ _ _ _) | apply Ext.alloc | refine Ext.setCell ?_ (by first | exact Nat.le_refl _ | exact Nat.le_add_right _ _ | assumption) _ | apply Ext.patch | apply Ext.drew | apply Ext.drewN)))

theorem space_set (s : Int) (sense : Bool) (Al : Option Addr) (cl : Nat) (l : List Int) {g : GW} {B b bt bp bk bl cs : Nat} {S : SpaceS} {A : Option Addr} {cm : Cnf} {bs : List Nat} (h : SpaceIn g B b bt S bp bk bl A cs cm bs) (hl : Seg g 0 Al (l.map (Value.int .i64))) (hB : 100 ≤ B) (hn : l.length ≤ 1000000) :
    Calls Tryz.prog 103 #[.pointer (some ⟨b, 0, none⟩), .slice Al l.length cl, .int .i64 s, .bool sense] g.w (Does (.tuple #[]) g (fun x => x = B + 50) (fun g' => SpaceIn g' B b bt { S with tab := S.tab.setAll l s sense } bp bk bl A cs cm bs)) := by
  have H := Lib.hid h
  have HL := Lib.hid hl
  clear h hl
  go_enter Tryz.func103, Tryz.ntmps103
  go_wp2_with fail
  go_loopw [12] (fun i wr => ∃ (k : Nat) (own : Nat → Nat), k ≤ l.length ∧ i = .int .i64 k ∧ Hid (Mod (fun x => x = B + 50) g ⟨own, wr⟩) ∧ Hid (TabAt ⟨own, wr⟩ (B + 50) bt (S.tab.setAll (l.take k) s sense))) (fun i _ => l.length - (intOf i).toNat)
  case atStart => exact ⟨0, g.own, Nat.zero_le _, rfl, Lib.hid (Mod.refl _ _), Lib.hid H.out.tab⟩
  case round =>
    obtain ⟨k, own, hk, rfl, M, T⟩ := hrel
    have H1 := Lib.hid (H.out.withTab M.out T.out)
    have c0 := H1.out.blk.cell (i := 0) rfl
    simp only at c0
    by_cases hlt : k < l.length
    · obtain ⟨q, o, hA, hq, hcell⟩ := words_at (HL.out.keep M.out (by omega)).cells hlt
      have k0 := hcell k hlt
      simp only at k0 hq
      have HS := Lib.hid (show S.tab.setAll (l.take (k + 1)) s sense = (S.tab.setAll (l.take k) s sense).set (l.getD k 0) s false sense by
        unfold TabS.setAll
        rw [List.take_add_one, List.getElem?_eq_getElem hlt, List.getD_eq_getElem?_getD, List.getElem?_eq_getElem hlt, List.foldl_append]
        rfl)
      generalize l.getD k 0 = x at *
      subst hA
      clear hcell
      go_wp2_with fail
      refine (tab_set ⟨own, wr⟩ (B + 50) bt x s false sense _ T.out).mono ?_
      rintro e w1 ⟨rfl, own1, m1, t1⟩
      have M1 := Lib.hid (Mod.trans M.out m1)
      have T1 := Lib.hid t1
      clear m1 t1
      go_wp2_with fail
      go_roundw
      case rel => exact ⟨k + 1, own1, by omega, by go_num, M1, by rw [HS.out]; exact T1⟩
      case measure => simp [intOf]; omega
    · obtain rfl : k = l.length := by omega
      have HS := Lib.hid (show l.take l.length = l from List.take_of_length_le (Nat.le_refl _))
      go_wp2_with fail
      refine bodyPost_end (results_none rfl _ _ _) rfl (Does.of ⟨own, _⟩ rfl rfl M.out ?_)
      rw [HS.out] at H1
      exact H1.out
theorem space_frees (i : Int) {g : GW} {B b bt bp bk bl cs : Nat} {S : SpaceS} {A : Option Addr} {cm : Cnf} {bs : List Nat} (h : SpaceIn g B b bt S bp bk bl A cs cm bs) (hB : 100 ≤ B) :
    Calls Tryz.prog 129 #[.pointer (some ⟨b, 0, none⟩), .int .i64 i] g.w (Does (.tuple #[]) g (fun x => x = B + 50 ∨ x = B + 1) (fun g' => SpaceIn g' B b bt { S with tab := S.tab.set i 0 false false, pool := S.pool.give i } bp bk bl A cs cm bs)) := by
  have c0 := h.blk.cell (i := 0) rfl
  have H := Lib.hid h
  clear h
  go_enter Tryz.func129, Tryz.ntmps129
  go_wp2_with fail
  refine (tab_set g (B + 50) bt i 0 false false _ H.out.tab).mono ?_
  rintro e w1 ⟨rfl, own1, m1, t1⟩
  have M1 := Lib.hid m1
  have H1 := Lib.hid (H.out.withTab m1 t1)
  have c13 := H1.out.blk.cell (i := 13) rfl
  simp only at c13
  clear m1 t1 c0
  go_wp2_with fail
  refine (pool_give ⟨own1, w1⟩ (B + 1) bp i _ H1.out.pool).mono ?_
  rintro e w2 ⟨rfl, own2, m2, t2⟩
  have M2 := Lib.hid m2
  have H2 := Lib.hid (H1.out.withPool m2 t2)
  clear m2 t2 c13
  go_wp2_with fail
  refine bodyPost_end (results_none rfl _ _ _) rfl (Does.of ⟨own2, _⟩ rfl rfl ((M1.out.mono (fun x hx => Or.inl hx)).trans (M2.out.mono (fun x hx => Or.inr hx))) H2.out)
end Go.Proofs.YthdijbkcjmeilaaGreat
