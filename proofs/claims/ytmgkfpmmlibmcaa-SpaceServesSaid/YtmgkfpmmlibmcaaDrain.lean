/-
  space: Drain.
-/
import Derived.Test.YtmgkfpmmlibmcaaFirst21
namespace Go
open Go.RowKit
def SpaceS.freed (S : SpaceS) (l : List Int) : SpaceS := l.foldl (fun S i => { S with tab := S.tab.set i 0 false false, pool := S.pool.give i }) S
theorem SpaceS.freed_keep (S : SpaceS) (l : List Int) : (S.freed l).stocks = S.stocks ∧ (S.freed l).count = S.count := by
  unfold SpaceS.freed
  induction l generalizing S with
  | nil => exact ⟨rfl, rfl⟩
  | cons x l ih => exact ih _
end Go
namespace Go.Proofs.Ytmgkfpmmlibmcaa
open Go Go.RowKit
set_option linter.unusedVariables false
set_option linter.unnecessarySimpa false
set_option linter.unusedSimpArgs false
set_option maxHeartbeats 4000000
def drainN (S : SpaceS) (t : Int) : Int := if inB t S.stocks.length then ((stockOf S t).l.length : Int) else 0
def drainS (S : SpaceS) (t : Int) : SpaceS := if inB t S.stocks.length then ({ S.tick with stocks := S.stocks.set t.toNat ⟨[], (stockOf S t).most⟩ }).freed (stockOf S t).l else S.tick
theorem space_drain (t : Int) (g : GW) (B b bt : Nat) (S : SpaceS) (h : SpaceAt g B b bt S) (hB : 100 ≤ B) (hc : 0 ≤ S.count ∧ S.count ≤ 1099511627776) :
    Calls Try.prog 68 #[.pointer (some ⟨b, 0, none⟩), .int .i64 t] g.w (Does (.int .i64 (drainN S t)) g (inst B) (fun g' => SpaceAt g' B b bt (drainS S t))) := by
  obtain ⟨bp, bk, bl, A, cs, cm, bs, h⟩ := h
  obtain ⟨hc0, hc1⟩ := hc
  have M0 := Lib.hid (show Mod (inst B) g ⟨g.own, g.w.setCell ⟨b, 3, none⟩ (.int .i64 (S.count + 1))⟩ from Mod.set (by rw [h.blk.own]; exact ⟨by omega, by omega⟩))
  have H0 := Lib.hid (show SpaceIn ⟨g.own, g.w.setCell ⟨b, 3, none⟩ (.int .i64 (S.count + 1))⟩ B b bt S.tick bp bk bl A cs cm bs from h.tick)
  have HST := Lib.hid (space_stock t h.tick)
  have a0 := h.blk.cell (i := 0) rfl
  have a1 := h.blk.cell (i := 1) rfl
  have a2 := h.blk.cell (i := 2) rfl
  have a3 := h.blk.cell (i := 3) rfl
  have a4 := h.blk.cell (i := 4) rfl
  have a5 := h.blk.cell (i := 5) rfl
  have a6 := h.blk.cell (i := 6) rfl
  have a7 := h.blk.cell (i := 7) rfl
  have a8 := h.blk.cell (i := 8) rfl
  have a9 := h.blk.cell (i := 9) rfl
  have a10 := h.blk.cell (i := 10) rfl
  have a11 := h.blk.cell (i := 11) rfl
  have a12 := h.blk.cell (i := 12) rfl
  have a13 := h.blk.cell (i := 13) rfl
  have a14 := h.blk.cell (i := 14) rfl
  have a15 := h.blk.cell (i := 15) rfl
  have af3 := h.blk.live 3
  have al := h.blk.lt
  (try simp only [GW.to] at a0 a1 a2 a3 a4 a5 a6 a7 a8 a9 a10 a11 a12 a13 a14 a15 af3 al)
  clear h
  cases hin : inB t S.stocks.length
  · have HV := Lib.hid (show drainN S t = 0 by unfold drainN; rw [hin]; rfl)
    have HW := Lib.hid (show drainS S t = S.tick by unfold drainS; rw [hin]; rfl)
    simp only [hin, Bool.false_eq_true, if_false] at HST
    clear hin
    go_enter Try.func68, Try.ntmps68
    go_wp2_with fail
    refine HST.out.mono ?_
    rintro e w1 ⟨rfl, rfl⟩
    go_wp2_with fail
    go_ret
    exact Does.of ⟨g.own, _⟩ rfl (by rw [HV.out]; try rfl) M0.out (by rw [HW.out]; exact ⟨_, _, _, _, _, _, _, H0.out⟩)
  · obtain ⟨k, rfl, hk⟩ := inB_true hin
    obtain ⟨s, hs⟩ : ∃ s, S.stocks[k]? = some s := ⟨S.stocks[k], List.getElem?_eq_getElem hk⟩
    obtain ⟨x, hx⟩ : ∃ x, bs[k]? = some x := ⟨bs[k]'(by have := H0.out.blen; rw [this]; exact hk), List.getElem?_eq_getElem _⟩
    have HSO := Lib.hid (show stockOf S k = s by unfold stockOf; rw [Int.toNat_natCast, List.getD_eq_getElem?_getD, hs]; rfl)
    have HV := Lib.hid (show drainN S k = (s.l.length : Int) by unfold drainN; rw [hin, HSO.out]; rfl)
    have HW := Lib.hid (show drainS S k = ({ S.tick with stocks := S.stocks.set k ⟨[], s.most⟩ }).freed s.l by unfold drainS; rw [hin, HSO.out, Int.toNat_natCast]; rfl)
    have hbx : bs.getD k 0 = x := by rw [List.getD_eq_getElem?_getD, hx]; rfl
    simp only [hin, if_true, Int.toNat_natCast, hbx] at HST
    have HSA := Lib.hid (H0.out.stock k x s hx hs)
    have HX := Lib.hid hx
    have HKL := Lib.hid hk
    have HD := Lib.hid (stock_drain _ _ _ _ HSA.out)
    have hsl : s.l.length ≤ 8 := by have h1 := HSA.out.most; have h2 := HSA.out.len; omega
    clear hin hbx hs hx hk
    go_enter Try.func68, Try.ntmps68
    go_wp2_with fail
    refine HST.out.mono ?_
    rintro e w1 ⟨rfl, rfl⟩
    go_wp2_with fail
    refine HD.out.mono ?_
    rintro e w2 ⟨v, own2, rfl, m2, s2, r2⟩
    obtain ⟨A2, c2, rfl⟩ := own_form r2.row
    have M2 := Lib.hid (M0.out.trans (m2.mono (fun y (hy : y = B + 10 + k) => (⟨by have := HKL.out; omega, by have := HKL.out; have := H0.out.few; simp only [SpaceS.tick] at this; omega⟩ : inst B y))))
    have H2 := Lib.hid (H0.out.withStock HKL.out HX.out m2 s2)
    have R2 := Lib.hid r2
    clear m2 s2 r2 a0 a1 a2 a3 a4 a5 a6 a7 a8 a9 a10 a11 a12 a13 a14 a15 al HST HD
    go_wp2_with fail
    go_loopw [25] (fun i wr => ∃ (j : Nat) (own : Nat → Nat), j ≤ s.l.length ∧ i = .int .i64 j ∧ Hid (Mod (inst B) g ⟨own, wr⟩) ∧ Hid (SpaceIn ⟨own, wr⟩ B b bt (({ S.tick with stocks := S.stocks.set k ⟨[], s.most⟩ }).freed (s.l.take j)) bp bk bl A cs cm bs) ∧ Hid (Row ⟨own, wr⟩ (B + 10 + k) 3 1 (.slice A2 s.l.length c2) s.l.length (s.l.map (Value.int .i64)))) (fun i _ => s.l.length - (intOf i).toNat)
    case atStart => exact ⟨0, own2, Nat.zero_le _, rfl, M2, H2, R2⟩
    case round =>
      obtain ⟨j, own3, hj, rfl, M3, H3, R3⟩ := hrel
      clear M2 H2 R2
      by_cases hlt : j < s.l.length
      · obtain ⟨q, o, hA, hq, hcell⟩ := words_at R3.out.cells hlt
        have k0 := hcell j hlt
        simp only at k0 hq
        have HS := Lib.hid (show ({ S.tick with stocks := S.stocks.set k ⟨[], s.most⟩ }).freed (s.l.take (j + 1)) = { ({ S.tick with stocks := S.stocks.set k ⟨[], s.most⟩ }).freed (s.l.take j) with tab := (({ S.tick with stocks := S.stocks.set k ⟨[], s.most⟩ }).freed (s.l.take j)).tab.set (s.l.getD j 0) 0 false false, pool := (({ S.tick with stocks := S.stocks.set k ⟨[], s.most⟩ }).freed (s.l.take j)).pool.give (s.l.getD j 0) } by
          unfold SpaceS.freed
          rw [List.take_add_one, List.getElem?_eq_getElem hlt, List.getD_eq_getElem?_getD, List.getElem?_eq_getElem hlt, List.foldl_append]
          rfl)
        generalize s.l.getD j 0 = y at *
        subst hA
        clear hcell
        go_wp2_with fail
        refine (space_frees y H3.out hB).mono ?_
        rintro e w4 ⟨rfl, own4, m4, h4⟩
        have M4 := Lib.hid (M3.out.trans (m4.mono (fun z (hz : z = B + 50 ∨ z = B + 1) => (⟨by omega, by omega⟩ : inst B z))))
        have H4 := Lib.hid h4
        have R4 := Lib.hid (R3.out.keep m4 (by have := HKL.out; have := H0.out.few; simp only [SpaceS.tick] at this; omega))
        clear m4 h4
        go_wp2_with fail
        go_roundw
        case rel => exact ⟨j + 1, own4, by omega, by go_num, M4, by rw [HS.out]; exact H4, R4⟩
        case measure => simp [intOf]; omega
      · obtain rfl : j = s.l.length := by omega
        have HS := Lib.hid (show s.l.take s.l.length = s.l from List.take_of_length_le (Nat.le_refl _))
        go_wp2_with fail
        go_ret
        rw [HS.out] at H3
        exact Does.of ⟨own3, _⟩ rfl (by rw [HV.out]; try rfl) M3.out (by rw [HW.out]; exact ⟨_, _, _, _, _, _, _, H3.out⟩)
end Go.Proofs.Ytmgkfpmmlibmcaa
