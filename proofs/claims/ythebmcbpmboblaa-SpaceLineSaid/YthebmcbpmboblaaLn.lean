/-
  SpaceLine: the walk.
-/
import Derived.Test.YthebmcbpmboblaaLnP
import Derived.Test.YthebmcbpmboblaaFails
import Derived.Test.YthebmcbpmboblaaSide
namespace Go.Proofs.Ythebmcbpmboblaa
open Go Go.RowKit
set_option linter.unusedVariables false
set_option linter.unnecessarySimpa false
set_option linter.unusedSimpArgs false
set_option maxHeartbeats 4000000
theorem ext_of {w1 : World} {own : Nat → Nat} {w' : World} (m : Mod (inst 100) ⟨fun _ => 0, w1⟩ ⟨own, w'⟩) : Ext w1 w' := (mod_nothing m (fun j _ hj => by have h100 : (100 : Nat) ≤ 0 := hj.1; omega)).toExt
theorem ln_free {S : SpaceS} {l : List Ent} {f : Int} (h : Ln S l f) : 0 ≤ f ∧ f ≤ 20 := by
  have h1 : S.pool.free ≤ S.pool.l.length := List.countP_le_length
  have h2 := h.pair.pl
  have h3 := h.fr
  omega
set_option maxRecDepth 100000 in
theorem ln_any (A0 A1 : Option Addr) (cap0 cap1 n0 n1 : Nat) (l0 l1 : List Int) (w : World) (h0 : CellsAt w A0 (l0.map (Value.int .i64))) (e0 : l0.length = n0) (m0 : n0 ≤ 9223372036854775807) (h1 : CellsAt w A1 (l1.map (Value.int .i64))) (e1 : l1.length = n1) (m1 : n1 ≤ 9223372036854775807) :
    Calls Try.prog 10 #[.slice A0 n0 cap0, .slice A1 n1 cap1] w (Gives (.bool true) w) := by
  have HF := Lib.hid (fun w => first21_any w)
  have HL0 := Lib.hid h0
  have HL1 := Lib.hid h1
  have HE0 := Lib.hid e0
  have HE1 := Lib.hid e1
  clear h0 h1 e0 e1
  go_enter Try.func10, Try.ntmps10
  go_wp2_with fail
  refine (HF.out _).mono ?_
  rintro e w0 ⟨rfl, hX⟩
  have E0 := Lib.hid (show Ext w w0 from hX)
  clear hX
  by_cases hn3 : n0 = 3
  case neg =>
    have hd : ((n0 : Int) != 3) = true := by rw [bne, show (3 : Int) = ((3 : Nat) : Int) from rfl, beq_cast]; simpa using hn3
    go_wp2_with fail
    refine (HF.out _).mono ?_
    rintro e wz ⟨rfl, hX⟩
    have Ez := Lib.hid (E0.out.trans (show Ext _ wz from hX))
    clear hX
    go_wp2_with fail
    go_ret
    exact Gives.bool rfl Ez.out
  case pos =>
    subst hn3
    by_cases h200 : (200 : Int) < (n1 : Int)
    · go_wp2_with fail
      refine (HF.out _).mono ?_
      rintro e wz ⟨rfl, hX⟩
      have Ez := Lib.hid (E0.out.trans (show Ext _ wz from hX))
      clear hX
      go_wp2_with fail
      go_ret
      exact Gives.bool rfl Ez.out
    · have hd2 : decide ((200 : Int) < (n1 : Int)) = false := decide_eq_false h200
      have HN1 := Lib.hid (show (n1 : Int) ≤ 200 by omega)
      obtain ⟨a, b', c, hl0⟩ : ∃ a b c, l0 = [a, b, c] := by
        match l0, HE0.out with
        | [a, b, c], _ => exact ⟨a, b, c, rfl⟩
      subst hl0
      obtain ⟨q0, o0, rfl, hq0, hc0⟩ := ints_at HL0.out (k := 0) (by simp)
      have HC0 := Lib.hid (show ∀ j, j < 3 → w.cell? ⟨q0, o0 + j, none⟩ = some (.int .i64 (szf a b' c j)) from fun j hj => by
        have := hc0 j (by simpa using hj)
        rcases (show j = 0 ∨ j = 1 ∨ j = 2 by omega) with rfl | rfl | rfl <;> exact this)
      have HQ0 := Lib.hid hq0
      clear hc0 hq0 h200 m0 m1
      go_wp2_with fail
      go_loopw [5] (fun i wr => ∃ j : Nat, j ≤ 3 ∧ i = .int .i64 j ∧ wr = w0 ∧ Hid (∀ q, q < j → 1 ≤ szf a b' c q ∧ szf a b' c q ≤ 6)) (fun i _ => 3 - (intOf i).toNat)
      case atStart => exact ⟨0, Nat.zero_le _, rfl, rfl, Lib.hid (fun q hq => by omega)⟩
      case round =>
        obtain ⟨j, hj, rfl, hwr, HS⟩ := hrel
        subst hwr
        by_cases hlj : j < 3
        · have hx := (E0.out.cell HQ0.out).trans (HC0.out j hlj)
          have HXJ := Lib.hid (show szf a b' c j = szf a b' c j from rfl)
          have hj2 : (j : Int) < 3 := by omega
          generalize hsx : szf a b' c j = x at *
          have HSX := Lib.hid hsx
          clear hsx HXJ
          by_cases x1 : x < 1
          · go_wp2_with fail
            refine (HF.out _).mono ?_
            rintro e wz ⟨rfl, hX⟩
            have Ez := Lib.hid (E0.out.trans (show Ext _ wz from hX))
            clear hX
            go_wp2_with fail
            go_ret
            exact Gives.bool rfl Ez.out
          · by_cases x2 : 6 < x
            · go_wp2_with fail
              refine (HF.out _).mono ?_
              rintro e wz ⟨rfl, hX⟩
              have Ez := Lib.hid (E0.out.trans (show Ext _ wz from hX))
              clear hX
              go_wp2_with fail
              go_ret
              exact Gives.bool rfl Ez.out
            · have HS2 := Lib.hid (show ∀ q, q < j + 1 → 1 ≤ szf a b' c q ∧ szf a b' c q ≤ 6 from fun q hq => by
                by_cases e : q = j
                · subst e; rw [HSX.out]; omega
                · exact HS.out q (by omega))
              have y1 : decide (x < 1) = false := decide_eq_false x1
              have y2 : decide (6 < x) = false := decide_eq_false x2
              clear x1 x2
              go_wp2_with fail
              go_roundw
              case rel => exact ⟨j + 1, by omega, by go_num, trivial, HS2⟩
              case measure => simp [intOf]; omega
        · obtain rfl : j = 3 := by omega
          rw [show ((3 : Nat) : Int) = 3 from rfl]
          have HS3 := Lib.hid (show Small3 a b' c from ⟨HS.out 0 (by omega), HS.out 1 (by omega), HS.out 2 (by omega)⟩)
          clear hlj hj HS
          go_wp2_with fail
          refine (small21_any 20 0 0 _).mono ?_
          rintro e w1 ⟨A, rfl, hE, hok⟩
          have E1 := Lib.hid (E0.out.trans hE)
          have HM := Lib.hid (made_any (cS 20 0 0 A) 100 ⟨fun _ => 0, w1⟩ hok (cS_check ⟨by omega, by omega⟩ ⟨by omega, by omega⟩ ⟨by omega, by omega⟩ (by omega)) (by omega))
          unfold Cnf.val at HM ⊢
          clear hE hok
          go_wp2_with fail
          refine HM.out.mono ?_
          rintro e w2 ⟨own2, b, bt, rfl, m2, h2⟩
          have M2 := Lib.hid (m2.mono (S := inst 100) (fun x hx => hx.elim))
          obtain ⟨R, hR⟩ := run20 A
          have RR := Lib.hid hR
          have H2 := Lib.hid (show SpaceAt ⟨own2, w2⟩ 100 b bt (R 0) from by rw [hR.r0]; exact h2)
          clear m2 h2 hR HM
          go_wp2_with fail
          go_loopw [8] (fun i wr => ∃ (k : Nat) (own : Nat → Nat), k ≤ 20 ∧ i = .int .i64 k ∧ Hid (Mod (inst 100) ⟨fun _ => 0, w1⟩ ⟨own, wr⟩) ∧ Hid (SpaceAt ⟨own, wr⟩ 100 b bt (R k))) (fun i _ => 20 - (intOf i).toNat)
          case atStart => exact ⟨0, own2, Nat.zero_le _, rfl, M2, H2⟩
          case round =>
            obtain ⟨k, own3, hk, rfl, M3, H3⟩ := hrel
            obtain ⟨w3, rfl⟩ : ∃ w3 : World, w3 = wr := ⟨_, rfl⟩
            clear M2 H2
            by_cases hlk : k < 20
            · have hk2 : (k : Int) < 20 := by omega
              have HCN := Lib.hid (RR.out.cnt k)
              have HON := Lib.hid (RR.out.one k hlk)
              have HOK := Lib.hid (RR.out.ok k hlk)
              have HNX := Lib.hid (RR.out.nxt k)
              have HK2 := Lib.hid hk2
              have HASK := Lib.hid (space_ask 0 1 0 true ⟨own3, w3⟩ 100 b bt (R k) H3.out (by omega) (by rw [HCN.out]; have := HK2.out; omega) (lineOk_len HOK.out) (by decide) (by decide))
              go_wp2_with fail
              refine HASK.out.mono ?_
              rintro e w4 ⟨v, own4, rfl, m4, ⟨A4, c4, rfl, r4⟩, h4⟩
              rw [HON.out]
              clear r4
              generalize (ask (R k) 0 1 0 true).1.2.1.length = n4 at *
              generalize (ask (R k) 0 1 0 true).1.2.2 = at4 at *
              have hgs := grant_state 1 at4 A4 n4 c4
              have M4 := Lib.hid (M3.out.trans m4)
              have H4 := Lib.hid (show SpaceAt ⟨own4, w4⟩ 100 b bt (R (k + 1)) from HNX.out ▸ h4)
              clear m4 h4 HASK M3 H3
              go_wp2_with fail
              go_roundw
              case rel => exact ⟨k + 1, own4, by omega, by go_num, M4, H4⟩
              case measure => simp [intOf]; omega
            · obtain rfl : k = 20 := by omega
              rw [show ((20 : Nat) : Int) = 20 from rfl]
              have L0 := Lib.hid (show Ln (R 20) (came a b' c 0) 0 from ⟨RR.out.pair, by rw [RR.out.free]; rfl, RR.out.line, RR.out.slen, RR.out.stock⟩)
              have HC20 := Lib.hid (show (R 20).count = 20 from RR.out.cnt 20)
              clear hlk hk
              go_wp2_with fail
              go_loopw [9] (fun i wr => ∃ (j : Nat) (own : Nat → Nat) (S : SpaceS), j ≤ 3 ∧ i = .int .i64 j ∧ Hid (Mod (inst 100) ⟨fun _ => 0, w1⟩ ⟨own, wr⟩) ∧ Hid (SpaceAt ⟨own, wr⟩ 100 b bt S) ∧ Hid (Ln S (came a b' c j) 0) ∧ Hid (S.count = 20 + j)) (fun i _ => 3 - (intOf i).toNat)
              case atStart => exact ⟨0, own3, R 20, Nat.zero_le _, rfl, M3, H3, L0, Lib.hid (by rw [HC20.out]; rfl)⟩
              case round =>
                obtain ⟨j, own5, S, hj, rfl, M5, H5, L5, C5⟩ := hrel
                obtain ⟨w5, rfl⟩ : ∃ w5 : World, w5 = wr := ⟨_, rfl⟩
                clear M3 H3 L0
                by_cases hlj : j < 3
                · have E5 := Lib.hid (E1.out.trans (ext_of M5.out))
                  have hx := (E5.out.cell HQ0.out).trans (HC0.out j hlj)
                  have hql := Nat.lt_of_lt_of_le HQ0.out E5.out.size
                  obtain ⟨s1, s2⟩ := HS3.out.sz hlj
                  have HA := Lib.hid (ln_ask L5.out HS3.out hlj)
                  have HLL := Lib.hid (show S.line.length < 1000000 by
                    rw [L5.out.line]
                    rcases (show j = 0 ∨ j = 1 ∨ j = 2 by omega) with rfl | rfl | rfl <;> simp [came])
                  have HACN := Lib.hid (ask_cnt S j (szf a b' c j) 0 true)
                  have hj2 : (j : Int) < 3 := by omega
                  have HJ2 := Lib.hid hj2
                  have HASK := Lib.hid (space_ask j (szf a b' c j) 0 true ⟨own5, w5⟩ 100 b bt S H5.out (by omega) (by rw [C5.out]; have := HJ2.out; omega) HLL.out (by omega) (by decide))
                  generalize szf a b' c j = x at *
                  go_wp2_with fail
                  refine HASK.out.mono ?_
                  rintro e w6 ⟨v, own6, rfl, m6, ⟨A6, c6, rfl, r6⟩, h6⟩
                  rw [HA.out.1]
                  clear r6
                  have M6 := Lib.hid (M5.out.trans m6)
                  have H6 := Lib.hid h6
                  have L6 := Lib.hid HA.out.2
                  have C6 := Lib.hid (show (ask S j x 0 true).2.count = 20 + ((j + 1 : Nat) : Int) by rw [HACN.out, C5.out]; omega)
                  have hgs := grant_state 0 (ask S j x 0 true).1.2.2 A6 (ask S j x 0 true).1.2.1.length c6
                  generalize ask S j x 0 true = rr at *
                  obtain ⟨⟨gst, got, gat⟩, S6⟩ := rr
                  simp only at hgs H6 L6 C6 ⊢
                  clear m6 h6 HASK HA HACN M5 H5 L5 C5
                  go_wp2_with fail
                  go_roundw
                  case rel => exact ⟨j + 1, own6, S6, by omega, by go_num, M6, H6, L6, C6⟩
                  case measure => simp [intOf]; omega
                · obtain rfl : j = 3 := by omega
                  rw [show ((3 : Nat) : Int) = 3 from rfl]
                  have L6 := Lib.hid (show Ln S (reqs a b' c 0) 0 from L5.out)
                  clear hlj hj L5
                  go_wp2_with fail
                  have HZ0 := Lib.hid (show (0 : Nat) < 3 → (0 : Int) < szf a b' c 0 from fun _ => by have := HS3.out.a.1; show (0 : Int) < a; omega)
                  go_loopw [10, 11, 12] (fun f nx i wr => ∃ (k nj : Nat) (fr : Int) (own : Nat → Nat) (S : SpaceS), k ≤ n1 ∧ nj ≤ 3 ∧ f = .int .i64 fr ∧ nx = .int .i64 nj ∧ i = .int .i64 k ∧ (0 ≤ fr ∧ fr ≤ 20) ∧ Hid (Mod (inst 100) ⟨fun _ => 0, w1⟩ ⟨own, wr⟩) ∧ Hid (SpaceAt ⟨own, wr⟩ 100 b bt S) ∧ Hid (Ln S (reqs a b' c nj) fr) ∧ Hid (0 ≤ S.count ∧ S.count ≤ 23 + 10 * k)) (fun _ _ i _ => n1 - (intOf i).toNat)
                  case atStart => exact ⟨0, 0, 0, own5, S, Nat.zero_le _, by omega, rfl, rfl, rfl, ⟨by omega, by omega⟩, M5, H5, L6, Lib.hid (by rw [C5.out]; omega)⟩
                  case round =>
                    obtain ⟨k, nj, fr, own6, S6, hk, hnj, rfl, rfl, rfl, ⟨hf0, hf1⟩, M6, H6, L7, C6⟩ := hrel
                    obtain ⟨w6, rfl⟩ : ∃ w6 : World, w6 = wr := ⟨_, rfl⟩
                    clear M5 H5 L6 C5 HZ0
                    have E6 := Lib.hid (E1.out.trans (ext_of M6.out))
                    by_cases hkn : k < n1
                    · by_cases hn3 : nj < 3
                      · have hkd : decide ((k : Int) < n1) = true := decide_eq_true (by omega)
                        have hnd : decide ((nj : Int) < 3) = true := decide_eq_true (by omega)
                        have hk200 : (k : Int) < 200 := by have := HN1.out; omega
                        have HK := Lib.hid hk200
                        obtain ⟨q1, o1, hA1, hq1, hc1⟩ := ints_at (HL1.out.ext E6.out) (k := k) (by rw [HE1.out]; exact hkn)
                        have hx1 := hc1 k (by rw [HE1.out]; exact hkn)
                        subst hA1
                        generalize l1[k]?.getD 0 = x at *
                        generalize l1.getD k 0 = x at *
                        have HSW := Lib.hid (space_sweep x false ⟨own6, w6⟩ 100 b bt S6 H6.out (by omega) (by have := C6.out; have := HK.out; omega))
                        have LSW := Lib.hid (ln_sweep L7.out x)
                        have CSW := Lib.hid (sweep_cnt S6 x false)
                        clear hc1
                        cases hsw : sweeps S6 x false
                        · rw [hsw] at HSW LSW
                          clear hsw
                          go_wp2_with fail
                          refine HSW.out.mono ?_
                          rintro e w7 ⟨rfl, own7, m7, h7⟩
                          have L8 := Lib.hid (show Ln (sweepS S6 x false) (reqs a b' c nj) fr from by have := LSW.out; simpa using this)
                          obtain ⟨f1, hf⟩ : ∃ f1, f1 = fr := ⟨_, rfl⟩
                          rw [← hf] at L8
                          have M7 := Lib.hid (M6.out.trans m7)
                          have H7 := Lib.hid h7
                          have C7 := Lib.hid (show 0 ≤ (sweepS S6 x false).count ∧ (sweepS S6 x false).count ≤ 24 + 10 * (k : Int) by rw [CSW.out]; have := C6.out; omega)
                          generalize sweepS S6 x false = S7 at *
                          obtain ⟨g0, g1⟩ := ln_free L8.out
                          clear m7 h7 HSW LSW CSW M6 H6 L7 C6 E6 hx1 hq1
                          go_wp2_with fail
                          (try rw [← hf])
                          clear hf
                          go_loopw [10, 11] (fun f nx wr => ∃ (nj2 : Nat) (f2 : Int) (own : Nat → Nat) (S2 : SpaceS), nj2 ≤ 3 ∧ f = .int .i64 f2 ∧ nx = .int .i64 nj2 ∧ (0 ≤ f2 ∧ f2 ≤ 20) ∧ Hid (Mod (inst 100) ⟨fun _ => 0, w1⟩ ⟨own, wr⟩) ∧ Hid (SpaceAt ⟨own, wr⟩ 100 b bt S2) ∧ Hid (Ln S2 (reqs a b' c nj2) f2) ∧ Hid (0 ≤ S2.count ∧ S2.count + 2 * (3 - (nj2 : Int)) ≤ 30 + 10 * k)) (fun _ nx _ => 3 - (intOf nx).toNat)
                          case atStart => exact ⟨nj, f1, own7, S7, hnj, rfl, rfl, ⟨g0, g1⟩, M7, H7, L8, Lib.hid (by have := C7.out; omega)⟩
                          case round =>
                            obtain ⟨nj2, f2, own8, S8, hnj2, rfl, rfl, ⟨p0, p1⟩, M8, H8, L9, C8⟩ := hrel
                            obtain ⟨w8, rfl⟩ : ∃ w8 : World, w8 = wr := ⟨_, rfl⟩
                            clear M7 H7 L8 C7
                            have HSV := Lib.hid (space_serve true ⟨own8, w8⟩ 100 b bt S8 H8.out (by omega) (by have := C8.out; have := HK.out; omega) (reqs_ok HS3.out L9.out.line).1)
                            have HSC := Lib.hid (serve_cnt S8 true)
                            by_cases hy : nj2 < 3 ∧ szf a b' c nj2 ≤ f2
                            · obtain ⟨y1, y2⟩ := hy
                              obtain ⟨v1, v2, v3, v4, v5⟩ := serve_yes L9.out HS3.out y1 y2
                              obtain ⟨s1, s2⟩ := HS3.out.sz y1
                              have V1 := Lib.hid v1
                              have V3 := Lib.hid v3
                              have V4 := Lib.hid v4
                              have V5 := Lib.hid v5
                              have HLC := Lib.hid (look_cnt (serve S8 true).2 nj2)
                              have HCQ := Lib.hid (HC0.out nj2 y1)
                              generalize szf a b' c nj2 = sz at *
                              have d1 : decide ((3 : Int) ≤ nj2) = false := decide_eq_false (by omega)
                              have d2 : decide (f2 < sz) = false := decide_eq_false (by omega)
                              have hwr2 : wrap64 (f2 - sz) = f2 - sz := by simp only [wrap64]; omega
                              clear v1 v2 v3 v4 v5
                              go_wp2_with fail
                              refine HSV.out.mono ?_
                              rintro e w9 ⟨rfl, own9, m9, h9⟩
                              rw [V1.out]
                              have M9 := Lib.hid (M8.out.trans m9)
                              have H9 := Lib.hid h9
                              have E9 := Lib.hid (E1.out.trans (ext_of M9.out))
                              have cq := (E9.out.cell HQ0.out).trans HCQ.out
                              have cql := Nat.lt_of_lt_of_le HQ0.out E9.out.size
                              have HLK := Lib.hid (space_look nj2 ⟨own9, w9⟩ 100 b bt (serve S8 true).2 H9.out (by omega) (by rw [HSC.out]; have := C8.out; have := HK.out; omega))
                              clear m9 h9 HSV M8 H8 L9
                              go_wp2_with fail
                              refine HLK.out.mono ?_
                              rintro e v10 ⟨v, ownv, rfl, m10, ⟨A10, c10, rfl, r10⟩, h10⟩
                              rw [V3.out]
                              clear r10
                              have hlen := V4.out
                              generalize (look (serve S8 true).2 nj2).1.2.1.length = n10 at *
                              generalize (look (serve S8 true).2 nj2).1.2.2 = at10 at *
                              have d3 : ((n10 : Int) != sz) = false := by rw [hlen]; simp
                              obtain ⟨own10, m10', g10, h10'⟩ := grant_lay [.int .i64 1, .slice A10 n10 c10, .int .i64 at10] h10
                              have M10 := Lib.hid ((M9.out.trans m10).trans (m10'.mono (fun x hx => hx.elim)))
                              have H10 := Lib.hid h10'
                              have G10 := Lib.hid g10
                              have L10 := Lib.hid V5.out
                              have C10 := Lib.hid (show (look (serve S8 true).2 nj2).2.count = S8.count + 2 by rw [HLC.out, HSC.out]; omega)
                              clear m10 m10' h10 h10' g10 HLK M9 H9 E9 cq cql hlen V5 V4 V3 HLC
                              go_wp2_with fail
                              generalize v10.heap.size = p10 at *
                              generalize v10.alloc _ = w10 at *
                              have E10 := Lib.hid (E1.out.trans (ext_of M10.out))
                              have cq := (E10.out.cell HQ0.out).trans HCQ.out
                              have cql := Nat.lt_of_lt_of_le HQ0.out E10.out.size
                              have x0 := G10.out.cell (i := 0) rfl
                              have x1 := G10.out.cell (i := 1) rfl
                              have x2 := G10.out.cell (i := 2) rfl
                              have xl := G10.out.lt
                              (try simp only [GW.to] at x0 x1 x2 xl)
                              refine wp_region_mixed [true, true, true, true, true, true, true, true, true, true, true, true, true] 0 13 (by kernel_rfl) (by kernel_rfl) (by kernel_rfl) ?_ (by decide) (by decide) (by decide) (by kernel_rfl) ?_
                              · intro c a d v w h; cases d <;> exact h
                              intro X00
                              simp only [pickOps]
                              repeat (go_big_quiet_step (fail))
                              refine wpQuiet_nil (fun X0 => ?_)
                              clear X00
                              refine wpAnyM_done (by kernel_rfl) (fun X0' => ?_) _
                              generalize hW : World.patch (World.patch w10 _) _ = w11
                              have hX : Ext w10 w11 := by rw [← hW]; exact Ext.trans ⟨_, rfl⟩ ⟨_, rfl⟩
                              clear hW
                              obtain ⟨own11, m11⟩ := Mod.ofExt hX own10
                              have M11 := Lib.hid (M10.out.trans (m11.mono (fun x hx => hx.elim)))
                              have H11 := Lib.hid (space_keep H10.out m11 (fun x hx => hx.elim))
                              clear m11 hX x0 x1 x2 xl cq cql M10 H10 G10 E10
                              go_wp2_with fail
                              go_roundw
                              case rel => exact ⟨nj2 + 1, f2 - sz, own11, _, by omega, by first | rfl | simp, by go_num, ⟨by omega, by omega⟩, M11, H11, L10, Lib.hid (by rw [C10.out]; have := C8.out; omega)⟩
                              case measure => simp [intOf]; omega
                            · have hno := serve_no L9.out (fun hj => by have := fun h => hy ⟨hj, h⟩; omega)
                              have HNO := Lib.hid hno
                              rw [hno] at HSV
                              have hwt := (reqs_ok HS3.out L9.out.line).2.2
                              have HWT := Lib.hid (show ((Ent.wait S8.line : Nat) : Int) = 3 - (nj2 : Int) by omega)
                              have hwr3 : wrap64 (3 - (nj2 : Int)) = 3 - nj2 := by simp only [wrap64]; omega
                              clear hno hwt
                              go_wp2_with fail
                              refine HSV.out.mono ?_
                              rintro e w9 ⟨rfl, own9, m9, h9⟩
                              have M9 := Lib.hid (M8.out.trans m9)
                              obtain ⟨bp, bk, bl, As, cs, cm, bs, h9⟩ := h9
                              have H9 := Lib.hid h9
                              have E9 := Lib.hid (E1.out.trans (ext_of M9.out))
                              have cql := Nat.lt_of_lt_of_le HQ0.out E9.out.size
                              have HFR := Lib.hid (show Calls Try.prog 25 #[shelves cm bp bk bl] w9 (Gives (.int .i64 f2) w9) from L9.out.fr ▸ sh_free ⟨own9, w9⟩ (100 + 1) cm bp bk bl _ H9.out.pool)
                              unfold shelves at HFR
                              clear m9 h9 HSV M8 H8
                              have z0 := H9.out.blk.cell (i := 0) rfl
                              have z1 := H9.out.blk.cell (i := 1) rfl
                              have z2 := H9.out.blk.cell (i := 2) rfl
                              have z3 := H9.out.blk.cell (i := 3) rfl
                              have z4 := H9.out.blk.cell (i := 4) rfl
                              have z5 := H9.out.blk.cell (i := 5) rfl
                              have z6 := H9.out.blk.cell (i := 6) rfl
                              have z7 := H9.out.blk.cell (i := 7) rfl
                              have z8 := H9.out.blk.cell (i := 8) rfl
                              have z9 := H9.out.blk.cell (i := 9) rfl
                              have z10 := H9.out.blk.cell (i := 10) rfl
                              have z11 := H9.out.blk.cell (i := 11) rfl
                              have z12 := H9.out.blk.cell (i := 12) rfl
                              have z13 := H9.out.blk.cell (i := 13) rfl
                              have z14 := H9.out.blk.cell (i := 14) rfl
                              have z15 := H9.out.blk.cell (i := 15) rfl
                              have zl := H9.out.blk.lt
                              (try simp only [GW.to] at z0 z1 z2 z3 z4 z5 z6 z7 z8 z9 z10 z11 z12 z13 z14 z15 zl)
                              by_cases h3 : nj2 < 3
                              · have cq := (E9.out.cell HQ0.out).trans (HC0.out nj2 h3)
                                have d1 : decide ((nj2 : Int) < 3) = true := decide_eq_true (by omega)
                                have d2 : decide (szf a b' c nj2 ≤ f2) = false := decide_eq_false (fun h => hy ⟨h3, h⟩)
                                have hj3 : (nj2 : Int) < 3 := by omega
                                generalize szf a b' c nj2 = sz at *
                                clear hy
                                go_wp2_with fail
                                refine HFR.out.mono ?_
                                rintro e w10 ⟨rfl, hX⟩
                                obtain ⟨own10, m10⟩ := Mod.ofExt (show Ext w9 w10 from hX) own9
                                have M10 := Lib.hid (M9.out.trans (m10.mono (fun x hx => hx.elim)))
                                have H10 := Lib.hid (H9.out.keep m10 (fun x hx => hx.elim))
                                clear m10 hX HFR z0 z1 z2 z3 z4 z5 z6 z7 z8 z9 z10 z11 z12 z13 z14 z15 zl
                                have z0 := H10.out.blk.cell (i := 0) rfl
                                have z1 := H10.out.blk.cell (i := 1) rfl
                                have z2 := H10.out.blk.cell (i := 2) rfl
                                have z3 := H10.out.blk.cell (i := 3) rfl
                                have z4 := H10.out.blk.cell (i := 4) rfl
                                have z5 := H10.out.blk.cell (i := 5) rfl
                                have z6 := H10.out.blk.cell (i := 6) rfl
                                have z7 := H10.out.blk.cell (i := 7) rfl
                                have z8 := H10.out.blk.cell (i := 8) rfl
                                have z9 := H10.out.blk.cell (i := 9) rfl
                                have z10 := H10.out.blk.cell (i := 10) rfl
                                have z11 := H10.out.blk.cell (i := 11) rfl
                                have z12 := H10.out.blk.cell (i := 12) rfl
                                have z13 := H10.out.blk.cell (i := 13) rfl
                                have z14 := H10.out.blk.cell (i := 14) rfl
                                have z15 := H10.out.blk.cell (i := 15) rfl
                                have zl := H10.out.blk.lt
                                (try simp only [GW.to] at z0 z1 z2 z3 z4 z5 z6 z7 z8 z9 z10 z11 z12 z13 z14 z15 zl)
                                have HWA := Lib.hid (show Calls Try.prog 66 #[shelves cm bp bk bl] w10 (Gives (.int .i64 (3 - (nj2 : Int))) w10) from HWT.out ▸ sh_waits ⟨own10, w10⟩ (100 + 3) cm bp bk bl _ H10.out.line)
                                unfold shelves at HWA
                                go_wp2_with fail
                                refine HWA.out.mono ?_
                                rintro e w11 ⟨rfl, hX⟩
                                obtain ⟨own11, m11⟩ := Mod.ofExt (show Ext w10 w11 from hX) own10
                                have M11 := Lib.hid (M10.out.trans (m11.mono (fun x hx => hx.elim)))
                                have H11 := Lib.hid (show SpaceAt ⟨own11, w11⟩ 100 b bt S8.tick from ⟨_, _, _, _, _, _, _, H10.out.keep m11 (fun x hx => hx.elim)⟩)
                                clear m11 hX HWA z0 z1 z2 z3 z4 z5 z6 z7 z8 z9 z10 z11 z12 z13 z14 z15 zl
                                go_wp2_with fail
                                go_roundw
                                case rel => exact ⟨k + 1, nj2, f2, own11, S8.tick, by omega, hnj2, rfl, rfl, by go_num, ⟨p0, p1⟩, M11, H11, Lib.hid L9.out.tick, Lib.hid (by show 0 ≤ S8.count + 1 ∧ S8.count + 1 ≤ _; have := C8.out; omega)⟩
                                case measure => simp [intOf]; omega
                              · have d1 : decide ((nj2 : Int) < 3) = false := decide_eq_false (by omega)
                                clear hy h3
                                go_wp2_with fail
                                refine HFR.out.mono ?_
                                rintro e w10 ⟨rfl, hX⟩
                                obtain ⟨own10, m10⟩ := Mod.ofExt (show Ext w9 w10 from hX) own9
                                have M10 := Lib.hid (M9.out.trans (m10.mono (fun x hx => hx.elim)))
                                have H10 := Lib.hid (H9.out.keep m10 (fun x hx => hx.elim))
                                clear m10 hX HFR z0 z1 z2 z3 z4 z5 z6 z7 z8 z9 z10 z11 z12 z13 z14 z15 zl
                                have z0 := H10.out.blk.cell (i := 0) rfl
                                have z1 := H10.out.blk.cell (i := 1) rfl
                                have z2 := H10.out.blk.cell (i := 2) rfl
                                have z3 := H10.out.blk.cell (i := 3) rfl
                                have z4 := H10.out.blk.cell (i := 4) rfl
                                have z5 := H10.out.blk.cell (i := 5) rfl
                                have z6 := H10.out.blk.cell (i := 6) rfl
                                have z7 := H10.out.blk.cell (i := 7) rfl
                                have z8 := H10.out.blk.cell (i := 8) rfl
                                have z9 := H10.out.blk.cell (i := 9) rfl
                                have z10 := H10.out.blk.cell (i := 10) rfl
                                have z11 := H10.out.blk.cell (i := 11) rfl
                                have z12 := H10.out.blk.cell (i := 12) rfl
                                have z13 := H10.out.blk.cell (i := 13) rfl
                                have z14 := H10.out.blk.cell (i := 14) rfl
                                have z15 := H10.out.blk.cell (i := 15) rfl
                                have zl := H10.out.blk.lt
                                (try simp only [GW.to] at z0 z1 z2 z3 z4 z5 z6 z7 z8 z9 z10 z11 z12 z13 z14 z15 zl)
                                have HWA := Lib.hid (show Calls Try.prog 66 #[shelves cm bp bk bl] w10 (Gives (.int .i64 (3 - (nj2 : Int))) w10) from HWT.out ▸ sh_waits ⟨own10, w10⟩ (100 + 3) cm bp bk bl _ H10.out.line)
                                unfold shelves at HWA
                                go_wp2_with fail
                                refine HWA.out.mono ?_
                                rintro e w11 ⟨rfl, hX⟩
                                obtain ⟨own11, m11⟩ := Mod.ofExt (show Ext w10 w11 from hX) own10
                                have M11 := Lib.hid (M10.out.trans (m11.mono (fun x hx => hx.elim)))
                                have H11 := Lib.hid (show SpaceAt ⟨own11, w11⟩ 100 b bt S8.tick from ⟨_, _, _, _, _, _, _, H10.out.keep m11 (fun x hx => hx.elim)⟩)
                                clear m11 hX HWA z0 z1 z2 z3 z4 z5 z6 z7 z8 z9 z10 z11 z12 z13 z14 z15 zl
                                go_wp2_with fail
                                go_roundw
                                case rel => exact ⟨k + 1, nj2, f2, own11, S8.tick, by omega, hnj2, rfl, rfl, by go_num, ⟨p0, p1⟩, M11, H11, Lib.hid L9.out.tick, Lib.hid (by show 0 ≤ S8.count + 1 ∧ S8.count + 1 ≤ _; have := C8.out; omega)⟩
                                case measure => simp [intOf]; omega
                        · rw [hsw] at HSW LSW
                          clear hsw
                          have hwr : wrap64 (fr + 1) = fr + 1 := by simp only [wrap64]; omega
                          go_wp2_with fail
                          refine HSW.out.mono ?_
                          rintro e w7 ⟨rfl, own7, m7, h7⟩
                          have L8 := Lib.hid (show Ln (sweepS S6 x false) (reqs a b' c nj) (fr + 1) from by have := LSW.out; simpa using this)
                          obtain ⟨f1, hf⟩ : ∃ f1, f1 = fr + 1 := ⟨_, rfl⟩
                          rw [← hf] at L8
                          have M7 := Lib.hid (M6.out.trans m7)
                          have H7 := Lib.hid h7
                          have C7 := Lib.hid (show 0 ≤ (sweepS S6 x false).count ∧ (sweepS S6 x false).count ≤ 24 + 10 * (k : Int) by rw [CSW.out]; have := C6.out; omega)
                          generalize sweepS S6 x false = S7 at *
                          obtain ⟨g0, g1⟩ := ln_free L8.out
                          clear m7 h7 HSW LSW CSW M6 H6 L7 C6 E6 hx1 hq1
                          go_wp2_with fail
                          (try rw [← hf])
                          clear hf
                          go_loopw [10, 11] (fun f nx wr => ∃ (nj2 : Nat) (f2 : Int) (own : Nat → Nat) (S2 : SpaceS), nj2 ≤ 3 ∧ f = .int .i64 f2 ∧ nx = .int .i64 nj2 ∧ (0 ≤ f2 ∧ f2 ≤ 20) ∧ Hid (Mod (inst 100) ⟨fun _ => 0, w1⟩ ⟨own, wr⟩) ∧ Hid (SpaceAt ⟨own, wr⟩ 100 b bt S2) ∧ Hid (Ln S2 (reqs a b' c nj2) f2) ∧ Hid (0 ≤ S2.count ∧ S2.count + 2 * (3 - (nj2 : Int)) ≤ 30 + 10 * k)) (fun _ nx _ => 3 - (intOf nx).toNat)
                          case atStart => exact ⟨nj, f1, own7, S7, hnj, rfl, rfl, ⟨g0, g1⟩, M7, H7, L8, Lib.hid (by have := C7.out; omega)⟩
                          case round =>
                            obtain ⟨nj2, f2, own8, S8, hnj2, rfl, rfl, ⟨p0, p1⟩, M8, H8, L9, C8⟩ := hrel
                            obtain ⟨w8, rfl⟩ : ∃ w8 : World, w8 = wr := ⟨_, rfl⟩
                            clear M7 H7 L8 C7
                            have HSV := Lib.hid (space_serve true ⟨own8, w8⟩ 100 b bt S8 H8.out (by omega) (by have := C8.out; have := HK.out; omega) (reqs_ok HS3.out L9.out.line).1)
                            have HSC := Lib.hid (serve_cnt S8 true)
                            by_cases hy : nj2 < 3 ∧ szf a b' c nj2 ≤ f2
                            · obtain ⟨y1, y2⟩ := hy
                              obtain ⟨v1, v2, v3, v4, v5⟩ := serve_yes L9.out HS3.out y1 y2
                              obtain ⟨s1, s2⟩ := HS3.out.sz y1
                              have V1 := Lib.hid v1
                              have V3 := Lib.hid v3
                              have V4 := Lib.hid v4
                              have V5 := Lib.hid v5
                              have HLC := Lib.hid (look_cnt (serve S8 true).2 nj2)
                              have HCQ := Lib.hid (HC0.out nj2 y1)
                              generalize szf a b' c nj2 = sz at *
                              have d1 : decide ((3 : Int) ≤ nj2) = false := decide_eq_false (by omega)
                              have d2 : decide (f2 < sz) = false := decide_eq_false (by omega)
                              have hwr2 : wrap64 (f2 - sz) = f2 - sz := by simp only [wrap64]; omega
                              clear v1 v2 v3 v4 v5
                              go_wp2_with fail
                              refine HSV.out.mono ?_
                              rintro e w9 ⟨rfl, own9, m9, h9⟩
                              rw [V1.out]
                              have M9 := Lib.hid (M8.out.trans m9)
                              have H9 := Lib.hid h9
                              have E9 := Lib.hid (E1.out.trans (ext_of M9.out))
                              have cq := (E9.out.cell HQ0.out).trans HCQ.out
                              have cql := Nat.lt_of_lt_of_le HQ0.out E9.out.size
                              have HLK := Lib.hid (space_look nj2 ⟨own9, w9⟩ 100 b bt (serve S8 true).2 H9.out (by omega) (by rw [HSC.out]; have := C8.out; have := HK.out; omega))
                              clear m9 h9 HSV M8 H8 L9
                              go_wp2_with fail
                              refine HLK.out.mono ?_
                              rintro e v10 ⟨v, ownv, rfl, m10, ⟨A10, c10, rfl, r10⟩, h10⟩
                              rw [V3.out]
                              clear r10
                              have hlen := V4.out
                              generalize (look (serve S8 true).2 nj2).1.2.1.length = n10 at *
                              generalize (look (serve S8 true).2 nj2).1.2.2 = at10 at *
                              have d3 : ((n10 : Int) != sz) = false := by rw [hlen]; simp
                              obtain ⟨own10, m10', g10, h10'⟩ := grant_lay [.int .i64 1, .slice A10 n10 c10, .int .i64 at10] h10
                              have M10 := Lib.hid ((M9.out.trans m10).trans (m10'.mono (fun x hx => hx.elim)))
                              have H10 := Lib.hid h10'
                              have G10 := Lib.hid g10
                              have L10 := Lib.hid V5.out
                              have C10 := Lib.hid (show (look (serve S8 true).2 nj2).2.count = S8.count + 2 by rw [HLC.out, HSC.out]; omega)
                              clear m10 m10' h10 h10' g10 HLK M9 H9 E9 cq cql hlen V5 V4 V3 HLC
                              go_wp2_with fail
                              generalize v10.heap.size = p10 at *
                              generalize v10.alloc _ = w10 at *
                              have E10 := Lib.hid (E1.out.trans (ext_of M10.out))
                              have cq := (E10.out.cell HQ0.out).trans HCQ.out
                              have cql := Nat.lt_of_lt_of_le HQ0.out E10.out.size
                              have x0 := G10.out.cell (i := 0) rfl
                              have x1 := G10.out.cell (i := 1) rfl
                              have x2 := G10.out.cell (i := 2) rfl
                              have xl := G10.out.lt
                              (try simp only [GW.to] at x0 x1 x2 xl)
                              refine wp_region_mixed [true, true, true, true, true, true, true, true, true, true, true, true, true] 0 13 (by kernel_rfl) (by kernel_rfl) (by kernel_rfl) ?_ (by decide) (by decide) (by decide) (by kernel_rfl) ?_
                              · intro c a d v w h; cases d <;> exact h
                              intro X00
                              simp only [pickOps]
                              repeat (go_big_quiet_step (fail))
                              refine wpQuiet_nil (fun X0 => ?_)
                              clear X00
                              refine wpAnyM_done (by kernel_rfl) (fun X0' => ?_) _
                              generalize hW : World.patch (World.patch w10 _) _ = w11
                              have hX : Ext w10 w11 := by rw [← hW]; exact Ext.trans ⟨_, rfl⟩ ⟨_, rfl⟩
                              clear hW
                              obtain ⟨own11, m11⟩ := Mod.ofExt hX own10
                              have M11 := Lib.hid (M10.out.trans (m11.mono (fun x hx => hx.elim)))
                              have H11 := Lib.hid (space_keep H10.out m11 (fun x hx => hx.elim))
                              clear m11 hX x0 x1 x2 xl cq cql M10 H10 G10 E10
                              go_wp2_with fail
                              go_roundw
                              case rel => exact ⟨nj2 + 1, f2 - sz, own11, _, by omega, by first | rfl | simp, by go_num, ⟨by omega, by omega⟩, M11, H11, L10, Lib.hid (by rw [C10.out]; have := C8.out; omega)⟩
                              case measure => simp [intOf]; omega
                            · have hno := serve_no L9.out (fun hj => by have := fun h => hy ⟨hj, h⟩; omega)
                              have HNO := Lib.hid hno
                              rw [hno] at HSV
                              have hwt := (reqs_ok HS3.out L9.out.line).2.2
                              have HWT := Lib.hid (show ((Ent.wait S8.line : Nat) : Int) = 3 - (nj2 : Int) by omega)
                              have hwr3 : wrap64 (3 - (nj2 : Int)) = 3 - nj2 := by simp only [wrap64]; omega
                              clear hno hwt
                              go_wp2_with fail
                              refine HSV.out.mono ?_
                              rintro e w9 ⟨rfl, own9, m9, h9⟩
                              have M9 := Lib.hid (M8.out.trans m9)
                              obtain ⟨bp, bk, bl, As, cs, cm, bs, h9⟩ := h9
                              have H9 := Lib.hid h9
                              have E9 := Lib.hid (E1.out.trans (ext_of M9.out))
                              have cql := Nat.lt_of_lt_of_le HQ0.out E9.out.size
                              have HFR := Lib.hid (show Calls Try.prog 25 #[shelves cm bp bk bl] w9 (Gives (.int .i64 f2) w9) from L9.out.fr ▸ sh_free ⟨own9, w9⟩ (100 + 1) cm bp bk bl _ H9.out.pool)
                              unfold shelves at HFR
                              clear m9 h9 HSV M8 H8
                              have z0 := H9.out.blk.cell (i := 0) rfl
                              have z1 := H9.out.blk.cell (i := 1) rfl
                              have z2 := H9.out.blk.cell (i := 2) rfl
                              have z3 := H9.out.blk.cell (i := 3) rfl
                              have z4 := H9.out.blk.cell (i := 4) rfl
                              have z5 := H9.out.blk.cell (i := 5) rfl
                              have z6 := H9.out.blk.cell (i := 6) rfl
                              have z7 := H9.out.blk.cell (i := 7) rfl
                              have z8 := H9.out.blk.cell (i := 8) rfl
                              have z9 := H9.out.blk.cell (i := 9) rfl
                              have z10 := H9.out.blk.cell (i := 10) rfl
                              have z11 := H9.out.blk.cell (i := 11) rfl
                              have z12 := H9.out.blk.cell (i := 12) rfl
                              have z13 := H9.out.blk.cell (i := 13) rfl
                              have z14 := H9.out.blk.cell (i := 14) rfl
                              have z15 := H9.out.blk.cell (i := 15) rfl
                              have zl := H9.out.blk.lt
                              (try simp only [GW.to] at z0 z1 z2 z3 z4 z5 z6 z7 z8 z9 z10 z11 z12 z13 z14 z15 zl)
                              by_cases h3 : nj2 < 3
                              · have cq := (E9.out.cell HQ0.out).trans (HC0.out nj2 h3)
                                have d1 : decide ((nj2 : Int) < 3) = true := decide_eq_true (by omega)
                                have d2 : decide (szf a b' c nj2 ≤ f2) = false := decide_eq_false (fun h => hy ⟨h3, h⟩)
                                have hj3 : (nj2 : Int) < 3 := by omega
                                generalize szf a b' c nj2 = sz at *
                                clear hy
                                go_wp2_with fail
                                refine HFR.out.mono ?_
                                rintro e w10 ⟨rfl, hX⟩
                                obtain ⟨own10, m10⟩ := Mod.ofExt (show Ext w9 w10 from hX) own9
                                have M10 := Lib.hid (M9.out.trans (m10.mono (fun x hx => hx.elim)))
                                have H10 := Lib.hid (H9.out.keep m10 (fun x hx => hx.elim))
                                clear m10 hX HFR z0 z1 z2 z3 z4 z5 z6 z7 z8 z9 z10 z11 z12 z13 z14 z15 zl
                                have z0 := H10.out.blk.cell (i := 0) rfl
                                have z1 := H10.out.blk.cell (i := 1) rfl
                                have z2 := H10.out.blk.cell (i := 2) rfl
                                have z3 := H10.out.blk.cell (i := 3) rfl
                                have z4 := H10.out.blk.cell (i := 4) rfl
                                have z5 := H10.out.blk.cell (i := 5) rfl
                                have z6 := H10.out.blk.cell (i := 6) rfl
                                have z7 := H10.out.blk.cell (i := 7) rfl
                                have z8 := H10.out.blk.cell (i := 8) rfl
                                have z9 := H10.out.blk.cell (i := 9) rfl
                                have z10 := H10.out.blk.cell (i := 10) rfl
                                have z11 := H10.out.blk.cell (i := 11) rfl
                                have z12 := H10.out.blk.cell (i := 12) rfl
                                have z13 := H10.out.blk.cell (i := 13) rfl
                                have z14 := H10.out.blk.cell (i := 14) rfl
                                have z15 := H10.out.blk.cell (i := 15) rfl
                                have zl := H10.out.blk.lt
                                (try simp only [GW.to] at z0 z1 z2 z3 z4 z5 z6 z7 z8 z9 z10 z11 z12 z13 z14 z15 zl)
                                have HWA := Lib.hid (show Calls Try.prog 66 #[shelves cm bp bk bl] w10 (Gives (.int .i64 (3 - (nj2 : Int))) w10) from HWT.out ▸ sh_waits ⟨own10, w10⟩ (100 + 3) cm bp bk bl _ H10.out.line)
                                unfold shelves at HWA
                                go_wp2_with fail
                                refine HWA.out.mono ?_
                                rintro e w11 ⟨rfl, hX⟩
                                obtain ⟨own11, m11⟩ := Mod.ofExt (show Ext w10 w11 from hX) own10
                                have M11 := Lib.hid (M10.out.trans (m11.mono (fun x hx => hx.elim)))
                                have H11 := Lib.hid (show SpaceAt ⟨own11, w11⟩ 100 b bt S8.tick from ⟨_, _, _, _, _, _, _, H10.out.keep m11 (fun x hx => hx.elim)⟩)
                                clear m11 hX HWA z0 z1 z2 z3 z4 z5 z6 z7 z8 z9 z10 z11 z12 z13 z14 z15 zl
                                go_wp2_with fail
                                go_roundw
                                case rel => exact ⟨k + 1, nj2, f2, own11, S8.tick, by omega, hnj2, rfl, rfl, by go_num, ⟨p0, p1⟩, M11, H11, Lib.hid L9.out.tick, Lib.hid (by show 0 ≤ S8.count + 1 ∧ S8.count + 1 ≤ _; have := C8.out; omega)⟩
                                case measure => simp [intOf]; omega
                              · have d1 : decide ((nj2 : Int) < 3) = false := decide_eq_false (by omega)
                                clear hy h3
                                go_wp2_with fail
                                refine HFR.out.mono ?_
                                rintro e w10 ⟨rfl, hX⟩
                                obtain ⟨own10, m10⟩ := Mod.ofExt (show Ext w9 w10 from hX) own9
                                have M10 := Lib.hid (M9.out.trans (m10.mono (fun x hx => hx.elim)))
                                have H10 := Lib.hid (H9.out.keep m10 (fun x hx => hx.elim))
                                clear m10 hX HFR z0 z1 z2 z3 z4 z5 z6 z7 z8 z9 z10 z11 z12 z13 z14 z15 zl
                                have z0 := H10.out.blk.cell (i := 0) rfl
                                have z1 := H10.out.blk.cell (i := 1) rfl
                                have z2 := H10.out.blk.cell (i := 2) rfl
                                have z3 := H10.out.blk.cell (i := 3) rfl
                                have z4 := H10.out.blk.cell (i := 4) rfl
                                have z5 := H10.out.blk.cell (i := 5) rfl
                                have z6 := H10.out.blk.cell (i := 6) rfl
                                have z7 := H10.out.blk.cell (i := 7) rfl
                                have z8 := H10.out.blk.cell (i := 8) rfl
                                have z9 := H10.out.blk.cell (i := 9) rfl
                                have z10 := H10.out.blk.cell (i := 10) rfl
                                have z11 := H10.out.blk.cell (i := 11) rfl
                                have z12 := H10.out.blk.cell (i := 12) rfl
                                have z13 := H10.out.blk.cell (i := 13) rfl
                                have z14 := H10.out.blk.cell (i := 14) rfl
                                have z15 := H10.out.blk.cell (i := 15) rfl
                                have zl := H10.out.blk.lt
                                (try simp only [GW.to] at z0 z1 z2 z3 z4 z5 z6 z7 z8 z9 z10 z11 z12 z13 z14 z15 zl)
                                have HWA := Lib.hid (show Calls Try.prog 66 #[shelves cm bp bk bl] w10 (Gives (.int .i64 (3 - (nj2 : Int))) w10) from HWT.out ▸ sh_waits ⟨own10, w10⟩ (100 + 3) cm bp bk bl _ H10.out.line)
                                unfold shelves at HWA
                                go_wp2_with fail
                                refine HWA.out.mono ?_
                                rintro e w11 ⟨rfl, hX⟩
                                obtain ⟨own11, m11⟩ := Mod.ofExt (show Ext w10 w11 from hX) own10
                                have M11 := Lib.hid (M10.out.trans (m11.mono (fun x hx => hx.elim)))
                                have H11 := Lib.hid (show SpaceAt ⟨own11, w11⟩ 100 b bt S8.tick from ⟨_, _, _, _, _, _, _, H10.out.keep m11 (fun x hx => hx.elim)⟩)
                                clear m11 hX HWA z0 z1 z2 z3 z4 z5 z6 z7 z8 z9 z10 z11 z12 z13 z14 z15 zl
                                go_wp2_with fail
                                go_roundw
                                case rel => exact ⟨k + 1, nj2, f2, own11, S8.tick, by omega, hnj2, rfl, rfl, by go_num, ⟨p0, p1⟩, M11, H11, Lib.hid L9.out.tick, Lib.hid (by show 0 ≤ S8.count + 1 ∧ S8.count + 1 ≤ _; have := C8.out; omega)⟩
                                case measure => simp [intOf]; omega
                      · obtain rfl : nj = 3 := by omega
                        rw [show ((3 : Nat) : Int) = 3 from rfl]
                        have hkd : decide ((k : Int) < n1) = true := decide_eq_true (by omega)
                        clear hn3 hnj
                        go_wp2_with fail
                        refine (HF.out _).mono ?_
                        rintro e wz ⟨rfl, hX⟩
                        have Ez := Lib.hid (E6.out.trans (show Ext _ wz from hX))
                        clear hX
                        go_wp2_with fail
                        go_ret
                        exact Gives.bool rfl Ez.out
                    · obtain rfl : k = n1 := by omega
                      clear hkn hk
                      go_wp2_with fail
                      refine (HF.out _).mono ?_
                      rintro e wz ⟨rfl, hX⟩
                      have Ez := Lib.hid (E6.out.trans (show Ext _ wz from hX))
                      clear hX
                      go_wp2_with fail
                      go_ret
                      exact Gives.bool rfl Ez.out
end Go.Proofs.Ythebmcbpmboblaa
