/-
  pool: what is free.
-/
import Derived.Test.YthdijbkcjmeilaaGreatChecked
import Derived.Test.YthdijbkcjmeilaaGreatSt
import Derived.Test.YthdijbkcjmeilaaGreatPicks
namespace Go.Proofs.YthdijbkcjmeilaaGreat
open Go Go.RowKit
set_option linter.unusedVariables false
set_option linter.unnecessarySimpa false
set_option linter.unusedSimpArgs false
set_option maxHeartbeats 2000000

structure PoolAt (g : GW) (t b : Nat) (p : PoolS) : Prop where
  ex : ∃ A c, Blk g t b 170 [.slice A p.l.length c, .int .i64 p.free] ∧ Row g t 4 1 (.slice A p.l.length c) p.l.length (p.l.map Value.bool)
  len : p.l.length ≤ 1024
theorem PoolAt.keep {S : Nat → Prop} {g g' : GW} {t b : Nat} {p : PoolS} (h : PoolAt g t b p) (d : Mod S g g') (hs : ¬ S t) : PoolAt g' t b p := by
  obtain ⟨A, c, h1, h2⟩ := h.ex
  exact ⟨⟨A, c, h1.keep d hs, h2.keep d hs⟩, h.len⟩
theorem PoolAt.pt {g : GW} {t b : Nat} {p : PoolS} (h : PoolAt g t b p) (X : Extra) : PoolAt (g.pt X) t b p := h.keep (S := fun _ => False) (Mod.pt (Mod.refl _ _) X) id

theorem pool_free (g : GW) (t b : Nat) (p : PoolS) (h : PoolAt g t b p) :
    Calls Tryz.prog 85 #[.pointer (some ⟨b, 0, none⟩)] g.w (fun e w' => e = .returned (.int .i64 p.free) ∧ g.w = w') := by
  obtain ⟨A, c, hb, hr⟩ := h.ex
  have c1 := hb.cell (i := 1) rfl
  clear hb hr h
  go_enter Tryz.func85, Tryz.ntmps85
  go_wp2_with fail
  go_ret
  exact ⟨rfl, rfl⟩

/-- The cell of a place. -/
theorem PoolAt.place {g : GW} {t b : Nat} {p : PoolS} (h : PoolAt g t b p) {k : Nat} (hk : k < p.l.length) : ∃ r c, Blk g t b 170 [.slice (some ⟨r, 0, none⟩) p.l.length c, .int .i64 p.free] ∧
    Row g t 4 1 (.slice (some ⟨r, 0, none⟩) p.l.length c) p.l.length (p.l.map Value.bool) ∧ r < g.w.heap.size ∧ g.w.cell? ⟨r, k, none⟩ = some (.bool (p.l.getD k false)) ∧ g.w.frozen? ⟨r, k, none⟩ = false ∧ b ≠ r := by
  obtain ⟨A, c, hb, hr⟩ := h.ex
  obtain ⟨r, rfl, hl, ho, hc, hf⟩ := hr.block (by omega)
  exact ⟨r, c, hb, hr, hl, hc _ _ (by simp [List.getD_eq_getElem?_getD, hk]), hf _, hr.ne_type hb (by decide) rfl⟩

/-- A place is written, and the count. -/
theorem PoolAt.stored {g : GW} {t b r c k : Nat} {x : Bool} {n : Int} {p : PoolS} (h : PoolAt g t b p) (hk : k < p.l.length) (hb : Blk g t b 170 [.slice (some ⟨r, 0, none⟩) p.l.length c, .int .i64 p.free])
    (hn : n = (PoolS.free ⟨p.l.set k x⟩ : Nat)) : PoolAt ⟨g.own, (g.w.setCell ⟨r, k, none⟩ (.bool x)).setCell ⟨b, 1, none⟩ (.int .i64 n)⟩ t b ⟨p.l.set k x⟩ := by
  obtain ⟨A', c', hb', hr⟩ := h.ex
  have e := hb'.same hb
  injection e with e _
  injection e with e1 _ e2
  subst e1 e2 hn
  have hne : r ≠ b := fun e => hr.ne_type hb' (by decide) rfl e.symm
  refine ⟨⟨some ⟨r, 0, none⟩, c', ?_, ?_⟩, by simpa using h.len⟩
  · simp only [List.length_set]
    exact (hb'.setOther k (.bool x) hne).set 1 _
  · simp only [List.length_set]
    rw [List.map_set]
    exact (hr.store k (.bool x)).setOther _ _ (fun y hy e => hne (by injection hy with hy; exact hy.trans e.symm))
theorem PoolS.free_set {l : List Bool} {k : Nat} (hk : k < l.length) (x : Bool) : ((PoolS.free ⟨l.set k x⟩ : Nat) : Int) = (PoolS.free ⟨l⟩ : Int) - (if l.getD k false then 1 else 0) + (if x then 1 else 0) := by
  unfold PoolS.free
  simp only
  rw [List.countP_set hk, List.getD_eq_getElem?_getD, List.getElem?_eq_getElem hk]
  simp only [Option.getD_some, id]
  have : l[k] = true → 0 < l.countP id := fun h => List.countP_pos_iff.2 ⟨_, List.getElem_mem hk, h⟩
  by_cases h1 : l[k] = true
  · have := this h1
    rw [if_pos h1, if_pos h1]
    split <;> omega
  · rw [if_neg h1, if_neg h1]
    split <;> omega

theorem pool_takes (g : GW) (t b k : Nat) (p : PoolS) (h : PoolAt g t b p) (hk : k < p.l.length) (hx : p.l.getD k false = true) :
    Calls Tryz.prog 179 #[.pointer (some ⟨b, 0, none⟩), .int .i64 k] g.w (Does (.tuple #[]) g (fun x => x = t) (fun g' => PoolAt g' t b ⟨p.l.set k false⟩)) := by
  obtain ⟨r, c, hb, hr, hrl, k0, kf, hne⟩ := h.place hk
  have HO := Lib.hid hb.own
  have HR := Lib.hid (hr.own r rfl)
  have H := Lib.hid (PoolAt.stored (x := false) h hk hb (n := (p.free : Int) - 1) (by rw [PoolS.free_set hk, hx]; simp))
  have hne' : r ≠ b := fun e => hne e.symm
  have c0 := hb.cell (i := 0) rfl
  have c1 := hb.cell (i := 1) rfl
  have f1 := hb.live 1
  have hbl := hb.lt
  have hlen := h.len
  have hfr : p.free ≤ 1024 := Nat.le_trans List.countP_le_length hlen
  clear hb h hr hx
  go_enter Tryz.func179, Tryz.ntmps179
  go_wp2_with fail
  refine bodyPost_end (results_none rfl _ _ _) rfl (Does.of ⟨g.own, _⟩ rfl rfl (Mod.st (Mod.st Mod.self HR.out) HO.out) H.out)

theorem pool_give (g : GW) (t b : Nat) (i : Int) (p : PoolS) (h : PoolAt g t b p) :
    Calls Tryz.prog 188 #[.pointer (some ⟨b, 0, none⟩), .int .i64 i] g.w (Does (.bool (inB i p.l.length && !p.l.getD i.toNat false)) g (fun x => x = t) (fun g' => PoolAt g' t b (p.give i))) := by
  cases hin : inB i p.l.length
  · have HT := Lib.hid (show p.give i = p by unfold PoolS.give; rw [hin]; rfl)
    obtain ⟨A, c, hb, hr⟩ := h.ex
    have H := Lib.hid h
    have c0 := hb.cell (i := 0) rfl
    have hc := inB_false hin
    clear hb hr h hin
    by_cases h0 : i < 0
    · clear hc
      go_enter Tryz.func188, Tryz.ntmps188
      go_wp2_with fail
      go_ret
      exact Does.of g rfl rfl (Mod.refl _ _) (by rw [HT.out]; exact H.out)
    · have h1 : (p.l.length : Int) ≤ i := by omega
      clear hc
      go_enter Tryz.func188, Tryz.ntmps188
      go_wp2_with fail
      go_ret
      exact Does.of g rfl rfl (Mod.refl _ _) (by rw [HT.out]; exact H.out)
  · obtain ⟨k, rfl, hk⟩ := inB_true hin
    obtain ⟨r, c, hb, hr, hrl, k0, kf, hne⟩ := h.place hk
    have HO := Lib.hid hb.own
    have HR := Lib.hid (hr.own r rfl)
    have hne' : r ≠ b := fun e => hne e.symm
    have c0 := hb.cell (i := 0) rfl
    have c1 := hb.cell (i := 1) rfl
    have f1 := hb.live 1
    have hbl := hb.lt
    have hlen := h.len
    have hfr : p.free ≤ 1024 := Nat.le_trans List.countP_le_length hlen
    have HT := Lib.hid (show p.give k = ⟨p.l.set k true⟩ by unfold PoolS.give; rw [hin, if_pos rfl, Int.toNat_natCast])
    rw [Int.toNat_natCast]
    cases hx : p.l.getD k false
    · have H := Lib.hid (PoolAt.stored (x := true) h hk hb (n := (p.free : Int) + 1) (by rw [PoolS.free_set hk, hx]; simp))
      rw [hx] at k0
      clear hb h hr hx
      go_enter Tryz.func188, Tryz.ntmps188
      go_wp2_with fail
      go_ret
      exact Does.of ⟨g.own, _⟩ rfl rfl (Mod.st (Mod.st Mod.self HR.out) HO.out) (by rw [HT.out]; exact H.out)
    · have HE := Lib.hid (show p.l.set k true = p.l from by
        apply List.ext_getElem?
        intro j
        by_cases hj : k = j
        · subst hj
          rw [List.getElem?_set_self hk, List.getElem?_eq_getElem hk]
          rw [List.getD_eq_getElem?_getD, List.getElem?_eq_getElem hk] at hx
          simpa using hx.symm
        · rw [List.getElem?_set_ne hj])
      have H := Lib.hid h
      rw [hx] at k0
      clear hb h hr hx
      go_enter Tryz.func188, Tryz.ntmps188
      go_wp2_with fail
      go_ret
      exact Does.of g rfl rfl (Mod.refl _ _) (by rw [HT.out, HE.out]; exact H.out)

theorem runGo_zero (l : List Bool) (k m : Nat) : PoolS.runGo l k 0 m = none := rfl
theorem runGo_no {l : List Bool} {k j m : Nat} (h : l.getD j false = false) : PoolS.runGo l k (j + 1) m = PoolS.runGo l k j 0 := by
  rw [PoolS.runGo, if_neg (by rw [h]; simp)]
theorem runGo_more {l : List Bool} {k j m : Nat} (h : l.getD j false = true) (hm : ¬ m + 1 = k) : PoolS.runGo l k (j + 1) m = PoolS.runGo l k j (m + 1) := by
  rw [PoolS.runGo, if_pos h, if_neg hm]
theorem runGo_here {l : List Bool} {k j m : Nat} (h : l.getD j false = true) (hm : m + 1 = k) : PoolS.runGo l k (j + 1) m = some j := by
  rw [PoolS.runGo, if_pos h, if_pos hm]
def runVal (o : Option Nat) : Value := .tuple #[.int .i64 ((o.getD 0 : Nat) : Int), .bool o.isSome]
theorem pool_run_go (g : GW) (t b k : Nat) (p : PoolS) (h : PoolAt g t b p) (hk : 1 ≤ k) (hk2 : k ≤ 1099511627776) :
    Calls Tryz.prog 174 #[.pointer (some ⟨b, 0, none⟩), .int .i64 k] g.w (fun e w' => e = .returned (runVal (PoolS.runGo p.l k p.l.length 0)) ∧ g.w = w') := by
  obtain ⟨A, c, hb, hr⟩ := h.ex
  have HC := Lib.hid (fun j (hj : j < p.l.length) => h.place hj)
  have HB := Lib.hid hb
  have c0 := hb.cell (i := 0) rfl
  have hlen := h.len
  clear hr hb h
  go_enter Tryz.func174, Tryz.ntmps174
  go_wp2_with fail
  go_loop [6, 7] (fun n i => ∃ j m : Nat, j ≤ p.l.length ∧ m < k ∧ i = .int .i64 ((j : Int) - 1) ∧ n = .int .i64 m ∧ Hid (PoolS.runGo p.l k p.l.length 0 = PoolS.runGo p.l k j m)) (fun _ i => (intOf i + 1).toNat)
  case atStart => exact ⟨p.l.length, 0, Nat.le_refl _, by omega, rfl, rfl, Lib.hid rfl⟩
  case round =>
    obtain ⟨j, m, hj, hm, rfl, rfl, HJ⟩ := hrel
    rcases j with _ | j
    · have HV := Lib.hid (HJ.out.trans (runGo_zero _ _ _))
      rw [show (((0 : Nat) : Int) - 1) = -1 by omega]
      go_wp2_with fail
      go_ret2
      exact ⟨by rw [HV.out]; try rfl, rfl⟩
    · rw [show (((j + 1 : Nat) : Int) - 1) = (j : Int) by omega]
      obtain ⟨r, c', hb', -, hrl, k0, -, -⟩ := HC.out j hj
      have e := HB.out.same hb'
      injection e with e _
      injection e with e1 _ e2
      subst e1
      cases hx : p.l.getD j false
      · rw [hx] at k0
        have HV := Lib.hid (HJ.out.trans (runGo_no hx))
        clear hx hb' e2
        go_wp2_with fail
        go_round
        case rel => exact ⟨j, 0, by omega, by omega, by go_num, rfl, HV⟩
        case measure => simp [intOf]
      · rw [hx] at k0
        clear hb' e2
        by_cases hm2 : m + 1 = k
        · have HV := Lib.hid (HJ.out.trans (runGo_here hx hm2))
          have hd : ((m : Int) + 1 == (k : Int)) = true := by simp; omega
          clear hx hm2
          go_wp2_with fail
          go_ret2
          exact ⟨by rw [HV.out]; try rfl, rfl⟩
        · have HV := Lib.hid (HJ.out.trans (runGo_more hx hm2))
          have hd : ((m : Int) + 1 == (k : Int)) = false := by simp; omega
          have hm3 : m + 1 < k := by omega
          clear hx hm2
          go_wp2_with fail
          go_round
          case rel => exact ⟨j, m + 1, by omega, by omega, by go_num, by go_num, HV⟩
          case measure => simp [intOf]
theorem pool_run (g : GW) (t b : Nat) (k : Int) (p : PoolS) (h : PoolAt g t b p) (hk2 : k ≤ 1099511627776) :
    Calls Tryz.prog 174 #[.pointer (some ⟨b, 0, none⟩), .int .i64 k] g.w (fun e w' => e = .returned (runVal (p.run k)) ∧ g.w = w') := by
  by_cases h1 : k < 1
  · have HV := Lib.hid (show p.run k = none by unfold PoolS.run; rw [if_pos h1])
    clear h
    go_enter Tryz.func174, Tryz.ntmps174
    go_wp2_with fail
    go_ret2
    exact ⟨by rw [HV.out]; try rfl, rfl⟩
  · obtain ⟨n, rfl⟩ := Int.eq_ofNat_of_zero_le (show 0 ≤ k by omega)
    rw [show p.run n = PoolS.runGo p.l n p.l.length 0 by unfold PoolS.run; rw [if_neg h1, Int.toNat_natCast]]
    exact pool_run_go g t b n p h (by omega) (by omega)
end Go.Proofs.YthdijbkcjmeilaaGreat
