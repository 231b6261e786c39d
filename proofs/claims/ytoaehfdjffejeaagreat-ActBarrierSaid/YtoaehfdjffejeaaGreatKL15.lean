import Derived.Test.YtoaehfdjffejeaaGreatKL14
import Derived.Maps.OwnSet
import Derived.Maps.OwnOps
/-
  Packed: FindO, Dist, Plan1, Plan2.
-/
open Go.Ext renaming alloc → zA, patch → zP, drew → zD, drewN → zN, more → zM, refl → zR, setCell → zS
open Nat renaming le_refl → zL, le_add_right → zK
/-
  find: Step as a plain function, where the words are as they must be.
-/
namespace Go.Proofs.YtoaehfdjffejeaaGreat
open Go Go.RowKit
set_option linter.unusedVariables false
set_option linter.unnecessarySimpa false
set_option linter.unusedSimpArgs false
set_option maxHeartbeats 1500000
set_option maxRecDepth 100000
theorem same_shapeAt {c d : Cnf} (h : c.Same d) (k : Int) : c.shapeAt k = d.shapeAt k := by
  have e : ∀ l : List Shp, ∀ n : Nat, (l[n]?).map (fun s => (s.arr, s.refs)) = (l.map Shp.data)[n]? := fun l n => by rw [List.getElem?_map]; rfl
  unfold Cnf.shapeAt
  rw [e, e, h.shapes]
theorem same_words {c d : Cnf} (h : c.Same d) : cWords c = cWords d := by
  unfold cWords
  rw [h.check, h.frags, h.spine, h.globals]
namespace FindS
def okRd (S : FindS) (m : MemS) (frag k : Int) : Bool := S.okAt frag k && inB (frag * 8 + k) m.l.length
def rdTell (S : FindS) (m : MemS) : Option (Int × Int) := if S.okRd m S.head 1 then wTell (m.peek (S.head * 8 + 1)) else none
def rdIndex (S : FindS) (m : MemS) (frag k : Int) : Option Int := if S.okRd m frag k then wIndex (m.peek (frag * 8 + k)) else none
def rdInt (S : FindS) (m : MemS) (frag k : Int) : Option Int := if S.okRd m frag k then wInt (m.peek (frag * 8 + k)) else none
def withRef (S : FindS) (r : Bool) : FindS := { S with ref := r }
def linked (S : FindS) (nx : Int) : FindS := { S with frag := nx, ahead := S.ahead - 1 }
def up (S : FindS) : FindS := { S with steps := S.steps + 1 }
abbrev R := Option (Bool × FindS × MemS)
def firstO (S : FindS) (m : MemS) (kd md : Int) (arr : Bool) (refs : List Bool) : R :=
  if arr ≠ S.array then some (true, S.ends 4, m.tick)
  else if arr = true then (if md = 0 ∧ 0 < refs.length then some (false, { S with ref := refs.getD 0 false, pc := 2 }, m.tick) else none)
  else if S.k < 0 ∨ (refs.length : Int) ≤ S.k then (if md = 1 ∨ md = 0 then some (true, S.ends 5, m.tick) else none)
  else if 40 < refs.length then none
  else if md = 1 ∨ md = 0 ∧ Shp.placeF S.k = 0 then (if 0 ≤ S.head ∧ S.head ≤ 100000 then some (true, (S.withRef (refs.getD S.k.toNat false)).stands (S.head + Shp.placeF S.k) (Shp.placeW S.k), m.tick) else none)
  else if md = 0 then some (false, { S with ref := refs.getD S.k.toNat false, ahead := Shp.placeF S.k, word := Shp.placeW S.k, pc := 1 }, m.tick)
  else none
def headO (S : FindS) (m : MemS) : R := match S.rdTell m with
  | none => none
  | some (kd, md) => match S.c.shapeAt kd with
    | none => none
    | some (arr, refs) => S.firstO m kd md arr refs
def linkO (S : FindS) (m : MemS) : R := match S.rdIndex m S.frag 0 with
  | none => none
  | some nx => if nx < S.c.frags ∧ 1 ≤ S.ahead ∧ S.ahead ≤ 1000000 then
      some (S.ahead == 1, (if S.ahead = 1 then (S.linked nx).stands nx S.word else S.linked nx), m.tick) else none
def lengthO (S : FindS) (m : MemS) : R := match S.rdInt m S.head 2 with
  | none => none
  | some i => if 0 ≤ i ∧ i ≤ 512 then (if 0 ≤ S.k ∧ S.k < i then some (false, { S with n := sData i, pc := 3 }, m.tick) else some (true, S.ends 5, m.tick)) else none
def modeO (S : FindS) (m : MemS) : R := match S.rdInt m S.head 3 with
  | none => none
  | some md => if md = 0 ∧ S.n ≤ 4 ∨ (md = 1 ∨ md = 2) ∧ 4 < S.n then some (false, { S with mode := md, pc := 4 }, m.tick) else none
def dataO (S : FindS) (m : MemS) : R :=
  if S.mode = 0 then (if 0 ≤ S.k ∧ S.k / 8 < 4 then (match S.rdIndex m S.head (4 + S.k / 8) with | none => none | some fr => some (true, S.stands fr (S.k % 8), m.tick)) else none)
  else if S.mode = 2 then (if 0 ≤ S.k ∧ S.k ≤ 1000 then (match S.rdIndex m S.head 4 with | none => none | some fr => some (true, S.stands (fr + S.k / 8) (S.k % 8), m.tick)) else none)
  else if S.mode = 1 then (match S.rdInt m S.head 4 with | none => none | some a => if 0 ≤ a ∧ a < cWords S.c ∧ a ≤ 1000000 then some (false, { S with slot := a, pc := 5 }, m.tick) else none)
  else none
def slotO (S : FindS) (m : MemS) : R :=
  if (0 ≤ S.k ∧ S.k ≤ 1000) ∧ (0 ≤ S.slot ∧ S.slot ≤ 1000000) ∧ inB (S.slot + 2 + S.k / 8) m.l.length = true then
    (match wIndex (m.peek (S.slot + 2 + S.k / 8)) with | none => none | some fr => some (true, S.stands fr (S.k % 8), m.tick)) else none
def stepO (S : FindS) (m : MemS) : R :=
  if S.pc = 6 then some (true, S, m) else if S.pc = 0 then S.up.headO m else if S.pc = 1 then S.up.linkO m else if S.pc = 2 then S.up.lengthO m
  else if S.pc = 3 then S.up.modeO m else if S.pc = 4 then S.up.dataO m else if S.pc = 5 then S.up.slotO m else none
def withC (S : FindS) (cm : Cnf) : FindS := { S with c := cm }
def mapC (cm : Cnf) (r : R) : R := r.map fun x => (x.1, x.2.1.withC cm, x.2.2)
section
variable {S : FindS} {cm : Cnf}
theorem okAt_same (h : cm.Same S.c) (frag k : Int) : (S.withC cm).okAt frag k = S.okAt frag k := by unfold okAt withC; simp only; rw [h.check, h.frags]
theorem okRd_same (h : cm.Same S.c) (m : MemS) (frag k : Int) : (S.withC cm).okRd m frag k = S.okRd m frag k := by unfold okRd; rw [okAt_same h]
theorem stands_same (h : cm.Same S.c) (frag k : Int) : (S.withC cm).stands frag k = (S.stands frag k).withC cm := by
  unfold stands; rw [okAt_same h]; split <;> rfl
theorem firstO_same (h : cm.Same S.c) (m : MemS) (kd md : Int) (arr : Bool) (refs : List Bool) : (S.withC cm).firstO m kd md arr refs = mapC cm (S.firstO m kd md arr refs) := by
  unfold firstO
  have e : ∀ (r : Bool) (a b : Int), ((S.withC cm).withRef r).stands a b = ((S.withRef r).stands a b).withC cm := fun r a b => stands_same (S := S.withRef r) h a b
  rw [show (S.withC cm).array = S.array from rfl, show (S.withC cm).k = S.k from rfl, show (S.withC cm).head = S.head from rfl, e]
  repeat (first | rfl | split)
theorem headO_same (h : cm.Same S.c) (m : MemS) : (S.withC cm).headO m = mapC cm (S.headO m) := by
  unfold headO
  have e : (S.withC cm).rdTell m = S.rdTell m := by unfold rdTell; rw [show (S.withC cm).head = S.head from rfl, okRd_same h]
  rw [e]
  cases hx : S.rdTell m with
  | none => rfl
  | some x =>
    obtain ⟨kd, md⟩ := x
    simp only
    rw [show (S.withC cm).c = cm from rfl, same_shapeAt h]
    cases hy : S.c.shapeAt kd with
    | none => rfl
    | some y =>
      obtain ⟨arr, refs⟩ := y
      exact firstO_same h m kd md arr refs
theorem rdIndex_same (h : cm.Same S.c) (m : MemS) (frag k : Int) : (S.withC cm).rdIndex m frag k = S.rdIndex m frag k := by unfold rdIndex; rw [okRd_same h]
theorem rdInt_same (h : cm.Same S.c) (m : MemS) (frag k : Int) : (S.withC cm).rdInt m frag k = S.rdInt m frag k := by unfold rdInt; rw [okRd_same h]
theorem linkO_same (h : cm.Same S.c) (m : MemS) : (S.withC cm).linkO m = mapC cm (S.linkO m) := by
  unfold linkO
  rw [show (S.withC cm).frag = S.frag from rfl, rdIndex_same h]
  cases hx : S.rdIndex m S.frag 0 with
  | none => rfl
  | some x =>
    simp only
    have e : ((S.withC cm).linked x).stands x S.word = ((S.linked x).stands x S.word).withC cm := stands_same (S := S.linked x) h _ _
    rw [show (S.withC cm).c = cm from rfl, h.frags, show (S.withC cm).ahead = S.ahead from rfl, show (S.withC cm).word = S.word from rfl, e]
    by_cases h1 : x < S.c.frags ∧ 1 ≤ S.ahead ∧ S.ahead ≤ 1000000
    · rw [if_pos h1, if_pos h1]
      by_cases h2 : S.ahead = 1
      · rw [if_pos h2, if_pos h2]; rfl
      · rw [if_neg h2, if_neg h2]; rfl
    · rw [if_neg h1, if_neg h1]; rfl
theorem lengthO_same (h : cm.Same S.c) (m : MemS) : (S.withC cm).lengthO m = mapC cm (S.lengthO m) := by
  unfold lengthO
  rw [show (S.withC cm).head = S.head from rfl, rdInt_same h]
  cases hx : S.rdInt m S.head 2 with
  | none => rfl
  | some x =>
    simp only
    rw [show (S.withC cm).k = S.k from rfl]
    repeat (first | rfl | split)
theorem modeO_same (h : cm.Same S.c) (m : MemS) : (S.withC cm).modeO m = mapC cm (S.modeO m) := by
  unfold modeO
  rw [show (S.withC cm).head = S.head from rfl, rdInt_same h]
  cases hx : S.rdInt m S.head 3 with
  | none => rfl
  | some x =>
    simp only
    rw [show (S.withC cm).n = S.n from rfl]
    repeat (first | rfl | split)
theorem dataO_same (h : cm.Same S.c) (m : MemS) : (S.withC cm).dataO m = mapC cm (S.dataO m) := by
  unfold dataO
  rw [show (S.withC cm).mode = S.mode from rfl, show (S.withC cm).k = S.k from rfl, show (S.withC cm).head = S.head from rfl, rdIndex_same h, rdIndex_same h, rdInt_same h, show (S.withC cm).c = cm from rfl, same_words h]
  by_cases h0 : S.mode = 0
  · rw [if_pos h0, if_pos h0]
    split
    · cases S.rdIndex m S.head (4 + S.k / 8) with
      | none => rfl
      | some x => simp only [stands_same h]; rfl
    · rfl
  rw [if_neg h0, if_neg h0]
  by_cases h2 : S.mode = 2
  · rw [if_pos h2, if_pos h2]
    split
    · cases S.rdIndex m S.head 4 with
      | none => rfl
      | some x => simp only [stands_same h]; rfl
    · rfl
  rw [if_neg h2, if_neg h2]
  by_cases h1 : S.mode = 1
  · rw [if_pos h1, if_pos h1]
    cases S.rdInt m S.head 4 with
    | none => rfl
    | some x =>
      simp only
      split <;> rfl
  · rw [if_neg h1, if_neg h1]; rfl
theorem slotO_same (h : cm.Same S.c) (m : MemS) : (S.withC cm).slotO m = mapC cm (S.slotO m) := by
  unfold slotO
  rw [show (S.withC cm).k = S.k from rfl, show (S.withC cm).slot = S.slot from rfl]
  split
  · cases wIndex (m.peek (S.slot + 2 + S.k / 8)) with
    | none => rfl
    | some x => simp only [stands_same h]; rfl
  · rfl
theorem stepO_same (h : cm.Same S.c) (m : MemS) : (S.withC cm).stepO m = mapC cm (S.stepO m) := by
  unfold stepO
  rw [show (S.withC cm).pc = S.pc from rfl, show (S.withC cm).up = S.up.withC cm from rfl, headO_same (S := S.up) h, linkO_same (S := S.up) h, lengthO_same (S := S.up) h, modeO_same (S := S.up) h, dataO_same (S := S.up) h, slotO_same (S := S.up) h]
  repeat (first | rfl | split)
end
end FindS
theorem has_field {refs : List Bool} {k : Nat} (hl : refs.length ≤ 40) (hk : k < refs.length) (A : Option Addr) (cap : Nat) : Shp.hasField ⟨false, A, cap, refs⟩ k = true := by
  unfold Shp.hasField Shp.may Shp.len
  simp only [Bool.not_false, Bool.and_true, Bool.and_eq_true, decide_eq_true_eq]
  exact ⟨⟨hl, fun h => by cases h⟩, by omega, by omega⟩
theorem FindS.okRd_of {S : FindS} {m : MemS} {f k : Int} (h : S.okRd m f k = true) : S.okAt f k = true ∧ inB (f * 8 + k) m.l.length = true := by
  unfold FindS.okRd at h
  exact Bool.and_eq_true_iff.1 h
theorem FindS.rdTell_of {S : FindS} {m : MemS} {kd md : Int} (h : S.rdTell m = some (kd, md)) : S.okAt S.head 1 = true ∧ inB (S.head * 8 + 1) m.l.length = true ∧ wTell (m.peek (S.head * 8 + 1)) = some (kd, md) := by
  unfold FindS.rdTell at h
  split at h
  · rename_i h1; exact ⟨(okRd_of h1).1, (okRd_of h1).2, h⟩
  · cases h
theorem FindS.rdIndex_of {S : FindS} {m : MemS} {f k i : Int} (h : S.rdIndex m f k = some i) : S.okAt f k = true ∧ inB (f * 8 + k) m.l.length = true ∧ (0 ≤ i ∧ i ≤ 1099511627776) ∧ m.peek (f * 8 + k) = (floatOfInt .f64 (i + 1), 4607182418800017408) := by
  unfold FindS.rdIndex at h
  split at h
  · rename_i h1; exact ⟨(okRd_of h1).1, (okRd_of h1).2, wIndex_some h⟩
  · cases h
theorem FindS.rdInt_of {S : FindS} {m : MemS} {f k i : Int} (h : S.rdInt m f k = some i) : S.okAt f k = true ∧ inB (f * 8 + k) m.l.length = true ∧ m.peek (f * 8 + k) = (floatOfInt .f64 i, 0) := by
  unfold FindS.rdInt at h
  split at h
  · rename_i h1; exact ⟨(okRd_of h1).1, (okRd_of h1).2, (wInt_some h).2⟩
  · cases h
section
variable {t b tm bm : Nat}
theorem find_first_o (S : FindS) (m : MemS) (kd md : Int) (arr : Bool) (refs : List Bool) (p : Nat × Nat) (x : Bool × FindS × MemS) (htl : wTell p = some (kd, md)) (hsa : S.c.shapeAt kd = some (arr, refs)) (hkb : -9223372036854775808 ≤ S.k ∧ S.k ≤ 9223372036854775807) (ho : S.firstO m kd md arr refs = some x) :
    x.2.2 = m.tick ∧ ∀ g', FindAt g' t b S → Calls Tryz.prog 175 #[.pointer (some ⟨b, 0, none⟩), .complex .f64 p.1 p.2] g'.w (Does (.bool (!x.1)) g' (fun x => x = t) (fun g'' => FindAt g'' t b x.2.1)) := by
  have htell : ∀ w, Calls Tryz.prog 173 #[.complex .f64 p.1 p.2] w (Gives (.tuple #[.int .i64 kd, .int .i64 md, .bool true]) w) := fun w => by
    have h1 := tell_any_w p w
    rw [htl] at h1
    exact h1
  unfold FindS.firstO at ho
  by_cases ha : arr ≠ S.array
  · rw [if_pos ha] at ho
    injection ho with ho
    subst ho
    exact ⟨rfl, fun g' hf => find_first_kind g' t b S _ _ kd md arr refs hf htell hsa ha⟩
  rw [if_neg ha] at ho
  have ha' : arr = S.array := by simpa using ha
  by_cases har : arr = true
  · rw [if_pos har] at ho
    by_cases h1 : md = 0 ∧ 0 < refs.length
    · rw [if_pos h1] at ho
      injection ho with ho
      subst ho
      obtain ⟨rfl, h2⟩ := h1
      rw [har] at hsa
      exact ⟨rfl, fun g' hf => find_first_array g' t b S _ _ kd refs hf htell hsa (by rw [← ha', har]) h2⟩
    · rw [if_neg h1] at ho; cases ho
  rw [if_neg har] at ho
  have haf : arr = false := by simpa using har
  rw [haf] at hsa
  by_cases h1 : S.k < 0 ∨ (refs.length : Int) ≤ S.k
  · rw [if_pos h1] at ho
    by_cases h2 : md = 1 ∨ md = 0
    · rw [if_pos h2] at ho
      injection ho with ho
      subst ho
      exact ⟨rfl, fun g' hf => find_first_index g' t b S _ _ kd md S.k refs hf htell hsa (by rw [← ha', haf]) rfl h1 hkb h2⟩
    · rw [if_neg h2] at ho; cases ho
  rw [if_neg h1] at ho
  by_cases h2 : 40 < refs.length
  · rw [if_pos h2] at ho; cases ho
  rw [if_neg h2] at ho
  obtain ⟨k, hk⟩ : ∃ k : Nat, S.k = k := ⟨S.k.toNat, by omega⟩
  have hkl : k < refs.length := by omega
  obtain ⟨c0, hd0, k0, ar0, pc0, fr0, ah0, wo0, n0, mo0, sl0, at0, re0, e0, st0⟩ := S
  simp only at hk hsa ha' ho
  subst hk
  rw [Int.toNat_natCast] at ho
  by_cases h3 : md = 1 ∨ md = 0 ∧ Shp.placeF k = 0
  · rw [if_pos h3] at ho
    by_cases h4 : 0 ≤ hd0 ∧ hd0 ≤ 100000
    · rw [if_pos h4] at ho
      injection ho with ho
      subst ho
      exact ⟨rfl, fun g' hf => find_first_here g' t b _ _ _ kd md refs k hf htell hsa (by rw [← haf, ha']) rfl hkl (has_field (by omega) hkl) h3 h4⟩
    · rw [if_neg h4] at ho; cases ho
  rw [if_neg h3] at ho
  by_cases h4 : md = 0
  · rw [if_pos h4] at ho
    injection ho with ho
    subst ho
    subst h4
    have hp : 0 < Shp.placeF k := by
      have : Shp.placeF k ≠ 0 := fun e => h3 (Or.inr ⟨rfl, e⟩)
      unfold Shp.placeF at *
      split at * <;> omega
    exact ⟨rfl, fun g' hf => find_first_far g' t b _ _ _ kd refs k hf htell hsa (by rw [← haf, ha']) rfl hkl (has_field (by omega) hkl) hp⟩
  · rw [if_neg h4] at ho; cases ho
theorem find_begins_o (g : GW) (S : FindS) (m : MemS) (x : Bool × FindS × MemS) (h : FindAt g t b S) (hm : MemAt g tm bm m) (hc : 0 ≤ m.count ∧ m.count ≤ 1099511627776) (ht : t ≠ tm) (ht1 : t + 1 ≠ tm) (hkb : -9223372036854775808 ≤ S.k ∧ S.k ≤ 9223372036854775807) (ho : S.pc = 0 ∧ S.headO m = some x ∨ S.pc = 1 ∧ S.linkO m = some x) :
    Calls Tryz.prog 143 #[.pointer (some ⟨b, 0, none⟩), .pointer (some ⟨bm, 0, none⟩)] g.w (Does (.bool x.1) g (fun x => x = t ∨ x = tm) (fun g' => FindAt g' t b x.2.1 ∧ MemAt g' tm bm x.2.2)) := by
  rcases ho with ⟨hpc, ho⟩ | ⟨hpc, ho⟩
  · unfold FindS.headO at ho
    cases ht0 : S.rdTell m with
    | none => rw [ht0] at ho; cases ho
    | some y =>
      obtain ⟨kd, md⟩ := y
      rw [ht0] at ho
      simp only at ho
      obtain ⟨ok1, in1, tl⟩ := FindS.rdTell_of ht0
      cases hsa : S.c.shapeAt kd with
      | none => rw [hsa] at ho; cases ho
      | some z =>
        obtain ⟨arr, refs⟩ := z
        rw [hsa] at ho
        simp only at ho
        obtain ⟨hx, hF⟩ := find_first_o (t := t) (b := b) S m kd md arr refs _ x tl hsa hkb ho
        have := find_begins_head g t b tm bm S x.2.1 m (!x.1) _ _ h hm hc hpc ok1 in1 (by rfl) ht ht1 hF
        rw [Bool.not_not] at this
        rw [hx]
        exact this
  · unfold FindS.linkO at ho
    cases ht0 : S.rdIndex m S.frag 0 with
    | none => rw [ht0] at ho; cases ho
    | some nx =>
      rw [ht0] at ho
      simp only at ho
      obtain ⟨ok1, in1, hb, hw⟩ := FindS.rdIndex_of ht0
      split at ho
      · rename_i h1
        injection ho with ho
        subst ho
        exact find_begins_link g t b tm bm S m nx h hm hc hpc ok1 in1 hw ht ht1 hb.1 h1.1 hb.2 h1.2
      · cases ho
theorem find_elem_o (g : GW) (S : FindS) (m : MemS) (x : Bool × FindS × MemS) (h : FindAt g t b S) (hm : MemAt g tm bm m) (hc : 0 ≤ m.count ∧ m.count ≤ 1099511627776) (ht : t ≠ tm) (ht1 : t + 1 ≠ tm) (ho : S.pc = 2 ∧ S.lengthO m = some x ∨ S.pc = 3 ∧ S.modeO m = some x ∨ S.pc = 4 ∧ S.dataO m = some x ∨ S.pc = 5 ∧ S.slotO m = some x) :
    Calls Tryz.prog 144 #[.pointer (some ⟨b, 0, none⟩), .pointer (some ⟨bm, 0, none⟩)] g.w (Does (.bool x.1) g (fun x => x = t ∨ x = tm) (fun g' => FindAt g' t b x.2.1 ∧ MemAt g' tm bm x.2.2)) := by
  rcases ho with ⟨hpc, ho⟩ | ⟨hpc, ho⟩ | ⟨hpc, ho⟩ | ⟨hpc, ho⟩
  · unfold FindS.lengthO at ho
    cases ht0 : S.rdInt m S.head 2 with
    | none => rw [ht0] at ho; cases ho
    | some i =>
      rw [ht0] at ho
      simp only at ho
      obtain ⟨ok1, in1, hw⟩ := FindS.rdInt_of ht0
      split at ho
      · rename_i h1
        split at ho
        · rename_i h2
          injection ho with ho
          subst ho
          exact find_elem_length g t b tm bm S m i h hm hc hpc ok1 in1 hw ht ht1 h1.1 h1.2 h2.1 h2.2
        · rename_i h2
          injection ho with ho
          subst ho
          exact find_elem_index g t b tm bm S m i h hm hc hpc ok1 in1 hw ht ht1 h1.1 h1.2 (by omega)
      · cases ho
  · unfold FindS.modeO at ho
    cases ht0 : S.rdInt m S.head 3 with
    | none => rw [ht0] at ho; cases ho
    | some md =>
      rw [ht0] at ho
      simp only at ho
      obtain ⟨ok1, in1, hw⟩ := FindS.rdInt_of ht0
      split at ho
      · rename_i h1
        injection ho with ho
        subst ho
        exact find_elem_mode g t b tm bm S m md h hm hc hpc ok1 in1 hw ht ht1 h1
      · cases ho
  · unfold FindS.dataO at ho
    split at ho
    · rename_i h0
      split at ho
      · rename_i h1
        cases ht0 : S.rdIndex m S.head (4 + S.k / 8) with
        | none => rw [ht0] at ho; cases ho
        | some fr =>
          rw [ht0] at ho
          injection ho with ho
          subst ho
          obtain ⟨ok1, in1, hb, hw⟩ := FindS.rdIndex_of ht0
          exact find_elem_inline g t b tm bm S m fr h hm hc hpc h0 h1.1 h1.2 ok1 in1 hw ht ht1 hb.1 hb.2
      · cases ho
    split at ho
    · rename_i h0
      split at ho
      · rename_i h1
        cases ht0 : S.rdIndex m S.head 4 with
        | none => rw [ht0] at ho; cases ho
        | some fr =>
          rw [ht0] at ho
          injection ho with ho
          subst ho
          obtain ⟨ok1, in1, hb, hw⟩ := FindS.rdIndex_of ht0
          exact find_elem_beside g t b tm bm S m fr h hm hc hpc h0 h1 ok1 in1 hw ht ht1 hb.1 hb.2
      · cases ho
    split at ho
    · rename_i h0
      cases ht0 : S.rdInt m S.head 4 with
      | none => rw [ht0] at ho; cases ho
      | some a =>
        rw [ht0] at ho
        simp only at ho
        obtain ⟨ok1, in1, hw⟩ := FindS.rdInt_of ht0
        split at ho
        · rename_i h1
          injection ho with ho
          subst ho
          exact find_elem_spine g t b tm bm S m a h hm hc hpc h0 ok1 in1 hw ht ht1 h1.1 h1.2.1 h1.2.2
        · cases ho
    · cases ho
  · unfold FindS.slotO at ho
    split at ho
    · rename_i h1
      cases ht0 : wIndex (m.peek (S.slot + 2 + S.k / 8)) with
      | none => rw [ht0] at ho; cases ho
      | some fr =>
        rw [ht0] at ho
        injection ho with ho
        subst ho
        obtain ⟨hb, hw⟩ := wIndex_some ht0
        exact find_elem_slot g t b tm bm S m fr h hm hc hpc h1.1 h1.2.1 h1.2.2 hw ht ht1 hb.1 hb.2
    · cases ho
theorem find_step_o (g : GW) (S : FindS) (m : MemS) (x : Bool × FindS × MemS) (h : FindAt g t b S) (hm : MemAt g tm bm m) (hs : 0 ≤ S.steps ∧ S.steps ≤ 1099511627776) (hc : 0 ≤ m.count ∧ m.count ≤ 1099511627776) (ht : t ≠ tm) (ht1 : t + 1 ≠ tm) (hkb : -9223372036854775808 ≤ S.k ∧ S.k ≤ 9223372036854775807) (ho : S.stepO m = some x) :
    Calls Tryz.prog 99 #[.pointer (some ⟨b, 0, none⟩), .pointer (some ⟨bm, 0, none⟩)] g.w (Does (.bool x.1) g (fun x => x = t ∨ x = tm) (fun g' => FindAt g' t b x.2.1 ∧ MemAt g' tm bm x.2.2)) := by
  have keepM : ∀ g', Mod (fun x => x = t) g g' → MemAt g' tm bm m := fun g' m => hm.keep m (fun e => ht e.symm)
  unfold FindS.stepO at ho
  split at ho
  · rename_i h6
    injection ho with ho
    subst ho
    refine (find_step_end g t b _ S h h6).mono ?_
    rintro e w' ⟨rfl, rfl⟩
    exact Does.of g rfl rfl (Mod.refl _ _) ⟨h, hm⟩
  split at ho
  · rename_i hp
    exact find_step_b g t b bm S x.1 _ _ h (Or.inl hp) hs (Or.inl rfl) (fun g' m' h' => find_begins_o g' S.up m x h' (keepM g' m') hc ht ht1 hkb (Or.inl ⟨hp, ho⟩))
  split at ho
  · rename_i hp
    exact find_step_b g t b bm S x.1 _ _ h (Or.inr hp) hs (Or.inl rfl) (fun g' m' h' => find_begins_o g' S.up m x h' (keepM g' m') hc ht ht1 hkb (Or.inr ⟨hp, ho⟩))
  split at ho
  · rename_i hp
    exact find_step_e g t b bm S x.1 _ _ h (Or.inl hp) hs (Or.inl rfl) (fun g' m' h' => find_elem_o g' S.up m x h' (keepM g' m') hc ht ht1 (Or.inl ⟨hp, ho⟩))
  split at ho
  · rename_i hp
    exact find_step_e g t b bm S x.1 _ _ h (Or.inr (Or.inl hp)) hs (Or.inl rfl) (fun g' m' h' => find_elem_o g' S.up m x h' (keepM g' m') hc ht ht1 (Or.inr (Or.inl ⟨hp, ho⟩)))
  split at ho
  · rename_i hp
    exact find_step_e g t b bm S x.1 _ _ h (Or.inr (Or.inr (Or.inl hp))) hs (Or.inl rfl) (fun g' m' h' => find_elem_o g' S.up m x h' (keepM g' m') hc ht ht1 (Or.inr (Or.inr (Or.inl ⟨hp, ho⟩))))
  split at ho
  · rename_i hp
    exact find_step_e g t b bm S x.1 _ _ h (Or.inr (Or.inr (Or.inr hp))) hs (Or.inl rfl) (fun g' m' h' => find_elem_o g' S.up m x h' (keepM g' m') hc ht ht1 (Or.inr (Or.inr (Or.inr ⟨hp, ho⟩))))
  · cases ho
end
end Go.Proofs.YtoaehfdjffejeaaGreat

/-
  How many different numbers a list has; maps in worlds that only grow. No program here.
-/
namespace Go
open Go.RowKit Go.Maps

theorem getD_mem {l : List Int} {k : Nat} (h : k < l.length) : l.getD k 0 ∈ l := by
  rw [List.getD_eq_getElem?_getD, List.getElem?_eq_getElem h]
  exact List.getElem_mem h
theorem getD_take {l : List Int} {k : Nat} (h : k < l.length) : l.take (k + 1) = l.take k ++ [l.getD k 0] := by
  rw [List.take_add_one, List.getElem?_eq_getElem h, List.getD_eq_getElem?_getD, List.getElem?_eq_getElem h]
  rfl

def keyI (x : Int) : Lit := .int .i64 x
theorem keyI_key (l : List Int) : ∀ x ∈ l.map keyI, WideAt.IsKeyLit x := by
  intro x hx
  obtain ⟨y, _, rfl⟩ := List.mem_map.1 hx
  trivial
theorem keyI_same (x y : Int) : (keyI x).sameKey (keyI y) = decide (x = y) := by
  simp [keyI, Lit.sameKey]
def addI (acc : List Int) (x : Int) : List Int := if x ∈ acc then acc else acc ++ [x]
theorem fold_addKey : ∀ (l acc : List Int), (l.map keyI).foldl addKey (acc.map keyI) = (l.foldl addI acc).map keyI
  | [], _ => rfl
  | x :: l, acc => by
    simp only [List.map_cons, List.foldl_cons]
    have h : addKey (acc.map keyI) (keyI x) = (addI acc x).map keyI := by
      unfold addKey addI
      have e : ((acc.map keyI).any fun y => y.sameKey (keyI x)) = decide (x ∈ acc) := by
        rw [Bool.eq_iff_iff]
        simp only [List.any_map, List.any_eq_true, Function.comp, keyI_same, decide_eq_true_eq]
        exact ⟨fun ⟨y, hy, e⟩ => e ▸ hy, fun hx => ⟨x, hx, rfl⟩⟩
      rw [e]
      by_cases hx : x ∈ acc <;> simp [hx]
    rw [h, fold_addKey l]
theorem fold_addI_le : ∀ (l acc : List Int), (l.foldl addI acc).length ≤ acc.length + l.length
  | [], _ => by simp
  | x :: l, acc => by
    have := fold_addI_le l (addI acc x)
    have h2 : (addI acc x).length ≤ acc.length + 1 := by unfold addI; split <;> simp
    simp only [List.foldl_cons, List.length_cons]
    omega
theorem fold_addI_eq : ∀ (l acc : List Int), acc.Nodup → ((l.foldl addI acc).length = acc.length + l.length ↔ (acc ++ l).Nodup)
  | [], acc, h => by simp [h]
  | x :: l, acc, h => by
    simp only [List.foldl_cons, List.length_cons]
    by_cases hx : x ∈ acc
    · have := fold_addI_le l acc
      have e : addI acc x = acc := by simp [addI, hx]
      rw [e]
      constructor
      · intro h'; omega
      · intro h'
        rw [List.nodup_append] at h'
        exact absurd rfl (h'.2.2 x hx x (by simp))
    · have e : addI acc x = acc ++ [x] := by simp [addI, hx]
      rw [e]
      have hn : (acc ++ [x]).Nodup := by
        rw [List.nodup_append]
        refine ⟨h, by simp, fun a ha b hb => ?_⟩
        simp at hb
        subst hb
        rintro rfl
        exact hx ha
      have := fold_addI_eq l (acc ++ [x]) hn
      simp only [List.length_append, List.length_cons, List.length_nil] at this
      rw [show acc.length + (l.length + 1) = acc.length + (0 + 1) + l.length by omega, this, List.append_assoc]
      rfl
def twiceIn (l : List Int) : Bool := decide (¬ l.Nodup)
theorem size_ints (u : DataW Unit) (l : List Int) : decide (Maps.size (setOf u (l.map keyI)) < l.length) = twiceIn l := by
  rw [size_setOf u _ (keyI_key l)]
  have h := fold_addKey l []
  simp only [List.map_nil] at h
  rw [h, List.length_map, twiceIn]
  have h1 := fold_addI_le l []
  have h2 := fold_addI_eq l [] List.nodup_nil
  simp only [List.length_nil, Nat.zero_add, List.nil_append] at h1 h2
  rw [decide_eq_decide, ← h2]
  omega

theorem map_ext {H : Type} {w w' : World} {P : Program} {k : TypeId} {R : Value → Option (DataW H × List MemPlace)} {b n : Nat} {D : DataW H} (h : w.ownsMap P k R b n D) (he : Ext w w') : w'.ownsMap P k R b n D := by
  obtain ⟨es, clock, hb, rest⟩ := h
  exact ⟨es, clock, (he.heap b (Array.getElem?_eq_some_iff.1 hb).1).trans hb, rest⟩
end Go

/-
  spolaw4.Few, plan.frags.
-/
namespace Go.Proofs.YtoaehfdjffejeaaGreat
open Go Go.RowKit Go.Maps

def fewTo (l : List Shp) (k : Nat) : Bool := (l.take k).all fun s => decide (s.refs.length ≤ 1000)
def Few (c : Cnf) : Bool := fewTo c.shapes 100 && decide (c.shapes.length ≤ 100)
def fragOk (c : Cnf) (i : Int) : Bool := decide (c.check = 0 ∧ 0 ≤ i ∧ i < c.frags)
def wFrags (c : Cnf) (got : List Int) : Value := if got.all (fragOk c) then .tuple #[.bool false, .bool (twiceIn got)] else .tuple #[.bool true, .bool false]
theorem lawInt : Keyed Tryz.prog 3 := int_keyed Tryz.underlying3

set_option maxHeartbeats 1000000 in
theorem frags_any (c : Cnf) (A : Option Addr) (cap : Nat) (got : List Int) (w : World) (hc : c.Ok w) (hg : CellsAt w A (got.map (Value.int .i64))) (hl : got.length ≤ 140737488355328) (hw : ∀ x ∈ got, -9223372036854775808 ≤ x ∧ x ≤ 9223372036854775807) :
    Calls Tryz.prog 182 #[c.val, .slice A got.length cap] w (Gives (wFrags c got) w) := by
  have hmm := @run_makeMap Tryz.prog
  have HC := Lib.hid (fun i w' (he : Ext w w') => frag_any c i 0 w' (hc.ext he))
  unfold Cnf.val at HC ⊢
  go_enter Tryz.func182, Tryz.ntmps182
  go_wp2_with fail
  go_loopw [14] (fun i wr => ∃ k : Nat, k ≤ got.length ∧ i = .int .i64 k ∧ (got.take k).all (fragOk c) = true ∧ wr.ownsMap Tryz.prog 3 (plainElem (H := Unit) Tryz.prog 4) (w.heap.size + 1) k (setOf (.lit (.bool true)) ((got.take k).map keyI)) ∧ Ext (w.alloc (.cells #[.int .i64 c.frags, .int .i64 c.spine, .int .i64 c.globals, .int .i64 c.threads, .int .i64 c.locals, .int .i64 c.cache, .int .i64 c.stack, .int .i64 c.low, .slice c.A c.shapes.length c.cap] 46)) wr) (fun i _ => got.length - (intOf i).toNat)
  case atStart => exact ⟨0, Nat.zero_le _, rfl, rfl, by have := World.ownsMap_made (H := Unit) (w.alloc (.cells #[.int .i64 c.frags, .int .i64 c.spine, .int .i64 c.globals, .int .i64 c.threads, .int .i64 c.locals, .int .i64 c.cache, .int .i64 c.stack, .int .i64 c.low, .slice c.A c.shapes.length c.cap] 46)) Tryz.prog 3 (plainElem (H := Unit) Tryz.prog 4); simpa [setOf] using this, by (repeat (first | (with_reducible (first | assumption | exact zR _ | exact zM _ _ _ _)) | apply zA | refine zS ?_ (by first | exact zL _ | exact zK _ _ | assumption) _ | apply zP | apply zD | apply zN))⟩
  case round =>
    obtain ⟨k, hk, rfl, hs, hown, X, rfl⟩ := hrel
    have HS := Lib.hid hs
    have HO := Lib.hid hown
    clear hs hown hmm
    by_cases hlt : k < got.length
    · obtain ⟨b, o, hA, hb, hcell⟩ := ints_at hg hlt
      rw [hA]
      have g0 := hcell k hlt
      have hwx := hw _ (getD_mem hlt)
      have HT := Lib.hid (getD_take hlt)
      have HN := Lib.hid (show fragOk c (got.getD k 0) = false → got.all (fragOk c) = false from fun h => List.all_eq_false.2 ⟨got.getD k 0, getD_mem hlt, by rw [h]; decide⟩)
      generalize got.getD k 0 = x at *
      clear hA hg hcell hw
      cases hx : fragOk c x
      · have HX := Lib.hid (show cFrag c x 0 = .tuple #[.int .i64 0, .int .i64 1] from if_neg (fun h => of_decide_eq_false hx ⟨h.1, h.2.1, h.2.2.1⟩))
        have HF := Lib.hid (HN.out hx)
        clear hx
        go_wp2_with (go_at_call 146; refine (HC.out _ _ (by (repeat (first | (with_reducible (first | assumption | exact zR _ | exact zM _ _ _ _)) | apply zA | refine zS ?_ (by first | exact zL _ | exact zK _ _ | assumption) _ | apply zP | apply zD | apply zN)))).mono ?_; rw [HX.out]; rintro e w1 ⟨rfl, X1, rfl⟩)
        go_ret2
        unfold wFrags
        rw [HF.out]
        exact Gives.mk rfl (by (repeat (first | (with_reducible (first | assumption | exact zR _ | exact zM _ _ _ _)) | apply zA | refine zS ?_ (by first | exact zL _ | exact zK _ _ | assumption) _ | apply zP | apply zD | apply zN)))
      · have hx' : c.check = 0 ∧ 0 ≤ x ∧ x < c.frags := by simpa [fragOk] using hx
        have HX := Lib.hid (show cFrag c x 0 = .tuple #[.int .i64 (x * 8 + 0), .int .i64 0] by unfold cFrag; rw [if_pos ⟨hx'.1, hx'.2.1, hx'.2.2, by omega, by omega⟩])
        have HY := Lib.hid (show (got.take (k + 1)).all (fragOk c) = true by rw [HT.out, List.all_append, HS.out]; simp [hx])
        clear hx hx'
        obtain ⟨hw1, hw2⟩ := hwx
        go_wp2_with (first
          | (go_at_call 146; refine (HC.out _ _ (by (repeat (first | (with_reducible (first | assumption | exact zR _ | exact zM _ _ _ _)) | apply zA | refine zS ?_ (by first | exact zL _ | exact zK _ _ | assumption) _ | apply zP | apply zD | apply zN)))).mono ?_; rw [HX.out]; rintro e w1 ⟨rfl, X1, rfl⟩)
          | (at_mapUpdate; refine wpList_mapUpdate_own _ rfl _ _ _ 259 rfl 3 4 lawInt Tryz.underlying259 _ (w.heap.size + 1) k _ rfl (map_ext HO.out (by (repeat (first | (with_reducible (first | assumption | exact zR _ | exact zM _ _ _ _)) | apply zA | refine zS ?_ (by first | exact zL _ | exact zK _ _ | assumption) _ | apply zP | apply zD | apply zN)))) (by unfold maxLen; omega) _ _ (keyI x) rfl rfl (keyOf_int_mk Tryz.underlying3 (WalkArith.wf_i64 (by omega))) _ [] (plainElem_bool Tryz.underlying4 true) ?_; intro w1 hown1 hgrow1))
        have HR := Lib.hid (ext_grown (w := w.alloc (.cells #[.int .i64 c.frags, .int .i64 c.spine, .int .i64 c.globals, .int .i64 c.threads, .int .i64 c.locals, .int .i64 c.cache, .int .i64 c.stack, .int .i64 c.low, .slice c.A c.shapes.length c.cap] 46)) (by (repeat (first | (with_reducible (first | assumption | exact zR _ | exact zM _ _ _ _)) | apply zA | refine zS ?_ (by first | exact zL _ | exact zK _ _ | assumption) _ | apply zP | apply zD | apply zN))) hgrow1 (fun j hj => by cases hj; simp))
        go_roundw
        case rel => exact ⟨k + 1, by omega, by go_num, HY.out, by rw [HT.out, List.map_append, List.map_cons, List.map_nil, setOf_snoc]; exact hown1, HR.out⟩
        case measure => simp [intOf]; omega
    · obtain rfl : k = got.length := by omega
      rw [List.take_of_length_le (Nat.le_refl _)] at HS HO
      go_wp2_with (at_len; refine wpList_len_own _ rfl _ 259 rfl 3 4 Tryz.underlying259 _ (w.heap.size + 1) got.length _ rfl HO.out ?_)
      go_ret2
      unfold wFrags
      rw [HS.out]
      exact Gives.bb rfl (by rw [← size_ints (.lit (.bool true))]) (by (repeat (first | (with_reducible (first | assumption | exact zR _ | exact zM _ _ _ _)) | apply zA | refine zS ?_ (by first | exact zL _ | exact zK _ _ | assumption) _ | apply zP | apply zD | apply zN)))
end Go.Proofs.YtoaehfdjffejeaaGreat

/-
  plan.wrong.
-/
namespace Go.Proofs.YtoaehfdjffejeaaGreat
open Go Go.RowKit Go.Maps

theorem wFrags_eq (c : Cnf) (got : List Int) : wFrags c got = .tuple #[.bool (!got.all (fragOk c)), .bool (got.all (fragOk c) && twiceIn got)] := by
  unfold wFrags
  cases got.all (fragOk c) <;> rfl
def wrongE (c : Cnf) (is : Bool) (s : Shp) (n : Int) (array : Bool) (got : List Int) : Int :=
  if c.check ≠ 0 ∨ got.all (fragOk c) = false then 1
  else if is = false ∨ s.arr ≠ array then 4
  else if s.size n < 0 then 5
  else if (got.length : Int) ≠ s.size n ∨ twiceIn got = true then 2 else 0
def WrongGot (c : Cnf) (kind n : Int) (array : Bool) (got : List Int) (w : World) (e : Ending) (w' : World) : Prop :=
  ∃ s' : Shp, e = .returned (.tuple #[s'.val, .int .i64 (wrongE c (c.shapeAt kind).isSome s' n array got)]) ∧ (s'.arr, s'.refs) = (c.shapeAt kind).getD (false, []) ∧ s'.Ok w' ∧ Ext w w'

set_option maxHeartbeats 4000000 in
theorem wrong_any (c : Cnf) (kind n : Int) (array : Bool) (A : Option Addr) (cap : Nat) (got : List Int) (w : World) (hc : c.Ok w) (hg : CellsAt w A (got.map (Value.int .i64))) (hl : got.length ≤ 140737488355328) (hw : ∀ x ∈ got, -9223372036854775808 ≤ x ∧ x ≤ 9223372036854775807) :
    Calls Tryz.prog 150 #[c.val, .int .i64 kind, .int .i64 n, .bool array, .slice A got.length cap] w (WrongGot c kind n array got w) := by
  have HF := Lib.hid (fun w' (he : Ext w w') => wFrags_eq c got ▸ frags_any c A cap got w' (hc.ext he) (hg.ext he) hl hw)
  have HS := Lib.hid (fun w' (he : Ext w w') => shape_any c kind w' (hc.ext he))
  have HC := Lib.hid (fun w' (he : Ext w w') => check_any c w' (hc.ext he))
  unfold Cnf.val at HF HS HC ⊢
  generalize hA : got.all (fragOk c) = al at HF
  generalize hT : twiceIn got = tw at HF
  have HA := Lib.hid hA
  have HT := Lib.hid hT
  clear hA hT
  go_enter Tryz.func150, Tryz.ntmps150
  go_wp2_with fail
  refine wp_scope_fwd 0 rfl ?_
  go_wp2_with fail
  refine (HF.out _ (by (repeat (first | (with_reducible (first | assumption | exact zR _ | exact zM _ _ _ _)) | apply zA | refine zS ?_ (by first | exact zL _ | exact zK _ _ | assumption) _ | apply zP | apply zD | apply zN)))).mono ?_
  rintro e w1 ⟨rfl, X1, rfl⟩
  go_wp2_with fail
  refine (HS.out _ (by (repeat (first | (with_reducible (first | assumption | exact zR _ | exact zM _ _ _ _)) | apply zA | refine zS ?_ (by first | exact zL _ | exact zK _ _ | assumption) _ | apply zP | apply zD | apply zN)))).mono ?_
  rintro e w1 ⟨s', rfl, hs', hfr, hok, X2, rfl⟩
  obtain ⟨arr, A', cap', refs⟩ := s'
  unfold Shp.val
  rw [World.patch_patch] at hok
  have HX := Lib.hid hs'
  have HF' := Lib.hid (show ∀ a, A' = some a → w.heap.size + 1 ≠ a.block from fun a ha e => by
    have := hfr a ha
    simp only [World.size_patch, World.size_alloc] at this
    omega)
  clear hfr
  have HO := Lib.hid hok
  generalize hI : (c.shapeAt kind).isSome = is
  have HI := Lib.hid hI
  clear hs' hok hI
  go_wp2_with fail
  refine (HC.out _ (by (repeat (first | (with_reducible (first | assumption | exact zR _ | exact zM _ _ _ _)) | apply zA | refine zS ?_ (by first | exact zL _ | exact zK _ _ | assumption) _ | apply zP | apply zD | apply zN)))).mono ?_
  rintro e w1 ⟨rfl, X3, rfl⟩
  generalize hK : c.check = ck
  have HK := Lib.hid hK
  clear hK
  have HZ := Lib.hid (fun w' (he : Ext ((w.alloc (.cells #[.int .i64 c.frags, .int .i64 c.spine, .int .i64 c.globals, .int .i64 c.threads, .int .i64 c.locals, .int .i64 c.cache, .int .i64 c.stack, .int .i64 c.low, .slice c.A c.shapes.length c.cap] 46)).alloc (.cells #[.bool false, .slice none 0 0] 73) |>.patch ⟨X1.blocks ++ X2.blocks, X2.drawn⟩) w') => size_any ⟨arr, A', cap', refs⟩ n w' (HO.out.ext he))
  unfold Shp.val at HZ
  simp only at HZ
  cases al
  · have HE := Lib.hid (show wrongE c is ⟨arr, A', cap', refs⟩ n array got = 1 from if_pos (Or.inr HA.out))
    go_wp2_with fail
    all_goals
      go_step3
      refine ⟨rfl, ?_⟩
      go_wp2_with fail
      rw [Exit.noGoto_ret]
      refine bodyPost_ret (v := .tuple #[.agg #[.bool arr, .slice A' refs.length cap'], .int .i64 1]) (by simp [results, Tryz.results150, go_sem]) rfl ?_
      exact ⟨⟨arr, A', cap', refs⟩, by rw [HI.out, HE.out]; rfl, HX.out, ((HO.out.ext (by (repeat (first | (with_reducible (first | assumption | exact zR _ | exact zM _ _ _ _)) | apply zA | refine zS ?_ (by first | exact zL _ | exact zK _ _ | assumption) _ | apply zP | apply zD | apply zN)))).setCell HF'.out).setCell HF'.out, by (repeat (first | (with_reducible (first | assumption | exact zR _ | exact zM _ _ _ _)) | apply zA | refine zS ?_ (by first | exact zL _ | exact zK _ _ | assumption) _ | apply zP | apply zD | apply zN))⟩
  by_cases h0 : ck ≠ 0
  · have HE := Lib.hid (show wrongE c is ⟨arr, A', cap', refs⟩ n array got = 1 from if_pos (Or.inl (by rw [HK.out]; exact h0)))
    go_wp2_with fail
    go_step3
    refine ⟨rfl, ?_⟩
    go_wp2_with fail
    rw [Exit.noGoto_ret]
    refine bodyPost_ret (v := .tuple #[.agg #[.bool arr, .slice A' refs.length cap'], .int .i64 1]) (by simp [results, Tryz.results150, go_sem]) rfl ?_
    exact ⟨⟨arr, A', cap', refs⟩, by rw [HI.out, HE.out]; rfl, HX.out, ((HO.out.ext (by (repeat (first | (with_reducible (first | assumption | exact zR _ | exact zM _ _ _ _)) | apply zA | refine zS ?_ (by first | exact zL _ | exact zK _ _ | assumption) _ | apply zP | apply zD | apply zN)))).setCell HF'.out).setCell HF'.out, by (repeat (first | (with_reducible (first | assumption | exact zR _ | exact zM _ _ _ _)) | apply zA | refine zS ?_ (by first | exact zL _ | exact zK _ _ | assumption) _ | apply zP | apply zD | apply zN))⟩
  obtain rfl : ck = 0 := by omega
  have HN := Lib.hid (show ¬ (c.check ≠ 0 ∨ got.all (fragOk c) = false) by rw [HK.out, HA.out]; simp)
  clear h0
  by_cases hq : is = false ∨ arr ≠ array
  · have HE := Lib.hid (show wrongE c is ⟨arr, A', cap', refs⟩ n array got = 4 from (if_neg HN.out).trans (if_pos hq))
    cases is
    · clear hq
      go_wp2_with fail
      go_step3
      refine ⟨rfl, ?_⟩
      go_wp2_with fail
      rw [Exit.noGoto_ret]
      refine bodyPost_ret (v := .tuple #[.agg #[.bool arr, .slice A' refs.length cap'], .int .i64 4]) (by simp [results, Tryz.results150, go_sem]) rfl ?_
      exact ⟨⟨arr, A', cap', refs⟩, by rw [HI.out, HE.out]; rfl, HX.out, ((HO.out.ext (by (repeat (first | (with_reducible (first | assumption | exact zR _ | exact zM _ _ _ _)) | apply zA | refine zS ?_ (by first | exact zL _ | exact zK _ _ | assumption) _ | apply zP | apply zD | apply zN)))).setCell HF'.out).setCell HF'.out, by (repeat (first | (with_reducible (first | assumption | exact zR _ | exact zM _ _ _ _)) | apply zA | refine zS ?_ (by first | exact zL _ | exact zK _ _ | assumption) _ | apply zP | apply zD | apply zN))⟩
    · rcases (show (arr = true ∧ array = false) ∨ (arr = false ∧ array = true) by cases arr <;> cases array <;> simp_all) with ⟨rfl, rfl⟩ | ⟨rfl, rfl⟩
      · clear hq
        go_wp2_with fail
        go_step3
        refine ⟨rfl, ?_⟩
        go_wp2_with fail
        rw [Exit.noGoto_ret]
        refine bodyPost_ret (v := .tuple #[.agg #[.bool true, .slice A' refs.length cap'], .int .i64 4]) (by simp [results, Tryz.results150, go_sem]) rfl ?_
        exact ⟨⟨true, A', cap', refs⟩, by rw [HI.out, HE.out]; rfl, HX.out, ((HO.out.ext (by (repeat (first | (with_reducible (first | assumption | exact zR _ | exact zM _ _ _ _)) | apply zA | refine zS ?_ (by first | exact zL _ | exact zK _ _ | assumption) _ | apply zP | apply zD | apply zN)))).setCell HF'.out).setCell HF'.out, by (repeat (first | (with_reducible (first | assumption | exact zR _ | exact zM _ _ _ _)) | apply zA | refine zS ?_ (by first | exact zL _ | exact zK _ _ | assumption) _ | apply zP | apply zD | apply zN))⟩
      · clear hq
        go_wp2_with fail
        go_step3
        refine ⟨rfl, ?_⟩
        go_wp2_with fail
        rw [Exit.noGoto_ret]
        refine bodyPost_ret (v := .tuple #[.agg #[.bool false, .slice A' refs.length cap'], .int .i64 4]) (by simp [results, Tryz.results150, go_sem]) rfl ?_
        exact ⟨⟨false, A', cap', refs⟩, by rw [HI.out, HE.out]; rfl, HX.out, ((HO.out.ext (by (repeat (first | (with_reducible (first | assumption | exact zR _ | exact zM _ _ _ _)) | apply zA | refine zS ?_ (by first | exact zL _ | exact zK _ _ | assumption) _ | apply zP | apply zD | apply zN)))).setCell HF'.out).setCell HF'.out, by (repeat (first | (with_reducible (first | assumption | exact zR _ | exact zM _ _ _ _)) | apply zA | refine zS ?_ (by first | exact zL _ | exact zK _ _ | assumption) _ | apply zP | apply zD | apply zN))⟩
  obtain ⟨rfl, rfl⟩ : is = true ∧ array = arr := by
    constructor
    · cases is
      · exact absurd (Or.inl rfl) hq
      · rfl
    · cases arr <;> cases array <;> simp_all
  have HN2 := Lib.hid hq
  clear hq
  generalize hS : Shp.size ⟨array, A', cap', refs⟩ n = sz at HZ
  have HS' := Lib.hid hS
  clear hS
  by_cases h5 : sz < 0
  · have HE := Lib.hid (show wrongE c true ⟨array, A', cap', refs⟩ n array got = 5 from (if_neg HN.out).trans ((if_neg HN2.out).trans (if_pos (by rw [HS'.out]; exact h5))))
    cases array
    · go_wp2_with fail
      refine (HZ.out _ (by (repeat (first | (with_reducible (first | assumption | exact zR _ | exact zM _ _ _ _)) | apply zA | refine zS ?_ (by first | exact zL _ | exact zK _ _ | assumption) _ | apply zP | apply zD | apply zN)))).mono ?_
      rintro e w1 ⟨rfl, X4, rfl⟩
      go_wp2_with fail
      go_step3
      refine ⟨rfl, ?_⟩
      go_wp2_with fail
      rw [Exit.noGoto_ret]
      refine bodyPost_ret (v := .tuple #[.agg #[.bool false, .slice A' refs.length cap'], .int .i64 5]) (by simp [results, Tryz.results150, go_sem]) rfl ?_
      exact ⟨⟨false, A', cap', refs⟩, by rw [HI.out, HE.out]; rfl, HX.out, ((HO.out.ext (by (repeat (first | (with_reducible (first | assumption | exact zR _ | exact zM _ _ _ _)) | apply zA | refine zS ?_ (by first | exact zL _ | exact zK _ _ | assumption) _ | apply zP | apply zD | apply zN)))).setCell HF'.out).setCell HF'.out, by (repeat (first | (with_reducible (first | assumption | exact zR _ | exact zM _ _ _ _)) | apply zA | refine zS ?_ (by first | exact zL _ | exact zK _ _ | assumption) _ | apply zP | apply zD | apply zN))⟩
    · go_wp2_with fail
      refine (HZ.out _ (by (repeat (first | (with_reducible (first | assumption | exact zR _ | exact zM _ _ _ _)) | apply zA | refine zS ?_ (by first | exact zL _ | exact zK _ _ | assumption) _ | apply zP | apply zD | apply zN)))).mono ?_
      rintro e w1 ⟨rfl, X4, rfl⟩
      go_wp2_with fail
      go_step3
      refine ⟨rfl, ?_⟩
      go_wp2_with fail
      rw [Exit.noGoto_ret]
      refine bodyPost_ret (v := .tuple #[.agg #[.bool true, .slice A' refs.length cap'], .int .i64 5]) (by simp [results, Tryz.results150, go_sem]) rfl ?_
      exact ⟨⟨true, A', cap', refs⟩, by rw [HI.out, HE.out]; rfl, HX.out, ((HO.out.ext (by (repeat (first | (with_reducible (first | assumption | exact zR _ | exact zM _ _ _ _)) | apply zA | refine zS ?_ (by first | exact zL _ | exact zK _ _ | assumption) _ | apply zP | apply zD | apply zN)))).setCell HF'.out).setCell HF'.out, by (repeat (first | (with_reducible (first | assumption | exact zR _ | exact zM _ _ _ _)) | apply zA | refine zS ?_ (by first | exact zL _ | exact zK _ _ | assumption) _ | apply zP | apply zD | apply zN))⟩
  by_cases h6 : (got.length : Int) = sz
  · subst h6
    clear h5
    cases tw
    · have HE := Lib.hid (show wrongE c true ⟨array, A', cap', refs⟩ n array got = 0 from (if_neg HN.out).trans ((if_neg HN2.out).trans ((if_neg (by rw [HS'.out]; omega)).trans (if_neg (by rw [HS'.out, HT.out]; simp)))))
      cases array
      · go_wp2_with fail
        refine (HZ.out _ (by (repeat (first | (with_reducible (first | assumption | exact zR _ | exact zM _ _ _ _)) | apply zA | refine zS ?_ (by first | exact zL _ | exact zK _ _ | assumption) _ | apply zP | apply zD | apply zN)))).mono ?_
        rintro e w1 ⟨rfl, X4, rfl⟩
        go_wp2_with fail
        refine (HZ.out _ (by (repeat (first | (with_reducible (first | assumption | exact zR _ | exact zM _ _ _ _)) | apply zA | refine zS ?_ (by first | exact zL _ | exact zK _ _ | assumption) _ | apply zP | apply zD | apply zN)))).mono ?_
        rintro e w1 ⟨rfl, X5, rfl⟩
        go_wp2_with fail
        go_step3
        go_wp2_with fail
        rw [Exit.jump_ret]
        refine bodyPost_ret (v := .tuple #[.agg #[.bool false, .slice A' refs.length cap'], .int .i64 0]) (by simp [results, Tryz.results150, go_sem]) rfl ?_
        exact ⟨⟨false, A', cap', refs⟩, by rw [HI.out, HE.out]; rfl, HX.out, ((HO.out.ext (by (repeat (first | (with_reducible (first | assumption | exact zR _ | exact zM _ _ _ _)) | apply zA | refine zS ?_ (by first | exact zL _ | exact zK _ _ | assumption) _ | apply zP | apply zD | apply zN)))).setCell HF'.out).setCell HF'.out, by (repeat (first | (with_reducible (first | assumption | exact zR _ | exact zM _ _ _ _)) | apply zA | refine zS ?_ (by first | exact zL _ | exact zK _ _ | assumption) _ | apply zP | apply zD | apply zN))⟩
      · go_wp2_with fail
        refine (HZ.out _ (by (repeat (first | (with_reducible (first | assumption | exact zR _ | exact zM _ _ _ _)) | apply zA | refine zS ?_ (by first | exact zL _ | exact zK _ _ | assumption) _ | apply zP | apply zD | apply zN)))).mono ?_
        rintro e w1 ⟨rfl, X4, rfl⟩
        go_wp2_with fail
        refine (HZ.out _ (by (repeat (first | (with_reducible (first | assumption | exact zR _ | exact zM _ _ _ _)) | apply zA | refine zS ?_ (by first | exact zL _ | exact zK _ _ | assumption) _ | apply zP | apply zD | apply zN)))).mono ?_
        rintro e w1 ⟨rfl, X5, rfl⟩
        go_wp2_with fail
        go_step3
        go_wp2_with fail
        rw [Exit.jump_ret]
        refine bodyPost_ret (v := .tuple #[.agg #[.bool true, .slice A' refs.length cap'], .int .i64 0]) (by simp [results, Tryz.results150, go_sem]) rfl ?_
        exact ⟨⟨true, A', cap', refs⟩, by rw [HI.out, HE.out]; rfl, HX.out, ((HO.out.ext (by (repeat (first | (with_reducible (first | assumption | exact zR _ | exact zM _ _ _ _)) | apply zA | refine zS ?_ (by first | exact zL _ | exact zK _ _ | assumption) _ | apply zP | apply zD | apply zN)))).setCell HF'.out).setCell HF'.out, by (repeat (first | (with_reducible (first | assumption | exact zR _ | exact zM _ _ _ _)) | apply zA | refine zS ?_ (by first | exact zL _ | exact zK _ _ | assumption) _ | apply zP | apply zD | apply zN))⟩
    · have HE := Lib.hid (show wrongE c true ⟨array, A', cap', refs⟩ n array got = 2 from (if_neg HN.out).trans ((if_neg HN2.out).trans ((if_neg (by rw [HS'.out]; omega)).trans (if_pos (Or.inr HT.out)))))
      cases array
      · go_wp2_with fail
        refine (HZ.out _ (by (repeat (first | (with_reducible (first | assumption | exact zR _ | exact zM _ _ _ _)) | apply zA | refine zS ?_ (by first | exact zL _ | exact zK _ _ | assumption) _ | apply zP | apply zD | apply zN)))).mono ?_
        rintro e w1 ⟨rfl, X4, rfl⟩
        go_wp2_with fail
        refine (HZ.out _ (by (repeat (first | (with_reducible (first | assumption | exact zR _ | exact zM _ _ _ _)) | apply zA | refine zS ?_ (by first | exact zL _ | exact zK _ _ | assumption) _ | apply zP | apply zD | apply zN)))).mono ?_
        rintro e w1 ⟨rfl, X5, rfl⟩
        go_wp2_with fail
        go_step3
        go_wp2_with fail
        rw [Exit.jump_ret]
        refine bodyPost_ret (v := .tuple #[.agg #[.bool false, .slice A' refs.length cap'], .int .i64 2]) (by simp [results, Tryz.results150, go_sem]) rfl ?_
        exact ⟨⟨false, A', cap', refs⟩, by rw [HI.out, HE.out]; rfl, HX.out, ((HO.out.ext (by (repeat (first | (with_reducible (first | assumption | exact zR _ | exact zM _ _ _ _)) | apply zA | refine zS ?_ (by first | exact zL _ | exact zK _ _ | assumption) _ | apply zP | apply zD | apply zN)))).setCell HF'.out).setCell HF'.out, by (repeat (first | (with_reducible (first | assumption | exact zR _ | exact zM _ _ _ _)) | apply zA | refine zS ?_ (by first | exact zL _ | exact zK _ _ | assumption) _ | apply zP | apply zD | apply zN))⟩
      · go_wp2_with fail
        refine (HZ.out _ (by (repeat (first | (with_reducible (first | assumption | exact zR _ | exact zM _ _ _ _)) | apply zA | refine zS ?_ (by first | exact zL _ | exact zK _ _ | assumption) _ | apply zP | apply zD | apply zN)))).mono ?_
        rintro e w1 ⟨rfl, X4, rfl⟩
        go_wp2_with fail
        refine (HZ.out _ (by (repeat (first | (with_reducible (first | assumption | exact zR _ | exact zM _ _ _ _)) | apply zA | refine zS ?_ (by first | exact zL _ | exact zK _ _ | assumption) _ | apply zP | apply zD | apply zN)))).mono ?_
        rintro e w1 ⟨rfl, X5, rfl⟩
        go_wp2_with fail
        go_step3
        go_wp2_with fail
        rw [Exit.jump_ret]
        refine bodyPost_ret (v := .tuple #[.agg #[.bool true, .slice A' refs.length cap'], .int .i64 2]) (by simp [results, Tryz.results150, go_sem]) rfl ?_
        exact ⟨⟨true, A', cap', refs⟩, by rw [HI.out, HE.out]; rfl, HX.out, ((HO.out.ext (by (repeat (first | (with_reducible (first | assumption | exact zR _ | exact zM _ _ _ _)) | apply zA | refine zS ?_ (by first | exact zL _ | exact zK _ _ | assumption) _ | apply zP | apply zD | apply zN)))).setCell HF'.out).setCell HF'.out, by (repeat (first | (with_reducible (first | assumption | exact zR _ | exact zM _ _ _ _)) | apply zA | refine zS ?_ (by first | exact zL _ | exact zK _ _ | assumption) _ | apply zP | apply zD | apply zN))⟩
  · have HE := Lib.hid (show wrongE c true ⟨array, A', cap', refs⟩ n array got = 2 from (if_neg HN.out).trans ((if_neg HN2.out).trans ((if_neg (by rw [HS'.out]; exact h5)).trans (if_pos (Or.inl (by rw [HS'.out]; exact h6))))))
    cases array
    · go_wp2_with fail
      refine (HZ.out _ (by (repeat (first | (with_reducible (first | assumption | exact zR _ | exact zM _ _ _ _)) | apply zA | refine zS ?_ (by first | exact zL _ | exact zK _ _ | assumption) _ | apply zP | apply zD | apply zN)))).mono ?_
      rintro e w1 ⟨rfl, X4, rfl⟩
      go_wp2_with fail
      refine (HZ.out _ (by (repeat (first | (with_reducible (first | assumption | exact zR _ | exact zM _ _ _ _)) | apply zA | refine zS ?_ (by first | exact zL _ | exact zK _ _ | assumption) _ | apply zP | apply zD | apply zN)))).mono ?_
      rintro e w1 ⟨rfl, X5, rfl⟩
      go_wp2_with fail
      go_step3
      go_wp2_with fail
      rw [Exit.jump_ret]
      refine bodyPost_ret (v := .tuple #[.agg #[.bool false, .slice A' refs.length cap'], .int .i64 2]) (by simp [results, Tryz.results150, go_sem]) rfl ?_
      exact ⟨⟨false, A', cap', refs⟩, by rw [HI.out, HE.out]; rfl, HX.out, ((HO.out.ext (by (repeat (first | (with_reducible (first | assumption | exact zR _ | exact zM _ _ _ _)) | apply zA | refine zS ?_ (by first | exact zL _ | exact zK _ _ | assumption) _ | apply zP | apply zD | apply zN)))).setCell HF'.out).setCell HF'.out, by (repeat (first | (with_reducible (first | assumption | exact zR _ | exact zM _ _ _ _)) | apply zA | refine zS ?_ (by first | exact zL _ | exact zK _ _ | assumption) _ | apply zP | apply zD | apply zN))⟩
    · go_wp2_with fail
      refine (HZ.out _ (by (repeat (first | (with_reducible (first | assumption | exact zR _ | exact zM _ _ _ _)) | apply zA | refine zS ?_ (by first | exact zL _ | exact zK _ _ | assumption) _ | apply zP | apply zD | apply zN)))).mono ?_
      rintro e w1 ⟨rfl, X4, rfl⟩
      go_wp2_with fail
      refine (HZ.out _ (by (repeat (first | (with_reducible (first | assumption | exact zR _ | exact zM _ _ _ _)) | apply zA | refine zS ?_ (by first | exact zL _ | exact zK _ _ | assumption) _ | apply zP | apply zD | apply zN)))).mono ?_
      rintro e w1 ⟨rfl, X5, rfl⟩
      go_wp2_with fail
      go_step3
      go_wp2_with fail
      rw [Exit.jump_ret]
      refine bodyPost_ret (v := .tuple #[.agg #[.bool true, .slice A' refs.length cap'], .int .i64 2]) (by simp [results, Tryz.results150, go_sem]) rfl ?_
      exact ⟨⟨true, A', cap', refs⟩, by rw [HI.out, HE.out]; rfl, HX.out, ((HO.out.ext (by (repeat (first | (with_reducible (first | assumption | exact zR _ | exact zM _ _ _ _)) | apply zA | refine zS ?_ (by first | exact zL _ | exact zK _ _ | assumption) _ | apply zP | apply zD | apply zN)))).setCell HF'.out).setCell HF'.out, by (repeat (first | (with_reducible (first | assumption | exact zR _ | exact zM _ _ _ _)) | apply zA | refine zS ?_ (by first | exact zL _ | exact zK _ _ | assumption) _ | apply zP | apply zD | apply zN))⟩
end Go.Proofs.YtoaehfdjffejeaaGreat

