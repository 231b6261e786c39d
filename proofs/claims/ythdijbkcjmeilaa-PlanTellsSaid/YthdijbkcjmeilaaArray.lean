/-
  Merged: XArray, XArrP.
-/
import Derived.Test.YthdijbkcjmeilaaObject
import Derived.Test.YthdijbkcjmeilaaSentinel
import Derived.Test.YthdijbkcjmeilaaMode
import Derived.Test.YthdijbkcjmeilaaScope2
import Derived.Deep.DeepCutAuto
import Derived.Test.YthdijbkcjmeilaaLaid
/-
  plan.Array.
-/
namespace Go.Proofs.Ythdijbkcjmeilaa
open Go Go.RowKit
set_option linter.unusedVariables false
set_option linter.unnecessarySimpa false
set_option linter.unusedSimpArgs false
/-- How a new array of n elements stands. -/
def arrMode (n : Int) (got : List Int) : Int := modeOf (sData n) got
theorem arrMode_bd (n : Int) (got : List Int) : arrMode n got = 0 ∨ arrMode n got = 1 ∨ arrMode n got = 2 := by
  unfold arrMode modeOf
  split
  · exact Or.inl rfl
  · split
    · exact Or.inr (Or.inr rfl)
    · exact Or.inr (Or.inl rfl)
def arrE (c : Cnf) (is : Bool) (s : Shp) (n : Int) (got : List Int) (at_ : Int) : Int :=
  if wrongE c is s n true got = 0 then (if (decide (arrMode n got = 1) && !beginsAt c at_ (s.spine n)) = true then 2 else 0) else wrongE c is s n true got
def dataF (s : Shp) : Nat → Nat × Nat := fun _ => cxOf (wBlank (s.refs.getD 0 false))
def fragWrites (f0 f : Nat → Nat × Nat) (got : List Int) : Nat → List Value
  | 0 => []
  | j + 1 => fragWrites f0 f got j ++ writes (got.getD j 0) (if j = 0 then f0 else f) 8
def spineW (got : List Int) (at_ : Int) : Nat → List Value
  | 0 => [.int .i64 at_, wRef (got.getD 0 0), .int .i64 (at_ + 1), wWhole ((got.length : Int) - 1)]
  | k + 1 => spineW got at_ k ++ [.int .i64 (at_ + 2 + k), wRef (got.getD (k + 1) 0)]
def sentF (kind n at_ : Int) (got : List Int) : Nat → Nat × Nat := rowF (sentWords kind n (arrMode n got) got at_)
def arrFrags (s : Shp) (kind n at_ : Int) (got : List Int) (j : Nat) : List Value := fragWrites (sentF kind n at_ got) (dataF s) got j
def arrWrites (s : Shp) (kind n at_ : Int) (got : List Int) : List Value := arrFrags s kind n at_ got got.length ++ if arrMode n got = 1 then spineW got at_ (got.length - 1) else []
def arrLen (n : Int) (got : List Int) : Nat := 8 * got.length + if arrMode n got = 1 then got.length + 1 else 0
def ArrGot (c : Cnf) (kind n : Int) (got : List Int) (at_ : Int) (w : World) (e : Ending) (w' : World) : Prop :=
  ∃ (s' : Shp) (l : Value) (m : Nat), e = .returned (.tuple #[l, .int .i64 (arrE c (c.shapeAt kind).isSome s' n got at_)]) ∧ (s'.arr, s'.refs) = (c.shapeAt kind).getD (false, []) ∧
    w'.ownsRow w.heap.size 48 2 l m (if arrE c (c.shapeAt kind).isSome s' n got at_ = 0 then arrWrites s' kind n at_ got else []) ∧ Ext w w'
theorem sentWords_length (kind n m : Int) (got : List Int) (at_ : Int) : (sentWords kind n m got at_).length = 8 := by
  unfold sentWords
  split
  · rfl
  · split <;> rfl
theorem sentWords_cx (kind n m : Int) (got : List Int) (at_ : Int) : ∀ v ∈ sentWords kind n m got at_, IsCx v := by
  have hs : ∀ j, IsCx (sentIn got j) := fun j => sentIn_cx got j
  intro v hv
  unfold sentWords at hv
  rcases List.mem_append.1 hv with hv | hv
  · simp only [List.mem_cons, List.not_mem_nil, or_false] at hv
    rcases hv with rfl | rfl | rfl | rfl
    · exact isCx_none
    · exact isCx_head _ _
    · exact isCx_whole _
    · exact isCx_whole _
  · split at hv
    · simp only [List.mem_cons, List.not_mem_nil, or_false] at hv
      rcases hv with rfl | rfl | rfl | rfl <;> exact hs _
    · split at hv
      · simp only [List.mem_cons, List.not_mem_nil, or_false] at hv
        rcases hv with rfl | rfl | rfl | rfl
        · exact isCx_whole _
        all_goals exact isCx_zero
      · simp only [List.mem_cons, List.not_mem_nil, or_false] at hv
        rcases hv with rfl | rfl | rfl | rfl
        · exact isCx_ref _
        all_goals exact isCx_zero
/-- What holds while the writes are laid: l tells those of j fragments; vs: the words of a data fragment. -/
structure ArrSt (c : Cnf) (kind n at_ : Int) (got : List Int) (w : World) (j : Nat) (l : Value) (s : Shp) (bd bs : Nat) (vs : List Value) (wr : World) : Prop where
  box : wr.heap[w.heap.size]? = some (.cells #[.int .i64 c.frags, .int .i64 c.spine, .int .i64 c.globals, .int .i64 c.threads, .int .i64 c.locals, .int .i64 c.cache, .int .i64 c.stack, .int .i64 c.low, .slice c.A c.shapes.length c.cap] 24)
  dblk : wr.heap[bd]? = some (.cells vs.toArray 74)
  sblk : wr.heap[bs]? = some (.cells #[.bool s.arr, .slice s.A s.refs.length s.cap] 37)
  vlen : vs.length = 8
  vcx : ∀ v ∈ vs, IsCx v
  sok : s.Ok wr
  slt : ∀ a, s.A = some a → 0 < s.refs.length → a.block < bs
  ext : Ext w wr
  own : wr.ownsRow (bs + 1) 48 2 l (8 * j) (arrFrags s kind n at_ got j)
  lt1 : w.heap.size < bd
  lt2 : bd < bs
  what : (s.arr, s.refs) = (c.shapeAt kind).getD (false, [])
  fine0 : wrongE c (c.shapeAt kind).isSome s n true got = 0
theorem ArrSt.ne {c : Cnf} {kind n at_ : Int} {got : List Int} {w : World} {j : Nat} {l : Value} {s : Shp} {bd bs : Nat} {vs : List Value} {wr : World} (h : ArrSt c kind n at_ got w j l s bd bs vs wr) : ∀ a, s.A = some a → 0 < s.refs.length → bd ≠ a.block := by
  intro a ha hr e
  obtain ⟨b, o, hA, hb, hc⟩ := h.sok.refs.cases (by simpa using hr)
  rw [ha] at hA
  injection hA with hA
  subst hA
  simp only at e
  subst e
  have h1 := hc 0 (.bool (s.refs.getD 0 false)) (by rw [List.getElem?_map, List.getElem?_eq_getElem hr, List.getD_eq_getElem?_getD, List.getElem?_eq_getElem hr]; rfl)
  simp only [World.cell?, h.dblk, List.size_toArray, List.getElem?_toArray] at h1
  have h2 := h.vcx _ (List.mem_of_getElem? (i := o + 0) (by simpa using h1))
  obtain ⟨p, q, h3⟩ := h2
  cases h3
theorem ArrSt.put {c : Cnf} {kind n at_ : Int} {got : List Int} {w : World} {j : Nat} {l : Value} {s : Shp} {bd bs : Nat} {vs : List Value} {wr : World} (h : ArrSt c kind n at_ got w j l s bd bs vs wr) (L : List Value) (hL : L.length = 8) (hx : ∀ v ∈ L, IsCx v) :
    ArrSt c kind n at_ got w j l s bd bs L (wr.putBlk bd (.cells L.toArray 74)) := by
  have hb := (Array.getElem?_eq_some_iff.1 h.dblk).1
  have h1 := h.lt1
  have h2 := h.lt2
  refine { box := ?_, dblk := World.row_put _ hb, sblk := ?_, vlen := hL, vcx := hx, sok := h.sok.putBlk h.ne, slt := h.slt, ext := ?_, own := ?_, lt1 := h1, lt2 := h2, what := h.what, fine0 := h.fine0 }
  · rw [World.row_put_other _ (by omega)]; exact h.box
  · rw [World.row_put_other _ (by omega)]; exact h.sblk
  · obtain ⟨b1, b2, b3, _, _⟩ := h.ext.below
    exact ext_of_below ⟨b1, b2, b3, by rw [World.size_putBlk]; exact h.ext.size, fun k hk => by rw [World.row_put_other _ (by omega)]; exact h.ext.heap k hk⟩
  · obtain ⟨o1, o2⟩ := h.own
    refine ⟨o1, ?_⟩
    rcases o2 with ⟨hv, hn⟩ | ⟨g, cap, cur, hv, hbg, hh, r⟩
    · exact Or.inl ⟨hv, hn⟩
    · exact Or.inr ⟨g, cap, cur, hv, hbg, by rw [World.row_put_other _ (by omega)]; exact hh, r⟩
theorem ArrSt.patch {c : Cnf} {kind n at_ : Int} {got : List Int} {w : World} {j : Nat} {l : Value} {s : Shp} {bd bs : Nat} {vs : List Value} {wr w' : World} (h : ArrSt c kind n at_ got w j l s bd bs vs wr) (he : Ext wr w') : ArrSt c kind n at_ got w j l s bd bs vs w' := by
  have hb := (Array.getElem?_eq_some_iff.1 h.dblk).1
  have hb1 := (Array.getElem?_eq_some_iff.1 h.box).1
  have hb2 := (Array.getElem?_eq_some_iff.1 h.sblk).1
  exact { box := by rw [he.heap _ hb1]; exact h.box, dblk := by rw [he.heap _ hb]; exact h.dblk, sblk := by rw [he.heap _ hb2]; exact h.sblk, vlen := h.vlen, vcx := h.vcx, sok := h.sok.ext he, slt := h.slt, ext := h.ext.trans he, own := own_ext h.own he, lt1 := h.lt1, lt2 := h.lt2, what := h.what, fine0 := h.fine0 }
theorem ArrSt.lay {c : Cnf} {kind n at_ : Int} {got : List Int} {w : World} {j j' : Nat} {l : Value} {s : Shp} {bd bs : Nat} {vs : List Value} {wr : World} (h : ArrSt c kind n at_ got w j l s bd bs vs wr) {l' : Value} {w' : World} (he : Ext (wr.upTo (bs + 1)) w') (ho : w'.ownsRow (bs + 1) 48 2 l' (8 * j') (arrFrags s kind n at_ got j')) :
    ArrSt c kind n at_ got w j' l' s bd bs vs w' := by
  have hb := (Array.getElem?_eq_some_iff.1 h.sblk).1
  have h1 := h.lt1
  have h2 := h.lt2
  have hz := World.size_upTo wr (n := bs + 1) (by omega)
  exact { box := by rw [he.heap _ (by omega), World.heap_upTo _ (by omega)]; exact h.box, dblk := by rw [he.heap _ (by omega), World.heap_upTo _ (by omega)]; exact h.dblk, sblk := by rw [he.heap _ (by omega), World.heap_upTo _ (by omega)]; exact h.sblk,
          vlen := h.vlen, vcx := h.vcx, sok := (h.sok.upTo (by omega) (fun a ha hr => Nat.lt_succ_of_lt (h.slt a ha hr))).ext he, slt := h.slt, ext := (h.ext.upTo (by omega) (by omega)).trans he, own := ho, lt1 := h1, lt2 := h2, what := h.what, fine0 := h.fine0 }
/-- What holds of the numbers where nothing is wrong. -/
theorem arrE_fine {c : Cnf} {is : Bool} {s : Shp} {n : Int} {got : List Int} {at_ : Int} (h : arrE c is s n got at_ = 0) : wrongE c is s n true got = 0 ∧ (arrMode n got = 1 → beginsAt c at_ (s.spine n) = true) := by
  unfold arrE at h
  split at h
  · rename_i h0
    refine ⟨h0, fun h1 => ?_⟩
    rw [h1] at h
    cases hb : beginsAt c at_ (s.spine n)
    · rw [hb] at h; exact absurd h (by decide)
    · rfl
  · rename_i h0
    exact absurd h h0
theorem arr_size {c : Cnf} {is : Bool} {s : Shp} {n : Int} {got : List Int} (h : wrongE c is s n true got = 0) : s.refs.length = 1 ∧ (got.length : Int) = 1 + sData n ∧ s.may = true ∧ s.arr = true := by
  obtain ⟨-, -, -, ha, hl, h1, -⟩ := wrongE_fine h
  have hm : s.may = true := by
    cases hm : s.may
    · unfold Shp.size at h1; rw [if_pos (Or.inl hm)] at h1; omega
    · rfl
  have hs : s.size n = 1 + sData n := by
    unfold Shp.size at h1 ⊢
    split
    · rw [if_pos (by assumption)] at h1; omega
    · first | rfl | rw [if_pos ha]
  refine ⟨?_, by rw [hl, hs], hm, ha⟩
  have := hm
  unfold Shp.may at this
  rw [ha] at this
  simp at this
  omega
def ArrAt (c : Cnf) (kind n at_ : Int) (A : Option Addr) (cap : Nat) (got : List Int) (w : World) (a : Act) (wr : World) : Prop :=
  ∃ (j : Nat) (l : Value) (s : Shp) (bd bs : Nat) (u : Nat → Value), a = { tmps := #[(.agg #[.int .i64 c.frags, .int .i64 c.spine, .int .i64 c.globals, .int .i64 c.threads, .int .i64 c.locals, .int .i64 c.cache, .int .i64 c.stack, .int .i64 c.low, .slice c.A c.shapes.length c.cap]), .int .i64 kind, .int .i64 n, .slice A got.length cap, .int .i64 at_, .pointer (some ⟨w.heap.size, 0, none⟩), u 6, u 7, u 8, u 9, u 10, u 11, l, .pointer (some ⟨bd, 0, none⟩), .int .i64 (arrMode n got), .int .i64 j, .pointer (some ⟨bs, 0, none⟩), .int .i64 0, u 18, u 19, u 20, u 21, u 22, u 23, u 24, u 25, u 26, u 27, u 28, u 29, u 30, u 31, u 32, u 33, u 34, u 35, u 36, u 37, u 38, u 39, u 40, u 41, u 42, u 43, u 44, u 45, u 46, u 47, u 48, u 49, u 50, u 51, u 52, u 53, u 54, u 55, u 56, u 57, u 58, u 59, u 60, u 61, u 62, u 63, u 64, u 65, u 66, u 67, u 68, u 69, u 70, u 71, u 72, u 73, u 74, u 75, u 76, u 77, u 78, u 79, u 80, u 81, u 82, u 83, u 84, u 85, u 86, u 87, u 88, u 89, u 90, u 91, u 92, u 93, u 94, u 95, u 96, u 97, u 98, u 99, u 100, u 101, u 102, u 103, u 104, u 105, u 106, u 107, u 108, u 109, u 110, u 111, u 112, u 113, u 114, u 115, u 116, u 117, u 118, u 119, u 120, u 121], defers := [] } ∧ 1 ≤ j ∧ j ≤ got.length ∧ arrE c (c.shapeAt kind).isSome s n got at_ = 0 ∧ ArrSt c kind n at_ got w j l s bd bs (cxs (dataF s)) wr
theorem ArrAt.of {c : Cnf} {kind n at_ : Int} {A : Option Addr} {cap : Nat} {got : List Int} {w wr : World} {a : Act} (j : Nat) (l : Value) (s : Shp) (bd bs : Nat) (ha : a = { tmps := #[(.agg #[.int .i64 c.frags, .int .i64 c.spine, .int .i64 c.globals, .int .i64 c.threads, .int .i64 c.locals, .int .i64 c.cache, .int .i64 c.stack, .int .i64 c.low, .slice c.A c.shapes.length c.cap]), .int .i64 kind, .int .i64 n, .slice A got.length cap, .int .i64 at_, .pointer (some ⟨w.heap.size, 0, none⟩), (a.tmps.toList.getD 6 undef), (a.tmps.toList.getD 7 undef), (a.tmps.toList.getD 8 undef), (a.tmps.toList.getD 9 undef), (a.tmps.toList.getD 10 undef), (a.tmps.toList.getD 11 undef), l, .pointer (some ⟨bd, 0, none⟩), .int .i64 (arrMode n got), .int .i64 j, .pointer (some ⟨bs, 0, none⟩), .int .i64 0, (a.tmps.toList.getD 18 undef), (a.tmps.toList.getD 19 undef), (a.tmps.toList.getD 20 undef), (a.tmps.toList.getD 21 undef), (a.tmps.toList.getD 22 undef), (a.tmps.toList.getD 23 undef), (a.tmps.toList.getD 24 undef), (a.tmps.toList.getD 25 undef), (a.tmps.toList.getD 26 undef), (a.tmps.toList.getD 27 undef), (a.tmps.toList.getD 28 undef), (a.tmps.toList.getD 29 undef), (a.tmps.toList.getD 30 undef), (a.tmps.toList.getD 31 undef), (a.tmps.toList.getD 32 undef), (a.tmps.toList.getD 33 undef), (a.tmps.toList.getD 34 undef), (a.tmps.toList.getD 35 undef), (a.tmps.toList.getD 36 undef), (a.tmps.toList.getD 37 undef), (a.tmps.toList.getD 38 undef), (a.tmps.toList.getD 39 undef), (a.tmps.toList.getD 40 undef), (a.tmps.toList.getD 41 undef), (a.tmps.toList.getD 42 undef), (a.tmps.toList.getD 43 undef), (a.tmps.toList.getD 44 undef), (a.tmps.toList.getD 45 undef), (a.tmps.toList.getD 46 undef), (a.tmps.toList.getD 47 undef), (a.tmps.toList.getD 48 undef), (a.tmps.toList.getD 49 undef), (a.tmps.toList.getD 50 undef), (a.tmps.toList.getD 51 undef), (a.tmps.toList.getD 52 undef), (a.tmps.toList.getD 53 undef), (a.tmps.toList.getD 54 undef), (a.tmps.toList.getD 55 undef), (a.tmps.toList.getD 56 undef), (a.tmps.toList.getD 57 undef), (a.tmps.toList.getD 58 undef), (a.tmps.toList.getD 59 undef), (a.tmps.toList.getD 60 undef), (a.tmps.toList.getD 61 undef), (a.tmps.toList.getD 62 undef), (a.tmps.toList.getD 63 undef), (a.tmps.toList.getD 64 undef), (a.tmps.toList.getD 65 undef), (a.tmps.toList.getD 66 undef), (a.tmps.toList.getD 67 undef), (a.tmps.toList.getD 68 undef), (a.tmps.toList.getD 69 undef), (a.tmps.toList.getD 70 undef), (a.tmps.toList.getD 71 undef), (a.tmps.toList.getD 72 undef), (a.tmps.toList.getD 73 undef), (a.tmps.toList.getD 74 undef), (a.tmps.toList.getD 75 undef), (a.tmps.toList.getD 76 undef), (a.tmps.toList.getD 77 undef), (a.tmps.toList.getD 78 undef), (a.tmps.toList.getD 79 undef), (a.tmps.toList.getD 80 undef), (a.tmps.toList.getD 81 undef), (a.tmps.toList.getD 82 undef), (a.tmps.toList.getD 83 undef), (a.tmps.toList.getD 84 undef), (a.tmps.toList.getD 85 undef), (a.tmps.toList.getD 86 undef), (a.tmps.toList.getD 87 undef), (a.tmps.toList.getD 88 undef), (a.tmps.toList.getD 89 undef), (a.tmps.toList.getD 90 undef), (a.tmps.toList.getD 91 undef), (a.tmps.toList.getD 92 undef), (a.tmps.toList.getD 93 undef), (a.tmps.toList.getD 94 undef), (a.tmps.toList.getD 95 undef), (a.tmps.toList.getD 96 undef), (a.tmps.toList.getD 97 undef), (a.tmps.toList.getD 98 undef), (a.tmps.toList.getD 99 undef), (a.tmps.toList.getD 100 undef), (a.tmps.toList.getD 101 undef), (a.tmps.toList.getD 102 undef), (a.tmps.toList.getD 103 undef), (a.tmps.toList.getD 104 undef), (a.tmps.toList.getD 105 undef), (a.tmps.toList.getD 106 undef), (a.tmps.toList.getD 107 undef), (a.tmps.toList.getD 108 undef), (a.tmps.toList.getD 109 undef), (a.tmps.toList.getD 110 undef), (a.tmps.toList.getD 111 undef), (a.tmps.toList.getD 112 undef), (a.tmps.toList.getD 113 undef), (a.tmps.toList.getD 114 undef), (a.tmps.toList.getD 115 undef), (a.tmps.toList.getD 116 undef), (a.tmps.toList.getD 117 undef), (a.tmps.toList.getD 118 undef), (a.tmps.toList.getD 119 undef), (a.tmps.toList.getD 120 undef), (a.tmps.toList.getD 121 undef)], defers := [] }) (h1 : 1 ≤ j) (h2 : j ≤ got.length) (h3 : arrE c (c.shapeAt kind).isSome s n got at_ = 0) (h4 : ArrSt c kind n at_ got w j l s bd bs (cxs (dataF s)) wr) : ArrAt c kind n at_ A cap got w a wr :=
  ⟨j, l, s, bd, bs, fun i => a.tmps.toList.getD i undef, ha, h1, h2, h3, h4⟩
theorem arrMode_one {n : Int} {got : List Int} (h : arrMode n got = 1) : 4 < sData n := by
  unfold arrMode modeOf at h
  split at h
  · omega
  · omega
theorem spine_bd (s : Shp) (n : Int) : 0 ≤ s.spine n ∧ s.spine n ≤ 1000 := by
  have := sData_bd n
  unfold Shp.spine
  split <;> omega
theorem begins_bd {c : Cnf} {a n : Int} (h : beginsAt c a n = true) : 0 ≤ a ∧ a ≤ 100000 := by
  unfold beginsAt cOf at h
  split at h
  · simp at h
  · rename_i h0
    obtain ⟨⟨_, _⟩, ⟨_, _⟩, ⟨_, _⟩, _⟩ := Cnf.ranged (Cnf.check_zero (show c.check = 0 by omega)).1
    split at h
    · simp at h
    · split at h
      · omega
      · split at h
        · omega
        · split at h <;> simp at h
def dataTo (b : Value) (k : Nat) : List Value := List.replicate k b ++ List.replicate (8 - k) wZero
theorem dataTo_length (b : Value) {k : Nat} (hk : k ≤ 8) : (dataTo b k).length = 8 := by unfold dataTo; simp; omega
theorem dataTo_cx {b : Value} (hb : IsCx b) (k : Nat) : ∀ v ∈ dataTo b k, IsCx v := by
  intro v hv
  unfold dataTo at hv
  rcases List.mem_append.1 hv with h | h
  · rw [(List.mem_replicate.1 h).2]; exact hb
  · rw [(List.mem_replicate.1 h).2]; exact isCx_zero
theorem dataTo_succ (b : Value) {k : Nat} (hk : k < 8) : (dataTo b k).set k b = dataTo b (k + 1) := by
  unfold dataTo
  rw [List.set_append_right _ _ (by simp), List.length_replicate, Nat.sub_self, show 8 - k = (8 - (k + 1)) + 1 by omega, List.replicate_succ, List.set_cons_zero, List.replicate_succ', List.append_assoc]
  rfl
theorem dataTo_all (s : Shp) : dataTo (wBlank (s.refs.getD 0 false)) 8 = cxs (dataF s) := by
  have := (isCx_blank (s.refs.getD 0 false)).cx
  unfold dataF cxs
  simp only [this]
  rfl
theorem arrFrags_one (s : Shp) (kind n at_ : Int) (got : List Int) : arrFrags s kind n at_ got 1 = [] ++ writes (got.getD 0 0) (sentF kind n at_ got) 8 := rfl
theorem arrFrags_succ (s : Shp) (kind n at_ : Int) (got : List Int) {j : Nat} (hj : 1 ≤ j) : arrFrags s kind n at_ got (j + 1) = arrFrags s kind n at_ got j ++ writes (got.getD j 0) (dataF s) 8 := by
  show fragWrites _ _ _ _ ++ writes _ (if j = 0 then _ else _) 8 = _
  rw [if_neg (by omega)]
  rfl
theorem fragOk_of {c : Cnf} {is : Bool} {s : Shp} {n : Int} {got : List Int} (h : wrongE c is s n true got = 0) {j : Nat} (hj : j < got.length) : fragOk c (got.getD j 0) = true :=
  List.all_eq_true.1 (wrongE_fine h).2.1 _ (by rw [List.getD_eq_getElem?_getD, List.getElem?_eq_getElem hj]; exact List.getElem_mem hj)
set_option maxRecDepth 100000 in
set_option maxHeartbeats 4000000 in
theorem array_any (c : Cnf) (kind n at_ : Int) (A : Option Addr) (cap : Nat) (got : List Int) (w : World) (hc : c.Ok w) (hg : CellsAt w A (got.map (Value.int .i64))) (hl : got.length ≤ 1000) (hcap : got.length ≤ cap) (hcm : cap ≤ 9223372036854775807) (hw : ∀ x ∈ got, -9223372036854775808 ≤ x ∧ x ≤ 9223372036854775807)
    (ha0 : -9223372036854775808 ≤ at_) (ha1 : at_ ≤ 9223372036854775807) :
    Calls Try.prog 11 #[c.val, .int .i64 kind, .int .i64 n, .slice A got.length cap, .int .i64 at_] w (ArrGot c kind n got at_ w) := by
  have HW := Lib.hid (fun w' (he : Ext w w') => wrong_any c kind n true A cap got w' (hc.ext he) (hg.ext he) (by omega) hw)
  have HMD := Lib.hid (fun w' (he : Ext w w') => show Calls Try.prog 48 #[.int .i64 (sData n), .slice A got.length cap] w' (Gives (.int .i64 (arrMode n got)) w') from mode_any (sData n) A cap got w' (hg.ext he) (by omega) hw)
  have HG := Lib.hid hg
  have HCO := Lib.hid hc
  have HAT := Lib.hid (And.intro ha0 ha1)
  have HGL := Lib.hid hl
  obtain ⟨i0, hi0, hz0, hz1, hz2⟩ := info_parts infoWrite
  clear hg hw hc ha0 ha1
  unfold Cnf.val at HW ⊢
  go_enter Try.func11, Try.ntmps11
  go_wp2_with fail
  refine wp_scope_two 0 1 (ArrAt c kind n at_ A cap got w) (fun a _ => got.length - (intOf (a.tmps.getD 15 undef)).toNat) rfl rfl ?_ ?_
  · rintro a wr ⟨j, l, s, bd, bs, u, rfl, hj1, hj2, hfine, hst⟩
    obtain ⟨arr, A', cap', refs⟩ := s
    have HST := Lib.hid hst
    have HFN := Lib.hid hfine
    clear hst hfine
    by_cases hj : j < got.length
    · obtain ⟨q, o, rfl, hq, hcell⟩ := ints_at (HG.out.ext HST.out.ext) hj
      have k0 := hcell j hj
      have hfj : fragOk c (got.getD j 0) = true := fragOk_of HST.out.fine0 hj
      have HSU := Lib.hid (arrFrags_succ ⟨arr, A', cap', refs⟩ kind n at_ got hj1)
      generalize got.getD j 0 = y at *
      have g0 : wr.cell? ⟨w.heap.size, 0, none⟩ = some (.int .i64 c.frags) := (by simp only [World.cell?, HST.out.box]; rfl)
      have g1 : wr.cell? ⟨w.heap.size, 1, none⟩ = some (.int .i64 c.spine) := (by simp only [World.cell?, HST.out.box]; rfl)
      have g2 : wr.cell? ⟨w.heap.size, 2, none⟩ = some (.int .i64 c.globals) := (by simp only [World.cell?, HST.out.box]; rfl)
      have g3 : wr.cell? ⟨w.heap.size, 3, none⟩ = some (.int .i64 c.threads) := (by simp only [World.cell?, HST.out.box]; rfl)
      have g4 : wr.cell? ⟨w.heap.size, 4, none⟩ = some (.int .i64 c.locals) := (by simp only [World.cell?, HST.out.box]; rfl)
      have g5 : wr.cell? ⟨w.heap.size, 5, none⟩ = some (.int .i64 c.cache) := (by simp only [World.cell?, HST.out.box]; rfl)
      have g6 : wr.cell? ⟨w.heap.size, 6, none⟩ = some (.int .i64 c.stack) := (by simp only [World.cell?, HST.out.box]; rfl)
      have g7 : wr.cell? ⟨w.heap.size, 7, none⟩ = some (.int .i64 c.low) := (by simp only [World.cell?, HST.out.box]; rfl)
      have g8 : wr.cell? ⟨w.heap.size, 8, none⟩ = some (.slice c.A c.shapes.length c.cap) := (by simp only [World.cell?, HST.out.box]; rfl)
      have gl : w.heap.size < wr.heap.size := (Array.getElem?_eq_some_iff.1 HST.out.box).1
      have hD := HST.out.dblk
      generalize hF : dataF ⟨arr, A', cap', refs⟩ = f at *
      have HF := Lib.hid hF
      clear hF
      have v0 : wr.cell? ⟨bd, 0, none⟩ = some (.complex .f64 (f 0).1 (f 0).2) := (by simp only [World.cell?, hD]; rfl)
      have v1 : wr.cell? ⟨bd, 1, none⟩ = some (.complex .f64 (f 1).1 (f 1).2) := (by simp only [World.cell?, hD]; rfl)
      have v2 : wr.cell? ⟨bd, 2, none⟩ = some (.complex .f64 (f 2).1 (f 2).2) := (by simp only [World.cell?, hD]; rfl)
      have v3 : wr.cell? ⟨bd, 3, none⟩ = some (.complex .f64 (f 3).1 (f 3).2) := (by simp only [World.cell?, hD]; rfl)
      have v4 : wr.cell? ⟨bd, 4, none⟩ = some (.complex .f64 (f 4).1 (f 4).2) := (by simp only [World.cell?, hD]; rfl)
      have v5 : wr.cell? ⟨bd, 5, none⟩ = some (.complex .f64 (f 5).1 (f 5).2) := (by simp only [World.cell?, hD]; rfl)
      have v6 : wr.cell? ⟨bd, 6, none⟩ = some (.complex .f64 (f 6).1 (f 6).2) := (by simp only [World.cell?, hD]; rfl)
      have v7 : wr.cell? ⟨bd, 7, none⟩ = some (.complex .f64 (f 7).1 (f 7).2) := (by simp only [World.cell?, hD]; rfl)
      have hbd : bd < wr.heap.size := (Array.getElem?_eq_some_iff.1 hD).1
      have hbs : bs < wr.heap.size := (Array.getElem?_eq_some_iff.1 HST.out.sblk).1
      have hb1 := HST.out.lt1
      have hb2 := HST.out.lt2
      have hsz := World.size_upTo wr (n := bs + 1) (by omega)
      have hfr : c.frags ≤ 1099511627776 := by have := (Cnf.ranged (Cnf.check_zero (wrongE_fine HST.out.fine0).1).1).1.2; omega
      have HLY := Lib.hid (fun X => lay_any c l (8 * j) (arrFrags ⟨arr, A', cap', refs⟩ kind n at_ got j) y f (wr.patch X) (wr.upTo (bs + 1)) (bs + 1) (HCO.out.ext (HST.out.ext.upTo (by omega) (by omega))) hfj ((ext_upTo wr (by omega)).patch X) (by omega) (by rw [World.size_patch]; omega) (own_ext HST.out.own ⟨X, rfl⟩) (by omega) hfr)
      unfold Cnf.val at HLY
      clear hb1 hb2 hsz hfr hfj hcell hD
      go_wp2_with fail
      refine wp_region_mixed [true, true, true, true, true, true, true, false, false] 2 7 (by kernel_rfl) (by kernel_rfl) (by kernel_rfl) ?_ (by decide) (by decide) (by decide) (by kernel_rfl) ?_
      · intro c a d v w h; cases d <;> exact h
      intro X00
      simp only [pickOps]
      repeat (go_big_quiet_step (fail))
      refine wpQuiet_nil (fun X0 => ?_)
      clear X00
      refine wpAnyM_tailL rfl (by kernel_rfl) (fun X2 => ?_)
      simp only [List.drop_succ_cons, List.drop_zero]
      go_wp2_with fail
      refine (HLY.out _).mono ?_
      rintro e w6 ⟨v', rfl, hown, hE6, hz6⟩
      rw [← HSU.out] at hown
      have HOW := Lib.hid (show w6.ownsRow (bs + 1) 48 2 v' (8 * (j + 1)) (arrFrags ⟨arr, A', cap', refs⟩ kind n at_ got (j + 1)) from hown)
      have HX6 := Lib.hid (show Ext (wr.upTo (bs + 1)) w6 from hE6)
      clear hown hE6 hz6 g0 g1 g2 g3 g4 g5 g6 g7 g8 v0 v1 v2 v3 v4 v5 v6 v7
      go_wp2_with fail
      go_step3
      refine Or.inr ⟨rfl, ArrAt.of (j + 1) v' ⟨arr, A', cap', refs⟩ bd bs rfl (by omega) hj HFN.out ?_, ?_⟩
      · have := HST.out.lay HX6.out HOW.out
        rw [← HF.out] at this
        exact this
      · simp [intOf]
        omega
    · obtain rfl : j = got.length := by omega
      have hsz := arr_size HST.out.fine0
      have HFS := Lib.hid (arrE_fine HFN.out).2
      have HEN := Lib.hid (show arrWrites ⟨arr, A', cap', refs⟩ kind n at_ got = arrFrags ⟨arr, A', cap', refs⟩ kind n at_ got got.length ++ if arrMode n got = 1 then spineW got at_ (got.length - 1) else [] from rfl)
      have HM4 := Lib.hid (@arrMode_one n got)
      generalize arrMode n got = m at *
      clear HMD HW HCO hj
      by_cases h1 : m = 1
      · subst h1
        obtain ⟨hb0, hb1⟩ := begins_bd (HFS.out rfl)
        obtain ⟨q, o, rfl, hq, hcell⟩ := ints_at (HG.out.ext HST.out.ext) (k := 0) (by omega)
        have k0 := hcell 0 (by omega)
        rw [Nat.add_zero] at k0
        generalize hy : got.getD 0 0 = y0 at *
        have HY := Lib.hid hy
        have HW0 := Lib.hid (fun k => show spineW got at_ (k + 1) = spineW got at_ k ++ [.int .i64 (at_ + 2 + k), wRef (got.getD (k + 1) 0)] from rfl)
        obtain ⟨p1, q1, r1⟩ := isCx_ref y0
        obtain ⟨p2, q2, r2⟩ := isCx_whole ((got.length : Int) - 1)
        have HW1 := Lib.hid (show spineW got at_ 0 = [.int .i64 at_, .complex .f64 p1 q1, .int .i64 (at_ + 1), .complex .f64 p2 q2] by unfold spineW; rw [hy, r1, r2])
        have HR1 := Lib.hid (fun w' => r1 ▸ ref_any y0 w')
        have HR2 := Lib.hid (fun w' => r2 ▸ whole_any ((got.length : Int) - 1) w')
        have HL := Lib.hid hsz.2.1
        have hln : 2 ≤ got.length := by
          have := HM4.out rfl
          omega
        clear hy r1 r2 hsz hcell
        go_wp2_with fail
        refine (HR1.out _).mono ?_
        rintro e w1 ⟨rfl, X1, rfl⟩
        go_wp2_with fail
        refine (HR2.out _).mono ?_
        rintro e w1 ⟨rfl, X2, rfl⟩
        go_wp2_with (at_builtin; refine wpList_append_own_at _ rfl (.tmp 85) (.tmp 99) 28 rfl (bs + 1) 48 i0 (.agg #[.int .i64 0, .complex .f64 0 0]) 2 24 Try.underlying28 hi0 hz0 hz1 hz2 rfl (by decide) _ (8 * got.length) _ rfl (own_ext HST.out.own (show Ext wr _ by (repeat (first | (with_reducible assumption) | (with_reducible exact Ext.refl _) | (with_reducible exact Ext.more _ _ _ _) | apply Ext.alloc | refine Ext.setCell ?_ (by first | exact Nat.le_refl _ | exact Nat.le_add_right _ _ | assumption) _ | apply Ext.patch | apply Ext.drew | apply Ext.drewN)))) _ 2 2 [.int .i64 at_, .complex .f64 p1 q1, .int .i64 (at_ + 1), .complex .f64 p2 q2] rfl rfl (news_new _ _ _) (by intro u hu; simp at hu; rcases hu with rfl | rfl | rfl | rfl <;> rfl) (by unfold maxLen; omega) (by omega) (Nat.le_trans (Nat.succ_le_of_lt (Array.getElem?_eq_some_iff.1 HST.out.sblk).1) (Ext.size (show Ext wr _ by (repeat (first | (with_reducible assumption) | (with_reducible exact Ext.refl _) | (with_reducible exact Ext.more _ _ _ _) | apply Ext.alloc | refine Ext.setCell ?_ (by first | exact Nat.le_refl _ | exact Nat.le_add_right _ _ | assumption) _ | apply Ext.patch | apply Ext.drew | apply Ext.drewN))))) ?_; intro v1 w3 hown3 hgrow3 _ hblk3)
        have HX3 := Lib.hid (show Ext w w3 from ext_grown (HST.out.ext.trans (show Ext wr _ by (repeat (first | (with_reducible assumption) | (with_reducible exact Ext.refl _) | (with_reducible exact Ext.more _ _ _ _) | apply Ext.alloc | refine Ext.setCell ?_ (by first | exact Nat.le_refl _ | exact Nat.le_add_right _ _ | assumption) _ | apply Ext.patch | apply Ext.drew | apply Ext.drewN)))) hgrow3 (fun k hk => by have h5 := (HST.out.own.lt k hk).1; have h6 := HST.out.lt1; have h7 := HST.out.lt2; omega))
        have HO3 := Lib.hid (show w3.ownsRow (bs + 1) 48 2 v1 (8 * got.length + 2) (arrFrags ⟨arr, A', cap', refs⟩ kind n at_ got got.length ++ spineW got at_ 0) by rw [HW1.out]; exact hown3)
        have HZ3 := Lib.hid (show bs + 1 ≤ w3.heap.size from Nat.le_trans (Nat.le_trans (Nat.succ_le_of_lt (Array.getElem?_eq_some_iff.1 HST.out.sblk).1) (Ext.size (show Ext wr _ by (repeat (first | (with_reducible assumption) | (with_reducible exact Ext.refl _) | (with_reducible exact Ext.more _ _ _ _) | apply Ext.alloc | refine Ext.setCell ?_ (by first | exact Nat.le_refl _ | exact Nat.le_add_right _ _ | assumption) _ | apply Ext.patch | apply Ext.drew | apply Ext.drewN))))) hgrow3.size)
        clear hown3 hgrow3 hblk3 HR1 HR2
        go_wp2_with fail
        go_loopw [12, 104] (fun v i wx => ∃ k : Nat, k ≤ got.length - 1 ∧ i = .int .i64 k ∧ Hid (wx.ownsRow (bs + 1) 48 2 v (8 * got.length + 2 + k) (arrFrags ⟨arr, A', cap', refs⟩ kind n at_ got got.length ++ spineW got at_ k)) ∧ Hid (Ext w wx) ∧ Hid (bs + 1 ≤ wx.heap.size)) (fun _ i _ => got.length - (intOf i).toNat)
        case atStart => exact ⟨0, Nat.zero_le _, rfl, HO3, HX3, HZ3⟩
        case round =>
          obtain ⟨k, hk, rfl, HOX, HXX, HZX⟩ := hrel
          obtain ⟨wx, rfl⟩ : ∃ wx : World, wx = wr := ⟨_, rfl⟩
          by_cases hlt : k < got.length - 1
          · obtain ⟨q', o', hA, hq', hcell⟩ := ints_at (HG.out.ext HXX.out) (k := k + 1) (by omega)
            have k1 := hcell (k + 1) (by omega)
            simp only [Option.some.injEq, Addr.mk.injEq] at hA
            obtain ⟨rfl, rfl, -⟩ := hA
            rw [show o + (k + 1) = o + 1 + k by omega] at k1
            generalize hy1 : got.getD (k + 1) 0 = y1 at *
            obtain ⟨p1, q1, r1⟩ := isCx_ref y1
            have HWK := Lib.hid (show spineW got at_ (k + 1) = spineW got at_ k ++ [.int .i64 (at_ + 2 + k), .complex .f64 p1 q1] by rw [HW0.out, hy1, r1])
            have HR1 := Lib.hid (fun w' => r1 ▸ ref_any y1 w')
            have hi1 : (k : Int) < (got.length : Int) - 1 := by omega
            clear hy1 r1 hcell
            go_wp2_with fail
            refine (HR1.out _).mono ?_
            rintro e w4 ⟨rfl, X4, rfl⟩
            go_wp2_with (at_builtin; refine wpList_append_own_at _ rfl (.tmp 109) (.tmp 117) 28 rfl (bs + 1) 48 i0 (.agg #[.int .i64 0, .complex .f64 0 0]) 2 24 Try.underlying28 hi0 hz0 hz1 hz2 rfl (by decide) _ (8 * got.length + 2 + k) _ rfl (own_ext HOX.out (show Ext wx _ by (repeat (first | (with_reducible assumption) | (with_reducible exact Ext.refl _) | (with_reducible exact Ext.more _ _ _ _) | apply Ext.alloc | refine Ext.setCell ?_ (by first | exact Nat.le_refl _ | exact Nat.le_add_right _ _ | assumption) _ | apply Ext.patch | apply Ext.drew | apply Ext.drewN)))) _ 1 1 [.int .i64 (at_ + 2 + k), .complex .f64 p1 q1] rfl rfl (news_new _ _ _) (by intro u hu; simp at hu; rcases hu with rfl | rfl <;> rfl) (by unfold maxLen; omega) (by omega) (Nat.le_trans HZX.out (Ext.size (show Ext wx _ by (repeat (first | (with_reducible assumption) | (with_reducible exact Ext.refl _) | (with_reducible exact Ext.more _ _ _ _) | apply Ext.alloc | refine Ext.setCell ?_ (by first | exact Nat.le_refl _ | exact Nat.le_add_right _ _ | assumption) _ | apply Ext.patch | apply Ext.drew | apply Ext.drewN))))) ?_; intro v2 w5 hown5 hgrow5 _ hblk5)
            have HX5 := Lib.hid (show Ext w w5 from ext_grown (HXX.out.trans (show Ext wx _ by (repeat (first | (with_reducible assumption) | (with_reducible exact Ext.refl _) | (with_reducible exact Ext.more _ _ _ _) | apply Ext.alloc | refine Ext.setCell ?_ (by first | exact Nat.le_refl _ | exact Nat.le_add_right _ _ | assumption) _ | apply Ext.patch | apply Ext.drew | apply Ext.drewN)))) hgrow5 (fun k hk => by have h5 := (HOX.out.lt k hk).1; have h6 := HST.out.lt1; have h7 := HST.out.lt2; omega))
            have HO5 := Lib.hid (show w5.ownsRow (bs + 1) 48 2 v2 (8 * got.length + 2 + (k + 1)) (arrFrags ⟨arr, A', cap', refs⟩ kind n at_ got got.length ++ spineW got at_ (k + 1)) by rw [HWK.out, ← List.append_assoc]; exact hown5)
            have HZ5 := Lib.hid (show bs + 1 ≤ w5.heap.size from Nat.le_trans (Nat.le_trans HZX.out (Ext.size (show Ext wx _ by (repeat (first | (with_reducible assumption) | (with_reducible exact Ext.refl _) | (with_reducible exact Ext.more _ _ _ _) | apply Ext.alloc | refine Ext.setCell ?_ (by first | exact Nat.le_refl _ | exact Nat.le_add_right _ _ | assumption) _ | apply Ext.patch | apply Ext.drew | apply Ext.drewN))))) hgrow5.size)
            clear hown5 hgrow5 hblk5
            go_wp2_with fail
            go_roundw
            case rel => exact ⟨k + 1, by omega, by go_num, HO5, HX5, HZ5⟩
            case measure => simp [intOf]; omega
          · obtain rfl : k = got.length - 1 := by omega
            have hi1 : ¬ (((got.length - 1 : Nat) : Int) < (got.length : Int) - 1) := by omega
            go_wp2_with fail
            go_step3
            go_wp2_with fail
            rw [Exit.jump2_ret]
            go_ret2
            exact ⟨⟨arr, A', cap', refs⟩, _, 8 * got.length + 2 + (got.length - 1), by rw [HFN.out]; rfl, HST.out.what, by rw [if_pos HFN.out, HEN.out, if_pos trivial]; exact own_lower HOX.out (by have := HST.out.lt1; have := HST.out.lt2; omega), HXX.out⟩
      · have h1b : (m == 1) = false := by simp [h1]
        go_wp2_with fail
        go_step3
        go_wp2_with fail
        rw [Exit.jump2_ret]
        go_ret2
        exact ⟨⟨arr, A', cap', refs⟩, l, 8 * got.length, by rw [HFN.out]; rfl, HST.out.what, by rw [if_pos HFN.out, HEN.out, if_neg h1, List.append_nil]; exact own_lower HST.out.own (by have := HST.out.lt1; have := HST.out.lt2; omega), HST.out.ext⟩
  · intro H
    have HH := Lib.hid H
    clear H
    go_wp2_with fail
    refine (HW.out _ (by (repeat (first | (with_reducible assumption) | (with_reducible exact Ext.refl _) | (with_reducible exact Ext.more _ _ _ _) | apply Ext.alloc | refine Ext.setCell ?_ (by first | exact Nat.le_refl _ | exact Nat.le_add_right _ _ | assumption) _ | apply Ext.patch | apply Ext.drew | apply Ext.drewN)))).mono ?_
    rintro e w1 ⟨s, rfl, hs, hok, X1, rfl⟩
    obtain ⟨arr, A', cap', refs⟩ := s
    have HS := Lib.hid hs
    have HO := Lib.hid hok
    clear hs hok HW
    unfold Shp.val
    simp only
    by_cases hE : wrongE c (c.shapeAt kind).isSome ⟨arr, A', cap', refs⟩ n true got = 0
    · rw [hE]
      have HE := Lib.hid hE
      clear hE
      go_wp2_with fail
      have hsz := arr_size HE.out
      simp only at hsz
      have HQ := Lib.hid (show ArrSt c kind n at_ got w 0 (.slice none 0 0) ⟨arr, A', cap', refs⟩ (w.heap.size + 1) (((w.alloc (.cells #[.int .i64 c.frags, .int .i64 c.spine, .int .i64 c.globals, .int .i64 c.threads, .int .i64 c.locals, .int .i64 c.cache, .int .i64 c.stack, .int .i64 c.low, .slice c.A c.shapes.length c.cap] 24)).alloc (.cells #[.complex .f64 0 0, .complex .f64 0 0, .complex .f64 0 0, .complex .f64 0 0, .complex .f64 0 0, .complex .f64 0 0, .complex .f64 0 0, .complex .f64 0 0] 74)).patch X1).heap.size [wZero, wZero, wZero, wZero, wZero, wZero, wZero, wZero] ((((w.alloc (.cells #[.int .i64 c.frags, .int .i64 c.spine, .int .i64 c.globals, .int .i64 c.threads, .int .i64 c.locals, .int .i64 c.cache, .int .i64 c.stack, .int .i64 c.low, .slice c.A c.shapes.length c.cap] 24)).alloc (.cells #[.complex .f64 0 0, .complex .f64 0 0, .complex .f64 0 0, .complex .f64 0 0, .complex .f64 0 0, .complex .f64 0 0, .complex .f64 0 0, .complex .f64 0 0] 74)).patch X1).alloc (.cells #[.bool arr, .slice A' refs.length cap'] 37)) from ?hq0)
      case hq0 =>
        have hz : (w.alloc (.cells #[.int .i64 c.frags, .int .i64 c.spine, .int .i64 c.globals, .int .i64 c.threads, .int .i64 c.locals, .int .i64 c.cache, .int .i64 c.stack, .int .i64 c.low, .slice c.A c.shapes.length c.cap] 24)).heap.size = w.heap.size + 1 := World.size_alloc _ _
        have hp0 := World.size_alloc (w.alloc (.cells #[.int .i64 c.frags, .int .i64 c.spine, .int .i64 c.globals, .int .i64 c.threads, .int .i64 c.locals, .int .i64 c.cache, .int .i64 c.stack, .int .i64 c.low, .slice c.A c.shapes.length c.cap] 24)) (.cells #[.complex .f64 0 0, .complex .f64 0 0, .complex .f64 0 0, .complex .f64 0 0, .complex .f64 0 0, .complex .f64 0 0, .complex .f64 0 0, .complex .f64 0 0] 74)
        have hp := World.size_patch ((w.alloc (.cells #[.int .i64 c.frags, .int .i64 c.spine, .int .i64 c.globals, .int .i64 c.threads, .int .i64 c.locals, .int .i64 c.cache, .int .i64 c.stack, .int .i64 c.low, .slice c.A c.shapes.length c.cap] 24)).alloc (.cells #[.complex .f64 0 0, .complex .f64 0 0, .complex .f64 0 0, .complex .f64 0 0, .complex .f64 0 0, .complex .f64 0 0, .complex .f64 0 0, .complex .f64 0 0] 74)) X1
        refine { box := ?_, dblk := ?_, sblk := World.row_alloc_new _, vlen := rfl, vcx := ?_, sok := HO.out.ext (by (repeat (first | (with_reducible assumption) | (with_reducible exact Ext.refl _) | (with_reducible exact Ext.more _ _ _ _) | apply Ext.alloc | refine Ext.setCell ?_ (by first | exact Nat.le_refl _ | exact Nat.le_add_right _ _ | assumption) _ | apply Ext.patch | apply Ext.drew | apply Ext.drewN))), slt := fun a ha hr => ?_, ext := by (repeat (first | (with_reducible assumption) | (with_reducible exact Ext.refl _) | (with_reducible exact Ext.more _ _ _ _) | apply Ext.alloc | refine Ext.setCell ?_ (by first | exact Nat.le_refl _ | exact Nat.le_add_right _ _ | assumption) _ | apply Ext.patch | apply Ext.drew | apply Ext.drewN)), own := ⟨rfl, Or.inl ⟨rfl, rfl⟩⟩, lt1 := Nat.lt_succ_self _, lt2 := by omega, what := HS.out, fine0 := HE.out }
        · rw [World.row_alloc_past _ (by omega), World.heap_patch _ _ _ (by omega), World.row_alloc_past _ (by omega), World.row_alloc_new]
        · rw [World.row_alloc_past _ (by omega), World.heap_patch _ _ _ (by omega), ← hz, World.row_alloc_new]; rfl
        · intro v hv
          simp only [List.mem_cons, List.not_mem_nil, or_false] at hv
          rcases hv with rfl | rfl | rfl | rfl | rfl | rfl | rfl | rfl <;> exact isCx_zero
        · obtain ⟨b, o, hA, hb, _⟩ := HO.out.refs.cases (by simpa using hr)
          rw [ha] at hA
          cases hA
          exact hb
      generalize hwq : ((w.alloc (.cells #[.int .i64 c.frags, .int .i64 c.spine, .int .i64 c.globals, .int .i64 c.threads, .int .i64 c.locals, .int .i64 c.cache, .int .i64 c.stack, .int .i64 c.low, .slice c.A c.shapes.length c.cap] 24)).alloc (.cells #[.complex .f64 0 0, .complex .f64 0 0, .complex .f64 0 0, .complex .f64 0 0, .complex .f64 0 0, .complex .f64 0 0, .complex .f64 0 0, .complex .f64 0 0] 74)).patch X1 = wq at *
      clear hwq HO X1
      generalize wq.heap.size = bs at *
      generalize wq.alloc (.cells #[.bool arr, .slice A' refs.length cap'] 37) = wp at *
      refine (data_any n _).mono ?_
      rintro e w2 ⟨rfl, hX2⟩
      have HQ2 := Lib.hid (HQ.out.patch (show Ext wp w2 from hX2))
      clear hX2 HQ
      go_wp2_with fail
      refine (HMD.out _ HQ2.out.ext).mono ?_
      rintro e w3 ⟨rfl, hX3⟩
      have HQ3 := Lib.hid (HQ2.out.patch (show Ext w2 w3 from hX3))
      clear hX3 HQ2 HMD
      have HM4 := Lib.hid (@arrMode_one n got)
      have HM2 := Lib.hid (show arrMode n got = 0 ∨ arrMode n got = 1 ∨ (arrMode n got = 2 ∧ 1 < got.length) from ?hm2)
      case hm2 =>
        rcases arrMode_bd n got with h | h | h
        · exact Or.inl h
        · exact Or.inr (Or.inl h)
        · refine Or.inr (Or.inr ⟨h, ?_⟩)
          unfold arrMode modeOf at h
          split at h
          · omega
          · have := hsz.2.1
            omega
      have hlen : 1 ≤ got.length := by have := hsz.2.1; have := sData_bd n; omega
      have hrl : 0 < refs.length := by omega
      have hrl2 : refs.length ≤ 1 := by omega
      clear hsz
      generalize hM : arrMode n got = m at *
      have HM := Lib.hid hM
      clear hM
      have HBG := Lib.hid (fun X => begins_any c at_ (Shp.spine ⟨arr, A', cap', refs⟩ n) (w3.patch X) (HCO.out.ext (HQ3.out.ext.patch X)) HAT.out.1 HAT.out.2 (spine_bd _ _))
      have HSP := Lib.hid (fun X => sspine_any ⟨arr, A', cap', refs⟩ n (w3.patch X) (HQ3.out.sok.ext ⟨X, rfl⟩))
      unfold Cnf.val at HBG
      unfold Shp.val at HSP
      simp only at HSP
      generalize hsp : Shp.spine ⟨arr, A', cap', refs⟩ n = sp at *
      have HSN := Lib.hid hsp
      generalize hbb : beginsAt c at_ sp = bb at *
      have HBB := Lib.hid hbb
      clear hsp hbb
      have g0 : w3.cell? ⟨w.heap.size, 0, none⟩ = some (.int .i64 c.frags) := (by simp only [World.cell?, HQ3.out.box]; rfl)
      have g1 : w3.cell? ⟨w.heap.size, 1, none⟩ = some (.int .i64 c.spine) := (by simp only [World.cell?, HQ3.out.box]; rfl)
      have g2 : w3.cell? ⟨w.heap.size, 2, none⟩ = some (.int .i64 c.globals) := (by simp only [World.cell?, HQ3.out.box]; rfl)
      have g3 : w3.cell? ⟨w.heap.size, 3, none⟩ = some (.int .i64 c.threads) := (by simp only [World.cell?, HQ3.out.box]; rfl)
      have g4 : w3.cell? ⟨w.heap.size, 4, none⟩ = some (.int .i64 c.locals) := (by simp only [World.cell?, HQ3.out.box]; rfl)
      have g5 : w3.cell? ⟨w.heap.size, 5, none⟩ = some (.int .i64 c.cache) := (by simp only [World.cell?, HQ3.out.box]; rfl)
      have g6 : w3.cell? ⟨w.heap.size, 6, none⟩ = some (.int .i64 c.stack) := (by simp only [World.cell?, HQ3.out.box]; rfl)
      have g7 : w3.cell? ⟨w.heap.size, 7, none⟩ = some (.int .i64 c.low) := (by simp only [World.cell?, HQ3.out.box]; rfl)
      have g8 : w3.cell? ⟨w.heap.size, 8, none⟩ = some (.slice c.A c.shapes.length c.cap) := (by simp only [World.cell?, HQ3.out.box]; rfl)
      have gl : w.heap.size < w3.heap.size := (Array.getElem?_eq_some_iff.1 HQ3.out.box).1
      have s0 : w3.cell? ⟨bs, 0, none⟩ = some (.bool arr) := (by simp only [World.cell?, HQ3.out.sblk]; rfl)
      have s1 : w3.cell? ⟨bs, 1, none⟩ = some (.slice A' refs.length cap') := (by simp only [World.cell?, HQ3.out.sblk]; rfl)
      have hbs : bs < w3.heap.size := (Array.getElem?_eq_some_iff.1 HQ3.out.sblk).1
      go_upto_region 7 with fail
      go_cut [45] (fun v wx => v = .bool (decide (m = 1) && !bb) ∧ Ext w3 wx)
      case first =>
        clear HH
        by_cases hm : m = 1
        · subst hm
          refine wp_region_mixed [true, true, true, true, true, true, true, true, true, true, true] 0 11 (by kernel_rfl) (by kernel_rfl) (by kernel_rfl) ?_ (by decide) (by decide) (by decide) (by kernel_rfl) ?_
          · intro c a d v w h; cases d <;> exact h
          intro X00
          simp only [pickOps]
          repeat (go_big_quiet_step (first | (go_at_call 51; exact Calls.added (HSP.out _)) | (go_at_call 50; exact Calls.added (HBG.out _))))
          refine wpQuiet_nil (fun X0 => ?_)
          clear X00
          refine wpAnyM_done (by kernel_rfl) (fun X0' => ?_) _
          go_wp2_with fail
          go_meet
          exact ⟨by simp, by (repeat (first | (with_reducible assumption) | (with_reducible exact Ext.refl _) | (with_reducible exact Ext.more _ _ _ _) | apply Ext.alloc | refine Ext.setCell ?_ (by first | exact Nat.le_refl _ | exact Nat.le_add_right _ _ | assumption) _ | apply Ext.patch | apply Ext.drew | apply Ext.drewN))⟩
        · have hmb : (m == 1) = false := by simp [hm]
          refine wp_region_mixed [true, true, true, true, true, true, true, true, true, true, true] 0 11 (by kernel_rfl) (by kernel_rfl) (by kernel_rfl) ?_ (by decide) (by decide) (by decide) (by kernel_rfl) ?_
          · intro c a d v w h; cases d <;> exact h
          intro X00
          simp only [pickOps]
          repeat (go_big_quiet_step (fail))
          refine wpQuiet_nil (fun X0 => ?_)
          clear X00
          refine wpAnyM_done (by kernel_rfl) (fun X0' => ?_) _
          go_wp2_with fail
          go_meet
          exact ⟨by simp [hm], by (repeat (first | (with_reducible assumption) | (with_reducible exact Ext.refl _) | (with_reducible exact Ext.more _ _ _ _) | apply Ext.alloc | refine Ext.setCell ?_ (by first | exact Nat.le_refl _ | exact Nat.le_add_right _ _ | assumption) _ | apply Ext.patch | apply Ext.drew | apply Ext.drewN))⟩
      case rest =>
        obtain ⟨rfl, hX4⟩ := hcut
        have HQ4 := Lib.hid (HQ3.out.patch hX4)
        clear hX4 HQ3 HBG HSP g0 g1 g2 g3 g4 g5 g6 g7 g8 gl s0 s1 hbs
        have HAE := Lib.hid (show arrE c (c.shapeAt kind).isSome ⟨arr, A', cap', refs⟩ n got at_ = if (decide (m = 1) && !bb) = true then 2 else 0 by unfold arrE; rw [if_pos HE.out, HM.out, HSN.out, HBB.out])
        generalize (decide (m = 1) && !bb) = bad at *
        cases bad
        · have HFN := Lib.hid (show arrE c (c.shapeAt kind).isSome ⟨arr, A', cap', refs⟩ n got at_ = 0 from HAE.out)
          clear HAE
          obtain ⟨q, o, rfl, hq, hcell⟩ := ints_at (HG.out.ext HQ4.out.ext) (k := 0) hlen
          have k0 := hcell 0 hlen
          rw [Nat.add_zero] at k0
          have hfj : fragOk c (got.getD 0 0) = true := fragOk_of HE.out hlen
          have HFR := Lib.hid (arrFrags_one ⟨arr, A', cap', refs⟩ kind n at_ got)
          have HSE := Lib.hid (fun X => show Calls Try.prog 52 #[.int .i64 kind, .int .i64 n, .int .i64 m, .slice (some ⟨q, o, none⟩) got.length cap, .int .i64 at_] (wc.patch X) (Gives (.agg (cxs (rowF (sentWords kind n m got at_))).toArray) (wc.patch X)) from by
            rw [cxs_rowF (sentWords_length _ _ _ _ _) (sentWords_cx _ _ _ _ _)]
            exact sentinel_any kind n m at_ _ cap got.length got _ (HG.out.ext (HQ4.out.ext.patch X)) rfl (by omega) HM2.out)
          have HSF := Lib.hid (show sentF kind n at_ got = rowF (sentWords kind n m got at_) by unfold sentF; rw [HM.out])
          generalize rowF (sentWords kind n m got at_) = f0 at *
          generalize got.getD 0 0 = y at *
          have g0 : wc.cell? ⟨w.heap.size, 0, none⟩ = some (.int .i64 c.frags) := (by simp only [World.cell?, HQ4.out.box]; rfl)
          have g1 : wc.cell? ⟨w.heap.size, 1, none⟩ = some (.int .i64 c.spine) := (by simp only [World.cell?, HQ4.out.box]; rfl)
          have g2 : wc.cell? ⟨w.heap.size, 2, none⟩ = some (.int .i64 c.globals) := (by simp only [World.cell?, HQ4.out.box]; rfl)
          have g3 : wc.cell? ⟨w.heap.size, 3, none⟩ = some (.int .i64 c.threads) := (by simp only [World.cell?, HQ4.out.box]; rfl)
          have g4 : wc.cell? ⟨w.heap.size, 4, none⟩ = some (.int .i64 c.locals) := (by simp only [World.cell?, HQ4.out.box]; rfl)
          have g5 : wc.cell? ⟨w.heap.size, 5, none⟩ = some (.int .i64 c.cache) := (by simp only [World.cell?, HQ4.out.box]; rfl)
          have g6 : wc.cell? ⟨w.heap.size, 6, none⟩ = some (.int .i64 c.stack) := (by simp only [World.cell?, HQ4.out.box]; rfl)
          have g7 : wc.cell? ⟨w.heap.size, 7, none⟩ = some (.int .i64 c.low) := (by simp only [World.cell?, HQ4.out.box]; rfl)
          have g8 : wc.cell? ⟨w.heap.size, 8, none⟩ = some (.slice c.A c.shapes.length c.cap) := (by simp only [World.cell?, HQ4.out.box]; rfl)
          have gl : w.heap.size < wc.heap.size := (Array.getElem?_eq_some_iff.1 HQ4.out.box).1
          have hbd : (w.heap.size + 1) < wc.heap.size := (Array.getElem?_eq_some_iff.1 HQ4.out.dblk).1
          have hbs : bs < wc.heap.size := (Array.getElem?_eq_some_iff.1 HQ4.out.sblk).1
          have hb2 := HQ4.out.lt2
          have hz2 := World.size_upTo wc (n := bs + 1) (by omega)
          have hfr : c.frags ≤ 1099511627776 := by have := (Cnf.ranged (Cnf.check_zero (wrongE_fine HE.out).1).1).1.2; omega
          have HLY := Lib.hid (fun X => lay_any c (.slice none 0 0) 0 [] y f0 (wc.patch X) (wc.upTo (bs + 1)) (bs + 1) (HCO.out.ext (HQ4.out.ext.upTo (by omega) (by omega))) hfj ((ext_upTo wc (by omega)).patch X) (by omega) (by rw [World.size_patch]; omega) ⟨rfl, Or.inl ⟨rfl, rfl⟩⟩ (by omega) hfr)
          unfold Cnf.val at HLY
          have HHH := HH
          clear hz2 hfr hfj hcell hb2 HH
          go_wp2_with fail
          refine wp_region_mixed [true, true, true, true, true, true, true, true, true, true, true, false, false] 2 11 (by kernel_rfl) (by kernel_rfl) (by kernel_rfl) ?_ (by decide) (by decide) (by decide) (by kernel_rfl) ?_
          · intro c a d v w h; cases d <;> exact h
          intro X00
          simp only [pickOps]
          repeat (go_big_quiet_step (exact Calls.added (HSE.out _)))
          refine wpQuiet_nil (fun X0 => ?_)
          clear X00
          refine wpAnyM_tailL rfl (by kernel_rfl) (fun X2 => ?_)
          simp only [List.drop_succ_cons, List.drop_zero]
          go_wp2_with fail
          refine (HLY.out _).mono ?_
          rintro e w6 ⟨v', rfl, hown, hE6, hz6⟩
          have HOW := Lib.hid (show w6.ownsRow (bs + 1) 48 2 v' (8 * 1) (arrFrags ⟨arr, A', cap', refs⟩ kind n at_ got 1) from by rw [HFR.out, HSF.out]; exact hown)
          have HQ6 := Lib.hid (HQ4.out.lay (show Ext (wc.upTo (bs + 1)) w6 from hE6) HOW.out)
          clear hown hE6 hz6 g0 g1 g2 g3 g4 g5 g6 g7 g8 gl HLY HSE HOW
          go_wp2_with fail
          trace "LOOP1"
          go_loopw [58] (fun i wx => ∃ k : Nat, k ≤ 8 ∧ i = .int .i64 k ∧ Hid (ArrSt c kind n at_ got w 1 v' ⟨arr, A', cap', refs⟩ (w.heap.size + 1) bs (dataTo (wBlank (refs.getD 0 false)) k) wx)) (fun i _ => 8 - (intOf i).toNat)
          case atStart => exact ⟨0, Nat.zero_le _, rfl, HQ6⟩
          case round =>
            obtain ⟨k, hk, rfl, HD⟩ := hrel
            obtain ⟨wx, rfl⟩ : ∃ wx : World, wx = wr := ⟨_, rfl⟩
            clear HQ6
            by_cases hlt : k < 8
            · obtain ⟨qb, ob, hA, hqb, hcb⟩ := HD.out.sok.refs.cases (by simpa using hrl)
              have c0 := hcb 0 (.bool (refs.getD 0 false)) (by rw [List.getElem?_map, List.getElem?_eq_getElem hrl, List.getD_eq_getElem?_getD, List.getElem?_eq_getElem hrl]; rfl)
              rw [Nat.add_zero] at c0
              have s0 : wx.cell? ⟨bs, 0, none⟩ = some (.bool arr) := (by simp only [World.cell?, HD.out.sblk]; rfl)
              have s1 : wx.cell? ⟨bs, 1, none⟩ = some (.slice A' refs.length cap') := (by simp only [World.cell?, HD.out.sblk]; rfl)
              have hbs : bs < wx.heap.size := (Array.getElem?_eq_some_iff.1 HD.out.sblk).1
              have HDS := Lib.hid (fun b => dataTo_succ b hlt)
              have HDL := Lib.hid (fun b => dataTo_length b hk)
              simp only at hA
              subst hA
              generalize refs.getD 0 false = x0 at *
              obtain ⟨p, qx, hp⟩ := isCx_blank x0
              have HBL := Lib.hid (fun w' => hp ▸ blank_any x0 w')
              have HP := Lib.hid hp
              clear hcb hp
              go_wp2_with fail
              refine (HBL.out _).mono ?_
              rintro e w7 ⟨rfl, X7, rfl⟩
              go_wp2_with (refine wpList_store_one rfl 46 (.tmp 67) (.tmp 66) rfl (w.heap.size + 1) k (.complex .f64 p qx) rfl rfl _ _ HD.out.dblk (by kernel_rfl) (by rw [HDL.out]; exact hlt) ⟨_, _, rfl⟩ ?_)
              go_roundw
              case rel => exact ⟨k + 1, by omega, by go_num, Lib.hid (by rw [← HDS.out, HP.out]; rw [HP.out] at HD; exact (HD.out.put _ (by rw [List.length_set]; exact HDL.out _) (by rw [HDS.out]; exact dataTo_cx ⟨_, _, rfl⟩ _)).patch ⟨X7, rfl⟩)⟩
              case measure => simp [intOf]; omega
            · obtain rfl : k = 8 := by omega
              have HD8 := Lib.hid (dataTo_all ⟨arr, A', cap', refs⟩ ▸ HD.out)
              obtain rfl := HM.out
              go_wp2_with fail
              go_step3
              refine (show ∀ (a : Act) (w : World), Code.wp _ _ _ a w → _ from by assumption) _ _ (HHH.out _ _ (ArrAt.of 1 v' ⟨arr, A', cap', refs⟩ (w.heap.size + 1) bs rfl (Nat.le_refl _) hlen HFN.out HD8.out))
        · clear HH
          go_wp2_with fail
          go_step3
          refine Or.inl ⟨rfl, ?_⟩
          go_wp2_with fail
          rw [Exit.noGoto_ret]
          go_ret2
          exact ⟨⟨arr, A', cap', refs⟩, .slice none 0 0, 0, by rw [HAE.out]; rfl, HS.out, by rw [HAE.out]; exact ⟨rfl, Or.inl ⟨rfl, rfl⟩⟩, HQ4.out.ext⟩
    · have HE := Lib.hid (show arrE c (c.shapeAt kind).isSome ⟨arr, A', cap', refs⟩ n got at_ = wrongE c (c.shapeAt kind).isSome ⟨arr, A', cap', refs⟩ n true got by unfold arrE; rw [if_neg hE])
      generalize wrongE c (c.shapeAt kind).isSome ⟨arr, A', cap', refs⟩ n true got = ev at *
      have hev : (ev != 0) = true := by simp [hE]
      clear HH
      go_wp2_with fail
      go_step3
      refine Or.inl ⟨rfl, ?_⟩
      go_wp2_with fail
      rw [Exit.noGoto_ret]
      go_ret2
      exact ⟨⟨arr, A', cap', refs⟩, .slice none 0 0, 0, by rw [HE.out]; rfl, HS.out, by rw [HE.out, if_neg hE]; exact ⟨rfl, Or.inl ⟨rfl, rfl⟩⟩, by (repeat (first | (with_reducible assumption) | (with_reducible exact Ext.refl _) | (with_reducible exact Ext.more _ _ _ _) | apply Ext.alloc | refine Ext.setCell ?_ (by first | exact Nat.le_refl _ | exact Nat.le_add_right _ _ | assumption) _ | apply Ext.patch | apply Ext.drew | apply Ext.drewN))⟩
end Go.Proofs.Ythdijbkcjmeilaa
/-
  Merged: XArrP.
-/
/-
  What a new array's writes are, word by word. No walk here.
-/
namespace Go.Proofs.Ythdijbkcjmeilaa
open Go Go.RowKit
set_option linter.unusedVariables false
theorem fragWrites_length (f0 f : Nat → Nat × Nat) (got : List Int) (j : Nat) : (fragWrites f0 f got j).length = j * 16 := by
  induction j with
  | zero => rfl
  | succ j ih => rw [fragWrites, List.length_append, ih, writes_length]; omega
theorem fragWrites_get (f0 f : Nat → Nat × Nat) (got : List Int) {n i k : Nat} (hi : i < n) (hk : k < 8) :
    (fragWrites f0 f got n)[(i * 8 + k) * 2]? = some (.int .i64 (got.getD i 0 * 8 + k)) ∧ (fragWrites f0 f got n)[(i * 8 + k) * 2 + 1]? = some (cx ((if i = 0 then f0 else f) k)) := by
  induction n with
  | zero => omega
  | succ n ih =>
    have hl := fragWrites_length f0 f got n
    by_cases h : i < n
    · obtain ⟨h1, h2⟩ := ih h
      exact ⟨by rw [fragWrites, List.getElem?_append_left (by omega), h1], by rw [fragWrites, List.getElem?_append_left (by omega), h2]⟩
    · obtain rfl : i = n := by omega
      obtain ⟨h1, h2⟩ := writes_get (got.getD i 0) (if i = 0 then f0 else f) hk
      refine ⟨?_, ?_⟩
      · rw [fragWrites, List.getElem?_append_right (by omega), hl, show (i * 8 + k) * 2 - i * 16 = k * 2 by omega, h1]
      · rw [fragWrites, List.getElem?_append_right (by omega), hl, show (i * 8 + k) * 2 + 1 - i * 16 = k * 2 + 1 by omega, h2]
theorem spineW_length (got : List Int) (at_ : Int) (k : Nat) : (spineW got at_ k).length = (k + 2) * 2 := by
  induction k with
  | zero => rfl
  | succ k ih => rw [spineW, List.length_append, ih]; simp; omega
/-- The k-th word of a spine. -/
def spineV (got : List Int) (k : Nat) : Value := if k = 0 then wRef (got.getD 0 0) else if k = 1 then wWhole ((got.length : Int) - 1) else wRef (got.getD (k - 1) 0)
theorem spineW_get (got : List Int) (at_ : Int) {n k : Nat} (hk : k < n + 2) : (spineW got at_ n)[k * 2]? = some (.int .i64 (at_ + k)) ∧ (spineW got at_ n)[k * 2 + 1]? = some (spineV got k) := by
  induction n with
  | zero =>
    rcases (show k = 0 ∨ k = 1 by omega) with rfl | rfl
    · exact ⟨by simp [spineW], by simp [spineW, spineV]⟩
    · exact ⟨by simp [spineW], by simp [spineW, spineV]⟩
  | succ n ih =>
    have hl := spineW_length got at_ n
    by_cases h : k < n + 2
    · obtain ⟨h1, h2⟩ := ih h
      exact ⟨by rw [spineW, List.getElem?_append_left (by omega), h1], by rw [spineW, List.getElem?_append_left (by omega), h2]⟩
    · obtain rfl : k = n + 2 := by omega
      refine ⟨?_, ?_⟩
      · rw [spineW, List.getElem?_append_right (by omega), hl, Nat.sub_self]
        show some _ = _
        congr 2
        omega
      · rw [spineW, List.getElem?_append_right (by omega), hl, Nat.add_sub_cancel_left]
        show some _ = _
        unfold spineV
        rw [if_neg (by omega), if_neg (by omega)]
        rfl
theorem arrWrites_length (s : Shp) (kind n at_ : Int) (got : List Int) (hg : 1 ≤ got.length) : (arrWrites s kind n at_ got).length = arrLen n got * 2 := by
  unfold arrWrites arrLen arrFrags
  rw [List.length_append, fragWrites_length]
  split
  · rw [spineW_length]; omega
  · simp only [List.length_nil]; omega
theorem arrWrites_frag (s : Shp) (kind n at_ : Int) (got : List Int) {i k : Nat} (hi : i < got.length) (hk : k < 8) :
    (arrWrites s kind n at_ got)[(i * 8 + k) * 2]? = some (.int .i64 (got.getD i 0 * 8 + k)) ∧ (arrWrites s kind n at_ got)[(i * 8 + k) * 2 + 1]? = some (cx ((if i = 0 then sentF kind n at_ got else dataF s) k)) := by
  obtain ⟨h1, h2⟩ := fragWrites_get (sentF kind n at_ got) (dataF s) got hi hk
  have hl := fragWrites_length (sentF kind n at_ got) (dataF s) got got.length
  unfold arrWrites arrFrags
  exact ⟨by rw [List.getElem?_append_left (by omega), h1], by rw [List.getElem?_append_left (by omega), h2]⟩
theorem arrWrites_spine (s : Shp) (kind n at_ : Int) (got : List Int) (hm : arrMode n got = 1) (hg : 1 ≤ got.length) {k : Nat} (hk : k < got.length + 1) :
    (arrWrites s kind n at_ got)[(8 * got.length + k) * 2]? = some (.int .i64 (at_ + k)) ∧ (arrWrites s kind n at_ got)[(8 * got.length + k) * 2 + 1]? = some (spineV got k) := by
  obtain ⟨h1, h2⟩ := spineW_get got at_ (n := got.length - 1) (k := k) (by omega)
  have hl := fragWrites_length (sentF kind n at_ got) (dataF s) got got.length
  unfold arrWrites arrFrags
  rw [if_pos hm]
  exact ⟨by rw [List.getElem?_append_right (by omega), hl, show (8 * got.length + k) * 2 - got.length * 16 = k * 2 by omega, h1], by rw [List.getElem?_append_right (by omega), hl, show (8 * got.length + k) * 2 + 1 - got.length * 16 = k * 2 + 1 by omega, h2]⟩
/-- The words of the first fragment. -/
theorem sentF_get (kind n at_ : Int) (got : List Int) {k : Nat} (hk : k < 8) : some (cx (sentF kind n at_ got k)) = (sentWords kind n (arrMode n got) got at_)[k]? := by
  have hl := sentWords_length kind n (arrMode n got) got at_
  have h := cxs_rowF hl (sentWords_cx kind n (arrMode n got) got at_)
  have e : (cxs (sentF kind n at_ got))[k]? = (sentWords kind n (arrMode n got) got at_)[k]? := by unfold sentF; rw [h]
  rw [← e]
  unfold cxs
  rw [List.getElem?_map, List.getElem?_range hk]
  rfl
/-- One behind the other from the first on. -/
def runTo (l : List Int) (k : Nat) : Bool := (List.range k).all fun i => decide (l.getD (i + 1) 0 = l.getD 0 0 + (i + 1 : Nat))
theorem runTo_succ (l : List Int) (k : Nat) : runTo l (k + 1) = (runTo l k && decide (l.getD (k + 1) 0 = l.getD 0 0 + (k + 1 : Nat))) := by
  unfold runTo; rw [List.range_succ, List.all_append]; simp
theorem runTo_get {l : List Int} {k : Nat} (h : runTo l k = true) : ∀ i, i ≤ k → l.getD i 0 = l.getD 0 0 + (i : Nat) := by
  intro i hi
  cases i with
  | zero => simp
  | succ i =>
    have := List.all_eq_true.1 h i (List.mem_range.2 (by omega))
    simpa using this
theorem runTo_side {l : List Int} (hb : ∀ i, i < l.length → l.getD i 0 < 1024) : ∀ k, k < l.length → runTo l k = sideTo l k
  | 0, _ => rfl
  | k + 1, hk => by
    have ih := runTo_side hb k (by omega)
    rw [runTo_succ, sideTo_succ, ← ih]
    cases h : runTo l k
    · rfl
    · have h1 := runTo_get h k (Nat.le_refl _)
      have h2 := hb k (by omega)
      rw [Bool.true_and, Bool.true_and]
      apply decide_eq_decide.2
      omega
theorem run_side {l : List Int} (hb : ∀ i, i < l.length → l.getD i 0 < 1024) (h : 1 ≤ l.length) : runTo l (l.length - 1) = isSide l := runTo_side hb _ (by omega)
end Go.Proofs.Ythdijbkcjmeilaa
