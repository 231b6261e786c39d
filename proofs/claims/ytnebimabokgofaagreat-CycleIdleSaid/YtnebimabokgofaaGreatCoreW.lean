import Derived.Test.YtnebimabokgofaaGreatCore
import Derived.Test.YtnebimabokgofaaGreatPileP
/-
  core: one part turned, the others kept.
-/
namespace Go.Proofs.YtnebimabokgofaaGreat
open Go Go.RowKit
set_option linter.unusedVariables false
section
variable {g g' : GW} {B b bm bs bt bp bsp bh : Nat} {K : CoreS} {cm : Cnf}
theorem CoreIn.putMem (h : CoreIn g B b K bm bs bt bp bsp bh cm) {M : MemS} (m : Mod (fun x => x = B + 62) g g') (hm : MemAt g' (B + 62) bm M) : CoreIn g' B b { K with mem := M } bm bs bt bp bsp bh cm :=
  ⟨h.blk.keep m (by omega), hm, h.sh.keep m (by omega), h.pile.keep m (by omega), h.sp.keep m (fun x hx => by omega), h.hand.keep m (by omega), h.cnf.keep m (by omega), h.same⟩
theorem CoreIn.putHand (h : CoreIn g B b K bm bs bt bp bsp bh cm) {H : HandS} (m : Mod (fun x => x = B + 63) g g') (hm : HandAt g' (B + 63) bh H) : CoreIn g' B b { K with hand := H } bm bs bt bp bsp bh cm :=
  ⟨h.blk.keep m (by omega), h.mem.keep m (by omega), h.sh.keep m (by omega), h.pile.keep m (by omega), h.sp.keep m (fun x hx => by omega), hm, h.cnf.keep m (by omega), h.same⟩
theorem CoreIn.putSp (h : CoreIn g B b K bm bs bt bp bsp bh cm) {S : SpaceS} (m : Mod (inst B) g g') (hm : SpaceAt g' B bsp bt S) : CoreIn g' B b { K with sp := S } bm bs bt bp bsp bh cm :=
  ⟨h.blk.keep m (fun hx => by have := hx.2; omega), h.mem.keep m (fun hx => by have := hx.2; omega), h.sh.keep m (fun hx => by have := hx.2; omega), h.pile.keep m (fun hx => by have := hx.2; omega), hm, h.hand.keep m (fun hx => by have := hx.2; omega), h.cnf.keep m (fun hx => by have := hx.2; omega), h.same⟩
/-- The table is turned, beside the shade's own blocks. -/
theorem SpaceAt.putTab {S : SpaceS} (h : SpaceAt g B b bt S) {T : TabS} (m : Mod (fun x => x = B + 60 ∨ x = B + 50 ∨ x = B + 61) g g') (ht : TabAt g' (B + 50) bt T) : SpaceAt g' B b bt { S with tab := T } := by
  obtain ⟨bp, bk, bl, A, cs, cm, bs, h⟩ := h
  exact ⟨bp, bk, bl, A, cs, cm, bs, ⟨h.blk.keep m (by omega), h.row.keep m (by omega), ht, h.pool.keep m (by omega), h.coil.keep m (by omega), h.line.keep m (by omega) (by omega), h.cnf.keep m (by omega), h.same, h.blen, fun j x s hx hs => (h.stock j x s hx hs).keep m (by have h1 : j < S.stocks.length := (List.getElem?_eq_some_iff.1 hs).1; have := h.few; omega), h.check, h.few⟩⟩
theorem SpaceAt.tab {S : SpaceS} (h : SpaceAt g B b bt S) : TabAt g (B + 50) bt S.tab := by
  obtain ⟨bp, bk, bl, A, cs, cm, bs, h⟩ := h
  exact h.tab
theorem CoreIn.shd (h : CoreIn g B b K bm bs bt bp bsp bh cm) : ShdAt g (B + 60) bs bt (B + 50) bp (B + 61) K.sp.tab K.pile K.n := ⟨h.sh, h.sp.tab, h.pile⟩
theorem CoreIn.putShd (h : CoreIn g B b K bm bs bt bp bsp bh cm) {T : TabS} {p : PileS} {n : Int} (m : Mod (fun x => x = B + 60 ∨ x = B + 50 ∨ x = B + 61) g g') (hs : ShdAt g' (B + 60) bs bt (B + 50) bp (B + 61) T p n) : CoreIn g' B b { K with sp := { K.sp with tab := T }, pile := p, n := n } bm bs bt bp bsp bh cm :=
  ⟨h.blk.keep m (by omega), h.mem.keep m (by omega), hs.blk, hs.pile, h.sp.putTab m hs.tab, h.hand.keep m (by omega), h.cnf.keep m (by omega), h.same⟩
end
end Go.Proofs.YtnebimabokgofaaGreat

