import Derived.Test.YtdhjjpnajjingaaGreatKL00
import Derived.Laws.MakeOwn
import Derived.Laws.OwnMore
set_option linter.unusedVariables false
set_option linter.unnecessarySimpa false
set_option linter.unusedSimpArgs false
open Bool renaming true→zT,false→zU
open Go.Value renaming int→zI
open Go.IntKind renaming i64→z6
set_option maxHeartbeats 8000000
set_option maxRecDepth 100000
open Go.Lib renaming hid→zH
namespace Go
open Go.RowKit
theorem Ext.cell {a b:World} (h:Ext a b) {k o:Nat} (hk:k<a.heap.size):b.cell? ⟨k,o,none⟩=a.cell? ⟨k,o,none⟩:=World.cell?_of_block (h.heap k hk)
theorem Ext.live {a b:World} (h:Ext a b) {k o:Nat} (hk:k<a.heap.size):b.frozen? ⟨k,o,none⟩=a.frozen? ⟨k,o,none⟩:=World.frozen?_of_block (h.heap k hk)
structure GW where
 own:Nat→Nat
 w:World
structure Mod (T:Nat→Prop) (g g':GW):Prop where
 os:g'.w.os=g.w.os
 tape:g'.w.tape=g.w.tape
 output:g'.w.output=g.w.output
 size:g.w.heap.size≤g'.w.heap.size
 own: ∀k,k<g.w.heap.size→g'.own k=g.own k
 block: ∀k,k<g.w.heap.size→ ¬T (g.own k)→g'.w.heap[k]?=g.w.heap[k]?
namespace Mod
variable {T S:Nat→Prop} {a b c:GW}
theorem refl (T:Nat→Prop) (g:GW):Mod T g g:=⟨rfl,rfl,rfl,Nat.le_refl _,fun _ _=>rfl,fun _ _ _=>rfl⟩
theorem trans (h:Mod T a b) (k:Mod T b c):Mod T a c:=
 ⟨k.os.trans h.os,k.tape.trans h.tape,k.output.trans h.output,Nat.le_trans h.size k.size,fun i hi=>(k.own i (Nat.lt_of_lt_of_le hi h.size)).trans (h.own i hi),
  fun i hi ht=>(k.block i (Nat.lt_of_lt_of_le hi h.size) (by rw [h.own i hi];exact ht)).trans (h.block i hi ht)⟩
theorem mono (h:Mod T a b) (hs: ∀t,T t→S t):Mod S a b:=⟨h.os,h.tape,h.output,h.size,h.own,fun k hk hn=>h.block k hk fun ht=>hn (hs _ ht)⟩
end Mod
def GW.to (g:GW) (t:Nat) (w':World):GW:=⟨fun k=>if k<g.w.heap.size then g.own k else t,w'⟩
theorem GW.to_old {g:GW} {t:Nat} {w':World} {k:Nat} (h:k<g.w.heap.size):(g.to t w').own k=g.own k:=if_pos h
theorem GW.to_new {g:GW} {t:Nat} {w':World} {k:Nat} (h:g.w.heap.size≤k):(g.to t w').own k=t:=if_neg zo
theorem Mod.ext {T:Nat→Prop} {g:GW} {w':World} (h:Ext g.w w') (t:Nat):Mod T g (g.to t w'):=by
 obtain ⟨h1,h2,h3,h4,h5⟩:=h.below;exact ⟨h1,h2,h3,h4,fun k hk=>GW.to_old hk,fun k hk _=>h5 k hk⟩
theorem Mod.set {T:Nat→Prop} {g:GW} {b i:Nat} {v:Value} (h:T (g.own b)):Mod T g ⟨g.own,g.w.setCell ⟨b,i,none⟩ v⟩:=
 ⟨rfl,rfl,rfl,by rw [World.size_setCell];exact Nat.le_refl _,fun _ _=>rfl,fun k _ hn=>Below.heap_setCell _ _ _ _ (fun e=>hn (by simp only at e;rw [e];exact h))⟩
theorem Mod.put {T:Nat→Prop} {g:GW} {b:Nat} {o:Obj} (h:T (g.own b)):Mod T g ⟨g.own,g.w.putBlk b o⟩:=
 ⟨rfl,rfl,rfl,by rw [World.size_putBlk];exact Nat.le_refl _,fun _ _=>rfl,fun k _ hn=>World.row_put_other _ (fun e=>hn (by rw [←e];exact h))⟩
theorem Mod.grown {T:Nat→Prop} {g:GW} {w':World} {row:Option Nat} (h:g.w.grownBy w' row) (t:Nat) (hr: ∀k,row=some k→k<g.w.heap.size→T (g.own k)):Mod T g (g.to t w'):=
 ⟨h.os,h.tape,h.output,h.size,fun k hk=>GW.to_old hk,fun k hk hn=>h.block k hk (fun e=>hn (hr k e.symm hk))⟩
def Does (v:Value) (g:GW) (T:Nat→Prop) (R:GW→Prop) (e:Ending) (w':World):Prop:=e=.returned v∧ ∃own',Mod T g ⟨own',w'⟩∧R ⟨own',w'⟩
theorem Does.mk {v v':Value} {g g':GW} {T:Nat→Prop} {R:GW→Prop} (hv:v'=v) (hm:Mod T g g') (hr:R g'):Does v g T R (.returned v') g'.w:=⟨by rw [hv],g'.own,hm,hr⟩
theorem Does.of {v v':Value} {g:GW} {T:Nat→Prop} {R:GW→Prop} {w':World} (g':GW) (hw:g'.w=w') (hv:v'=v) (hm:Mod T g g') (hr:R g'):Does v g T R (.returned v') w':=by
 subst hw;exact Does.mk hv hm hr
structure Blk (g:GW) (t b:Nat) (T:TypeId) (vs:List Value):Prop where
 row:g.w.heap[b]?=some (.cells vs.toArray T)
 own:g.own b=t
namespace Blk
variable {g g':GW} {t b:Nat} {T:TypeId} {vs:List Value}
theorem lt (h:Blk g t b T vs):b<g.w.heap.size:=(Array.getElem?_eq_some_iff.1 h.row).1
theorem cell (h:Blk g t b T vs) {i:Nat} {v:Value} (hi:vs[i]?=some v):g.w.cell? ⟨b,i,none⟩=some v:=ycd h.row hi
theorem live (h:Blk g t b T vs) (i:Nat):g.w.frozen? ⟨b,i,none⟩=false:=ydh h.row
theorem keep {S:Nat→Prop} (h:Blk g t b T vs) (m:Mod S g g') (hs: ¬S t):Blk g' t b T vs:=
 ⟨by rw [m.block b h.lt (by rw [h.own];exact hs)];exact h.row,by rw [m.own b h.lt];exact h.own⟩
theorem set (h:Blk g t b T vs) (i:Nat) (v:Value):Blk ⟨g.own,g.w.setCell ⟨b,i,none⟩ v⟩ t b T (vs.set i v):=
 ⟨by rw [World.setCell_row _ h.row,List.setIfInBounds_toArray];exact World.row_put _ h.lt,h.own⟩
theorem setOther (h:Blk g t b T vs) {b':Nat} (i:Nat) (v:Value) (hb:b'≠b):Blk ⟨g.own,g.w.setCell ⟨b',i,none⟩ v⟩ t b T vs:=
 ⟨by rw [Below.heap_setCell _ _ _ _ (fun e=>hb (by simpa using e.symm))];exact h.row,h.own⟩
theorem put (h:Blk g t b T vs) (vs':List Value):Blk ⟨g.own,g.w.putBlk b (.cells vs'.toArray T)⟩ t b T vs':=⟨World.row_put _ h.lt,h.own⟩
theorem ext (h:Blk g t b T vs) {w':World} (he:Ext g.w w') (t':Nat):Blk (g.to t' w') t b T vs:=h.keep (S:=fun _=>False) (Mod.ext he t') id
theorem new (g:GW) (t:Nat) (T:TypeId) (vs:List Value):Blk (g.to t (g.w.alloc (.cells vs.toArray T))) t g.w.heap.size T vs:=⟨World.row_alloc_new _,GW.to_new (Nat.le_refl _)⟩
theorem same {t':Nat} {T':TypeId} {vs':List Value} (h:Blk g t b T vs) (k:Blk g t' b T' vs'):vs=vs':=by
 have e:=h.row;rw [k.row] at e;simp only [Option.some.injEq,Obj.cells.injEq] at e;have:=congrArg Array.toList e.1;simpa using this.symm
theorem ne {t' b':Nat} {T':TypeId} {vs':List Value} (h:Blk g t b T vs) (k:Blk g t' b' T' vs') (ht:t≠t'):b≠b':=fun e=>ht (by rw [←h.own, ←k.own,e])
end Blk
structure Row (g:GW) (t:Nat) (E:TypeId) (size:Nat) (v:Value) (n:Nat) (xs:List Value):Prop where
 row:g.w.ownsRow 0 E size v n xs
 own: ∀k,v.ownBlock=some k→g.own k=t
namespace Row
variable {g g':GW} {t:Nat} {E:TypeId} {size n:Nat} {v:Value} {xs:List Value}
theorem lt (h:Row g t E size v n xs): ∀k,v.ownBlock=some k→k<g.w.heap.size:=fun k hk=>(h.row.lt k hk).2
theorem len (h:Row g t E size v n xs):xs.length=n*size:=h.row.1
theorem nil (g:GW) (t:Nat) (E:TypeId) (size:Nat):Row g t E size (.slice none 0 0) 0 []:=⟨World.ownsRow_nil _ _ _ _,fun k hk=>by simp [Value.ownBlock] at hk⟩
theorem form (h:Row g t E size v n xs): ∃A c,v=.slice A n c∧n≤c∧c≤9223372036854775807∧(A=none→n=0):=by
 rcases h.row.2 with ⟨hv,hn⟩|⟨b,cap,cur,hv,_,_,hn,hc,_⟩
 · exact ⟨none,0,by rw [hv,hn],zo,zo,fun _=>hn⟩
 · exact ⟨_,_,hv,hn,hc,fun e=>by cases e⟩
theorem keep {S:Nat→Prop} (h:Row g t E size v n xs) (m:Mod S g g') (hs: ¬S t):Row g' t E size v n xs:=by
 refine ⟨⟨h.row.1,?_⟩,fun k hk=>by rw [m.own k (h.lt k hk)];exact h.own k hk⟩;rcases h.row.2 with hv|⟨b,cap,cur,hv,hb,hr,r⟩
 · exact Or.inl hv
 · have ho:v.ownBlock=some b:=by rw [hv];rfl
   exact Or.inr ⟨b,cap,cur,hv,hb,by rw [m.block b (h.lt b ho) (by rw [h.own b ho];exact hs)];exact hr,r⟩
theorem ext (h:Row g t E size v n xs) {w':World} (he:Ext g.w w') (t':Nat):Row (g.to t' w') t E size v n xs:=h.keep (S:=fun _=>False) (Mod.ext he t') id
theorem cells {A:Option Addr} {c:Nat} (h:Row g t E size (.slice A n c) n xs):CellsAt g.w A xs:=yba h.row
theorem block {A:Option Addr} {c:Nat} (h:Row g t E size (.slice A n c) n xs) (hn:0<n): ∃b,A=some ⟨b,0,none⟩∧b<g.w.heap.size∧g.own b=t∧(∀j u,xs[j]?=some u→g.w.cell? ⟨b,j,none⟩=some u)∧ ∀j,g.w.frozen? ⟨b,j,none⟩=false:=by
 rcases h.row.2 with ⟨_,h0⟩|⟨b,cap,cur,hv,hb,hr,h1,h2,h3,h4⟩
 · omega
 · simp only [Value.slice.injEq] at hv;obtain ⟨rfl, -,rfl⟩:=hv;refine ⟨b,rfl,h.lt b rfl,h.own b rfl,fun j u hj=>?_,fun j=>by simp [World.frozen?,hr]⟩;have hl:j<n*size:=by have:=(List.getElem?_eq_some_iff.1 hj).1;rw [h.row.1] at this;exact this
   rw [←h4,List.getElem?_take_of_lt hl] at hj;simpa [World.cell?,hr] using hj
theorem store {b c:Nat} (h:Row g t E size (.slice (some ⟨b,0,none⟩) n c) n xs) (j:Nat) (u:Value):Row ⟨g.own,g.w.setCell ⟨b,j,none⟩ u⟩ t E size (.slice (some ⟨b,0,none⟩) n c) n (xs.set j u):=
 ⟨(h.row.stored j u).1,fun k hk=>h.own k hk⟩
theorem setOther {b':Nat} (h:Row g t E size v n xs) (i:Nat) (u:Value) (hb: ∀k,v.ownBlock=some k→b'≠k):Row ⟨g.own,g.w.setCell ⟨b',i,none⟩ u⟩ t E size v n xs:=by
 refine ⟨⟨h.row.1,?_⟩,h.own⟩;rcases h.row.2 with hv|⟨b,cap,cur,hv,hb0,hr,r⟩
 · exact Or.inl hv
 · exact Or.inr ⟨b,cap,cur,hv,hb0,by rw [Below.heap_setCell _ _ _ _ (fun e=>hb b (by rw [hv];rfl) (by simpa using e.symm))];exact hr,r⟩
theorem grown {w':World} {v':Value} {n':Nat} {xs':List Value} (h:Row g t E size v n xs) (hr:w'.ownsRow 0 E size v' n' xs') (hat:v'.ownBlock=v.ownBlock∨v'.ownBlock=some g.w.heap.size):Row (g.to t w') t E size v' n' xs':=
 ⟨hr,fun k hk=>by
  rcases hat with e|e
  · rw [e] at hk;rw [GW.to_old (h.lt k hk)];exact h.own k hk
  · rw [e] at hk;injection hk with hk;subst hk;exact GW.to_new (Nat.le_refl _)⟩
theorem cut {A:Option Addr} {c m:Nat} (h:Row g t E size (.slice A n c) n xs) (hm:m≤n):Row g t E size (.slice A m c) m (xs.take (m*size)):=by
 refine ⟨⟨?_,?_⟩,fun k hk=>h.own k (by cases A<;>simpa [Value.ownBlock] using hk)⟩
 · rw [List.length_take,h.row.1];exact Nat.min_eq_left (Nat.mul_le_mul_right _ hm)
 · rcases h.row.2 with ⟨hv,hn⟩|⟨b,cap,cur,hv,hb,hr,h1,h2,h3,h4⟩
   · simp only [Value.slice.injEq] at hv;obtain ⟨rfl, -,rfl⟩:=hv;exact Or.inl ⟨by rw [show m=0 by omega],zo⟩
   · simp only [Value.slice.injEq] at hv;obtain ⟨rfl, -,rfl⟩:=hv;exact Or.inr ⟨b,_,cur,rfl,hb,hr,Nat.le_trans hm h1,h2,h3,by rw [←h4,List.take_take,Nat.min_eq_left (Nat.mul_le_mul_right _ hm)]⟩
theorem ne {t' b':Nat} {T':TypeId} {vs':List Value} (h:Row g t E size v n xs) (k:Blk g t' b' T' vs') (ht:t≠t'): ∀x,v.ownBlock=some x→b'≠x:=fun x hx e=>ht (by rw [←h.own x hx, ←k.own,e])
theorem ne_type {t' b':Nat} {T':TypeId} {vs':List Value} (h:Row g t E size v n xs) (k:Blk g t' b' T' vs') (hT:E≠T') {x:Nat} (hx:v.ownBlock=some x):b'≠x:=fun e=>by
 rcases h.row.2 with ⟨hv,hn⟩|⟨b,cap,cur,hv,hb0,hr,r⟩
 · rw [hv] at hx;cases hx
 · rw [hv] at hx;injection hx with hx;simp only at hx;have h2:=k.row;rw [e, ←hx,hr] at h2;simp only [Option.some.injEq,Obj.cells.injEq] at h2;exact hT h2.2.1
theorem pt (h:Row g t E size v n xs) (X:Extra):Row (g.to 0 (g.w.patch X)) t E size v n xs:=h.ext ⟨X,rfl⟩ 0
end Row
def GW.pt (g:GW) (X:Extra):GW:=g.to 0 (g.w.patch X)
theorem Mod.pt {T:Nat→Prop} {a g:GW} (h:Mod T a g) (X:Extra):Mod T a (g.pt X):=h.trans (Mod.ext ⟨X,rfl⟩ 0)
theorem Mod.st {T:Nat→Prop} {g:GW} {o:Nat→Nat} {W:World} {b i:Nat} {v:Value} (h:Mod T g ⟨o,W⟩) (hb:T (o b)):Mod T g ⟨o,W.setCell ⟨b,i,none⟩ v⟩:=h.trans (Mod.set (g:=⟨o,W⟩) hb)
theorem Mod.stn {T:Nat→Prop} {g:GW} {o:Nat→Nat} {W:World} {b i:Nat} {v:Value} (h:Mod T g ⟨o,W⟩) (hb:g.w.heap.size≤b):Mod T g ⟨o,W.setCell ⟨b,i,none⟩ v⟩:=
 ⟨h.os,h.tape,h.output,by show g.w.heap.size≤(W.setCell _ _).heap.size;rw [World.size_setCell];exact h.size,h.own,fun k hk ht=>(Below.heap_setCell _ _ _ _ (fun e=>by simp only at e;omega)).trans (h.block k hk ht)⟩
theorem Mod.self {T:Nat→Prop} {g:GW}:Mod T g ⟨g.own,g.w⟩:=Mod.refl T g
theorem Blk.pt {g:GW} {t b:Nat} {T:TypeId} {vs:List Value} (h:Blk g t b T vs) (X:Extra):Blk (g.pt X) t b T vs:=h.ext ⟨X,rfl⟩ 0
theorem Row.ptx {g:GW} {t:Nat} {E:TypeId} {size n:Nat} {v:Value} {xs:List Value} (h:Row g t E size v n xs) (X:Extra):Row (g.pt X) t E size v n xs:=h.ext ⟨X,rfl⟩ 0
theorem Blk.made {g:GW} {w':World} {t b:Nat} {T:TypeId} {vs:List Value} (h:w'.heap[b]?=some (.cells vs.toArray T)) (hb:g.w.heap.size≤b):Blk (g.to t w') t b T vs:=⟨h,GW.to_new hb⟩
theorem Row.made {g:GW} {w':World} {t r n size:Nat} {E:TypeId} {xs:List Value} (h:w'.heap[r]?=some (.cells xs.toArray E)) (hr:g.w.heap.size≤r) (hl:xs.length=n*size) (hm:n≤9223372036854775807):Row (g.to t w') t E size (.slice (some ⟨r,0,none⟩) n n) n xs:=
 ⟨⟨hl,Or.inr ⟨r,n,xs.toArray,rfl,Nat.zero_le _,h,Nat.le_refl _,hm,by simpa using hl,by rw [←hl];simp⟩⟩,fun k hk=>by
   have hk:some r=some k:=hk;injection hk with hk;subst hk;exact GW.to_new hr⟩
theorem yaA (w:World) (o p:Obj):((w.alloc o).alloc p).heap[w.heap.size]?=some o∧((w.alloc o).alloc p).heap[w.heap.size+1]?=some p:=by
 refine ⟨?_,?_⟩
 · rw [World.row_alloc_past _ (by rw [World.size_alloc];omega)];exact World.row_alloc_new _
 · have h:=World.row_alloc_new (w:=w.alloc o) (o:=p);rw [World.size_alloc] at h;exact h
theorem ybg {P:Program} (t e:TypeId) (i:TypeInfo) (z:Value) (size bytes:Nat) (ht:P.underlying t=some (.slice e)) (hi:P.info? e=some i) (hz:i.zero=some z) (hsize:i.size=size) (hby:i.bytes=bytes) (n:Nat) (hn:n*bytes≤281474976710656) (hm:n≤1099511627776) (w:World):
 (Instr.makeSlice t (zI z6 (n:Int)) (zI z6 (n:Int))).run P w=.ok (.slice (some ⟨w.heap.size,0,none⟩) n n) (w.alloc (.cells (madeCells z.cells (n*size)) e)):=by
 have hr:=run_make (P:=P) w t e i z ht hi hz .i64 .i64 n n zo (Int.le_refl _) (by
  rw [hby];have h:((n*bytes:Nat):Int)≤281474976710656:=zo;rw [Int.natCast_mul,Int.mul_comm] at h;exact h) zo
 simp only [Int.toNat_natCast,hsize] at hr;exact hr
theorem yb8 (z:Value) (n:Nat):madeCells #[z] (n*1)=(List.replicate n z).toArray:=by
 rw [←toList_madeCells_one z n,Nat.mul_one]
theorem Does.ext {v v':Value} {g:GW} {T:Nat→Prop} {R:GW→Prop} {w':World} (g1:GW) (he:Ext g1.w w') (hv:v'=v) (hm:Mod T g g1) (hr: ∀g2,Mod (fun _=>False) g1 g2→R g2):Does v g T R (.returned v') w':=
 Does.of (g1.to 0 w') rfl hv (hm.trans (Mod.ext he 0)) (hr _ (Mod.ext he 0))
theorem Blk.grown {g:GW} {w':World} {t t' b:Nat} {T:TypeId} {vs:List Value} {row:Option Nat} (h:Blk g t b T vs) (hg:g.w.grownBy w' row) (hr: ∀x,row=some x→b≠x):Blk (g.to t' w') t b T vs:=
 ⟨by have:=hg.block b h.lt (fun e=>hr b e.symm rfl);show w'.heap[b]?=_;rw [this];exact h.row,by rw [GW.to_old h.lt];exact h.own⟩
theorem Does.give {v v':Value} {g:GW} {T:Nat→Prop} {R:GW→Prop} {w':World} (g':GW) (hv:v'=v) (hm:Mod T g g') (hr:R g') (hw:g'.w=w'):Does v g T R (.returned v') w':=Does.of g' hw hv hm hr
def Makes (g:GW) (T:Nat→Prop) (R:Value→GW→Prop) (e:Ending) (w':World):Prop:= ∃v own',e=.returned v∧Mod T g ⟨own',w'⟩∧R v ⟨own',w'⟩
theorem Makes.ext {v:Value} {g:GW} {T:Nat→Prop} {R:Value→GW→Prop} {w':World} (g1:GW) (he:Ext g1.w w') (hm:Mod T g g1) (hr: ∀g2,Mod (fun _=>False) g1 g2→R v g2):Makes g T R (.returned v) w':=
 ⟨v,(g1.to 0 w').own,rfl,hm.trans (Mod.ext he 0),hr _ (Mod.ext he 0)⟩
theorem Row.weak {g:GW} {t:Nat} {E:TypeId} {size n m:Nat} {v:Value} {xs ys:List Value} (h:Row g t E size v n xs) (hn:n=m) (hx:xs=ys):Row g t E size v m ys:=by subst hn hx;exact h
structure Mine (g gr:GW) (E:TypeId) (size:Nat) (v:Value) (n:Nat) (xs:List Value):Prop where
 row:Row gr 0 E size v n xs
 new: ∀k,v.ownBlock=some k→g.w.heap.size≤k
theorem Mine.nil (g gr:GW) (E:TypeId) (size:Nat):Mine g gr E size (.slice none 0 0) 0 []:=⟨Row.nil _ _ _ _,fun k hk=>by simp [Value.ownBlock] at hk⟩
theorem Mine.keep {S:Nat→Prop} {g gr g':GW} {E:TypeId} {size n:Nat} {v:Value} {xs:List Value} (h:Mine g gr E size v n xs) (m:Mod S gr g') (hs: ¬S 0):Mine g g' E size v n xs:=⟨h.row.keep m hs,h.new⟩
theorem Mine.app {T:Nat→Prop} {g gr:GW} {E:TypeId} {size n n':Nat} {v v':Value} {xs xs':List Value} {W w2:World} (h:Mine g gr E size v n xs) (M:Mod T g gr) (he:Ext gr.w W) (hown:w2.ownsRow 0 E size v' n' xs') (hgrow:W.grownBy w2 v.ownBlock)
 (hat:v'.ownBlock=v.ownBlock∨v'.ownBlock=some W.heap.size): ∃own2,Mod T g ⟨own2,w2⟩∧Mine g ⟨own2,w2⟩ E size v' n' xs'∧Mod (fun x=>x=0) gr ⟨own2,w2⟩:=by
 have m1:Mod (fun x=>x=0) gr (gr.to 0 W):=Mod.ext he 0;have m2:Mod (fun x=>x=0) (gr.to 0 W) ((gr.to 0 W).to 0 w2):=Mod.grown hgrow 0 (fun k hk hl=>by rw [GW.to_old (h.row.lt k hk)];exact h.row.own k hk);have m3:=m1.trans m2;have hs:=Nat.le_trans M.size he.size;refine ⟨_,?_,⟨(h.row.ext he 0).grown hown hat,fun k hk=>?_⟩,m3⟩
 · refine ⟨m3.os.trans M.os,m3.tape.trans M.tape,m3.output.trans M.output,Nat.le_trans M.size m3.size,fun k hk=>(m3.own k (Nat.lt_of_lt_of_le hk M.size)).trans (M.own k hk),fun k hk ht=>?_⟩;have hk1:=Nat.lt_of_lt_of_le hk M.size;have e1:W.heap[k]?=gr.w.heap[k]?:=he.heap k hk1;have e2:w2.heap[k]?=W.heap[k]?:=hgrow.block k (Nat.lt_of_lt_of_le hk1 he.size) (fun e=>by have:=h.new k e.symm;omega);exact (e2.trans e1).trans (M.block k hk ht)
 · rcases hat with e|e
   · rw [e] at hk;exact h.new k hk
   · rw [e] at hk;injection hk with hk;omega
structure Seg (g:GW) (t:Nat) (A:Option Addr) (vs:List Value):Prop where
 cells:CellsAt g.w A vs
 own: ∀a,A=some a→0<vs.length→g.own a.block=t
theorem Seg.keep {S:Nat→Prop} {g g':GW} {t:Nat} {A:Option Addr} {vs:List Value} (h:Seg g t A vs) (m:Mod S g g') (hs: ¬S t):Seg g' t A vs:=by
 refine ⟨fun i v hi=>?_,fun a ha hv=>?_⟩
 · obtain ⟨b,o,rfl,hb,hc⟩:=h.cells i v hi;have ho:=h.own _ rfl (by have:=(List.getElem?_eq_some_iff.1 hi).1;omega);exact ⟨b,o,rfl,Nat.lt_of_lt_of_le hb m.size,by rw [←hc];exact World.cell?_of_block (m.block b hb (by rw [ho];exact hs))⟩
 · obtain ⟨b,o,e,hb,_⟩:=h.cells.at_ hv;rw [ha] at e;injection e with e;subst e;rw [m.own b hb];exact h.own _ ha hv
theorem Row.seg {g:GW} {t:Nat} {E:TypeId} {size n c:Nat} {A:Option Addr} {xs:List Value} (h:Row g t E size (.slice A n c) n xs):Seg g t A xs:=⟨h.cells,fun a ha _=>h.own a.block (by rw [ha];rfl)⟩
theorem Seg.nil (g:GW) (t:Nat) (A:Option Addr):Seg g t A []:=⟨CellsAt.nil _ _,fun a ha h=>by simp at h⟩
theorem Seg.ext {g:GW} {t:Nat} {A:Option Addr} {vs:List Value} (h:Seg g t A vs) {w':World} (he:Ext g.w w') (t':Nat):Seg (g.to t' w') t A vs:=h.keep (S:=fun _=>False) (Mod.ext he t') id
theorem Seg.set {g:GW} {t b i:Nat} {v:Value} {A:Option Addr} {vs:List Value} (h:Seg g t A vs) (hb: ∀a,A=some a→0<vs.length→b≠a.block):Seg ⟨g.own,g.w.setCell ⟨b,i,none⟩ v⟩ t A vs:=by
 refine ⟨fun k u hk=>?_,h.own⟩;obtain ⟨x,o,hA,hx,hc⟩:=h.cells k u hk;have hn:=hb _ hA (by have:=(List.getElem?_eq_some_iff.1 hk).1;omega);exact ⟨x,o,hA,by rw [World.size_setCell];exact hx,by rw [←hc];exact World.cell?_setCell_other _ _ _ _ (fun e=>hn (congrArg Addr.block e))⟩
theorem Mod.toExt {g g':GW} (h:Mod (fun _=>False) g g'):Ext g.w g'.w:=yaC ⟨h.os,h.tape,h.output,h.size,fun k hk=>h.block k hk id⟩
structure ShpAt (g:GW) (t:Nat) (s:Shp):Prop where
 seg:Seg g t s.A (s.refs.map Value.bool)
 len:s.refs.length≤s.cap
 max:s.refs.length≤140737488355328
theorem ShpAt.ok {g:GW} {t:Nat} {s:Shp} (h:ShpAt g t s):s.Ok g.w:=⟨h.seg.cells,h.len,h.max⟩
theorem ShpAt.keep {S:Nat→Prop} {g g':GW} {t:Nat} {s:Shp} (h:ShpAt g t s) (m:Mod S g g') (hs: ¬S t):ShpAt g' t s:=⟨h.seg.keep m hs,h.len,h.max⟩
structure CnfAt (g:GW) (t:Nat) (c:Cnf):Prop where
 cells:Seg g t c.A (c.shapes.flatMap Shp.cells)
 shapes: ∀s∈c.shapes,ShpAt g t s
 len:c.shapes.length≤c.cap
 max:c.shapes.length≤140737488355328
theorem CnfAt.ok {g:GW} {t:Nat} {c:Cnf} (h:CnfAt g t c):c.Ok g.w:=⟨h.cells.cells,fun s hs=>(h.shapes s hs).ok,h.len,h.max⟩
theorem CnfAt.keep {S:Nat→Prop} {g g':GW} {t:Nat} {c:Cnf} (h:CnfAt g t c) (m:Mod S g g') (hs: ¬S t):CnfAt g' t c:=⟨h.cells.keep m hs,fun s hm=>(h.shapes s hm).keep m hs,h.len,h.max⟩
def Shp.data (s:Shp):Bool × List Bool:=(s.arr,s.refs)
structure Cnf.Same (c d:Cnf):Prop where
 frags:c.frags=d.frags
 spine:c.spine=d.spine
 globals:c.globals=d.globals
 threads:c.threads=d.threads
 locals:c.locals=d.locals
 cache:c.cache=d.cache
 check:c.check=d.check
 low:c.low=d.low
 shapes:c.shapes.map Shp.data=d.shapes.map Shp.data
theorem yj8 {c d:Cnf} (h:c.shapes.map Shp.data=d.shapes.map Shp.data):badIn c.shapes=badIn d.shapes:=by
 have e: ∀l:List Shp,badIn l=(l.map Shp.data).any fun p=> !decide (p.2.length≤40∧(p.1=true→p.2.length=1)):=fun l=>by
  unfold badIn;rw [List.any_map];rfl
 rw [e,e,h]
theorem Cnf.Same.of {c d:Cnf} (h1:c.frags=d.frags) (h2:c.spine=d.spine) (h3:c.globals=d.globals) (h4:c.threads=d.threads) (h5:c.locals=d.locals) (h6:c.cache=d.cache) (h7:c.stack=d.stack) (h8:c.low=d.low) (h9:c.shapes.map Shp.data=d.shapes.map Shp.data):c.Same d:=by
 have hl:c.shapes.length=d.shapes.length:=by have:=congrArg List.length h9;simpa using this
 refine ⟨h1,h2,h3,h4,h5,h6,?_,h8,h9⟩;unfold Cnf.check Cnf.rangedTo Cnf.ranges;rw [h1,h2,h3,h4,h5,h6,h7,h8,hl,yj8 h9]
theorem Blk.liv {o:Nat→Nat} {w:World} {t b:Nat} {T:TypeId} {vs:List Value} (h:Blk ⟨o,w⟩ t b T vs) (i:Nat):w.frozen? ⟨b,i,none⟩=false:=h.live i
theorem Blk.k19 {o:Nat→Nat} {w:World} {t b:Nat} {T:TypeId} {v0 v1 v2 v3 v4 v5 v6 v7 v8 v9 v10 v11 v12 v13 v14 v15 v16 v17 v18:Value} (h:Blk ⟨o,w⟩ t b T [v0,v1,v2,v3,v4,v5,v6,v7,v8,v9,v10,v11,v12,v13,v14,v15,v16,v17,v18]):w.cell? ⟨b,0,none⟩=some v0∧w.cell? ⟨b,1,none⟩=some v1∧w.cell? ⟨b,2,none⟩=some v2∧w.cell? ⟨b,3,none⟩=some v3∧w.cell? ⟨b,4,none⟩=some v4∧w.cell? ⟨b,5,none⟩=some v5∧w.cell? ⟨b,6,none⟩=some v6∧w.cell? ⟨b,7,none⟩=some v7∧w.cell? ⟨b,8,none⟩=some v8∧w.cell? ⟨b,9,none⟩=some v9∧w.cell? ⟨b,10,none⟩=some v10∧w.cell? ⟨b,11,none⟩=some v11∧w.cell? ⟨b,12,none⟩=some v12∧w.cell? ⟨b,13,none⟩=some v13∧w.cell? ⟨b,14,none⟩=some v14∧w.cell? ⟨b,15,none⟩=some v15∧w.cell? ⟨b,16,none⟩=some v16∧w.cell? ⟨b,17,none⟩=some v17∧w.cell? ⟨b,18,none⟩=some v18∧b<w.heap.size:=⟨h.cell (i:=0) rfl,h.cell (i:=1) rfl,h.cell (i:=2) rfl,h.cell (i:=3) rfl,h.cell (i:=4) rfl,h.cell (i:=5) rfl,h.cell (i:=6) rfl,h.cell (i:=7) rfl,h.cell (i:=8) rfl,h.cell (i:=9) rfl,h.cell (i:=10) rfl,h.cell (i:=11) rfl,h.cell (i:=12) rfl,h.cell (i:=13) rfl,h.cell (i:=14) rfl,h.cell (i:=15) rfl,h.cell (i:=16) rfl,h.cell (i:=17) rfl,h.cell (i:=18) rfl,h.lt⟩
theorem Blk.k16 {o:Nat→Nat} {w:World} {t b:Nat} {T:TypeId} {v0 v1 v2 v3 v4 v5 v6 v7 v8 v9 v10 v11 v12 v13 v14 v15:Value} (h:Blk ⟨o,w⟩ t b T [v0,v1,v2,v3,v4,v5,v6,v7,v8,v9,v10,v11,v12,v13,v14,v15]):w.cell? ⟨b,0,none⟩=some v0∧w.cell? ⟨b,1,none⟩=some v1∧w.cell? ⟨b,2,none⟩=some v2∧w.cell? ⟨b,3,none⟩=some v3∧w.cell? ⟨b,4,none⟩=some v4∧w.cell? ⟨b,5,none⟩=some v5∧w.cell? ⟨b,6,none⟩=some v6∧w.cell? ⟨b,7,none⟩=some v7∧w.cell? ⟨b,8,none⟩=some v8∧w.cell? ⟨b,9,none⟩=some v9∧w.cell? ⟨b,10,none⟩=some v10∧w.cell? ⟨b,11,none⟩=some v11∧w.cell? ⟨b,12,none⟩=some v12∧w.cell? ⟨b,13,none⟩=some v13∧w.cell? ⟨b,14,none⟩=some v14∧w.cell? ⟨b,15,none⟩=some v15∧b<w.heap.size:=⟨h.cell (i:=0) rfl,h.cell (i:=1) rfl,h.cell (i:=2) rfl,h.cell (i:=3) rfl,h.cell (i:=4) rfl,h.cell (i:=5) rfl,h.cell (i:=6) rfl,h.cell (i:=7) rfl,h.cell (i:=8) rfl,h.cell (i:=9) rfl,h.cell (i:=10) rfl,h.cell (i:=11) rfl,h.cell (i:=12) rfl,h.cell (i:=13) rfl,h.cell (i:=14) rfl,h.cell (i:=15) rfl,h.lt⟩
theorem Blk.k14 {o:Nat→Nat} {w:World} {t b:Nat} {T:TypeId} {v0 v1 v2 v3 v4 v5 v6 v7 v8 v9 v10 v11 v12 v13:Value} (h:Blk ⟨o,w⟩ t b T [v0,v1,v2,v3,v4,v5,v6,v7,v8,v9,v10,v11,v12,v13]):w.cell? ⟨b,0,none⟩=some v0∧w.cell? ⟨b,1,none⟩=some v1∧w.cell? ⟨b,2,none⟩=some v2∧w.cell? ⟨b,3,none⟩=some v3∧w.cell? ⟨b,4,none⟩=some v4∧w.cell? ⟨b,5,none⟩=some v5∧w.cell? ⟨b,6,none⟩=some v6∧w.cell? ⟨b,7,none⟩=some v7∧w.cell? ⟨b,8,none⟩=some v8∧w.cell? ⟨b,9,none⟩=some v9∧w.cell? ⟨b,10,none⟩=some v10∧w.cell? ⟨b,11,none⟩=some v11∧w.cell? ⟨b,12,none⟩=some v12∧w.cell? ⟨b,13,none⟩=some v13∧b<w.heap.size:=⟨h.cell (i:=0) rfl,h.cell (i:=1) rfl,h.cell (i:=2) rfl,h.cell (i:=3) rfl,h.cell (i:=4) rfl,h.cell (i:=5) rfl,h.cell (i:=6) rfl,h.cell (i:=7) rfl,h.cell (i:=8) rfl,h.cell (i:=9) rfl,h.cell (i:=10) rfl,h.cell (i:=11) rfl,h.cell (i:=12) rfl,h.cell (i:=13) rfl,h.lt⟩
theorem Blk.k13 {o:Nat→Nat} {w:World} {t b:Nat} {T:TypeId} {v0 v1 v2 v3 v4 v5 v6 v7 v8 v9 v10 v11 v12:Value} (h:Blk ⟨o,w⟩ t b T [v0,v1,v2,v3,v4,v5,v6,v7,v8,v9,v10,v11,v12]):w.cell? ⟨b,0,none⟩=some v0∧w.cell? ⟨b,1,none⟩=some v1∧w.cell? ⟨b,2,none⟩=some v2∧w.cell? ⟨b,3,none⟩=some v3∧w.cell? ⟨b,4,none⟩=some v4∧w.cell? ⟨b,5,none⟩=some v5∧w.cell? ⟨b,6,none⟩=some v6∧w.cell? ⟨b,7,none⟩=some v7∧w.cell? ⟨b,8,none⟩=some v8∧w.cell? ⟨b,9,none⟩=some v9∧w.cell? ⟨b,10,none⟩=some v10∧w.cell? ⟨b,11,none⟩=some v11∧w.cell? ⟨b,12,none⟩=some v12∧b<w.heap.size:=⟨h.cell (i:=0) rfl,h.cell (i:=1) rfl,h.cell (i:=2) rfl,h.cell (i:=3) rfl,h.cell (i:=4) rfl,h.cell (i:=5) rfl,h.cell (i:=6) rfl,h.cell (i:=7) rfl,h.cell (i:=8) rfl,h.cell (i:=9) rfl,h.cell (i:=10) rfl,h.cell (i:=11) rfl,h.cell (i:=12) rfl,h.lt⟩
theorem Blk.k12 {o:Nat→Nat} {w:World} {t b:Nat} {T:TypeId} {v0 v1 v2 v3 v4 v5 v6 v7 v8 v9 v10 v11:Value} (h:Blk ⟨o,w⟩ t b T [v0,v1,v2,v3,v4,v5,v6,v7,v8,v9,v10,v11]):w.cell? ⟨b,0,none⟩=some v0∧w.cell? ⟨b,1,none⟩=some v1∧w.cell? ⟨b,2,none⟩=some v2∧w.cell? ⟨b,3,none⟩=some v3∧w.cell? ⟨b,4,none⟩=some v4∧w.cell? ⟨b,5,none⟩=some v5∧w.cell? ⟨b,6,none⟩=some v6∧w.cell? ⟨b,7,none⟩=some v7∧w.cell? ⟨b,8,none⟩=some v8∧w.cell? ⟨b,9,none⟩=some v9∧w.cell? ⟨b,10,none⟩=some v10∧w.cell? ⟨b,11,none⟩=some v11∧b<w.heap.size:=⟨h.cell (i:=0) rfl,h.cell (i:=1) rfl,h.cell (i:=2) rfl,h.cell (i:=3) rfl,h.cell (i:=4) rfl,h.cell (i:=5) rfl,h.cell (i:=6) rfl,h.cell (i:=7) rfl,h.cell (i:=8) rfl,h.cell (i:=9) rfl,h.cell (i:=10) rfl,h.cell (i:=11) rfl,h.lt⟩
theorem Blk.k9 {o:Nat→Nat} {w:World} {t b:Nat} {T:TypeId} {v0 v1 v2 v3 v4 v5 v6 v7 v8:Value} (h:Blk ⟨o,w⟩ t b T [v0,v1,v2,v3,v4,v5,v6,v7,v8]):w.cell? ⟨b,0,none⟩=some v0∧w.cell? ⟨b,1,none⟩=some v1∧w.cell? ⟨b,2,none⟩=some v2∧w.cell? ⟨b,3,none⟩=some v3∧w.cell? ⟨b,4,none⟩=some v4∧w.cell? ⟨b,5,none⟩=some v5∧w.cell? ⟨b,6,none⟩=some v6∧w.cell? ⟨b,7,none⟩=some v7∧w.cell? ⟨b,8,none⟩=some v8∧b<w.heap.size:=⟨h.cell (i:=0) rfl,h.cell (i:=1) rfl,h.cell (i:=2) rfl,h.cell (i:=3) rfl,h.cell (i:=4) rfl,h.cell (i:=5) rfl,h.cell (i:=6) rfl,h.cell (i:=7) rfl,h.cell (i:=8) rfl,h.lt⟩
theorem Blk.k8 {o:Nat→Nat} {w:World} {t b:Nat} {T:TypeId} {v0 v1 v2 v3 v4 v5 v6 v7:Value} (h:Blk ⟨o,w⟩ t b T [v0,v1,v2,v3,v4,v5,v6,v7]):w.cell? ⟨b,0,none⟩=some v0∧w.cell? ⟨b,1,none⟩=some v1∧w.cell? ⟨b,2,none⟩=some v2∧w.cell? ⟨b,3,none⟩=some v3∧w.cell? ⟨b,4,none⟩=some v4∧w.cell? ⟨b,5,none⟩=some v5∧w.cell? ⟨b,6,none⟩=some v6∧w.cell? ⟨b,7,none⟩=some v7∧b<w.heap.size:=⟨h.cell (i:=0) rfl,h.cell (i:=1) rfl,h.cell (i:=2) rfl,h.cell (i:=3) rfl,h.cell (i:=4) rfl,h.cell (i:=5) rfl,h.cell (i:=6) rfl,h.cell (i:=7) rfl,h.lt⟩
theorem Blk.k7 {o:Nat→Nat} {w:World} {t b:Nat} {T:TypeId} {v0 v1 v2 v3 v4 v5 v6:Value} (h:Blk ⟨o,w⟩ t b T [v0,v1,v2,v3,v4,v5,v6]):w.cell? ⟨b,0,none⟩=some v0∧w.cell? ⟨b,1,none⟩=some v1∧w.cell? ⟨b,2,none⟩=some v2∧w.cell? ⟨b,3,none⟩=some v3∧w.cell? ⟨b,4,none⟩=some v4∧w.cell? ⟨b,5,none⟩=some v5∧w.cell? ⟨b,6,none⟩=some v6∧b<w.heap.size:=⟨h.cell (i:=0) rfl,h.cell (i:=1) rfl,h.cell (i:=2) rfl,h.cell (i:=3) rfl,h.cell (i:=4) rfl,h.cell (i:=5) rfl,h.cell (i:=6) rfl,h.lt⟩
theorem Blk.k6 {o:Nat→Nat} {w:World} {t b:Nat} {T:TypeId} {v0 v1 v2 v3 v4 v5:Value} (h:Blk ⟨o,w⟩ t b T [v0,v1,v2,v3,v4,v5]):w.cell? ⟨b,0,none⟩=some v0∧w.cell? ⟨b,1,none⟩=some v1∧w.cell? ⟨b,2,none⟩=some v2∧w.cell? ⟨b,3,none⟩=some v3∧w.cell? ⟨b,4,none⟩=some v4∧w.cell? ⟨b,5,none⟩=some v5∧b<w.heap.size:=⟨h.cell (i:=0) rfl,h.cell (i:=1) rfl,h.cell (i:=2) rfl,h.cell (i:=3) rfl,h.cell (i:=4) rfl,h.cell (i:=5) rfl,h.lt⟩
theorem Blk.k5 {o:Nat→Nat} {w:World} {t b:Nat} {T:TypeId} {v0 v1 v2 v3 v4:Value} (h:Blk ⟨o,w⟩ t b T [v0,v1,v2,v3,v4]):w.cell? ⟨b,0,none⟩=some v0∧w.cell? ⟨b,1,none⟩=some v1∧w.cell? ⟨b,2,none⟩=some v2∧w.cell? ⟨b,3,none⟩=some v3∧w.cell? ⟨b,4,none⟩=some v4∧b<w.heap.size:=⟨h.cell (i:=0) rfl,h.cell (i:=1) rfl,h.cell (i:=2) rfl,h.cell (i:=3) rfl,h.cell (i:=4) rfl,h.lt⟩
theorem Blk.k4 {o:Nat→Nat} {w:World} {t b:Nat} {T:TypeId} {v0 v1 v2 v3:Value} (h:Blk ⟨o,w⟩ t b T [v0,v1,v2,v3]):w.cell? ⟨b,0,none⟩=some v0∧w.cell? ⟨b,1,none⟩=some v1∧w.cell? ⟨b,2,none⟩=some v2∧w.cell? ⟨b,3,none⟩=some v3∧b<w.heap.size:=⟨h.cell (i:=0) rfl,h.cell (i:=1) rfl,h.cell (i:=2) rfl,h.cell (i:=3) rfl,h.lt⟩
theorem Blk.k3 {o:Nat→Nat} {w:World} {t b:Nat} {T:TypeId} {v0 v1 v2:Value} (h:Blk ⟨o,w⟩ t b T [v0,v1,v2]):w.cell? ⟨b,0,none⟩=some v0∧w.cell? ⟨b,1,none⟩=some v1∧w.cell? ⟨b,2,none⟩=some v2∧b<w.heap.size:=⟨h.cell (i:=0) rfl,h.cell (i:=1) rfl,h.cell (i:=2) rfl,h.lt⟩
theorem Blk.k2 {o:Nat→Nat} {w:World} {t b:Nat} {T:TypeId} {v0 v1:Value} (h:Blk ⟨o,w⟩ t b T [v0,v1]):w.cell? ⟨b,0,none⟩=some v0∧w.cell? ⟨b,1,none⟩=some v1∧b<w.heap.size:=⟨h.cell (i:=0) rfl,h.cell (i:=1) rfl,h.lt⟩
end Go
