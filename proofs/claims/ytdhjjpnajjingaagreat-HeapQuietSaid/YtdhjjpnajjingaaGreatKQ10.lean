import Derived.Test.YtdhjjpnajjingaaGreatKQ09
import Derived.Deep.DeepCutAuto
set_option linter.unusedVariables false
set_option linter.unnecessarySimpa false
set_option linter.unusedSimpArgs false
open Bool renaming true→zT,false→zU
open Go.Value renaming int→zI
open Go.IntKind renaming i64→z6
set_option maxHeartbeats 8000000
set_option maxRecDepth 100000
open Go.Proofs.Tryz
open Go.Lib renaming hid→zH
open Go.Ext renaming alloc→zA,patch→zP,drew→zD,drewN→zN,more→zM,refl→zR,setCell→zS
open Nat renaming le_refl→zL,le_add_right→zK
namespace Go.Proofs.YtdhjjpnajjingaaGreat
open Go Go.RowKit
namespace AcW
def kindR (o:Opr):Bool:=o.kind==1
def wrOk (W:AcW):Bool:=match W.a.writes with
 |.int .i64 _::.complex .f64 _ _::_=>true
 |_=>false
def okW (W:AcW):Bool:=kindR W.a.op&&(W.a.at_ !=9&&((W.a.at_ !=1 || inL W.K.c W.a.op.b)&&((W.a.at_ !=2 || inL W.K.c W.a.op.a)&&((W.a.at_ !=8 || inL W.K.c W.a.op.a)&&(W.a.at_ !=7 || W.wrOk)))))
def okR (W:AcW):Bool:=W.a.phase !=3&&((W.a.phase !=2 || W.okW)&&(decide (W.a.locals.length≤1000)&&(decide (W.a.ops.length≤1000000)&&W.K.c.check==0)))
def stepR (W:AcW):Option AcR:=if W.okR then W.step else none
def okL (W:AcW):Bool:=W.a.phase !=3&&((W.a.phase !=2 || W.okW)&&(decide (W.a.locals.length≤1000)&&W.K.c.check==0))
def stepL (W:AcW):Option AcR:=if W.okL then W.step else none
def stepZ (W:AcW):Option AcR:=if W.a.phase==0 || W.a.phase==1 then W.stepR else none
def post (W:AcW) (s:Int) (flip:Bool):AcW:={ W with K:={ W.K with hand:=W.K.hand.post s flip } }
end AcW
def c23 (A:Option Addr):Cnf:=⟨4,0,0,1,1,0,1,0,A,1,[⟨false,none,0,[]⟩]⟩
theorem yeY (A:Option Addr):(c23 A).check=0:=by rfl
structure DuW where
 y:CyS
 tr:Option TraceS
 h:Option HaulS
 a:AcS
 K:CoreS
namespace DuW
def cy (D:DuW):CyW:=⟨D.y,D.tr,D.h,D.K⟩
def ac (D:DuW):AcW:=⟨D.a,D.K⟩
def putC (D:DuW) (V:CyW):DuW:=⟨V.y,V.tr,V.h,D.a,V.K⟩
def putA (D:DuW) (V:AcW):DuW:=⟨D.y,D.tr,D.h,V.a,V.K⟩
def stepC (D:DuW):Option DuW:=match D.cy.stepO with
 |none=>none
 |some V=>some (D.putC V)
def stepA (D:DuW):Option DuW:=match D.ac.stepZ with
 |none=>none
 |some x=>some (D.putA x.2)
def tick (D:DuW):DuW:={ D with K:={ D.K with hand:=D.K.hand.tick } }
def same (D:DuW):Bool:=D.a.status==D.K.hand.status
end DuW
namespace DuW
end DuW
def aloneD (c:Cnf) (ops:List Opr):DuW:=⟨CyS.fresh,none,none,AcS.fresh 0 c.locals.toNat ops,CoreS.fresh c⟩
namespace AcW
def hasOp (W:AcW):Bool:=(W.a.ops[W.a.next.toNat]?).isSome
def borderK (W:AcW):AcW:=
 if W.a.pc=0 then (if !W.looksB then W.looks else if W.hasOp=false then W.looks.withA { W.a with pc:=3 } else W.looks.withA W.a.began)
 else if W.a.pc=1∨W.a.pc=2 then (if W.answersB then W.answers.withA { W.answers.a with pc:=0 } else W.answers)
 else if W.a.pc=3 then (W.spc (drainS W.K.sp W.a.t)).withA { W.a with pc:=4 }
 else if W.a.pc=4 then W.goes
 else W
def stepK (W:AcW):Option AcR:=
 if W.okL=false then none
 else if W.bdB=false then none
 else if W.a.phase=0 then some W.joins.no
 else if W.a.phase=1 then (if W.greyOk then some W.borderK.no else none)
 else if W.a.phase=2 then (if W.hasOp&&W.locOk then W.up.within else none)
 else if W.a.phase=4 then some W.no
 else none
theorem ycQ {W:AcW} (h:W.bdB=true):(W.hasOp=false↔(W.a.ops.length:Int)≤W.a.next)∧(W.hasOp=W.opIn):=by
 have h0:0≤W.a.next:=by
  unfold bdB cntOk at h;simp only [Bool.and_eq_true,decide_eq_true_eq] at h;exact h.1.1.1.1.1.2.1
 have e:W.hasOp=W.opIn:=by
  unfold hasOp opIn;by_cases hl:W.a.next.toNat<W.a.ops.length
  · rw [List.getElem?_eq_getElem hl,decide_eq_true zo];rfl
  · rw [List.getElem?_eq_none zo,decide_eq_false zo];rfl
 refine ⟨?_,e⟩;rw [e];unfold opIn;rw [decide_eq_false_iff_not];omega
theorem yd0 {W:AcW} (h:W.bdB=true):W.borderK=W.border:=by
 unfold borderK border;simp only [(ycQ h).1]
theorem yhr {W:AcW} {r:AcR} (h:W.stepK=some r):W.stepL=some r:=by
 unfold stepK at h;cases hok:W.okL
 · rw [hok] at h;cases h
 cases hb:W.bdB
 · rw [hok,hb] at h;cases h
 rw [hok,hb,if_neg (by simp),if_neg (by simp),yd0 hb,(ycQ hb).2] at h
 have h3:W.a.phase≠3:=by
  unfold okL at hok;simp only [Bool.and_eq_true,bne_iff_ne,ne_eq] at hok;exact hok.1
 unfold stepL step;rw [hok,if_pos rfl,hb,if_neg (by simp)];simp only [if_neg h3];exact h
end AcW
namespace DuW
end DuW
namespace AcW
theorem ycm (W:AcW) (i:Int) (v:LVal):(W.laysR i v).2.a.ops=W.a.ops:=by unfold laysR doneR AcS.done;simp only;split<;>rfl
theorem ye5 (W:AcW) (v:LVal) (e:Int):(W.doneR v e).2.a.ops=W.a.ops:=by unfold doneR AcS.done;simp only;split<;>rfl
theorem yeU {W:AcW} {o:Opr} {r:AcR} (h:W.asksO o=some r):r.2.a.ops=W.a.ops:=by
 unfold asksO at h;split at h
 · injection h with h;rw [←h];unfold asks;simp only;split<;>rfl
 · cases h
theorem yeJ {W:AcW} {o:Opr} {r:AcR} (h:W.starts o=some r):r.2.a.ops=W.a.ops:=by
 unfold starts at h;split at h
 · cases h
 split at h
 · injection h with h;rw [←h];exact ye5 _ _ _
 split at h
 · injection h with h;rw [←h];exact ycm _ _ _
 split at h
 · exact yeU h
 · cases h
theorem yeN {W:AcW} {r:AcR} (h:W.within=some r):r.2.a.ops=W.a.ops:=by
 unfold within at h;split at h
 · exact yeJ h
 split at h
 · split at h
   · split at h
     · injection h with h;rw [←h];unfold makes;split<;>rfl
     · cases h
   · cases h
 split at h
 · split at h
   · injection h with h;rw [←h];exact ycm _ _ _
   · cases h
 · cases h
theorem yft (W:AcW):W.looks.a.ops=W.a.ops:=by unfold looks;split<;>rfl
theorem ybD (W:AcW):W.answers.a.ops=W.a.ops:=by unfold answers;split<;>rfl
theorem yd1 (W:AcW):W.border.a.ops=W.a.ops:=by
 unfold border;split
 · split
   · exact yft W
   · split<;>rfl
 · split
   · split
     · exact ybD W
     · exact ybD W
   · split
     · rfl
     · split<;>rfl
theorem stepL_ops {W:AcW} {r:AcR} (h:W.stepL=some r):r.2.a.ops=W.a.ops:=by
 unfold stepL at h;split at h
 case isFalse=>cases h
 rename_i hok
 have h3:W.a.phase≠3:=by
  unfold okL at hok;simp only [Bool.and_eq_true,bne_iff_ne,ne_eq] at hok;exact hok.1
 unfold step at h;split at h
 · cases h
 by_cases h0:W.a.phase=0
 · rw [if_pos h0] at h;injection h with h;rw [←h];show W.joins.a.ops=W.a.ops;unfold joins;simp only;split<;>rfl
 rw [if_neg h0] at h;by_cases h1:W.a.phase=1
 · rw [if_pos h1] at h;split at h
   · injection h with h;rw [←h];exact yd1 W
   · cases h
 rw [if_neg h1] at h;by_cases h2:W.a.phase=2
 · rw [if_pos h2] at h;split at h
   · exact yeN (W:=W.up) h
   · cases h
 rw [if_neg h2] at h;split at h
 · injection h with h;rw [←h];rfl
 · cases h
end AcW
structure AcRows (g:GW) (t:Nat) (A:AcS) (p:AcP):Prop where
 ops:Seg g 0 p.opsA (A.ops.flatMap Opr.cells)
 opsC:A.ops.length≤p.opsC∧p.opsC≤9223372036854775807
 loc:Row g (t+1) 38 2 (.slice p.locA A.locals.length p.locC) A.locals.length (A.locals.flatMap LVal.cells)
 grey:Seg g (t+4) p.greyA (A.grey.map (Value.int .i64))
 greyC:A.grey.length≤p.greyC∧p.greyC≤9223372036854775807
 fn:A.f=none→p.fp=none
 fs: ∀S,A.f=some S→ ∃bf cm,p.fp=some ⟨bf,0,none⟩∧cm.Same S.c∧FindAt g (t+2) bf (S.withC cm)
 got:Seg g 0 p.gotA (A.got.map (Value.int .i64))
 gotC:A.got.length≤p.gotC∧p.gotC≤9223372036854775807
 wr:Seg g 0 p.wrA A.writes
 wrE:A.writes.length%2=0
 wrC:A.writes.length/2≤p.wrC∧p.wrC≤9223372036854775807
structure AcAt (g:GW) (t b:Nat) (A:AcS) (p:AcP):Prop where
 blk:Blk g t b 103 (A.cells p)
 r:AcRows g t A p
structure AcApart (t B:Nat):Prop where
 hb:100≤B
 ht:100≤t
 apart:t+5≤B∨B+70≤t
def acT (t B:Nat) (x:Nat):Prop:=(t≤x∧x<t+5)∨(B≤x∧x<B+70)
section
variable {g g':GW} {t b:Nat} {A:AcS} {p:AcP}
theorem AcRows.keep {T:Nat→Prop} (H:AcRows g t A p) (m:Mod T g g') (h0: ¬T 0) (h1: ¬T (t+1)) (h2: ¬T (t+2)) (h3: ¬T (t+3)) (h4: ¬T (t+4)):AcRows g' t A p:=
 ⟨H.ops.keep m h0,H.opsC,H.loc.keep m h1,H.grey.keep m h4,H.greyC,H.fn,fun S hS=>by
  obtain ⟨bf,cm,e1,e2,e3⟩:=H.fs S hS;exact ⟨bf,cm,e1,e2,e3.keep m h2 h3⟩,H.got.keep m h0,H.gotC,H.wr.keep m h0,H.wrE,H.wrC⟩
theorem AcAt.keep {T:Nat→Prop} (H:AcAt g t b A p) (m:Mod T g g') (h0: ¬T 0) (hT: ∀x,T x→x<t∨t+5≤x):AcAt g' t b A p:=by
 have q: ∀k,k<5→ ¬T (t+k):=fun k hk ht=>by have:=hT _ ht;omega
 exact ⟨H.blk.keep m (q 0 zo),H.r.keep m h0 (q 1 zo) (q 2 zo) (q 3 zo) (q 4 zo)⟩
theorem AcAt.turn {A':AcS} {p':AcP} (H:AcAt g t b A p) (ht:100≤t) (m:Mod (fun x=>x=t) g g') (hb:Blk g' t b 103 (A'.cells p')) (hr:AcRows g t A' p'):AcAt g' t b A' p':=
 ⟨hb,hr.keep m zo zo zo zo zo⟩
structure AcS.SameRows (A A':AcS):Prop where
 ops:A'.ops=A.ops
 loc:A'.locals=A.locals
 grey:A'.grey=A.grey
 f:A'.f=A.f
 got:A'.got=A.got
 wr:A'.writes=A.writes
theorem AcRows.same {A':AcS} (H:AcRows g t A p) (h:A.SameRows A'):AcRows g t A' p:=by
 obtain ⟨h1,h2,h3,h4,h5,h6⟩:=h;obtain ⟨r1,r2,r3,r4,r5,r6,r7,r8,r9,r10,r11,r12⟩:=H;exact ⟨by rw [h1];exact r1,by rw [h1];exact r2,by rw [h2];exact r3,by rw [h3];exact r4,by rw [h3];exact r5,by rw [h4];exact r6,by rw [h4];exact r7,by rw [h5];exact r8,by rw [h5];exact r9,by rw [h6];exact r10,by rw [h6];exact r11,by rw [h6];exact r12⟩
theorem AcAt.set (H:AcAt g t b A p) (ht:100≤t) (i:Nat) (v:Value) (A':AcS) (hv:A'.cells p=(A.cells p).set i v) (h:A.SameRows A'):AcAt ⟨g.own,g.w.setCell ⟨b,i,none⟩ v⟩ t b A' p:=
 H.turn ht (Mod.set H.blk.own) (by rw [hv];exact H.blk.set i v) (H.r.same h)
end
structure TbI where
 tb:Nat
abbrev TbId:=Inhabited TbI
def TbId.tb [TbId]:Nat:=(default:TbI).tb
structure AcIn [TbId] (g:GW) (t B b k:Nat) (W:AcW) (p:AcP) (bm bs bt bp bsp bh:Nat) (cm:Cnf):Prop where
 a:AcAt g t b W.a p
 c:CoreIn g B k W.K bm bs bt bp bsp bh cm
 tbl:bt=TbId.tb
def AcWAt [TbId] (g:GW) (t B b k:Nat) (W:AcW):Prop:= ∃p bm bs bt bp bsp bh cm,AcIn g t B b k W p bm bs bt bp bsp bh cm
section
variable [TbId] {g:GW} {t B b k:Nat} {W:AcW} {p:AcP} {bm bs bt bp bsp bh:Nat} {cm:Cnf}
theorem AcIn.at_ (H:AcIn g t B b k W p bm bs bt bp bsp bh cm):AcWAt g t B b k W:=⟨p,bm,bs,bt,bp,bsp,bh,cm,H⟩
theorem AcIn.set (H:AcIn g t B b k W p bm bs bt bp bsp bh cm) (P:AcApart t B) (i:Nat) (v:Value) (A':AcS) (hv:A'.cells p=(W.a.cells p).set i v) (h:W.a.SameRows A'):AcIn ⟨g.own,g.w.setCell ⟨b,i,none⟩ v⟩ t B b k (W.withA A') p bm bs bt bp bsp bh cm:=
 ⟨H.a.set P.ht i v A' hv h,H.c.keep (Mod.set (T:=fun x=>x=t) H.a.blk.own) (fun x (hx:x=_)=>by have:=P.apart;omega),H.tbl⟩
theorem AcIn.turn {g':GW} {A':AcS} {p':AcP} (H:AcIn g t B b k W p bm bs bt bp bsp bh cm) (P:AcApart t B) (m:Mod (fun x=>x=t) g g') (hb:Blk g' t b 103 (A'.cells p')) (hr:AcRows g t A' p'):AcIn g' t B b k (W.withA A') p' bm bs bt bp bsp bh cm:=
 ⟨H.a.turn P.ht m hb hr,H.c.keep m (fun x (hx:x=_)=>by have:=P.apart;omega),H.tbl⟩
theorem AcIn.keep {T:Nat→Prop} {g':GW} (H:AcIn g t B b k W p bm bs bt bp bsp bh cm) (m:Mod T g g') (h0: ¬T 0) (h1: ∀x,T x→x<t∨t+5≤x) (h2: ∀x,T x→x<B∨B+70≤x):AcIn g' t B b k W p bm bs bt bp bsp bh cm:=
 ⟨H.a.keep m h0 h1,H.c.keep m h2,H.tbl⟩
theorem AcIn.keep0 {g':GW} (H:AcIn g t B b k W p bm bs bt bp bsp bh cm) (m:Mod (fun _=>False) g g'):AcIn g' t B b k W p bm bs bt bp bsp bh cm:=H.keep m id (fun _=>False.elim) (fun _=>False.elim)
theorem AcIn.pt (H:AcIn g t B b k W p bm bs bt bp bsp bh cm) (X:Extra):AcIn (g.pt X) t B b k W p bm bs bt bp bsp bh cm:=H.keep0 (Mod.pt (Mod.refl _ _) X)
theorem AcIn.hand {g':GW} (H:AcIn g t B b k W p bm bs bt bp bsp bh cm) (P:AcApart t B) {h:HandS} (m:Mod (fun x=>x=B+63) g g') (hh:HandAt g' (B+63) bh h):AcIn g' t B b k { W with K:={ W.K with hand:=h } } p bm bs bt bp bsp bh cm:=
 ⟨H.a.keep m zo (fun x (hx:x=_)=>by have:=P.apart;omega),H.c.putHand m hh,H.tbl⟩
theorem AcIn.mem {g':GW} (H:AcIn g t B b k W p bm bs bt bp bsp bh cm) (P:AcApart t B) {h:MemS} (m:Mod (fun x=>x=B+62) g g') (hh:MemAt g' (B+62) bm h):AcIn g' t B b k (W.memW h) p bm bs bt bp bsp bh cm:=
 ⟨H.a.keep m zo (fun x (hx:x=_)=>by have:=P.apart;omega),H.c.putMem m hh,H.tbl⟩
theorem AcIn.spc {g':GW} (H:AcIn g t B b k W p bm bs bt bp bsp bh cm) (P:AcApart t B) {S:SpaceS} (m:Mod (inst B) g g') (hs:SpaceAt g' B bsp bt S):AcIn g' t B b k (W.spc S) p bm bs bt bp bsp bh cm:=
 ⟨H.a.keep m (fun h=>by have:=h.1;have:=P.hb;omega) (fun x hx=>by have:=P.apart;have h1:=hx.1;have h2:=hx.2;omega),H.c.putSp m hs,H.tbl⟩
theorem AcIn.greyK {g':GW} (H:AcIn g t B b k W p bm bs bt bp bsp bh cm) (P:AcApart t B) {i:Int} (m:Mod (fun x=>x=B+60∨x=B+50∨x=B+61) g g')
 (hs:ShdAt g' (B+60) bs bt (B+50) bp (B+61) (W.K.sp.tab.grey i W.a.sense) (W.K.pile.grey W.K.sp.tab i W.a.sense) (W.K.n+1)):AcIn g' t B b k (W.greyK i) p bm bs bt bp bsp bh cm:=
 ⟨H.a.keep m zo (fun x (hx:x=_∨x=_∨x=_)=>by have:=P.apart;omega),H.c.putShd m hs,H.tbl⟩
theorem AcIn.modA (H:AcIn g t B b k W p bm bs bt bp bsp bh cm):acT t B (g.own b):=by rw [H.a.blk.own];exact Or.inl ⟨Nat.le_refl _,zo⟩
end
theorem yaM {t B x:Nat} (h:x=B+63):acT t B x:=Or.inr zo
theorem yhx {t B x:Nat} (h:x=B+62):acT t B x:=Or.inr zo
theorem yhz {t B x:Nat} (h:x=B+60∨x=B+50∨x=B+61):acT t B x:=Or.inr zo
theorem ybO {t B x:Nat} (h:inst B x):acT t B x:=Or.inr (by have h1:=h.1;have h2:=h.2;omega)
theorem yb1 {t B x:Nat} (h:x=t):acT t B x:=Or.inl zo
end Go.Proofs.YtdhjjpnajjingaaGreat
namespace Go
open Go.RowKit
theorem ycn (l:List LVal) (k:Nat) (v:LVal) (h:l[k]?=some v):(l.flatMap LVal.cells)[k*2]?=some (.bool v.ref)∧(l.flatMap LVal.cells)[k*2+1]?=some (.complex .f64 v.z.1 v.z.2):=by
 induction l generalizing k with
 |nil=>simp at h
 |cons x l ih=>
  cases k with
  |zero=>simp at h;subst h;exact ⟨rfl,rfl⟩
  |succ k=>
   have:=ih k (by simpa using h);rw [show (k+1)*2=k*2+1+1 from zo];simpa [List.flatMap_cons,LVal.cells] using this
theorem yfr (l:List LVal) (k:Nat) (v:LVal):(l.set k v).flatMap LVal.cells=((l.flatMap LVal.cells).set (k*2) (.bool v.ref)).set (k*2+1) (.complex .f64 v.z.1 v.z.2):=by
 induction l generalizing k with
 |nil=>simp
 |cons x l ih=>
  cases k with
  |zero=>simp [List.flatMap_cons,LVal.cells]
  |succ k=>
   rw [show (k+1)*2=k*2+1+1 from zo];simp only [List.set_cons_succ,List.flatMap_cons,ih];simp [LVal.cells]
theorem yfq (l:List LVal):(l.flatMap LVal.cells).length=l.length*2:=by
 induction l with
 |nil=>rfl
 |cons x l ih=>simp [List.flatMap_cons,LVal.cells,ih];omega
theorem yaL {l:List LVal} {k:Nat} (hk:k<l.length):l[k]?=some (l.getD k LVal.zero):=by
 rw [List.getD_eq_getElem?_getD,List.getElem?_eq_getElem hk];rfl
end Go
namespace Go.Proofs.YtdhjjpnajjingaaGreat
open Go Go.RowKit
theorem AcRows.local_ {g:GW} {t:Nat} {A:AcS} {p:AcP} (H:AcRows g t A p) {k:Nat} (hk:k<A.locals.length): ∃q,p.locA=some ⟨q,0,none⟩∧q<g.w.heap.size∧g.own q=t+1∧g.w.cell? ⟨q,k*2,none⟩=some (.bool (A.loc k).ref)∧g.w.cell? ⟨q,k*2+1,none⟩=some (.complex .f64 (A.loc k).z.1 (A.loc k).z.2)∧(∀j,g.w.frozen? ⟨q,j,none⟩=false):=by
 obtain ⟨q,hA,hq,ho,hc,hf⟩:=H.loc.block zo;have h:=ycn A.locals k (A.loc k) (by unfold AcS.loc;rw [Int.toNat_natCast];exact yaL hk);exact ⟨q,hA,hq,ho,hc _ _ h.1,hc _ _ h.2,hf⟩
section
variable (g:GW) (t b:Nat) (A:AcS) (p:AcP)
theorem ygf (H:AcAt g t b A p):Calls prog 206 #[.pointer (some ⟨b,0,none⟩)] g.w (fun e w'=>e=.returned (.bool A.both)∧g.w=w'):=by
 have HV:=zH (show A.both=(A.status==1 || A.status==2) from rfl);obtain ⟨a0,a1,a2,a3,a4,a5,a6,a7,a8,a9,a10,a11,a12,a13,a14,a15,a16,a17,a18,al⟩:=H.blk.k19;clear H;generalize A.status=s at *;cases h1:(s==1)
 · cases h2:(s==2)
   · go_enter func206,ntmps206;go_wp2_with fail;go_ret;exact ⟨by rw [HV.out,h1,h2];rfl,rfl⟩
   · go_enter func206,ntmps206;go_wp2_with fail;go_ret;exact ⟨by rw [HV.out,h1,h2];rfl,rfl⟩
 · go_enter func206,ntmps206;go_wp2_with fail;go_ret;exact ⟨by rw [HV.out,h1];rfl,rfl⟩
end
def acO (t x:Nat):Prop:=x=t∨x=t+1
theorem AcIn.own [TbId] {g g':GW} {t B b k:Nat} {W:AcW} {p p':AcP} {bm bs bt bp bsp bh:Nat} {cm:Cnf} {A':AcS} (H:AcIn g t B b k W p bm bs bt bp bsp bh cm) (P:AcApart t B) (m:Mod (acO t) g g') (h:AcAt g' t b A' p'):AcIn g' t B b k (W.withA A') p' bm bs bt bp bsp bh cm:=
 ⟨h,H.c.keep m (fun x (hx:x=_∨x=_)=>by have:=P.apart;omega),H.tbl⟩
theorem yhy {t B x:Nat} (h:acO t x):acT t B x:=Or.inl (by unfold acO at h;omega)
theorem yaI (g:GW) (T1:TypeId) (v1:List Value): ∃own0,Mod (fun _=>False) g ⟨own0,g.w.alloc (.cells v1.toArray T1)⟩∧Blk ⟨own0,g.w.alloc (.cells v1.toArray T1)⟩ 9 g.w.heap.size T1 v1:=
 ⟨_,Mod.ext zE 9,Blk.new g 9 T1 v1⟩
theorem yat (g:GW) (T1 T2:TypeId) (v1 v2:List Value): ∃own0,Mod (fun _=>False) g ⟨own0,(g.w.alloc (.cells v1.toArray T1)).alloc (.cells v2.toArray T2)⟩∧Blk ⟨own0,(g.w.alloc (.cells v1.toArray T1)).alloc (.cells v2.toArray T2)⟩ 9 g.w.heap.size T1 v1∧Blk ⟨own0,(g.w.alloc (.cells v1.toArray T1)).alloc (.cells v2.toArray T2)⟩ 9 (g.w.heap.size+1) T2 v2:=
 ⟨_,Mod.ext (g:=g) (show Ext g.w _ from zE) 9,⟨(yap _ _ _).1,GW.to_new (Nat.le_refl _)⟩,⟨(yap _ _ _).2,GW.to_new (Nat.le_succ _)⟩⟩
theorem ydP (own0:Nat→Nat) (w0:World) (X X2:Extra) (T:TypeId) (vs:List Value): ∃own1,Mod (fun _=>False) ⟨own0,w0⟩ ⟨own1,((w0.patch X).alloc (.cells vs.toArray T)).patch X2⟩∧Blk ⟨own1,((w0.patch X).alloc (.cells vs.toArray T)).patch X2⟩ 9 (w0.patch X).heap.size T vs∧w0.heap.size≤(w0.patch X).heap.size:=by
 have hs:w0.heap.size≤(w0.patch X).heap.size:=by rw [World.size_patch];omega
 refine ⟨_,Mod.ext (g:=⟨own0,w0⟩) (show Ext w0 _ from zE) 9,⟨?_,GW.to_new hs⟩,hs⟩;show (((w0.patch X).alloc _).patch X2).heap[(w0.patch X).heap.size]?=_;rw [World.heap_patch _ _ _ (by rw [World.size_alloc];omega)];exact World.row_alloc_new _
def resZ:List Value:=[.int .i64 0,.int .i64 0,.int .i64 0,.bool false,.complex .f64 0 0]
theorem yaf {T:Nat→Prop} {g:GW} {own:Nat→Nat} {V:World} {q:Nat} (M:Mod T g ⟨own,V⟩) (R:Blk ⟨own,V⟩ 9 q 40 resZ) (hq:g.w.heap.size≤q) (op ow e:Int) (rf:Bool) (x y:Nat):
 Mod T g ⟨own,((((V.setCell ⟨q,0,none⟩ (zI z6 op)).setCell ⟨q,1,none⟩ (zI z6 ow)).setCell ⟨q,2,none⟩ (zI z6 e)).setCell ⟨q,3,none⟩ (.bool rf)).setCell ⟨q,4,none⟩ (.complex .f64 x y)⟩∧
 Mod (fun x=>x=9) ⟨own,V⟩ ⟨own,((((V.setCell ⟨q,0,none⟩ (zI z6 op)).setCell ⟨q,1,none⟩ (zI z6 ow)).setCell ⟨q,2,none⟩ (zI z6 e)).setCell ⟨q,3,none⟩ (.bool rf)).setCell ⟨q,4,none⟩ (.complex .f64 x y)⟩∧
 Blk ⟨own,((((V.setCell ⟨q,0,none⟩ (zI z6 op)).setCell ⟨q,1,none⟩ (zI z6 ow)).setCell ⟨q,2,none⟩ (zI z6 e)).setCell ⟨q,3,none⟩ (.bool rf)).setCell ⟨q,4,none⟩ (.complex .f64 x y)⟩ 9 q 40 [.int .i64 op,.int .i64 ow,.int .i64 e,.bool rf,.complex .f64 x y]:=
 ⟨Mod.stn (Mod.stn (Mod.stn (Mod.stn (Mod.stn M hq) hq) hq) hq) hq,Mod.st (Mod.st (Mod.st (Mod.st (Mod.st (Mod.refl _ _) R.own) R.own) R.own) R.own) R.own,((((R.set 0 (zI z6 op)).set 1 (zI z6 ow)).set 2 (zI z6 e)).set 3 (.bool rf)).set 4 (.complex .f64 x y)⟩
theorem ygg (g:GW) (t b:Nat) (A:AcS) (p:AcP) (v:LVal) (e:Int) (ht:100≤t) (H:AcAt g t b A p) (hn:0≤A.next∧A.next≤1099511627776):Calls prog 81 #[.pointer (some ⟨b,0,none⟩),v.val,.int .i64 e] g.w (Does (resV (A.res v e,true)) g (acO t) (fun g'=>AcAt g' t b A.done p)):=by
 have HH:=zH H;obtain ⟨hn0,hn1⟩:=hn;unfold LVal.val;clear H;go_enter func81,ntmps81;go_upto_region 1 with fail
 obtain ⟨own0,M0,X0,R0⟩:=yat g 38 40 v.cells resZ;unfold LVal.cells resZ at M0 X0 R0;generalize ((g.w.alloc (.cells #[.bool v.ref,.complex .f64 v.z.1 v.z.2] 38)).alloc (.cells #[.int .i64 0,.int .i64 0,.int .i64 0,.bool false,.complex .f64 0 0] 40))=w0 at *;have H0:=zH (HH.out.keep M0 id (fun _=>False.elim));obtain ⟨a0,a1,a2,a3,a4,a5,a6,a7,a8,a9,a10,a11,a12,a13,a14,a15,a16,a17,a18,al⟩:=H0.out.blk.k19;have af6:=H0.out.blk.liv 6;have af3:=H0.out.blk.liv 3;have af7:=H0.out.blk.liv 7;obtain ⟨x0,x1,xl⟩:=X0.k2;obtain ⟨r0,r1,r2,r3,r4,rl⟩:=R0.k5;have rf0:=R0.liv 0;have X0':=zH X0;have R0':=zH R0;have M0':=zH M0;clear X0 R0 M0;refine yab [zT,zT,zT,zT,zT,zT,zT,zT,zT,zT,zT,zU,zU] 2 12 ?_;intro X00;simp only [pickOps];repeat (go_big_quiet_step (fail))
 refine wpQuiet_nil (fun X0=>?_);clear X00;refine yae 11 _ zQ rfl rfl zd (fun X1 K Q' hK=>?_);go_simp;refine hK _ _ ?_ ?_
 · exact zE
 clear hK K Q';refine yad rfl zQ (fun X2=>?_);simp only [List.drop_succ_cons,List.drop_zero];go_upto_region 2 with fail
 obtain ⟨own1,m1,N1,hN⟩:=ydP own0 w0 ⟨X0.blocks++X1.blocks,X1.drawn⟩ X2 40 [.int .i64 A.next,.int .i64 A.own,.int .i64 e,.bool false,.complex .f64 0 0];have M1:=zH (M0'.out.trans m1);have H1:=zH (H0.out.keep m1 id (fun _=>False.elim));have Q1:=zH (X0'.out.keep m1 id);have R1:=zH (R0'.out.keep m1 id);have hb0:=HH.out.blk.lt;have hrl:=rl;have hNg:g.w.heap.size≤(w0.patch ⟨X0.blocks++X1.blocks,X1.drawn⟩).heap.size:=Nat.le_trans M0'.out.size hN;clear a0 a1 a2 a3 a4 a5 a6 a7 a8 a9 a10 a11 a12 a13 a14 a15 a16 a17 a18 af6 af3 af7 al x0 x1 xl r0 r1 r2 r3 r4 rf0 rl H0 X0' R0' m1 M0';generalize ((w0.patch ⟨X0.blocks++X1.blocks,X1.drawn⟩).alloc (.cells #[.int .i64 A.next,.int .i64 A.own,.int .i64 e,.bool false,.complex .f64 0 0] 40)).patch X2=w1 at *;generalize (w0.patch ⟨X0.blocks++X1.blocks,X1.drawn⟩).heap.size=qn at *;clear X0 X1 X2;have HN:=zH N1;clear N1;have d1:b≠qn:=zo;have d2:qn≠b:=zo;have d3:b≠g.w.heap.size+1:=zo;have d4:g.w.heap.size+1≠b:=zo;have d5:qn≠g.w.heap.size+1:=zo;have d6:g.w.heap.size+1≠qn:=zo;clear hN hrl hb0;obtain ⟨a0,a1,a2,a3,a4,a5,a6,a7,a8,a9,a10,a11,a12,a13,a14,a15,a16,a17,a18,al⟩:=H1.out.blk.k19;have af6:=H1.out.blk.liv 6;have af3:=H1.out.blk.liv 3
 have af7:=H1.out.blk.liv 7;obtain ⟨x0,x1,xl⟩:=Q1.out.k2;obtain ⟨r0,r1,r2,r3,r4,rl⟩:=R1.out.k5;have rf0:=R1.out.liv 0;have rf1:=R1.out.liv 1;have rf2:=R1.out.liv 2;have rf3:=R1.out.liv 3;have rf4:=R1.out.liv 4;obtain ⟨n0,n1,n2,n3,n4,nl⟩:=HN.out.k5;have nf0:=HN.out.liv 0;have nf1:=HN.out.liv 1;have nf2:=HN.out.liv 2;have nf3:=HN.out.liv 3;have nf4:=HN.out.liv 4;by_cases h0:e=0
 · subst h0;have HV:=zH (show A.res v 0=⟨A.next,A.own,0,v⟩ by unfold AcS.res;rw [if_pos rfl]);have NA:=zH ((HN.out.set 3 (.bool v.ref)).set 4 (.complex .f64 v.z.1 v.z.2));have RA:=zH ((R1.out.setOther 3 (.bool v.ref) d5).setOther 4 (.complex .f64 v.z.1 v.z.2) d5);have mA:=zH (show Mod (fun x=>x=9) ⟨own1,w1⟩ ⟨own1,(w1.setCell ⟨qn,3,none⟩ (.bool v.ref)).setCell ⟨qn,4,none⟩ (.complex .f64 v.z.1 v.z.2)⟩ from Mod.st (Mod.st (Mod.refl _ _) HN.out.own) HN.out.own);have MA:=zH (show Mod (acO t) g ⟨own1,(w1.setCell ⟨qn,3,none⟩ (.bool v.ref)).setCell ⟨qn,4,none⟩ (.complex .f64 v.z.1 v.z.2)⟩ from Mod.stn (Mod.stn (M1.out.mono (fun _=>False.elim)) hNg) hNg);have HA:=zH (H1.out.keep mA.out zo (fun x (hx:x=9)=>by omega));go_upto_region 4 with fail
   generalize (w1.setCell ⟨qn,3,none⟩ (.bool v.ref)).setCell ⟨qn,4,none⟩ (.complex .f64 v.z.1 v.z.2)=wA at *;clear mA HN R1 M1 H1 Q1;clear a0 a1 a2 a3 a4 a5 a6 a7 a8 a9 a10 a11 a12 a13 a14 a15 a16 a17 a18 af6 af3 af7 al x0 x1 xl r0 r1 r2 r3 r4 rf0 rf1 rf2 rf3 rf4 rl n0 n1 n2 n3 n4 nf0 nf1 nf2 nf3 nf4 nl;obtain ⟨a0,a1,a2,a3,a4,a5,a6,a7,a8,a9,a10,a11,a12,a13,a14,a15,a16,a17,a18,al⟩:=HA.out.blk.k19;have af6:=HA.out.blk.liv 6;have af3:=HA.out.blk.liv 3;have af7:=HA.out.blk.liv 7;obtain ⟨r0,r1,r2,r3,r4,rl⟩:=RA.out.k5;have rf0:=RA.out.liv 0;have rf1:=RA.out.liv 1;have rf2:=RA.out.liv 2;have rf3:=RA.out.liv 3;have rf4:=RA.out.liv 4;obtain ⟨n0,n1,n2,n3,n4,nl⟩:=NA.out.k5;cases hp:(A.phase==4)
   · have HD:=zH (show A.done={ A with next:=A.next+1,phase:=1,pc:=0 } by unfold AcS.done;rw [if_neg (beq_eq_false_iff_ne.1 hp)]);have hpp:(A.phase !=4)=true:=by unfold bne;rw [hp];rfl
     have H2:=zH (((HA.out.set ht 6 (zI z6 (A.next+1)) { A with next:=A.next+1 } rfl ⟨rfl,rfl,rfl,rfl,rfl,rfl⟩).set ht 3 (zI z6 1) { A with next:=A.next+1,phase:=1 } rfl ⟨rfl,rfl,rfl,rfl,rfl,rfl⟩).set ht 7 (zI z6 0) { A with next:=A.next+1,phase:=1,pc:=0 } rfl ⟨rfl,rfl,rfl,rfl,rfl,rfl⟩);have R2:=zH (((RA.out.setOther 6 (zI z6 (A.next+1)) d3).setOther 3 (zI z6 1) d3).setOther 7 (zI z6 0) d3);have N2:=zH (((NA.out.setOther 6 (zI z6 (A.next+1)) d1).setOther 3 (zI z6 1) d1).setOther 7 (zI z6 0) d1);have M2:=zH (show Mod (acO t) g ⟨own1,((wA.setCell ⟨b,6,none⟩ (zI z6 (A.next+1))).setCell ⟨b,3,none⟩ (zI z6 1)).setCell ⟨b,7,none⟩ (zI z6 0)⟩ from Mod.st (Mod.st (Mod.st MA.out (Or.inl HA.out.blk.own)) (Or.inl HA.out.blk.own)) (Or.inl HA.out.blk.own));clear hp;go_upto_region 7 with fail
     generalize ((wA.setCell ⟨b,6,none⟩ (zI z6 (A.next+1))).setCell ⟨b,3,none⟩ (zI z6 1)).setCell ⟨b,7,none⟩ (zI z6 0)=w2 at *;clear a0 a1 a2 a3 a4 a5 a6 a7 a8 a9 a10 a11 a12 a13 a14 a15 a16 a17 a18 af6 af3 af7 al r0 r1 r2 r3 r4 rf0 rf1 rf2 rf3 rf4 rl n0 n1 n2 n3 n4 nl hpp HA RA NA MA;obtain ⟨r0,r1,r2,r3,r4,rl⟩:=R2.out.k5;have rf0:=R2.out.liv 0;have rf1:=R2.out.liv 1;have rf2:=R2.out.liv 2;have rf3:=R2.out.liv 3;have rf4:=R2.out.liv 4;obtain ⟨n0,n1,n2,n3,n4,nl⟩:=N2.out.k5;go_wp2_with fail;obtain ⟨Mf,mf,Rf⟩:=yaf M2.out R2.out (Nat.le_succ _) (A.next) (A.own) (0) (v.ref) (v.z.1) (v.z.2);generalize (((((w2).setCell ⟨g.w.heap.size+1,0,none⟩ (zI z6 (A.next))).setCell ⟨g.w.heap.size+1,1,none⟩ (zI z6 (A.own))).setCell ⟨g.w.heap.size+1,2,none⟩ (zI z6 (0))).setCell ⟨g.w.heap.size+1,3,none⟩ (.bool (v.ref))).setCell ⟨g.w.heap.size+1,4,none⟩ (.complex .f64 (v.z.1) (v.z.2))=wf at *;obtain ⟨f0,f1,f2,f3,f4,fl⟩:=Rf.k5;refine bodyPost_ret (v:=.tuple #[.agg #[.int .i64 (A.next),.int .i64 (A.own),.int .i64 (0),.bool (v.ref),.complex .f64 (v.z.1) (v.z.2)],.bool true]) (by simp [results,Tryz.results81,go_sem,f0,f1,f2,f3,f4]) rfl ?_
     exact Does.of ⟨own1,wf⟩ rfl (by rw [HV.out];rfl) Mf (by rw [HD.out];exact H2.out.keep mf zo (fun x (hx:x=9)=>by omega))
   · have HD:=zH (show A.done={ A with next:=A.next+1 } by unfold AcS.done;rw [if_pos (beq_iff_eq.1 hp)]);have hpp:(A.phase !=4)=false:=by unfold bne;rw [hp];rfl
     have H2:=zH (HA.out.set ht 6 (zI z6 (A.next+1)) { A with next:=A.next+1 } rfl ⟨rfl,rfl,rfl,rfl,rfl,rfl⟩);have R2:=zH (RA.out.setOther 6 (zI z6 (A.next+1)) d3);have N2:=zH (NA.out.setOther 6 (zI z6 (A.next+1)) d1);have M2:=zH (show Mod (acO t) g ⟨own1,wA.setCell ⟨b,6,none⟩ (zI z6 (A.next+1))⟩ from Mod.st MA.out (Or.inl HA.out.blk.own));clear hp;go_upto_region 7 with fail
     generalize wA.setCell ⟨b,6,none⟩ (zI z6 (A.next+1))=w2 at *;clear a0 a1 a2 a3 a4 a5 a6 a7 a8 a9 a10 a11 a12 a13 a14 a15 a16 a17 a18 af6 af3 af7 al r0 r1 r2 r3 r4 rf0 rf1 rf2 rf3 rf4 rl n0 n1 n2 n3 n4 nl hpp HA RA NA MA;obtain ⟨r0,r1,r2,r3,r4,rl⟩:=R2.out.k5;have rf0:=R2.out.liv 0;have rf1:=R2.out.liv 1;have rf2:=R2.out.liv 2;have rf3:=R2.out.liv 3;have rf4:=R2.out.liv 4;obtain ⟨n0,n1,n2,n3,n4,nl⟩:=N2.out.k5;go_wp2_with fail;obtain ⟨Mf,mf,Rf⟩:=yaf M2.out R2.out (Nat.le_succ _) (A.next) (A.own) (0) (v.ref) (v.z.1) (v.z.2);generalize (((((w2).setCell ⟨g.w.heap.size+1,0,none⟩ (zI z6 (A.next))).setCell ⟨g.w.heap.size+1,1,none⟩ (zI z6 (A.own))).setCell ⟨g.w.heap.size+1,2,none⟩ (zI z6 (0))).setCell ⟨g.w.heap.size+1,3,none⟩ (.bool (v.ref))).setCell ⟨g.w.heap.size+1,4,none⟩ (.complex .f64 (v.z.1) (v.z.2))=wf at *;obtain ⟨f0,f1,f2,f3,f4,fl⟩:=Rf.k5;refine bodyPost_ret (v:=.tuple #[.agg #[.int .i64 (A.next),.int .i64 (A.own),.int .i64 (0),.bool (v.ref),.complex .f64 (v.z.1) (v.z.2)],.bool true]) (by simp [results,Tryz.results81,go_sem,f0,f1,f2,f3,f4]) rfl ?_;exact Does.of ⟨own1,wf⟩ rfl (by rw [HV.out];rfl) Mf (by rw [HD.out];exact H2.out.keep mf zo (fun x (hx:x=9)=>by omega))
 · have HV:=zH (show A.res v e=⟨A.next,A.own,e,LVal.zero⟩ by unfold AcS.res;rw [if_neg h0]);have hz:(e==0)=false:=beq_eq_false_iff_ne.2 h0;have NA:=HN;have RA:=R1;have MA:=zH (M1.out.mono (S:=acO t) (fun _=>False.elim));have HA:=H1;clear h0;go_upto_region 4 with fail
   generalize w1=wA at *;clear HN R1 M1 H1 Q1;clear a0 a1 a2 a3 a4 a5 a6 a7 a8 a9 a10 a11 a12 a13 a14 a15 a16 a17 a18 af6 af3 af7 al x0 x1 xl r0 r1 r2 r3 r4 rf0 rf1 rf2 rf3 rf4 rl n0 n1 n2 n3 n4 nf0 nf1 nf2 nf3 nf4 nl;obtain ⟨a0,a1,a2,a3,a4,a5,a6,a7,a8,a9,a10,a11,a12,a13,a14,a15,a16,a17,a18,al⟩:=HA.out.blk.k19;have af6:=HA.out.blk.liv 6;have af3:=HA.out.blk.liv 3;have af7:=HA.out.blk.liv 7;obtain ⟨r0,r1,r2,r3,r4,rl⟩:=RA.out.k5;have rf0:=RA.out.liv 0;have rf1:=RA.out.liv 1;have rf2:=RA.out.liv 2;have rf3:=RA.out.liv 3;have rf4:=RA.out.liv 4;obtain ⟨n0,n1,n2,n3,n4,nl⟩:=NA.out.k5;cases hp:(A.phase==4)
   · have HD:=zH (show A.done={ A with next:=A.next+1,phase:=1,pc:=0 } by unfold AcS.done;rw [if_neg (beq_eq_false_iff_ne.1 hp)]);have hpp:(A.phase !=4)=true:=by unfold bne;rw [hp];rfl
     have H2:=zH (((HA.out.set ht 6 (zI z6 (A.next+1)) { A with next:=A.next+1 } rfl ⟨rfl,rfl,rfl,rfl,rfl,rfl⟩).set ht 3 (zI z6 1) { A with next:=A.next+1,phase:=1 } rfl ⟨rfl,rfl,rfl,rfl,rfl,rfl⟩).set ht 7 (zI z6 0) { A with next:=A.next+1,phase:=1,pc:=0 } rfl ⟨rfl,rfl,rfl,rfl,rfl,rfl⟩);have R2:=zH (((RA.out.setOther 6 (zI z6 (A.next+1)) d3).setOther 3 (zI z6 1) d3).setOther 7 (zI z6 0) d3);have N2:=zH (((NA.out.setOther 6 (zI z6 (A.next+1)) d1).setOther 3 (zI z6 1) d1).setOther 7 (zI z6 0) d1);have M2:=zH (show Mod (acO t) g ⟨own1,((wA.setCell ⟨b,6,none⟩ (zI z6 (A.next+1))).setCell ⟨b,3,none⟩ (zI z6 1)).setCell ⟨b,7,none⟩ (zI z6 0)⟩ from Mod.st (Mod.st (Mod.st MA.out (Or.inl HA.out.blk.own)) (Or.inl HA.out.blk.own)) (Or.inl HA.out.blk.own));clear hp;go_upto_region 7 with fail
     generalize ((wA.setCell ⟨b,6,none⟩ (zI z6 (A.next+1))).setCell ⟨b,3,none⟩ (zI z6 1)).setCell ⟨b,7,none⟩ (zI z6 0)=w2 at *;clear a0 a1 a2 a3 a4 a5 a6 a7 a8 a9 a10 a11 a12 a13 a14 a15 a16 a17 a18 af6 af3 af7 al r0 r1 r2 r3 r4 rf0 rf1 rf2 rf3 rf4 rl n0 n1 n2 n3 n4 nl hpp HA RA NA MA;obtain ⟨r0,r1,r2,r3,r4,rl⟩:=R2.out.k5;have rf0:=R2.out.liv 0;have rf1:=R2.out.liv 1;have rf2:=R2.out.liv 2;have rf3:=R2.out.liv 3;have rf4:=R2.out.liv 4;obtain ⟨n0,n1,n2,n3,n4,nl⟩:=N2.out.k5;go_wp2_with fail;obtain ⟨Mf,mf,Rf⟩:=yaf M2.out R2.out (Nat.le_succ _) (A.next) (A.own) (e) (false) (0) (0);generalize (((((w2).setCell ⟨g.w.heap.size+1,0,none⟩ (zI z6 (A.next))).setCell ⟨g.w.heap.size+1,1,none⟩ (zI z6 (A.own))).setCell ⟨g.w.heap.size+1,2,none⟩ (zI z6 (e))).setCell ⟨g.w.heap.size+1,3,none⟩ (.bool (false))).setCell ⟨g.w.heap.size+1,4,none⟩ (.complex .f64 (0) (0))=wf at *;obtain ⟨f0,f1,f2,f3,f4,fl⟩:=Rf.k5;refine bodyPost_ret (v:=.tuple #[.agg #[.int .i64 (A.next),.int .i64 (A.own),.int .i64 (e),.bool (false),.complex .f64 (0) (0)],.bool true]) (by simp [results,Tryz.results81,go_sem,f0,f1,f2,f3,f4]) rfl ?_
     exact Does.of ⟨own1,wf⟩ rfl (by rw [HV.out];rfl) Mf (by rw [HD.out];exact H2.out.keep mf zo (fun x (hx:x=9)=>by omega))
   · have HD:=zH (show A.done={ A with next:=A.next+1 } by unfold AcS.done;rw [if_pos (beq_iff_eq.1 hp)]);have hpp:(A.phase !=4)=false:=by unfold bne;rw [hp];rfl
     have H2:=zH (HA.out.set ht 6 (zI z6 (A.next+1)) { A with next:=A.next+1 } rfl ⟨rfl,rfl,rfl,rfl,rfl,rfl⟩);have R2:=zH (RA.out.setOther 6 (zI z6 (A.next+1)) d3);have N2:=zH (NA.out.setOther 6 (zI z6 (A.next+1)) d1);have M2:=zH (show Mod (acO t) g ⟨own1,wA.setCell ⟨b,6,none⟩ (zI z6 (A.next+1))⟩ from Mod.st MA.out (Or.inl HA.out.blk.own));clear hp;go_upto_region 7 with fail
     generalize wA.setCell ⟨b,6,none⟩ (zI z6 (A.next+1))=w2 at *;clear a0 a1 a2 a3 a4 a5 a6 a7 a8 a9 a10 a11 a12 a13 a14 a15 a16 a17 a18 af6 af3 af7 al r0 r1 r2 r3 r4 rf0 rf1 rf2 rf3 rf4 rl n0 n1 n2 n3 n4 nl hpp HA RA NA MA;obtain ⟨r0,r1,r2,r3,r4,rl⟩:=R2.out.k5;have rf0:=R2.out.liv 0;have rf1:=R2.out.liv 1;have rf2:=R2.out.liv 2;have rf3:=R2.out.liv 3;have rf4:=R2.out.liv 4;obtain ⟨n0,n1,n2,n3,n4,nl⟩:=N2.out.k5;go_wp2_with fail;obtain ⟨Mf,mf,Rf⟩:=yaf M2.out R2.out (Nat.le_succ _) (A.next) (A.own) (e) (false) (0) (0);generalize (((((w2).setCell ⟨g.w.heap.size+1,0,none⟩ (zI z6 (A.next))).setCell ⟨g.w.heap.size+1,1,none⟩ (zI z6 (A.own))).setCell ⟨g.w.heap.size+1,2,none⟩ (zI z6 (e))).setCell ⟨g.w.heap.size+1,3,none⟩ (.bool (false))).setCell ⟨g.w.heap.size+1,4,none⟩ (.complex .f64 (0) (0))=wf at *;obtain ⟨f0,f1,f2,f3,f4,fl⟩:=Rf.k5;refine bodyPost_ret (v:=.tuple #[.agg #[.int .i64 (A.next),.int .i64 (A.own),.int .i64 (e),.bool (false),.complex .f64 (0) (0)],.bool true]) (by simp [results,Tryz.results81,go_sem,f0,f1,f2,f3,f4]) rfl ?_;exact Does.of ⟨own1,wf⟩ rfl (by rw [HV.out];rfl) Mf (by rw [HD.out];exact H2.out.keep mf zo (fun x (hx:x=9)=>by omega))
end Go.Proofs.YtdhjjpnajjingaaGreat
namespace Go
open Go.RowKit
theorem Blk.segs {g:GW} {t b:Nat} {T:TypeId} {vs:List Value} (h:Blk g t b T vs):Seg g t (some ⟨b,0,none⟩) vs:=
 ⟨CellsAt.mk h.lt (fun i v hi=>by rw [Nat.zero_add];exact h.cell hi),fun a ha _=>by injection ha with ha;rw [←ha];exact h.own⟩
end Go
namespace Go.Proofs.YtdhjjpnajjingaaGreat
open Go Go.RowKit
def cTwo (frags low:Int) (A A0 A1 A2:Option Addr):Cnf:=⟨frags,40,2,2,3,0,3,low,A,3,[⟨false,A0,3,[zT,zT,zU]⟩,⟨true,A1,1,[true]⟩,⟨true,A2,1,[false]⟩]⟩
def TwoMade (frags low:Int) (w:World) (e:Ending) (w':World):Prop:= ∃A A0 A1 A2,e=.returned (cTwo frags low A A0 A1 A2).val∧Ext w w'∧(cTwo frags low A A0 A1 A2).Ok w'
theorem yhZ (frags low:Int) (w:World):Calls prog 25 #[.int .i64 frags,.int .i64 low] w (TwoMade frags low w):=by
 go_enter func25,ntmps25;go_upto_region 1 with fail
 obtain ⟨own0,m0,B0⟩: ∃own0,Mod (fun _=>False) ⟨fun _=>0,w⟩ ⟨own0,w.alloc (.cells #[.int .i64 0,.int .i64 0,.int .i64 0,.int .i64 0,.int .i64 0,.int .i64 0,.int .i64 0,.int .i64 0,.slice none 0 0] 34)⟩∧Blk ⟨own0,w.alloc (.cells #[.int .i64 0,.int .i64 0,.int .i64 0,.int .i64 0,.int .i64 0,.int .i64 0,.int .i64 0,.int .i64 0,.slice none 0 0] 34)⟩ 8 w.heap.size 34 [.int .i64 0,.int .i64 0,.int .i64 0,.int .i64 0,.int .i64 0,.int .i64 0,.int .i64 0,.int .i64 0,.slice none 0 0]:=⟨_,Mod.ext (T:=fun _=>False) (g:=⟨fun _=>0,w⟩) (show Ext w (w.alloc (.cells #[.int .i64 0,.int .i64 0,.int .i64 0,.int .i64 0,.int .i64 0,.int .i64 0,.int .i64 0,.int .i64 0,.slice none 0 0] 34)) from zE) 8,Blk.new ⟨fun _=>0,w⟩ 8 34 _⟩;have M0:=zH m0;have B0':=zH B0;clear m0 B0;generalize w.alloc (.cells #[.int .i64 0,.int .i64 0,.int .i64 0,.int .i64 0,.int .i64 0,.int .i64 0,.int .i64 0,.int .i64 0,.slice none 0 0] 34)=w0 at *;obtain ⟨own1,m1,P1,P2⟩:=yat ⟨own0,w0⟩ 4 4 [.bool true,.bool true,.bool false] [.bool true]
 obtain ⟨own2,m2,P3,S3⟩:=yat ⟨own1,(w0.alloc (.cells ([.bool true,.bool true,.bool false]:List Value).toArray 4)).alloc (.cells ([.bool true]:List Value).toArray 4)⟩ 4 94 [.bool false] [.bool false,.slice (some ⟨w0.heap.size,0,none⟩) 3 3,.bool true,.slice (some ⟨w0.heap.size+1,0,none⟩) 1 1,.bool true,.slice (some ⟨w0.heap.size+1+1,0,none⟩) 1 1];have e1:((w0.alloc (.cells ([.bool true,.bool true,.bool false]:List Value).toArray 4)).alloc (.cells ([.bool true]:List Value).toArray 4)).heap.size=w0.heap.size+1+1:=by rw [World.size_alloc,World.size_alloc]
 rw [e1] at P3 S3;have M3:=zH ((M0.out.trans m1).trans m2);have C3:=zH ((B0'.out.keep m1 id).keep m2 id);have Q1:=zH (P1.keep m2 id);have Q2:=zH (P2.keep m2 id);have Q3:=zH P3;have S3':=zH S3;clear m1 m2 P1 P2 P3 S3 M0 B0' e1
 have HC:=zH (show CnfAt ⟨own2,_⟩ 9 (cTwo frags low (some ⟨w0.heap.size+1+1+1,0,none⟩) (some ⟨w0.heap.size,0,none⟩) (some ⟨w0.heap.size+1,0,none⟩) (some ⟨w0.heap.size+1+1,0,none⟩)) from ⟨S3'.out.segs,fun s hs=>by
  simp only [cTwo,List.mem_cons,List.not_mem_nil,or_false] at hs;rcases hs with rfl|rfl|rfl
  · exact ⟨Q1.out.segs,by simp,by simp⟩
  · exact ⟨Q2.out.segs,by simp,by simp⟩
  · exact ⟨Q3.out.segs,by simp,by simp⟩,by simp [cTwo],by simp [cTwo]⟩)
 have HO:=zH C3.out.own;have d0:=C3.out.live 0;have d1:=C3.out.live 1;have d2:=C3.out.live 2;have d3:=C3.out.live 3;have d4:=C3.out.live 4;have d5:=C3.out.live 5;have d6:=C3.out.live 6;have d7:=C3.out.live 7;have d8:=C3.out.live 8;have dl:=C3.out.lt;(try simp only at d0 d1 d2 d3 d4 d5 d6 d7 d8 dl);obtain ⟨z0,z1,z2,z3,z4,z5,z6,z7,z8,zl⟩:=C3.out.k9;(try simp only at z0 z1 z2 z3 z4 z5 z6 z7 z8);go_wp2_with fail;refine bodyPost_ret (v:=(cTwo frags low (some ⟨w0.heap.size+1+1+1,0,none⟩) (some ⟨w0.heap.size,0,none⟩) (some ⟨w0.heap.size+1,0,none⟩) (some ⟨w0.heap.size+1+1,0,none⟩)).val) (by unfold Cnf.val cTwo;simp [results,Tryz.results25,go_sem,z0,z1,z2,z3,z4,z5,z6,z7,z8]) rfl ?_;refine ⟨_,_,_,_,rfl,?_,?_⟩
 · exact (show Mod (fun _=>False) ⟨fun _=>0,w⟩ ⟨own2,_⟩ from Mod.stn (Mod.stn (Mod.stn (Mod.stn (Mod.stn (Mod.stn (Mod.stn (Mod.stn (Mod.stn M3.out (Nat.le_refl _)) (Nat.le_refl _)) (Nat.le_refl _)) (Nat.le_refl _)) (Nat.le_refl _)) (Nat.le_refl _)) (Nat.le_refl _)) (Nat.le_refl _)) (Nat.le_refl _)).toExt
 · refine (HC.out.keep (S:=fun x=>x=8) (g':=⟨own2,_⟩) ?_ zo).ok;exact Mod.st (Mod.st (Mod.st (Mod.st (Mod.st (Mod.st (Mod.st (Mod.st (Mod.st Mod.self HO.out) HO.out) HO.out) HO.out) HO.out) HO.out) HO.out) HO.out) HO.out
def quietOps:Nat→List Opr
 |0=>[]
 |n+1=>quietOps n++[⟨1,(n:Int)%3,0,0,0,0,0⟩]
theorem yaO: ∀n,(quietOps n).length=n
 |0=>rfl
 |n+1=>by show (quietOps n++[_]).length=_;rw [List.length_append,yaO n];rfl
namespace DuW
def qStep (i made:Nat) (D:DuW):Option (Nat × DuW):=
 if i%2=1 then (match D.ac.stepL with
  |none=>none
  |some x=>if x.1.2 then (if x.1.1.e==0&&x.1.1.own==10 then some (made+1,D.putA x.2) else none) else some (made,D.putA x.2))
 else match D.cy.stepG with
  |none=>none
  |some V=>some (made,D.putC V)
def qOk (made:Nat) (D:DuW):Bool:=D.y.started==0&&(D.y.finished==0&&(D.y.freed==0&&(D.y.stage==0&&(Ent.wait D.K.sp.line==0&&(D.K.sp.tab.cnt 1==0&&(decide (made≤D.K.sp.tab.cnt 2)&&decide (D.K.sp.tab.cnt 2≤made+1)))))))
def qRun:Nat→Nat→Nat→DuW→Option (Nat × DuW)
 |0,_,made,D=>some (made,D)
 |f+1,i,made,D=>match qStep i made D with
  |none=>none
  |some q=>if qOk q.1 q.2 then qRun f (i+1) q.1 q.2 else none
theorem qRun_step {f i made:Nat} {D:DuW} {r:Nat × DuW} (h:qRun (f+1) i made D=some r): ∃q,qStep i made D=some q∧qOk q.1 q.2=true∧qRun f (i+1) q.1 q.2=some r:=by
 unfold qRun at h;cases hs:qStep i made D with
 |none=>rw [hs] at h;cases h
 |some q=>
  rw [hs] at h;simp only at h;cases ho:qOk q.1 q.2
  · rw [ho] at h;cases h
  · rw [ho,if_pos rfl] at h;exact ⟨q,rfl,ho,h⟩
end DuW
def quietD (n:Nat) (A A0 A1 A2:Option Addr):DuW:=aloneD (cTwo 60 0 A A0 A1 A2) (quietOps n)
def Fits (pk:Int→Option (Nat × Nat)) (l:List (Nat × Nat)):Prop:= ∀a,pk a=if inB a l.length then some (l.getD a.toNat (0,0)) else none
theorem Fits.peek {pk:Int→Option (Nat × Nat)} {m:MemS} (h:Fits pk m.l) (a:Int):pk a=if inB a m.l.length then some (m.peek a) else none:=by
 rw [h a];unfold MemS.peek;split<;>rfl
def rdK (pk:Int→Option (Nat × Nat)) (S:TraceS) (frag k:Int):Option (Nat × Nat):=if S.okAt frag k then pk (frag*8+k) else none
namespace TrW
def headK (pk:Int→Option (Nat × Nat)) (w:TrW):TrW × Bool:=match rdK pk w.s w.s.head 1 with
 |none=>({ w with m:=w.s.rdM w.m w.s.head 1 },false)
 |some v=>({ w with m:=w.s.rdM w.m w.s.head 1,s:=(w.s.first v).1 },(w.s.first v).2)
def fieldK (pk:Int→Option (Nat × Nat)) (w:TrW):TrW × Bool:=match rdK pk w.s w.s.frag (w.s.words.headD 0) with
 |none=>({ w with m:=w.s.rdM w.m w.s.frag (w.s.words.headD 0) },false)
 |some v=>if wIs v=false then ({ w with m:=w.s.rdM w.m w.s.frag (w.s.words.headD 0) },false)
  else if (wIndex v).isSome then ({ w with m:=w.s.rdM w.m w.s.frag (w.s.words.headD 0),s:={ w.s with words:=w.s.words.tail,next:=(wIndex v).getD 0,pc:=2 } },true)
  else ({ w with m:=w.s.rdM w.m w.s.frag (w.s.words.headD 0),s:=TraceS.gone { w.s with words:=w.s.words.tail,next:=0 } },true)
def linkK (pk:Int→Option (Nat × Nat)) (w:TrW):TrW × Bool:=match rdK pk w.s w.s.frag 0 with
 |none=>({ w with m:=w.s.rdM w.m w.s.frag 0 },false)
 |some v=>match wIndex v with
  |none=>({ w with m:=w.s.rdM w.m w.s.frag 0 },false)
  |some i=>if i<w.s.c.frags then ({ w with m:=w.s.rdM w.m w.s.frag 0,s:={ w.s with frag:=i,pc:=4,j:=w.s.j+1 } },true) else ({ w with m:=w.s.rdM w.m w.s.frag 0 },false)
def lengthK (pk:Int→Option (Nat × Nat)) (w:TrW):TrW × Bool:=match rdK pk w.s w.s.head 2 with
 |none=>({ w with m:=w.s.rdM w.m w.s.head 2 },false)
 |some v=>match wInt v with
  |none=>({ w with m:=w.s.rdM w.m w.s.head 2,s:={ w.s with n:=0 } },false)
  |some n=>if n<0∨512<n then ({ w with m:=w.s.rdM w.m w.s.head 2,s:={ w.s with n:=n } },false) else ({ w with m:=w.s.rdM w.m w.s.head 2,s:={ w.s with n:=n,pc:=if n=0 then 9 else 6 } },true)
def modeK (pk:Int→Option (Nat × Nat)) (w:TrW):TrW × Bool:=match rdK pk w.s w.s.head 3 with
 |none=>({ w with m:=w.s.rdM w.m w.s.head 3 },false)
 |some v=>match wInt v with
  |none=>({ w with m:=w.s.rdM w.m w.s.head 3,s:={ w.s with mode:=0 } },false)
  |some n=>if n<0∨2<n∨decide (n=0)≠decide (sData w.s.n≤4) then ({ w with m:=w.s.rdM w.m w.s.head 3,s:={ w.s with mode:=n } },false)
   else ({ w with m:=w.s.rdM w.m w.s.head 3,s:={ w.s with mode:=n,pc:=if n=0 then 8 else 7 } },true)
def baseK (pk:Int→Option (Nat × Nat)) (w:TrW):TrW × Bool:=match rdK pk w.s w.s.head 4 with
 |none=>({ w with m:=w.s.rdM w.m w.s.head 4 },false)
 |some v=>if w.s.mode=1 then (match wInt v with
  |none=>({ w with m:=w.s.rdM w.m w.s.head 4,s:={ w.s with base:=0 } },false)
  |some a=>if a<0∨cWords w.s.c≤a then ({ w with m:=w.s.rdM w.m w.s.head 4,s:={ w.s with base:=a } },false) else ({ w with m:=w.s.rdM w.m w.s.head 4,s:={ w.s with base:=a,pc:=8 } },true))
  else (match wIndex v with
   |none=>({ w with m:=w.s.rdM w.m w.s.head 4,s:={ w.s with base:=0 } },false)
   |some i=>if w.s.c.frags<i+sData w.s.n then ({ w with m:=w.s.rdM w.m w.s.head 4,s:={ w.s with base:=i } },false) else ({ w with m:=w.s.rdM w.m w.s.head 4,s:={ w.s with base:=i,frag:=i+w.s.j,pc:=4 } },true))
def slotRdK (pk:Int→Option (Nat × Nat)) (w:TrW):Option (Nat × Nat):=if w.s.mode=0 then rdK pk w.s w.s.head (4+w.s.j) else pk (w.s.base+2+w.s.j)
def slotK (pk:Int→Option (Nat × Nat)) (w:TrW):TrW × Bool:=match slotRdK pk w with
 |none=>({ w with m:=w.slotM },false)
 |some v=>({ w with m:=w.slotM,s:={ w.s with frag:=(wIndex v).getD 0,pc:=4 } },(wIndex v).isSome&&decide ((wIndex v).getD 0<w.s.c.frags))
def doesK (pk:Int→Option (Nat × Nat)) (w:TrW):TrW × Bool:=
 if w.s.pc=0 then w.headK pk
 else if 5≤w.s.pc then (if w.s.pc=6 then w.modeK pk else if w.s.pc=7 then w.baseK pk else if w.s.pc=8 then w.slotK pk else w.lengthK pk)
 else if w.s.pc=2 then w.grey else if w.s.pc=3 then w.linkK pk else if w.s.pc=4 then w.part else w.fieldK pk
def stepK (pk:Int→Option (Nat × Nat)) (w:TrW):TrW:=if w.s.pc=9 then w else if (w.ticked.doesK pk).2 then (w.ticked.doesK pk).1 else (w.ticked.doesK pk).1.ended
end TrW
namespace CyW
def okN:Int→Bool
 |.ofNat k=>Nat.ble k 1099511627776
 |.negSucc _=>false
theorem okN_eq (n:Int):cOk n=okN n:=by
 cases n with
 |ofNat k=>
  unfold cOk okN;rw [Bool.eq_iff_iff,decide_eq_true_eq,Nat.ble_eq];constructor
  · intro h;have:=h.2;simp only [Int.ofNat_eq_natCast] at this;omega
  · intro h;simp only [Int.ofNat_eq_natCast];omega
 |negSucc k=>
  unfold cOk okN;rw [Bool.eq_iff_iff,decide_eq_true_eq];constructor
  · intro h;have:=h.1;omega
  · intro h;cases h
def bdK (W:CyW):Bool:=okN W.y.i&&(okN W.y.started&&(okN W.y.finished&&(okN W.y.freed&&(okN W.y.moved&&(okN W.y.steps&&(okN W.K.hand.count&&(okN W.K.sp.count&&(okN W.K.mem.count&&okN W.K.n))))))))
theorem yh2 (W:CyW):W.bdB=W.bdK:=by unfold bdB bdK;simp only [okN_eq]
end CyW
namespace AcW
end AcW
namespace DuW
end DuW
namespace AcW
def bdQ (W:AcW):Bool:=CyW.okN W.a.own&&CyW.okN W.a.next&&CyW.okN W.K.hand.count&&CyW.okN W.K.sp.count&&CyW.okN W.K.mem.count&&CyW.okN W.K.n&&Nat.ble (W.K.sp.line.length+1) 1000000
theorem bdQ_eq (W:AcW):W.bdB=W.bdQ:=by
 have e: ∀n,cntOk n=CyW.okN n:=fun n=>CyW.okN_eq n
 have e2:decide (W.K.sp.line.length<1000000)=Nat.ble (W.K.sp.line.length+1) 1000000:=by
  rw [Bool.eq_iff_iff,decide_eq_true_eq,Nat.ble_eq];exact Iff.rfl
 unfold bdB bdQ;rw [e2];simp only [e]
def stepQ (W:AcW):Option AcR:=
 if W.okL=false then none
 else if W.bdQ=false then none
 else if W.a.phase=0 then some W.joins.no
 else if W.a.phase=1 then (if W.greyOk then some W.borderK.no else none)
 else if W.a.phase=2 then (if W.hasOp&&W.locOk then W.up.within else none)
 else if W.a.phase=4 then some W.no
 else none
theorem stepQ_of {W:AcW} {r:AcR} (h:W.stepQ=some r):W.stepL=some r:=by
 apply yhr;unfold stepQ at h;rw [←bdQ_eq] at h;exact h
theorem stepL_out {W:AcW} (hl:W.okL=true) (hb:W.bdB=true) (hp:W.a.phase=4):W.stepL=some W.no:=by
 unfold stepL step;rw [if_pos hl,hb,if_neg (by simp),if_neg zo,if_neg zo,if_neg zo,if_neg zo,if_pos hp]
end AcW
namespace CyW
def idleQ (W:CyW):Option CyW:=if W.bdK&&(W.y.e==0&&(W.y.stage==0&&(W.y.started==0&& !wantsS W.K.sp))) then some (W.spc W.K.sp.tick) else none
theorem idleQ_of {W V:CyW} (h:W.idleQ=some V):W.stepG=some V:=by
 unfold idleQ at h;split at h
 case isFalse=>cases h
 case isTrue hc=>
  simp only [Bool.and_eq_true,beq_iff_eq,Bool.not_eq_true'] at hc;obtain ⟨h1,h2,h3,h4,h5⟩:=hc;injection h with h;have ht:W.tick1=W:=by unfold tick1;rw [if_neg zo]
  unfold stepG;rw [ht,yh2,h1,h2];rw [if_neg (by simp),if_pos h3];unfold idles;rw [h5];exact congrArg some h
end CyW
namespace DuW
def qStepQ (i made:Nat) (D:DuW):Option (Nat × DuW):=
 if i%2=1 then (match D.ac.stepQ with
  |none=>none
  |some x=>if x.1.2 then (if x.1.1.e==0&&x.1.1.own==10 then some (made+1,D.putA x.2) else none) else some (made,D.putA x.2))
 else match D.cy.idleQ with
  |none=>none
  |some V=>some (made,D.putC V)
theorem yfM {i made:Nat} {D:DuW} {q:Nat × DuW} (h:qStepQ i made D=some q):qStep i made D=some q:=by
 unfold qStepQ at h;unfold qStep;split at h
 · rename_i hi
   rw [if_pos hi];cases hx:D.ac.stepQ with
   |none=>rw [hx] at h;cases h
   |some x=>rw [hx] at h;rw [AcW.stepQ_of hx];exact h
 · rename_i hi
   rw [if_neg hi];cases hx:D.cy.idleQ with
   |none=>rw [hx] at h;cases h
   |some V=>rw [hx] at h;rw [CyW.idleQ_of hx];exact h
def qRunQ:Nat→Nat→Nat→DuW→Option (Nat × DuW)
 |0,i,made,D=>if D.a.phase==4 then some (made,D) else none
 |f+1,i,made,D=>if D.a.phase==4 then some (made,D) else match qStepQ i made D with
  |none=>none
  |some q=>if qOk q.1 q.2 then qRunQ f (i+1) q.1 q.2 else none
def bd0 (D:DuW):Bool:=CyW.okN D.y.i&&(CyW.okN D.y.finished&&(CyW.okN D.y.freed&&(CyW.okN D.y.moved&&(CyW.okN D.y.steps&&(CyW.okN D.K.hand.count&&(CyW.okN D.K.mem.count&&(CyW.okN D.K.n&&(CyW.okN D.a.own&&(CyW.okN D.a.next&&Nat.ble (D.K.sp.line.length+1) 1000000)))))))))
def fin (made:Nat) (D:DuW):Bool:=D.a.phase==4&&(qOk made D&&(D.y.e==0&&(!wantsS D.K.sp&&(D.ac.okL&&(bd0 D&&(match D.K.sp.count with
 |.ofNat k=>Nat.ble k 1000000
 |.negSucc _=>false))))))
structure Out (made j:Nat) (D:DuW):Prop where
 p:D.a.phase=4
 q:qOk made D=true
 e:D.y.e=0
 w:wantsS D.K.sp=false
 l:D.ac.okL=true
 b:bd0 D=true
 c:0≤D.K.sp.count∧D.K.sp.count≤1000000+j
theorem out_of {made:Nat} {D:DuW} (h:fin made D=true):Out made 0 D:=by
 unfold fin at h;simp only [Bool.and_eq_true,beq_iff_eq,Bool.not_eq_true'] at h;obtain ⟨h1,h2,h3,h4,h5,h6,h7⟩:=h;refine ⟨h1,h2,h3,h4,h5,h6,?_⟩;cases hc:D.K.sp.count with
 |ofNat k=>rw [hc] at h7;simp only [Nat.ble_eq] at h7;simp only [Int.ofNat_eq_natCast];omega
 |negSucc k=>rw [hc] at h7;cases h7
theorem yfD {n:Int} (h:0≤n∧n≤1099511627776):CyW.okN n=true:=by rw [←CyW.okN_eq];exact decide_eq_true h
theorem qOk_started {made:Nat} {D:DuW} (h:qOk made D=true):D.y.started=0∧D.y.finished=0∧D.y.freed=0∧D.y.stage=0∧Ent.wait D.K.sp.line=0∧D.K.sp.tab.cnt 1=0∧made≤D.K.sp.tab.cnt 2∧D.K.sp.tab.cnt 2≤made+1:=by
 unfold qOk at h;simp only [Bool.and_eq_true,beq_iff_eq,decide_eq_true_eq] at h;exact h
theorem Out.stepA {made j:Nat} {D:DuW} (h:Out made j D) (hj:j≤1000000):D.ac.stepL=some D.ac.no:=by
 refine AcW.stepL_out h.l ?_ h.p;rw [AcW.bdQ_eq];have hb:=h.b;unfold bd0 at hb;simp only [Bool.and_eq_true] at hb;obtain ⟨b1,b2,b3,b4,b5,b6,b7,b8,b9,b10,b11⟩:=hb;have hc:=yfD (show 0≤D.K.sp.count∧D.K.sp.count≤1099511627776 from by have:=h.c;omega);unfold AcW.bdQ;show (CyW.okN D.a.own&&CyW.okN D.a.next&&CyW.okN D.K.hand.count&&CyW.okN D.K.sp.count&&CyW.okN D.K.mem.count&&CyW.okN D.K.n&&Nat.ble (D.K.sp.line.length+1) 1000000)=true;rw [b6,b7,b8,b9,b10,b11,hc];rfl
theorem Out.stepC {made j:Nat} {D:DuW} (h:Out made j D) (hj:j≤1000000):D.cy.stepG=some (D.cy.spc D.K.sp.tick):=by
 apply CyW.idleQ_of;have hb:=h.b;unfold bd0 at hb;simp only [Bool.and_eq_true] at hb;obtain ⟨b1,b2,b3,b4,b5,b6,b7,b8,b9,b10,b11⟩:=hb;have hc:=yfD (show 0≤D.K.sp.count∧D.K.sp.count≤1099511627776 from by have:=h.c;omega);obtain ⟨q1,q2,q3,q4, -⟩:=qOk_started h.q
 have hk:D.cy.bdK=true:=by
  unfold CyW.bdK;show (CyW.okN D.y.i&&(CyW.okN D.y.started&&(CyW.okN D.y.finished&&(CyW.okN D.y.freed&&(CyW.okN D.y.moved&&(CyW.okN D.y.steps&&(CyW.okN D.K.hand.count&&(CyW.okN D.K.sp.count&&(CyW.okN D.K.mem.count&&CyW.okN D.K.n)))))))))=true;rw [b1,b2,b3,b4,b5,b6,b7,b8,hc,q1];rfl
 unfold CyW.idleQ;rw [hk];show (if (true&&(D.y.e==0&&(D.y.stage==0&&(D.y.started==0&& !wantsS D.K.sp))))=true then _ else _)=_;rw [h.e,q4,q1,h.w];rfl
theorem Out.next {made j:Nat} {D:DuW} (h:Out made j D) (hj:j≤1000000) (i:Nat): ∃q,qStep i made D=some q∧q.1=made∧Out made (j+1) q.2:=by
 unfold qStep;have h1:=h.c;split
 · rw [h.stepA hj];refine ⟨_,rfl,rfl,?_⟩;exact ⟨h.p,h.q,h.e,h.w,h.l,h.b,by show 0≤D.K.sp.count∧D.K.sp.count≤1000000+((j+1:Nat):Int);omega⟩
 · rw [h.stepC hj];refine ⟨_,rfl,rfl,?_⟩;exact ⟨h.p,h.q,h.e,h.w,h.l,h.b,by show 0≤D.K.sp.count+1∧D.K.sp.count+1≤1000000+((j+1:Nat):Int);omega⟩
theorem ycd: ∀{f i made j:Nat} {D:DuW},Out made j D→j+f≤1000000→(qRun f i made D).isSome=true
 |0,_,_,_,_,_,_=>rfl
 |f+1,i,made,j,D,h,hj=>by
  obtain ⟨⟨m2,D2⟩,h1,h2,h3⟩:=h.next zo i;simp only at h2 h3;subst h2;unfold qRun;rw [h1];simp only [h3.q,if_true];exact ycd h3 zo
theorem run_all: ∀{F i made:Nat} {D:DuW} {r:Nat × DuW},qRunQ F i made D=some r→Out r.1 0 r.2→ ∀p,p≤1000000→(qRun p i made D).isSome=true
 |0,i,made,D,r,h,ho,p,hp=>by
  unfold qRunQ at h;split at h
  · injection h with h;subst h;exact ycd ho zo
  · cases h
 |F+1,i,made,D,r,h,ho,p,hp=>by
  unfold qRunQ at h;split at h
  · injection h with h;subst h;exact ycd ho zo
  · cases p with
    |zero=>rfl
    |succ p=>
     cases hq:qStepQ i made D with
     |none=>rw [hq] at h;cases h
     |some q=>
      rw [hq] at h;simp only at h;split at h
      · rename_i hk
        unfold qRun;rw [yfM hq];simp only [hk,if_true];exact run_all h ho p zo
      · cases h
end DuW
def quietChk (n:Nat) (A A0 A1 A2:Option Addr):Bool:=DuW.qOk 0 (quietD n A A0 A1 A2)&&(match DuW.qRunQ 1000 0 0 (quietD n A A0 A1 A2) with
 |none=>false
 |some r=>DuW.fin r.1 r.2)
theorem yfO {n:Nat} (h:quietChk n=fun _ _ _ _=>true) (A A0 A1 A2:Option Addr) (p:Nat) (hp:p≤3000):DuW.qOk 0 (quietD n A A0 A1 A2)=true∧(DuW.qRun p 0 0 (quietD n A A0 A1 A2)).isSome=true:=by
 have h1:=congrFun (congrFun (congrFun (congrFun h A) A0) A1) A2;unfold quietChk at h1;rw [Bool.and_eq_true] at h1;refine ⟨h1.1,?_⟩;cases hr:DuW.qRunQ 1000 0 0 (quietD n A A0 A1 A2) with
 |none=>rw [hr] at h1;cases h1.2
 |some r=>
  rw [hr] at h1;exact DuW.run_all hr (DuW.out_of h1.2) p zo
def cyZero:List Value:=[.int .i64 0,.int .i64 0,.int .i64 0,.int .i64 0,.bool false,.pointer none,.pointer none,.bool false,.int .i64 0,.int .i64 0,.int .i64 0,.int .i64 0,.int .i64 0,.int .i64 0]
structure Hp0 (g:GW) (h k y bm bs bt bp bsp bh:Nat) (c cm:Cnf):Prop where
 blk:Blk g 90 h 86 [.pointer (some ⟨k,0,none⟩),.pointer (some ⟨y,0,none⟩),.slice none 0 0,.int .i64 0]
 core:CoreIn g 100 k (CoreS.fresh c) bm bs bt bp bsp bh cm
 cyc:Blk g 91 y 113 cyZero
theorem Hp0.keep {g g':GW} {h k y bm bs bt bp bsp bh:Nat} {c cm:Cnf} (H:Hp0 g h k y bm bs bt bp bsp bh c cm) (m:Mod (fun _=>False) g g'):Hp0 g' h k y bm bs bt bp bsp bh c cm:=
 ⟨H.blk.keep m id,H.core.keep m (fun _=>False.elim),H.cyc.keep m id⟩
def HpAt (w:World) (h:Nat) (c:Cnf):Prop:= ∃own k y bm bs bt bp bsp bh cm,Hp0 ⟨own,w⟩ h k y bm bs bt bp bsp bh c cm
theorem HpAt.ext {w w':World} {h:Nat} {c:Cnf} (H:HpAt w h c) (e:Ext w w'):HpAt w' h c:=by
 obtain ⟨own,k,y,bm,bs,bt,bp,bsp,bh,cm,H⟩:=H;obtain ⟨own',m⟩:=Mod.ofExt e own;exact ⟨own',k,y,bm,bs,bt,bp,bsp,bh,cm,H.keep m⟩
theorem yeP (g:GW) (t b:Nat) (A:AcS) (p:AcP) (v:LVal) (e:Int) (r:ResS) (ht:100≤t) (H:AcAt g t b A p) (hn:0≤A.next∧A.next≤1099511627776) (hr:A.res v e=r):Calls prog 81 #[.pointer (some ⟨b,0,none⟩),.agg #[.bool v.ref,.complex .f64 v.z.1 v.z.2],.int .i64 e] g.w (Does (.tuple #[.agg #[.int .i64 r.op,.int .i64 r.own,.int .i64 r.e,.bool r.v.ref,.complex .f64 r.v.z.1 r.v.z.2],.bool true]) g (acO t) (fun g'=>AcAt g' t b A.done p)):=by
 subst hr;exact ygg g t b A p v e ht H hn
theorem AcAt.setLoc {g:GW} {t b:Nat} {A:AcS} {p:AcP} (H:AcAt g t b A p) (ht:100≤t) {q k:Nat} (hA:p.locA=some ⟨q,0,none⟩) (ho:g.own q=t+1) (v:LVal):
 AcAt ⟨g.own,(g.w.setCell ⟨q,k*2,none⟩ (.bool v.ref)).setCell ⟨q,k*2+1,none⟩ (.complex .f64 v.z.1 v.z.2)⟩ t b { A with locals:=A.locals.set k v } p∧
 Mod (fun x=>x=t+1) g ⟨g.own,(g.w.setCell ⟨q,k*2,none⟩ (.bool v.ref)).setCell ⟨q,k*2+1,none⟩ (.complex .f64 v.z.1 v.z.2)⟩:=by
 have m:Mod (fun x=>x=t+1) g ⟨g.own,(g.w.setCell ⟨q,k*2,none⟩ (.bool v.ref)).setCell ⟨q,k*2+1,none⟩ (.complex .f64 v.z.1 v.z.2)⟩:=Mod.st (Mod.st (Mod.refl _ _) ho) ho;refine ⟨⟨?_,⟨H.r.ops.keep m zo,H.r.opsC,?_,H.r.grey.keep m zo,H.r.greyC,H.r.fn,fun S hS=>?_,H.r.got.keep m zo,H.r.gotC,H.r.wr.keep m zo,H.r.wrE,H.r.wrC⟩⟩,m⟩
 · have h:=H.blk.keep m zo;unfold AcS.cells at h ⊢;simp only [List.length_set];exact h
 · have h:=H.r.loc;rw [hA] at h ⊢;have h2:=(h.store (k*2) (.bool v.ref)).store (k*2+1) (.complex .f64 v.z.1 v.z.2);simp only [List.length_set];rw [yfr];exact h2
 · obtain ⟨bf,cm,e1,e2,e3⟩:=H.r.fs S hS;exact ⟨bf,cm,e1,e2,e3.keep m zo zo⟩
theorem ygi (g:GW) (t b:Nat) (A:AcS) (p:AcP) (i:Int) (v:LVal) (r:ResS) (ht:100≤t) (H:AcAt g t b A p) (hn:0≤A.next∧A.next≤1099511627776) (hi:0≤i∧i<A.locals.length) (hr:A.res v 0=r):Calls prog 136 #[.pointer (some ⟨b,0,none⟩),.int .i64 i,.agg #[.bool v.ref,.complex .f64 v.z.1 v.z.2]] g.w (Does (.tuple #[.agg #[.int .i64 r.op,.int .i64 r.own,.int .i64 r.e,.bool r.v.ref,.complex .f64 r.v.z.1 r.v.z.2],.bool true]) g (acO t) (fun g'=>AcAt g' t b { A with locals:=A.locals.set i.toNat v }.done p)):=by
 obtain ⟨k,rfl⟩: ∃k:Nat,i=k:=⟨i.toNat,zo⟩;have hk:k<A.locals.length:=zo;rw [Int.toNat_natCast];have HH:=zH H;have HR:=zH hr;clear H hr hi;go_enter func136,ntmps136;go_upto_region 1 with fail
 obtain ⟨own0,M0,Q0,R0⟩:=yat g 38 40 v.cells resZ;unfold LVal.cells resZ at M0 Q0 R0;generalize ((g.w.alloc (.cells #[.bool v.ref,.complex .f64 v.z.1 v.z.2] 38)).alloc (.cells #[.int .i64 0,.int .i64 0,.int .i64 0,.bool false,.complex .f64 0 0] 40))=w0 at *;have H0:=zH (HH.out.keep M0 id (fun _=>False.elim));have M0':=zH M0;have R0':=zH R0;have Q0':=zH Q0;obtain ⟨q,hA,hq,ho,c0,c1,hfr⟩:=H0.out.r.local_ hk;have cf0:=hfr (k*2);have cf1:=hfr (k*2+1);simp only at hq c0 c1 cf0 cf1 ho;obtain ⟨a0,a1,a2,a3,a4,a5,a6,a7,a8,a9,a10,a11,a12,a13,a14,a15,a16,a17,a18,al⟩:=H0.out.blk.k19;obtain ⟨x0,x1,xl⟩:=Q0.k2;rw [hA] at a2;clear M0 Q0 R0 hfr;refine yab [zT,zT,zT,zT,zT,zT,zT,zU] 1 7 ?_;intro X00;simp only [pickOps];repeat (go_big_quiet_step (fail))
 refine wpQuiet_nil (fun X0=>?_);clear X00;refine yaj 7 _ zQ zQ rfl rfl (fun X1 K Q' hK=>?_);go_simp;refine hK _ _ (fun X2=>?_);clear hK K Q';obtain ⟨H1',m1⟩:=H0.out.setLoc ht (k:=k) hA ho v;simp only at m1 H1';have Q1':=Q0'.out.keep m1 zo;have R1':=R0'.out.keep m1 zo;have M1':=(M0'.out.mono (S:=acO t) (fun _=>False.elim)).trans (m1.mono (fun x hx=>Or.inr hx));have m2:Mod (fun _=>False) ⟨own0,(w0.setCell ⟨q,k*2,none⟩ (.bool v.ref)).setCell ⟨q,k*2+1,none⟩ (.complex .f64 v.z.1 v.z.2)⟩ (GW.to ⟨own0,(w0.setCell ⟨q,k*2,none⟩ (.bool v.ref)).setCell ⟨q,k*2+1,none⟩ (.complex .f64 v.z.1 v.z.2)⟩ 9 ((((w0.setCell ⟨q,k*2,none⟩ (.bool v.ref)).setCell ⟨q,k*2+1,none⟩ (.complex .f64 v.z.1 v.z.2)).patch ⟨X0.blocks++X1.blocks,X1.drawn⟩).patch X2)):=Mod.ext zE 9;unfold GW.to at m2;have H2:=zH (H1'.keep m2 id (fun _=>False.elim));have Q2:=zH (Q1'.keep m2 id);have R2:=zH (R1'.keep m2 id);have M2:=zH (M1'.trans (m2.mono (fun _=>False.elim)));generalize (fun x=>if x<((w0.setCell ⟨q,k*2,none⟩ (.bool v.ref)).setCell ⟨q,k*2+1,none⟩ (.complex .f64 v.z.1 v.z.2)).heap.size then own0 x else 9)=own2 at *
 generalize (((w0.setCell ⟨q,k*2,none⟩ (.bool v.ref)).setCell ⟨q,k*2+1,none⟩ (.complex .f64 v.z.1 v.z.2)).patch ⟨X0.blocks++X1.blocks,X1.drawn⟩).patch X2=w2 at *;clear H1' m1 Q1' R1' M1' m2 a0 a1 a2 a3 a4 a5 a6 a7 a8 a9 a10 a11 a12 a13 a14 a15 a16 a17 a18 al x0 x1 xl c0 c1 cf0 cf1 H0 Q0' R0' M0';obtain ⟨x0,x1,xl⟩:=Q2.out.k2;go_wp2_with fail;refine (yeP ⟨own2,w2⟩ t b _ p v 0 r ht H2.out hn HR.out).mono ?_;rintro e2 w3 ⟨rfl,own3,m3,h3⟩;have M3:=zH (M2.out.trans m3);have H3:=zH h3;have R3:=zH (R2.out.keep m3 (by unfold acO;omega));clear m3 h3 R2 H2;obtain ⟨r0,r1,r2,r3,r4,rl⟩:=R3.out.k5;have rf0:=R3.out.liv 0;have rf1:=R3.out.liv 1;have rf2:=R3.out.liv 2;have rf3:=R3.out.liv 3;have rf4:=R3.out.liv 4;go_wp2_with fail;obtain ⟨Mf,mf,Rf⟩:=yaf M3.out R3.out (Nat.le_succ _) (r.op) (r.own) (r.e) (r.v.ref) (r.v.z.1) (r.v.z.2);generalize ((((((w3).setCell ⟨g.w.heap.size+1,0,none⟩ (zI z6 (r.op))).setCell ⟨g.w.heap.size+1,1,none⟩ (zI z6 (r.own))).setCell ⟨g.w.heap.size+1,2,none⟩ (zI z6 (r.e))).setCell ⟨g.w.heap.size+1,3,none⟩ (.bool (r.v.ref))).setCell ⟨g.w.heap.size+1,4,none⟩ (.complex .f64 (r.v.z.1) (r.v.z.2)))=wf at *;obtain ⟨f0,f1,f2,f3,f4,fl⟩:=Rf.k5
 refine bodyPost_ret (v:=.tuple #[.agg #[.int .i64 (r.op),.int .i64 (r.own),.int .i64 (r.e),.bool (r.v.ref),.complex .f64 (r.v.z.1) (r.v.z.2)],.bool true]) (by simp [results,Tryz.results136,go_sem,f0,f1,f2,f3,f4]) rfl ?_;exact Does.of ⟨own3,wf⟩ rfl rfl Mf (H3.out.keep mf zo (fun x (hx:x=9)=>by omega))
end Go.Proofs.YtdhjjpnajjingaaGreat
