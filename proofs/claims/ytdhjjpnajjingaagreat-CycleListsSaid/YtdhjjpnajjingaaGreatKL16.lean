import Derived.Test.YtdhjjpnajjingaaGreatKL15
import Derived.Deep.DeepCutAuto
set_option linter.unusedVariables false
set_option linter.unnecessarySimpa false
set_option linter.unusedSimpArgs false
open Bool renaming true→zT,false→zU
open Go.Value renaming int→zI
open Go.IntKind renaming i64→z6
set_option maxHeartbeats 8000000
set_option maxRecDepth 100000
open Go.Proofs.Tryz
open Go.Lib renaming hid→zH
open Go.Ext renaming alloc→zA,patch→zP,drew→zD,drewN→zN,more→zM,refl→zR,setCell→zS
open Nat renaming le_refl→zL,le_add_right→zK
namespace Go
open Go.RowKit
structure LVal where
 ref:Bool
 z:Nat × Nat
namespace LVal
def cells (v:LVal):List Value:=[.bool v.ref,.complex .f64 v.z.1 v.z.2]
def val (v:LVal):Value:=.agg #[.bool v.ref,.complex .f64 v.z.1 v.z.2]
def zero:LVal:=⟨false,(0,0)⟩
def none:LVal:=⟨true,(0,4607182418800017408)⟩
theorem cells_len (v:LVal):v.cells.length=2:=rfl
end LVal
structure ResS where
 op:Int
 own:Int
 e:Int
 v:LVal
namespace ResS
def zero:ResS:=⟨0,0,0,LVal.zero⟩
def val (r:ResS):Value:=.agg #[.int .i64 r.op,.int .i64 r.own,.int .i64 r.e,.bool r.v.ref,.complex .f64 r.v.z.1 r.v.z.2]
end ResS
def resV (x:ResS × Bool):Value:=.tuple #[x.1.val,.bool x.2]
def zWhole (n:Int):Nat × Nat:=(floatOfInt .f64 n,0)
def zNone:Nat × Nat:=(0,4607182418800017408)
def zRef (i:Int):Nat × Nat:=(floatOfInt .f64 (i+1),4607182418800017408)
def truthV (b:Bool):LVal:=⟨false,zWhole (if b then 1 else 0)⟩
end Go
namespace Go.Proofs.YtdhjjpnajjingaaGreat
open Go Go.RowKit
structure AcS where
 t:Int
 ops:List Opr
 locals:List LVal
 phase:Int
 status:Int
 sense:Bool
 next:Int
 pc:Int
 seen:Int
 grey:List Int
 own:Int
 at_:Int
 f:Option FindS
 addr:Int
 ref:Bool
 old:Nat × Nat
 w:Nat × Nat
 got:List Int
 writes:List Value
structure AcP where
 opsA:Option Addr
 opsC:Nat
 locA:Option Addr
 locC:Nat
 greyA:Option Addr
 greyC:Nat
 fp:Option Addr
 gotA:Option Addr
 gotC:Nat
 wrA:Option Addr
 wrC:Nat
namespace AcS
def cells (A:AcS) (p:AcP):List Value:=[.int .i64 A.t,.slice p.opsA A.ops.length p.opsC,.slice p.locA A.locals.length p.locC,.int .i64 A.phase,.int .i64 A.status,.bool A.sense,.int .i64 A.next,.int .i64 A.pc,.int .i64 A.seen,.slice p.greyA A.grey.length p.greyC,
 .int .i64 A.own,.int .i64 A.at_,.pointer p.fp,.int .i64 A.addr,.bool A.ref,.complex .f64 A.old.1 A.old.2,.complex .f64 A.w.1 A.w.2,.slice p.gotA A.got.length p.gotC,.slice p.wrA (A.writes.length/2) p.wrC]
def fresh (t:Int) (locals:Nat) (ops:List Opr):AcS:=⟨t,ops,List.replicate locals LVal.zero,0,0,false,0,0,0,[],0,0,none,0,false,(0,0),(0,0),[],[]⟩
def idle (A:AcS):AcS:={ A with own:=0,at_:=0,f:=none,addr:=0,ref:=false,old:=(0,0),w:=(0,0),got:=[],writes:=[] }
def began (A:AcS):AcS:={ A with phase:=2,own:=0,at_:=0,f:=none,addr:=0,ref:=false,old:=(0,0),w:=(0,0),got:=[],writes:=[] }
def loc (A:AcS) (i:Int):LVal:=A.locals.getD i.toNat LVal.zero
def op (A:AcS):Opr:=A.ops.getD A.next.toNat ⟨0,0,0,0,0,0,0⟩
def head (A:AcS) (i:Int):Int:=(wIndex (A.loc i).z).getD 0
def shades (A:AcS):Bool:=A.status==1 || (A.status==2 || A.status==3)
def both (A:AcS):Bool:=A.status==1 || A.status==2
def behind (A:AcS):Int:=if (wIndex A.w).isSome&&A.both then 5 else 6
def res (A:AcS) (v:LVal) (e:Int):ResS:=⟨A.next,A.own,e,if e=0 then v else LVal.zero⟩
def done (A:AcS):AcS:=if A.phase=4 then { A with next:=A.next+1 } else { A with next:=A.next+1,phase:=1,pc:=0 }
def chooses (A:AcS) (o:Opr):AcS:={ A with w:=(A.loc o.b).z,at_:=if A.ref&&A.shades then 3 else 6 }
def greys (l:List LVal):List Int:=l.filterMap fun v=>if v.ref then wIndex v.z else none
def mustL (A:AcS) (o:Opr):List LVal:=
 if o.kind=9∨o.kind=15∨o.kind=16 then [A.loc o.b,A.loc o.c] else if o.kind=3∨o.kind=5∨o.kind=10∨o.kind=11∨o.kind=8 then [A.loc o.b] else if o.kind=4∨o.kind=6 then [A.loc o.a] else []
def refB (o:Opr):Bool:= !(o.kind==15 || o.kind==16)
def someB (o:Opr):Bool:= !(o.kind==9 || o.kind==15 || o.kind==16 || o.kind==8)
def operandsE (A:AcS) (o:Opr):Int:=
 if (A.mustL o).any (fun v=>v.ref !=refB o) then 4 else if someB o&&(A.mustL o).any (fun v=>sameF v.z zNone) then 3 else 0
def plainV (A:AcS) (o:Opr):Option LVal:=
 if o.kind=9 then some (truthV (sameF (A.loc o.b).z (A.loc o.c).z)) else if o.kind=12 then some ⟨false,(o.re,o.im)⟩ else if o.kind=13 then some LVal.none else if o.kind=14 then some (A.loc o.b) else none
end AcS
def inL (c:Cnf) (i:Int):Bool:=decide (0≤i∧i<c.locals)
def inG (c:Cnf) (i:Int):Bool:=decide (0≤i∧i<c.globals)
def needF (c:Cnf) (o:Opr):Int:=Shp.size ⟨o.kind==2,none,0,((c.shapeAt o.b).getD (false,[])).2⟩ (if o.kind=2 then o.n else 0)
def needS (c:Cnf) (o:Opr):Int:=Shp.spine ⟨o.kind==2,none,0,((c.shapeAt o.b).getD (false,[])).2⟩ o.n
def opOk (c:Cnf) (o:Opr):Bool:=
 if o.kind=1∨o.kind=2 then inL c o.a&&(c.shapeAt o.b).isSome&&(((c.shapeAt o.b).getD (false,[])).1==(o.kind==2))&&decide (0≤needF c o)&&decide (needF c o≤c.frags)&&decide (needS c o≤c.spine)
 else if o.kind=3∨o.kind=4∨o.kind=5∨o.kind=6∨o.kind=10∨o.kind=11∨o.kind=14 then inL c o.a&&inL c o.b
 else if o.kind=7 then inL c o.a&&inG c o.n
 else if o.kind=8 then inL c o.b&&inG c o.n
 else if o.kind=9 then false
 else if o.kind=12∨o.kind=13 then inL c o.a
 else o.kind==17 || o.kind==18
def shpOf (c:Cnf) (b:Int):Shp:=⟨((c.shapeAt b).getD (false,[])).1,none,0,((c.shapeAt b).getD (false,[])).2⟩
structure AcW where
 a:AcS
 K:CoreS
abbrev AcR:=(ResS × Bool) × AcW
namespace AcW
def no (W:AcW):AcR:=((ResS.zero,false),W)
def withA (W:AcW) (A:AcS):AcW:={ W with a:=A }
def tickH (W:AcW):AcW:={ W with K:={ W.K with hand:=W.K.hand.tick } }
def spc (W:AcW) (S:SpaceS):AcW:={ W with K:={ W.K with sp:=S } }
def memW (W:AcW) (m:MemS):AcW:={ W with K:={ W.K with mem:=m } }
def greyK (W:AcW) (i:Int):AcW:={ W with K:={ W.K with sp:={ W.K.sp with tab:=W.K.sp.tab.grey i W.a.sense },pile:=W.K.pile.grey W.K.sp.tab i W.a.sense,n:=W.K.n+1 } }
def doneR (W:AcW) (v:LVal) (e:Int):AcR:=((W.a.res v e,true),{ W with a:=W.a.done })
def fails (W:AcW) (e:Int):AcR:=W.doneR LVal.zero e
def laysR (W:AcW) (i:Int) (v:LVal):AcR:=AcW.doneR { W with a:={ W.a with locals:=W.a.locals.set i.toNat v } } v 0
def looksB (W:AcW):Bool:=W.K.hand.status==W.a.status
def looksA (W:AcW):AcS:={ W.a with seen:=W.K.hand.status,grey:=if W.K.hand.status=3 then AcS.greys W.a.locals else [],pc:=if W.K.hand.status=3∧AcS.greys W.a.locals≠[] then 1 else 2,sense:=if W.K.hand.status=1 then W.K.hand.sense else W.a.sense }
def looks (W:AcW):AcW:=if W.looksB then W.tickH else W.tickH.withA W.looksA
def answersB (W:AcW):Bool:=W.a.pc !=1
def answers (W:AcW):AcW:=
 if W.a.pc=1 then (W.greyK (W.a.grey.headD 0)).withA { W.a with grey:=W.a.grey.tail,pc:=if W.a.grey.tail=[] then 2 else 1 }
 else { a:={ W.a with status:=W.a.seen },K:={ W.K with hand:=W.K.hand.answer W.a.t W.a.seen } }
def goes (W:AcW):AcW:={ a:={ W.a with phase:=4,locals:=List.replicate W.a.locals.length LVal.zero },K:={ W.K with hand:=W.K.hand.leave W.a.t } }
def border (W:AcW):AcW:=
 if W.a.pc=0 then (if !W.looksB then W.looks else if (W.a.ops.length:Int)≤W.a.next then W.looks.withA { W.a with pc:=3 } else W.looks.withA W.a.began)
 else if W.a.pc=1∨W.a.pc=2 then (if W.answersB then W.answers.withA { W.answers.a with pc:=0 } else W.answers)
 else if W.a.pc=3 then (W.spc (drainS W.K.sp W.a.t)).withA { W.a with pc:=4 }
 else if W.a.pc=4 then W.goes
 else W
def rdB (W:AcW) (frag k:Int):Bool:=decide (W.K.c.check=0∧0≤frag∧frag<W.K.c.frags∧0≤k∧k<8)&&inB (frag*8+k) W.K.mem.l.length
def takenW (W:AcW) (o:Opr) (got:List Int) (at_:Int):List Value:=
 if o.kind=1 then objWrites (shpOf W.K.c o.b) o.b got (isSide got) got.length else arrWrites (shpOf W.K.c o.b) o.b o.n at_ got
def takes (W:AcW) (o:Opr) (got:List Int) (at_:Int):AcW:=W.withA { W.a with writes:=W.takenW o got at_,got:=got,phase:=2,at_:=7 }
def takesOk (W:AcW) (o:Opr) (got:List Int) (at_:Int):Bool:=
 decide (got.length≤1000)&&(got.all (fun x=>decide (0≤x∧x≤1000000))&&(decide (-1≤at_∧at_≤1000000)&&(
 if o.kind=1 then wrongE W.K.c (W.K.c.shapeAt o.b).isSome (shpOf W.K.c o.b) 0 false got==0
 else arrE W.K.c (W.K.c.shapeAt o.b).isSome (shpOf W.K.c o.b) o.n got at_==0)))
def asks (W:AcW) (o:Opr):AcR:=
 let r:=ask W.K.sp W.a.t (needF W.K.c o) (needS W.K.c o) (W.a.sense !=W.a.both)
 if r.1.1=0 then ((W.spc r.2).withA { W.a with phase:=3,pc:=5 }).no else ((W.spc r.2).takes o r.1.2.1 r.1.2.2).no
def makes (W:AcW):AcR:=match W.a.writes with
 |.int _ a::.complex _ p q::l=>((W.memW (W.K.mem.tick.lay a (p,q))).withA { W.a with writes:=l,at_:=if l=[] then 8 else W.a.at_ }).no
 |_=>W.no
def bears (W:AcW) (o:Opr):AcR:=(W.spc { W.K.sp.tick with tab:=W.K.sp.tab.born (W.a.got.headD 0) }).laysR o.a ⟨true,zRef (W.a.got.headD 0)⟩
def found (W:AcW) (o:Opr) (x:Bool × FindS × MemS):AcR:=
 let V:=(W.memW x.2.2).withA { W.a with at_:=1,f:=some x.2.1 }
 if x.1=false then V.no
 else if x.2.1.e≠0 then V.fails x.2.1.e
 else
  let A:={ V.a with addr:=x.2.1.at_,ref:=decide (0≤x.2.1.at_)&&x.2.1.ref,at_:=2 }
  if o.kind=3∨o.kind=5 then (V.withA A).no
  else if (A.loc o.b).ref≠A.ref then (V.withA A).fails 4
  else (V.withA (A.chooses o)).no
def finds (W:AcW) (o:Opr):Option AcR:=match W.a.f with
 |none=>none
 |some F=>if 0≤F.steps∧F.steps≤1099511627776∧ -9223372036854775808≤F.k∧F.k≤9223372036854775807 then (F.stepO W.K.mem).map (W.found o) else none
def reads (W:AcW) (o:Opr):Option AcR:=
 if inB W.a.addr W.K.mem.l.length&&(!W.a.ref || wIs (W.K.mem.peek W.a.addr)) then some ((W.memW W.K.mem.tick).laysR o.a ⟨W.a.ref,W.K.mem.peek W.a.addr⟩) else none
def storesWrite (W:AcW):AcR:=(W.memW (W.K.mem.tick.lay W.a.addr W.a.w)).doneR LVal.zero 0
def stores (W:AcW):Option AcR:=
 if W.a.at_=6 then (if inB W.a.addr W.K.mem.l.length then some W.storesWrite else none) else none
def tells (W:AcW) (o:Opr):Option AcR:=
 if W.rdB (W.a.head o.b) 1 then (match wTell (W.K.mem.peek (W.a.head o.b*8+1)) with
  |none=>none
  |some (kd,md)=>match W.K.c.shapeAt kd with
   |none=>none
   |some (arr,refs)=>
    if md≤1∧(arr=false∨md=0) then
     (if o.kind=11 then some ((W.memW W.K.mem.tick).laysR o.a ⟨false,zWhole kd⟩)
     else if arr=false then some ((W.memW W.K.mem.tick).fails 4)
     else some ((W.memW W.K.mem.tick).withA { W.a with at_:=9 }).no)
    else none) else none
def counts (W:AcW) (o:Opr):Option AcR:=
 if W.rdB (W.a.head o.b) 2 then (match wInt (W.K.mem.peek (W.a.head o.b*8+2)) with
  |none=>none
  |some n=>if 0≤n∧n≤512 then some ((W.memW W.K.mem.tick).laysR o.a ⟨false,zWhole n⟩) else none) else none
def prog (W:AcW) (o:Opr):FindS:=
 if o.kind=3 then FindS.fresh W.K.c (W.a.head o.b) o.n false (W.a.head o.b) else if o.kind=4 then FindS.fresh W.K.c (W.a.head o.a) o.n false (W.a.head o.a)
 else if o.kind=5 then FindS.fresh W.K.c (W.a.head o.b) o.n true 0 else FindS.fresh W.K.c (W.a.head o.a) o.n true 0
def asksR (W:AcW) (o:Opr):AskR:=ask W.K.sp W.a.t (needF W.K.c o) (needS W.K.c o) (W.a.sense !=W.a.both)
def asksO (W:AcW) (o:Opr):Option AcR:=
 if (W.asksR o).1.1=0∨((W.asksR o).1.1=1∧(W.spc (W.asksR o).2).takesOk o (W.asksR o).1.2.1 (W.asksR o).1.2.2=true) then some (W.asks o) else none
def atGlobal (W:AcW) (o:Opr):AcW:=W.withA { W.a with addr:=cAtV W.K.c 3 o.n,ref:=true }
def starts (W:AcW) (o:Opr):Option AcR:=
 if opOk W.K.c o=false then none
 else if W.a.operandsE o≠0 then some (W.fails (W.a.operandsE o))
 else match W.a.plainV o with
  |some v=>some (W.laysR o.a v)
  |none=>
   if o.kind=1∨o.kind=2 then W.asksO o
   else if o.kind=3∨o.kind=4∨o.kind=5∨o.kind=6 then (W.withA { W.a with f:=some (W.prog o) }).finds o
   else if o.kind=7 then (W.atGlobal o).reads o
   else if o.kind=8 then ((W.atGlobal o).withA ((W.atGlobal o).a.chooses o)).stores
   else if o.kind=10∨o.kind=11 then W.tells o
   else if o.kind=17 then some ((W.spc (forceS W.K.sp)).doneR LVal.zero 0)
   else if o.kind=18 then some ((W.spc (drainS W.K.sp W.a.t)).withA { W.a with at_:=10 }).no
   else none
def within (W:AcW):Option AcR:=
 if W.a.at_=0 then W.starts W.a.op
 else if W.a.at_=1 then W.finds W.a.op
 else if W.a.at_=2 then W.reads W.a.op
 else if W.a.at_=7 then (match W.a.writes with
  |.int _ a::.complex _ p q::l=>if inB a W.K.mem.l.length then some W.makes else none
  |_=>none)
 else if W.a.at_=8 then (if W.a.got≠[]∧(W.K.sp.tab.state (W.a.got.headD 0)==2&& !W.K.sp.tab.head (W.a.got.headD 0))=true∧0≤W.a.got.headD 0∧W.a.got.headD 0≤1099511627776 then some (W.bears W.a.op) else none)
 else if W.a.at_=9 then W.counts W.a.op
 else if W.a.at_=10 then some (W.goes.doneR LVal.zero 0)
 else W.stores
def lookR (W:AcW):AskR:=look W.K.sp W.a.t
def waiting (W:AcW):Option AcR:=
 if W.a.pc=5 then
  (if W.lookR.1.1=0 then some ((W.spc W.lookR.2).withA { W.a with pc:=0 }).no
  else if W.lookR.1.1=1 then (if (W.spc W.lookR.2).takesOk W.a.op W.lookR.1.2.1 W.lookR.1.2.2 then some ((W.spc W.lookR.2).takes W.a.op W.lookR.1.2.1 W.lookR.1.2.2).no else none)
  else if W.lookR.1.1=2 then some ((W.spc W.lookR.2).fails 6) else none)
 else if W.a.pc=0 then some (if W.looksB then W.looks.withA { W.a with pc:=5 } else W.looks).no
 else if W.a.pc=1∨W.a.pc=2 then some (if W.answersB then W.answers.withA { W.answers.a with pc:=5 } else W.answers).no
 else none
def joins (W:AcW):AcW:=
 { a:=if W.K.hand.mayJoin W.a.t then { W.a with status:=W.K.hand.status,sense:=W.K.hand.sense,phase:=1,pc:=0 } else { W.a with phase:=4 },K:={ W.K with hand:=W.K.hand.join W.a.t } }
def cntOk (n:Int):Bool:=decide (0≤n∧n≤1099511627776)
def bdB (W:AcW):Bool:=cntOk W.a.own&&cntOk W.a.next&&cntOk W.K.hand.count&&cntOk W.K.sp.count&&cntOk W.K.mem.count&&cntOk W.K.n&&decide (W.K.sp.line.length<1000000)
def greyOk (W:AcW):Bool:=W.a.pc !=1 || !W.a.grey.isEmpty
def opIn (W:AcW):Bool:=decide (W.a.next<W.a.ops.length)
def locOk (W:AcW):Bool:=decide ((W.a.locals.length:Int)=W.K.c.locals)
def up (W:AcW):AcW:=W.withA { W.a with own:=W.a.own+1 }
def step (W:AcW):Option AcR:=
 if W.bdB=false then none
 else if W.a.phase=0 then some W.joins.no
 else if W.a.phase=1 then (if W.greyOk then some W.border.no else none)
 else if W.a.phase=2 then (if W.opIn&&W.locOk then W.up.within else none)
 else if W.a.phase=3 then (if W.opIn&&W.greyOk then W.up.waiting else none)
 else if W.a.phase=4 then some W.no
 else none
end AcW
namespace AcW
def kindR (o:Opr):Bool:=o.kind==1 || (o.kind==4 || (o.kind==12 || (o.kind==13 || (o.kind==7 || o.kind==8))))
def wrOk (W:AcW):Bool:=match W.a.writes with
 |.int .i64 _::.complex .f64 _ _::_=>true
 |_=>false
def okW (W:AcW):Bool:=kindR W.a.op&&(W.a.at_ !=9&&((W.a.at_ !=1 || inL W.K.c W.a.op.b)&&((W.a.at_ !=2 || inL W.K.c W.a.op.a)&&((W.a.at_ !=8 || inL W.K.c W.a.op.a)&&(W.a.at_ !=7 || W.wrOk)))))
def okR (W:AcW):Bool:=W.a.phase !=3&&((W.a.phase !=2 || W.okW)&&(decide (W.a.locals.length≤1000)&&(decide (W.a.ops.length≤1000000)&&W.K.c.check==0)))
def stepR (W:AcW):Option AcR:=if W.okR then W.step else none
def okL (W:AcW):Bool:=W.a.phase !=3&&((W.a.phase !=2 || W.okW)&&(decide (W.a.locals.length≤1000)&&W.K.c.check==0))
def stepL (W:AcW):Option AcR:=if W.okL then W.step else none
def stepZ (W:AcW):Option AcR:=if W.a.phase==0 || W.a.phase==1 then W.stepR else none
def post (W:AcW) (s:Int) (flip:Bool):AcW:={ W with K:={ W.K with hand:=W.K.hand.post s flip } }
end AcW
structure DuW where
 y:CyS
 tr:Option TraceS
 h:Option HaulS
 a:AcS
 K:CoreS
namespace DuW
def cy (D:DuW):CyW:=⟨D.y,D.tr,D.h,D.K⟩
def ac (D:DuW):AcW:=⟨D.a,D.K⟩
def putC (D:DuW) (V:CyW):DuW:=⟨V.y,V.tr,V.h,D.a,V.K⟩
def putA (D:DuW) (V:AcW):DuW:=⟨D.y,D.tr,D.h,V.a,V.K⟩
def stepC (D:DuW):Option DuW:=match D.cy.stepO with
 |none=>none
 |some V=>some (D.putC V)
def stepA (D:DuW):Option DuW:=match D.ac.stepZ with
 |none=>none
 |some x=>some (D.putA x.2)
def tick (D:DuW):DuW:={ D with K:={ D.K with hand:=D.K.hand.tick } }
def force (D:DuW):DuW:={ D with K:={ D.K with sp:=forceS D.K.sp } }
def same (D:DuW):Bool:=D.a.status==D.K.hand.status
def handOk (D:DuW):Bool:=AcW.cntOk D.K.hand.count
end DuW
namespace DuW
end DuW
def cChain (frags stack:Int) (A A1 A2:Option Addr):Cnf:=⟨frags,0,1,1,3,0,stack,0,A,2,[⟨false,A1,2,[zT,zU]⟩,⟨false,A2,40,List.replicate 40 true⟩]⟩
def aloneD (c:Cnf) (ops:List Opr):DuW:=⟨CyS.fresh,none,none,AcS.fresh 0 c.locals.toNat ops,CoreS.fresh c⟩
namespace AcW
def hasOp (W:AcW):Bool:=(W.a.ops[W.a.next.toNat]?).isSome
def borderK (W:AcW):AcW:=
 if W.a.pc=0 then (if !W.looksB then W.looks else if W.hasOp=false then W.looks.withA { W.a with pc:=3 } else W.looks.withA W.a.began)
 else if W.a.pc=1∨W.a.pc=2 then (if W.answersB then W.answers.withA { W.answers.a with pc:=0 } else W.answers)
 else if W.a.pc=3 then (W.spc (drainS W.K.sp W.a.t)).withA { W.a with pc:=4 }
 else if W.a.pc=4 then W.goes
 else W
def stepK (W:AcW):Option AcR:=
 if W.okL=false then none
 else if W.bdB=false then none
 else if W.a.phase=0 then some W.joins.no
 else if W.a.phase=1 then (if W.greyOk then some W.borderK.no else none)
 else if W.a.phase=2 then (if W.hasOp&&W.locOk then W.up.within else none)
 else if W.a.phase=4 then some W.no
 else none
theorem yfo {W:AcW} (h:W.bdB=true):(W.hasOp=false↔(W.a.ops.length:Int)≤W.a.next)∧(W.hasOp=W.opIn):=by
 have h0:0≤W.a.next:=by
  unfold bdB cntOk at h;simp only [Bool.and_eq_true,decide_eq_true_eq] at h;exact h.1.1.1.1.1.2.1
 have e:W.hasOp=W.opIn:=by
  unfold hasOp opIn;by_cases hl:W.a.next.toNat<W.a.ops.length
  · rw [List.getElem?_eq_getElem hl,decide_eq_true zo];rfl
  · rw [List.getElem?_eq_none zo,decide_eq_false zo];rfl
 refine ⟨?_,e⟩;rw [e];unfold opIn;rw [decide_eq_false_iff_not];omega
theorem ygX {W:AcW} (h:W.bdB=true):W.borderK=W.border:=by
 unfold borderK border;simp only [(yfo h).1]
theorem stepK_of {W:AcW} {r:AcR} (h:W.stepK=some r):W.stepL=some r:=by
 unfold stepK at h;cases hok:W.okL
 · rw [hok] at h;cases h
 cases hb:W.bdB
 · rw [hok,hb] at h;cases h
 rw [hok,hb,if_neg (by simp),if_neg (by simp),ygX hb,(yfo hb).2] at h
 have h3:W.a.phase≠3:=by
  unfold okL at hok;simp only [Bool.and_eq_true,bne_iff_ne,ne_eq] at hok;exact hok.1
 unfold stepL step;rw [hok,if_pos rfl,hb,if_neg (by simp)];simp only [if_neg h3];exact h
end AcW
namespace DuW
def stepCg (D:DuW):Option DuW:=match D.cy.stepG with
 |none=>none
 |some V=>some (D.putC V)
def stepAg (D:DuW):Option ((ResS × Bool) × DuW):=match D.ac.stepK with
 |none=>none
 |some x=>some (x.1,D.putA x.2)
def builds:Nat→Nat→Nat→DuW→Option (Nat × DuW)
 |0,_,d,D=>some (d,D)
 |f+1,m,d,D=>if m≤d then some (d,D) else match D.stepAg with
  |none=>none
  |some x=>builds f m (if x.1.2 then d+1 else d) x.2
def runA:Nat→Nat→DuW→Option (Nat × DuW)
 |0,d,D=>some (d,D)
 |f+1,d,D=>match D.stepAg with
  |none=>none
  |some x=>runA f (if x.1.2 then d+1 else d) x.2
theorem yex: ∀{f d:Nat} {D:DuW} {r:Nat × DuW},runA f d D=some r→d≤r.1
 |0,d,D,r,h=>by unfold runA at h;injection h with h;subst h;exact Nat.le_refl _
 |f+1,d,D,r,h=>by
  unfold runA at h;cases hs:D.stepAg with
  |none=>rw [hs] at h;cases h
  |some x=>
   rw [hs] at h;have:=yex h;split at this<;>omega
theorem builds_succ (f m d:Nat) (D:DuW):builds (f+1) m d D=if m≤d then some (d,D) else match D.stepAg with
 |none=>none
 |some x=>builds f m (if x.1.2 then d+1 else d) x.2:=rfl
theorem builds_run {m:Nat}: ∀{j f d:Nat} {D:DuW} {d':Nat} {D':DuW},runA j d D=some (d',D')→d'<m→builds (f+j) m d D=builds f m d' D'
 |0,f,d,D,d',D',h,hm=>by unfold runA at h;injection h with h;injection h with h1 h2;subst h1 h2;rfl
 |j+1,f,d,D,d',D',h,hm=>by
  have hmo:=yex h;unfold runA at h;show builds (f+j+1) m d D=_;rw [builds_succ,if_neg (by simp only at hmo;omega)];cases hs:D.stepAg with
  |none=>rw [hs] at h;cases h
  |some x=>
   rw [hs] at h;exact builds_run h hm
theorem builds_end {m:Nat} (f:Nat) (D:DuW):builds f m m D=some (m,D):=by
 cases f with
 |zero=>rfl
 |succ f=>unfold builds;rw [if_pos (Nat.le_refl _)]
def answerG (E:DuW):Option DuW:=if E.a.phase==1 then (if !E.handOk then none else if E.same then some E.tick else match E.tick.stepAg with
    |none=>none
    |some x=>some x.2) else some E
def roundG (D:DuW):Option DuW:=match D.stepCg with
 |none=>none
 |some E=>E.answerG
def aroundGo:Nat→Int→DuW→Option DuW
 |0,_,D=>some D
 |f+1,n,D=>if D.y.finished !=n then some D else match D.roundG with
  |none=>none
  |some E=>aroundGo f n E
def leavesGo:Nat→DuW→Option DuW
 |0,D=>some D
 |f+1,D=>if D.a.phase==4 then some D else match D.stepAg with
  |none=>none
  |some x=>leavesGo f x.2
theorem aroundGo_step {f:Nat} {n:Int} {D r:DuW} (h:aroundGo (f+1) n D=some r) (hn:D.y.finished=n): ∃V E,D.cy.stepG=some V∧(D.putC V).answerG=some E∧aroundGo f n E=some r:=by
 unfold aroundGo roundG stepCg at h;rw [if_neg (by simp [hn])] at h;cases hs:D.cy.stepG with
 |none=>rw [hs] at h;cases h
 |some V=>
  rw [hs] at h;simp only at h;cases ha:(D.putC V).answerG with
  |none=>rw [ha] at h;cases h
  |some E=>rw [ha] at h;exact ⟨V,E,rfl,ha,h⟩
theorem aroundGo_exit {f:Nat} {n:Int} {D r:DuW} (h:aroundGo f n D=some r) (hx:f=0∨D.y.finished≠n):r=D:=by
 cases f with
 |zero=>unfold aroundGo at h;injection h with h;exact h.symm
 |succ f=>
  rcases hx with hx|hx
  · cases hx
  · unfold aroundGo at h;rw [if_pos (by simpa using hx)] at h;injection h with h;exact h.symm
theorem answerG_cases {D E:DuW} (h:D.answerG=some E):(D.a.phase=1∧D.handOk=true∧((D.same=true∧E=D.tick)∨(D.same=false∧ ∃x,D.tick.ac.stepL=some x∧E=D.tick.putA x.2)))∨(D.a.phase≠1∧E=D):=by
 unfold answerG at h;by_cases hp:D.a.phase=1
 · rw [if_pos (by simpa using hp)] at h;cases ho:D.handOk
   · rw [ho] at h;cases h
   rw [ho] at h;refine Or.inl ⟨hp,rfl,?_⟩;cases hq:D.same
   · rw [hq] at h;simp only [Bool.not_true,Bool.false_eq_true,if_false] at h;unfold stepAg at h;cases hs:D.tick.ac.stepK with
     |none=>rw [hs] at h;cases h
     |some x=>
      rw [hs] at h;injection h with h;exact Or.inr ⟨rfl,x,AcW.stepK_of hs,h.symm⟩
   · rw [hq] at h;simp only [Bool.not_true,Bool.false_eq_true,if_false,if_true] at h;injection h with h;exact Or.inl ⟨rfl,h.symm⟩
 · rw [if_neg (by simpa using hp)] at h;injection h with h;exact Or.inr ⟨hp,h.symm⟩
theorem leavesGo_step {f:Nat} {D r:DuW} (h:leavesGo (f+1) D=some r) (hn:D.a.phase≠4): ∃x,D.ac.stepL=some x∧leavesGo f (D.putA x.2)=some r:=by
 unfold leavesGo stepAg at h;rw [if_neg (by simpa using hn)] at h;cases hs:D.ac.stepK with
 |none=>rw [hs] at h;cases h
 |some x=>rw [hs] at h;exact ⟨x,AcW.stepK_of hs,h⟩
theorem leavesGo_exit {f:Nat} {D r:DuW} (h:leavesGo f D=some r) (hx:f=0∨D.a.phase=4):r=D:=by
 cases f with
 |zero=>unfold leavesGo at h;injection h with h;exact h.symm
 |succ f=>
  rcases hx with hx|hx
  · cases hx
  · unfold leavesGo at h;rw [if_pos (by simpa using hx)] at h;injection h with h;exact h.symm
theorem builds_step {f m d:Nat} {D:DuW} {r:Nat × DuW} (h:builds (f+1) m d D=some r) (hn:d<m): ∃x,D.ac.stepL=some x∧builds f m (if x.1.2 then d+1 else d) (D.putA x.2)=some r:=by
 unfold builds stepAg at h;rw [if_neg zo] at h;cases hs:D.ac.stepK with
 |none=>rw [hs] at h;cases h
 |some x=>rw [hs] at h;exact ⟨x,AcW.stepK_of hs,h⟩
theorem builds_exit {f m d:Nat} {D:DuW} {r:Nat × DuW} (h:builds f m d D=some r) (hx:f=0∨m≤d):r=(d,D):=by
 cases f with
 |zero=>unfold builds at h;injection h with h;exact h.symm
 |succ f=>
  rcases hx with hx|hx
  · cases hx
  · unfold builds at h;rw [if_pos hx] at h;injection h with h;exact h.symm
end DuW
namespace AcW
theorem ybn (W:AcW) (i:Int) (v:LVal):(W.laysR i v).2.a.ops=W.a.ops:=by unfold laysR doneR AcS.done;simp only;split<;>rfl
theorem ya0 (W:AcW) (v:LVal) (e:Int):(W.doneR v e).2.a.ops=W.a.ops:=by unfold doneR AcS.done;simp only;split<;>rfl
theorem yiG (W:AcW) (o:Opr) (x:Bool × FindS × MemS):(W.found o x).2.a.ops=W.a.ops:=by
 unfold found;simp only;(repeat' split)<;>first|rfl|exact ya0 _ _ _
theorem yei {W:AcW} {o:Opr} {r:AcR} (h:W.finds o=some r):r.2.a.ops=W.a.ops:=by
 unfold finds at h;split at h
 · cases h
 · split at h
   · cases hx:FindS.stepO ‹_› W.K.mem with
     |none=>rw [hx] at h;cases h
     |some q=>rw [hx] at h;injection h with h;rw [←h];exact yiG _ _ _
   · cases h
theorem yew {W:AcW} {o:Opr} {r:AcR} (h:W.reads o=some r):r.2.a.ops=W.a.ops:=by
 unfold reads at h;split at h
 · injection h with h;rw [←h];exact ybn _ _ _
 · cases h
theorem ydI {W:AcW} {r:AcR} (h:W.stores=some r):r.2.a.ops=W.a.ops:=by
 unfold stores at h;split at h
 · split at h
   · injection h with h;rw [←h];exact ya0 _ _ _
   · cases h
 · cases h
theorem yjT {W:AcW} {o:Opr} {r:AcR} (h:W.tells o=some r):r.2.a.ops=W.a.ops:=by
 unfold tells at h;split at h
 · split at h
   · cases h
   · split at h
     · cases h
     · split at h
       · split at h
         · injection h with h;rw [←h];exact ybn _ _ _
         · split at h
           · injection h with h;rw [←h];exact ya0 _ _ _
           · injection h with h;rw [←h];rfl
       · cases h
 · cases h
theorem yg3 {W:AcW} {o:Opr} {r:AcR} (h:W.counts o=some r):r.2.a.ops=W.a.ops:=by
 unfold counts at h;split at h
 · split at h
   · cases h
   · split at h
     · injection h with h;rw [←h];exact ybn _ _ _
     · cases h
 · cases h
theorem yim {W:AcW} {o:Opr} {r:AcR} (h:W.asksO o=some r):r.2.a.ops=W.a.ops:=by
 unfold asksO at h;split at h
 · injection h with h;rw [←h];unfold asks;simp only;split<;>rfl
 · cases h
theorem yh3 {W:AcW} {o:Opr} {r:AcR} (h:W.starts o=some r):r.2.a.ops=W.a.ops:=by
 unfold starts at h;split at h
 · cases h
 split at h
 · injection h with h;rw [←h];exact ya0 _ _ _
 split at h
 · injection h with h;rw [←h];exact ybn _ _ _
 split at h
 · exact yim h
 split at h
 · exact yei (W:=W.withA { W.a with f:=some (W.prog o) }) h
 split at h
 · exact yew (W:=W.atGlobal o) h
 split at h
 · exact ydI (W:=(W.atGlobal o).withA ((W.atGlobal o).a.chooses o)) h
 split at h
 · exact yjT h
 split at h
 · injection h with h;rw [←h];exact ya0 _ _ _
 split at h
 · injection h with h;rw [←h];rfl
 · cases h
theorem yic {W:AcW} {r:AcR} (h:W.within=some r):r.2.a.ops=W.a.ops:=by
 unfold within at h;split at h
 · exact yh3 h
 split at h
 · exact yei h
 split at h
 · exact yew h
 split at h
 · split at h
   · split at h
     · injection h with h;rw [←h];unfold makes;split<;>rfl
     · cases h
   · cases h
 split at h
 · split at h
   · injection h with h;rw [←h];exact ybn _ _ _
   · cases h
 split at h
 · exact yg3 h
 split at h
 · injection h with h;rw [←h];exact ya0 _ _ _
 · exact ydI h
theorem yjc (W:AcW):W.looks.a.ops=W.a.ops:=by unfold looks;split<;>rfl
theorem ycY (W:AcW):W.answers.a.ops=W.a.ops:=by unfold answers;split<;>rfl
theorem ygZ (W:AcW):W.border.a.ops=W.a.ops:=by
 unfold border;split
 · split
   · exact yjc W
   · split<;>rfl
 · split
   · split
     · exact ycY W
     · exact ycY W
   · split
     · rfl
     · split<;>rfl
theorem stepL_ops {W:AcW} {r:AcR} (h:W.stepL=some r):r.2.a.ops=W.a.ops:=by
 unfold stepL at h;split at h
 case isFalse=>cases h
 rename_i hok
 have h3:W.a.phase≠3:=by
  unfold okL at hok;simp only [Bool.and_eq_true,bne_iff_ne,ne_eq] at hok;exact hok.1
 unfold step at h;split at h
 · cases h
 by_cases h0:W.a.phase=0
 · rw [if_pos h0] at h;injection h with h;rw [←h];show W.joins.a.ops=W.a.ops;unfold joins;simp only;split<;>rfl
 rw [if_neg h0] at h;by_cases h1:W.a.phase=1
 · rw [if_pos h1] at h;split at h
   · injection h with h;rw [←h];exact ygZ W
   · cases h
 rw [if_neg h1] at h;by_cases h2:W.a.phase=2
 · rw [if_pos h2] at h;split at h
   · exact yic (W:=W.up) h
   · cases h
 rw [if_neg h2] at h;split at h
 · injection h with h;rw [←h];rfl
 · cases h
end AcW
def itOps:List Opr:=[⟨1,0,0,0,0,0,0⟩,⟨7,1,0,0,0,0,0⟩,⟨4,0,1,0,0,0,0⟩,⟨8,0,0,0,0,0,0⟩]
def tlOps:List Opr:=[⟨13,0,0,0,0,0,0⟩,⟨13,1,0,0,0,0,0⟩,⟨8,0,0,0,0,0,0⟩,⟨12,2,0,0,0,0,0⟩]
def itsOps:Nat→List Opr
 |0=>[]
 |n+1=>itsOps n++itOps
def opsList (n:Nat):List Opr:=itsOps n++tlOps
def listD (ops:List Opr) (stack:Int) (A A1 A2:Option Addr):DuW:=⟨CyS.fresh,none,none,AcS.fresh 0 3 ops,{ CoreS.fresh (cChain 200 1 A A1 A2) with pile:=⟨[],stack,false⟩ }⟩
structure AcRows (g:GW) (t:Nat) (A:AcS) (p:AcP):Prop where
 ops:Seg g 0 p.opsA (A.ops.flatMap Opr.cells)
 opsC:A.ops.length≤p.opsC∧p.opsC≤9223372036854775807
 loc:Row g (t+1) 38 2 (.slice p.locA A.locals.length p.locC) A.locals.length (A.locals.flatMap LVal.cells)
 grey:Seg g (t+4) p.greyA (A.grey.map (Value.int .i64))
 greyC:A.grey.length≤p.greyC∧p.greyC≤9223372036854775807
 fn:A.f=none→p.fp=none
 fs: ∀S,A.f=some S→ ∃bf cm,p.fp=some ⟨bf,0,none⟩∧cm.Same S.c∧FindAt g (t+2) bf (S.withC cm)
 got:Seg g 0 p.gotA (A.got.map (Value.int .i64))
 gotC:A.got.length≤p.gotC∧p.gotC≤9223372036854775807
 wr:Seg g 0 p.wrA A.writes
 wrE:A.writes.length%2=0
 wrC:A.writes.length/2≤p.wrC∧p.wrC≤9223372036854775807
structure AcAt (g:GW) (t b:Nat) (A:AcS) (p:AcP):Prop where
 blk:Blk g t b 103 (A.cells p)
 r:AcRows g t A p
structure AcApart (t B:Nat):Prop where
 hb:100≤B
 ht:100≤t
 apart:t+5≤B∨B+70≤t
def acT (t B:Nat) (x:Nat):Prop:=(t≤x∧x<t+5)∨(B≤x∧x<B+70)
section
variable {g g':GW} {t b:Nat} {A:AcS} {p:AcP}
theorem AcRows.keep {T:Nat→Prop} (H:AcRows g t A p) (m:Mod T g g') (h0: ¬T 0) (h1: ¬T (t+1)) (h2: ¬T (t+2)) (h3: ¬T (t+3)) (h4: ¬T (t+4)):AcRows g' t A p:=
 ⟨H.ops.keep m h0,H.opsC,H.loc.keep m h1,H.grey.keep m h4,H.greyC,H.fn,fun S hS=>by
  obtain ⟨bf,cm,e1,e2,e3⟩:=H.fs S hS;exact ⟨bf,cm,e1,e2,e3.keep m h2 h3⟩,H.got.keep m h0,H.gotC,H.wr.keep m h0,H.wrE,H.wrC⟩
theorem AcAt.keep {T:Nat→Prop} (H:AcAt g t b A p) (m:Mod T g g') (h0: ¬T 0) (hT: ∀x,T x→x<t∨t+5≤x):AcAt g' t b A p:=by
 have q: ∀k,k<5→ ¬T (t+k):=fun k hk ht=>by have:=hT _ ht;omega
 exact ⟨H.blk.keep m (q 0 zo),H.r.keep m h0 (q 1 zo) (q 2 zo) (q 3 zo) (q 4 zo)⟩
theorem AcAt.turn {A':AcS} {p':AcP} (H:AcAt g t b A p) (ht:100≤t) (m:Mod (fun x=>x=t) g g') (hb:Blk g' t b 103 (A'.cells p')) (hr:AcRows g t A' p'):AcAt g' t b A' p':=
 ⟨hb,hr.keep m zo zo zo zo zo⟩
structure AcS.SameRows (A A':AcS):Prop where
 ops:A'.ops=A.ops
 loc:A'.locals=A.locals
 grey:A'.grey=A.grey
 f:A'.f=A.f
 got:A'.got=A.got
 wr:A'.writes=A.writes
theorem AcRows.same {A':AcS} (H:AcRows g t A p) (h:A.SameRows A'):AcRows g t A' p:=by
 obtain ⟨h1,h2,h3,h4,h5,h6⟩:=h;obtain ⟨r1,r2,r3,r4,r5,r6,r7,r8,r9,r10,r11,r12⟩:=H;exact ⟨by rw [h1];exact r1,by rw [h1];exact r2,by rw [h2];exact r3,by rw [h3];exact r4,by rw [h3];exact r5,by rw [h4];exact r6,by rw [h4];exact r7,by rw [h5];exact r8,by rw [h5];exact r9,by rw [h6];exact r10,by rw [h6];exact r11,by rw [h6];exact r12⟩
theorem AcAt.set (H:AcAt g t b A p) (ht:100≤t) (i:Nat) (v:Value) (A':AcS) (hv:A'.cells p=(A.cells p).set i v) (h:A.SameRows A'):AcAt ⟨g.own,g.w.setCell ⟨b,i,none⟩ v⟩ t b A' p:=
 H.turn ht (Mod.set H.blk.own) (by rw [hv];exact H.blk.set i v) (H.r.same h)
end
structure TbI where
 tb:Nat
abbrev TbId:=Inhabited TbI
def TbId.tb [TbId]:Nat:=(default:TbI).tb
structure AcIn [TbId] (g:GW) (t B b k:Nat) (W:AcW) (p:AcP) (bm bs bt bp bsp bh:Nat) (cm:Cnf):Prop where
 a:AcAt g t b W.a p
 c:CoreIn g B k W.K bm bs bt bp bsp bh cm
 tbl:bt=TbId.tb
def AcWAt [TbId] (g:GW) (t B b k:Nat) (W:AcW):Prop:= ∃p bm bs bt bp bsp bh cm,AcIn g t B b k W p bm bs bt bp bsp bh cm
section
variable [TbId] {g:GW} {t B b k:Nat} {W:AcW} {p:AcP} {bm bs bt bp bsp bh:Nat} {cm:Cnf}
theorem AcIn.at_ (H:AcIn g t B b k W p bm bs bt bp bsp bh cm):AcWAt g t B b k W:=⟨p,bm,bs,bt,bp,bsp,bh,cm,H⟩
theorem AcIn.set (H:AcIn g t B b k W p bm bs bt bp bsp bh cm) (P:AcApart t B) (i:Nat) (v:Value) (A':AcS) (hv:A'.cells p=(W.a.cells p).set i v) (h:W.a.SameRows A'):AcIn ⟨g.own,g.w.setCell ⟨b,i,none⟩ v⟩ t B b k (W.withA A') p bm bs bt bp bsp bh cm:=
 ⟨H.a.set P.ht i v A' hv h,H.c.keep (Mod.set (T:=fun x=>x=t) H.a.blk.own) (fun x (hx:x=_)=>by have:=P.apart;omega),H.tbl⟩
theorem AcIn.turn {g':GW} {A':AcS} {p':AcP} (H:AcIn g t B b k W p bm bs bt bp bsp bh cm) (P:AcApart t B) (m:Mod (fun x=>x=t) g g') (hb:Blk g' t b 103 (A'.cells p')) (hr:AcRows g t A' p'):AcIn g' t B b k (W.withA A') p' bm bs bt bp bsp bh cm:=
 ⟨H.a.turn P.ht m hb hr,H.c.keep m (fun x (hx:x=_)=>by have:=P.apart;omega),H.tbl⟩
theorem AcIn.keep {T:Nat→Prop} {g':GW} (H:AcIn g t B b k W p bm bs bt bp bsp bh cm) (m:Mod T g g') (h0: ¬T 0) (h1: ∀x,T x→x<t∨t+5≤x) (h2: ∀x,T x→x<B∨B+70≤x):AcIn g' t B b k W p bm bs bt bp bsp bh cm:=
 ⟨H.a.keep m h0 h1,H.c.keep m h2,H.tbl⟩
theorem AcIn.keep0 {g':GW} (H:AcIn g t B b k W p bm bs bt bp bsp bh cm) (m:Mod (fun _=>False) g g'):AcIn g' t B b k W p bm bs bt bp bsp bh cm:=H.keep m id (fun _=>False.elim) (fun _=>False.elim)
theorem AcIn.pt (H:AcIn g t B b k W p bm bs bt bp bsp bh cm) (X:Extra):AcIn (g.pt X) t B b k W p bm bs bt bp bsp bh cm:=H.keep0 (Mod.pt (Mod.refl _ _) X)
theorem AcIn.hand {g':GW} (H:AcIn g t B b k W p bm bs bt bp bsp bh cm) (P:AcApart t B) {h:HandS} (m:Mod (fun x=>x=B+63) g g') (hh:HandAt g' (B+63) bh h):AcIn g' t B b k { W with K:={ W.K with hand:=h } } p bm bs bt bp bsp bh cm:=
 ⟨H.a.keep m zo (fun x (hx:x=_)=>by have:=P.apart;omega),H.c.putHand m hh,H.tbl⟩
theorem AcIn.mem {g':GW} (H:AcIn g t B b k W p bm bs bt bp bsp bh cm) (P:AcApart t B) {h:MemS} (m:Mod (fun x=>x=B+62) g g') (hh:MemAt g' (B+62) bm h):AcIn g' t B b k (W.memW h) p bm bs bt bp bsp bh cm:=
 ⟨H.a.keep m zo (fun x (hx:x=_)=>by have:=P.apart;omega),H.c.putMem m hh,H.tbl⟩
theorem AcIn.spc {g':GW} (H:AcIn g t B b k W p bm bs bt bp bsp bh cm) (P:AcApart t B) {S:SpaceS} (m:Mod (inst B) g g') (hs:SpaceAt g' B bsp bt S):AcIn g' t B b k (W.spc S) p bm bs bt bp bsp bh cm:=
 ⟨H.a.keep m (fun h=>by have:=h.1;have:=P.hb;omega) (fun x hx=>by have:=P.apart;have h1:=hx.1;have h2:=hx.2;omega),H.c.putSp m hs,H.tbl⟩
theorem AcIn.greyK {g':GW} (H:AcIn g t B b k W p bm bs bt bp bsp bh cm) (P:AcApart t B) {i:Int} (m:Mod (fun x=>x=B+60∨x=B+50∨x=B+61) g g')
 (hs:ShdAt g' (B+60) bs bt (B+50) bp (B+61) (W.K.sp.tab.grey i W.a.sense) (W.K.pile.grey W.K.sp.tab i W.a.sense) (W.K.n+1)):AcIn g' t B b k (W.greyK i) p bm bs bt bp bsp bh cm:=
 ⟨H.a.keep m zo (fun x (hx:x=_∨x=_∨x=_)=>by have:=P.apart;omega),H.c.putShd m hs,H.tbl⟩
theorem AcIn.modA (H:AcIn g t B b k W p bm bs bt bp bsp bh cm):acT t B (g.own b):=by rw [H.a.blk.own];exact Or.inl ⟨Nat.le_refl _,zo⟩
end
theorem ybz {t B x:Nat} (h:x=B+63):acT t B x:=Or.inr zo
theorem ydP {t B x:Nat} (h:x=B+62):acT t B x:=Or.inr zo
theorem yk3 {t B x:Nat} (h:x=B+60∨x=B+50∨x=B+61):acT t B x:=Or.inr zo
theorem ydc {t B x:Nat} (h:inst B x):acT t B x:=Or.inr (by have h1:=h.1;have h2:=h.2;omega)
theorem ybi {t B x:Nat} (h:x=t):acT t B x:=Or.inl zo
end Go.Proofs.YtdhjjpnajjingaaGreat
namespace Go
open Go.RowKit
theorem yeo (l:List LVal) (k:Nat) (v:LVal) (h:l[k]?=some v):(l.flatMap LVal.cells)[k*2]?=some (.bool v.ref)∧(l.flatMap LVal.cells)[k*2+1]?=some (.complex .f64 v.z.1 v.z.2):=by
 induction l generalizing k with
 |nil=>simp at h
 |cons x l ih=>
  cases k with
  |zero=>simp at h;subst h;exact ⟨rfl,rfl⟩
  |succ k=>
   have:=ih k (by simpa using h);rw [show (k+1)*2=k*2+1+1 from zo];simpa [List.flatMap_cons,LVal.cells] using this
theorem yi6 (l:List LVal) (k:Nat) (v:LVal):(l.set k v).flatMap LVal.cells=((l.flatMap LVal.cells).set (k*2) (.bool v.ref)).set (k*2+1) (.complex .f64 v.z.1 v.z.2):=by
 induction l generalizing k with
 |nil=>simp
 |cons x l ih=>
  cases k with
  |zero=>simp [List.flatMap_cons,LVal.cells]
  |succ k=>
   rw [show (k+1)*2=k*2+1+1 from zo];simp only [List.set_cons_succ,List.flatMap_cons,ih];simp [LVal.cells]
theorem yi5 (l:List LVal):(l.flatMap LVal.cells).length=l.length*2:=by
 induction l with
 |nil=>rfl
 |cons x l ih=>simp [List.flatMap_cons,LVal.cells,ih];omega
theorem yby {l:List LVal} {k:Nat} (hk:k<l.length):l[k]?=some (l.getD k LVal.zero):=by
 rw [List.getD_eq_getElem?_getD,List.getElem?_eq_getElem hk];rfl
end Go
namespace Go.Proofs.YtdhjjpnajjingaaGreat
open Go Go.RowKit
theorem AcRows.local_ {g:GW} {t:Nat} {A:AcS} {p:AcP} (H:AcRows g t A p) {k:Nat} (hk:k<A.locals.length): ∃q,p.locA=some ⟨q,0,none⟩∧q<g.w.heap.size∧g.own q=t+1∧g.w.cell? ⟨q,k*2,none⟩=some (.bool (A.loc k).ref)∧g.w.cell? ⟨q,k*2+1,none⟩=some (.complex .f64 (A.loc k).z.1 (A.loc k).z.2)∧(∀j,g.w.frozen? ⟨q,j,none⟩=false):=by
 obtain ⟨q,hA,hq,ho,hc,hf⟩:=H.loc.block zo;have h:=yeo A.locals k (A.loc k) (by unfold AcS.loc;rw [Int.toNat_natCast];exact yby hk);exact ⟨q,hA,hq,ho,hc _ _ h.1,hc _ _ h.2,hf⟩
section
variable (g:GW) (t b:Nat) (A:AcS) (p:AcP)
theorem yii (H:AcAt g t b A p):Calls prog 15 #[.pointer (some ⟨b,0,none⟩)] g.w (fun e w'=>e=.returned (zI z6 A.phase)∧g.w=w'):=by
 obtain ⟨a0,a1,a2,a3,a4,a5,a6,a7,a8,a9,a10,a11,a12,a13,a14,a15,a16,a17,a18,al⟩:=H.blk.k19;clear H;go_enter func15,ntmps15;go_wp2_with fail;go_ret;exact ⟨rfl,rfl⟩
theorem ygQ (H:AcAt g t b A p):Calls prog 20 #[.pointer (some ⟨b,0,none⟩)] g.w (fun e w'=>e=.returned (zI z6 A.status)∧g.w=w'):=by
 obtain ⟨a0,a1,a2,a3,a4,a5,a6,a7,a8,a9,a10,a11,a12,a13,a14,a15,a16,a17,a18,al⟩:=H.blk.k19;clear H;go_enter func20,ntmps20;go_wp2_with fail;go_ret;exact ⟨rfl,rfl⟩
theorem yj3 (H:AcAt g t b A p):Calls prog 206 #[.pointer (some ⟨b,0,none⟩)] g.w (fun e w'=>e=.returned (.bool A.both)∧g.w=w'):=by
 have HV:=zH (show A.both=(A.status==1 || A.status==2) from rfl);obtain ⟨a0,a1,a2,a3,a4,a5,a6,a7,a8,a9,a10,a11,a12,a13,a14,a15,a16,a17,a18,al⟩:=H.blk.k19;clear H;generalize A.status=s at *;cases h1:(s==1)
 · cases h2:(s==2)
   · go_enter func206,ntmps206;go_wp2_with fail;go_ret;exact ⟨by rw [HV.out,h1,h2];rfl,rfl⟩
   · go_enter func206,ntmps206;go_wp2_with fail;go_ret;exact ⟨by rw [HV.out,h1,h2];rfl,rfl⟩
 · go_enter func206,ntmps206;go_wp2_with fail;go_ret;exact ⟨by rw [HV.out,h1];rfl,rfl⟩
theorem ygO (H:AcAt g t b A p):Calls prog 209 #[.pointer (some ⟨b,0,none⟩)] g.w (fun e w'=>e=.returned (.bool A.shades)∧g.w=w'):=by
 have HV:=zH (show A.shades=(A.status==1 || (A.status==2 || A.status==3)) from rfl);obtain ⟨a0,a1,a2,a3,a4,a5,a6,a7,a8,a9,a10,a11,a12,a13,a14,a15,a16,a17,a18,al⟩:=H.blk.k19;clear H;generalize A.status=s at *;cases h1:(s==1)
 · cases h2:(s==2)
   · cases h3:(s==3)
     · go_enter func209,ntmps209;go_wp2_with fail;go_ret;exact ⟨by rw [HV.out,h1,h2,h3];rfl,rfl⟩
     · go_enter func209,ntmps209;go_wp2_with fail;go_ret;exact ⟨by rw [HV.out,h1,h2,h3];rfl,rfl⟩
   · go_enter func209,ntmps209;go_wp2_with fail;go_ret;exact ⟨by rw [HV.out,h1,h2];rfl,rfl⟩
 · go_enter func209,ntmps209;go_wp2_with fail;go_ret;exact ⟨by rw [HV.out,h1];rfl,rfl⟩
end
theorem yj5 (g:GW) (t b:Nat) (A:AcS) (p:AcP) (i:Int) (H:AcAt g t b A p) (hi:0≤i∧i<A.locals.length):Calls prog 139 #[.pointer (some ⟨b,0,none⟩),.int .i64 i] g.w (Gives (zI z6 (A.head i)) g.w):=by
 obtain ⟨k,rfl⟩: ∃k:Nat,i=k:=⟨i.toNat,zo⟩;have hk:k<A.locals.length:=zo;obtain ⟨q,hA,hq, -,c0,c1, -⟩:=H.r.local_ hk;have HI:=zH (fun w'=>yao (A.loc k).z w');have HV:=zH (show A.head k=(wIndex (A.loc k).z).getD 0 from rfl);obtain ⟨a0,a1,a2,a3,a4,a5,a6,a7,a8,a9,a10,a11,a12,a13,a14,a15,a16,a17,a18,al⟩:=H.blk.k19;rw [hA] at a2;clear H hi hA;generalize A.loc k=v at *;generalize A.locals.length=n at *;unfold optV at HI;go_enter func139,ntmps139;go_wp2_with fail;refine (HI.out _).mono ?_;rintro e w1 ⟨rfl,hE1⟩;obtain ⟨X1,rfl⟩:=(show Ext g.w w1 from hE1);go_wp2_with fail;go_ret;exact Gives.mk (by rw [HV.out];rfl) zE
def acO (t x:Nat):Prop:=x=t∨x=t+1
theorem AcIn.own [TbId] {g g':GW} {t B b k:Nat} {W:AcW} {p p':AcP} {bm bs bt bp bsp bh:Nat} {cm:Cnf} {A':AcS} (H:AcIn g t B b k W p bm bs bt bp bsp bh cm) (P:AcApart t B) (m:Mod (acO t) g g') (h:AcAt g' t b A' p'):AcIn g' t B b k (W.withA A') p' bm bs bt bp bsp bh cm:=
 ⟨h,H.c.keep m (fun x (hx:x=_∨x=_)=>by have:=P.apart;omega),H.tbl⟩
theorem yas {t B x:Nat} (h:acO t x):acT t B x:=Or.inl (by unfold acO at h;omega)
theorem yay (g:GW) (T1:TypeId) (v1:List Value): ∃own0,Mod (fun _=>False) g ⟨own0,g.w.alloc (.cells v1.toArray T1)⟩∧Blk ⟨own0,g.w.alloc (.cells v1.toArray T1)⟩ 9 g.w.heap.size T1 v1:=
 ⟨_,Mod.ext zE 9,Blk.new g 9 T1 v1⟩
theorem yaz (g:GW) (T1 T2:TypeId) (v1 v2:List Value): ∃own0,Mod (fun _=>False) g ⟨own0,(g.w.alloc (.cells v1.toArray T1)).alloc (.cells v2.toArray T2)⟩∧Blk ⟨own0,(g.w.alloc (.cells v1.toArray T1)).alloc (.cells v2.toArray T2)⟩ 9 g.w.heap.size T1 v1∧Blk ⟨own0,(g.w.alloc (.cells v1.toArray T1)).alloc (.cells v2.toArray T2)⟩ 9 (g.w.heap.size+1) T2 v2:=
 ⟨_,Mod.ext (g:=g) (show Ext g.w _ from zE) 9,⟨(yaA _ _ _).1,GW.to_new (Nat.le_refl _)⟩,⟨(yaA _ _ _).2,GW.to_new (Nat.le_succ _)⟩⟩
theorem ygH (own0:Nat→Nat) (w0:World) (X X2:Extra) (T:TypeId) (vs:List Value): ∃own1,Mod (fun _=>False) ⟨own0,w0⟩ ⟨own1,((w0.patch X).alloc (.cells vs.toArray T)).patch X2⟩∧Blk ⟨own1,((w0.patch X).alloc (.cells vs.toArray T)).patch X2⟩ 9 (w0.patch X).heap.size T vs∧w0.heap.size≤(w0.patch X).heap.size:=by
 have hs:w0.heap.size≤(w0.patch X).heap.size:=by rw [World.size_patch];omega
 refine ⟨_,Mod.ext (g:=⟨own0,w0⟩) (show Ext w0 _ from zE) 9,⟨?_,GW.to_new hs⟩,hs⟩;show (((w0.patch X).alloc _).patch X2).heap[(w0.patch X).heap.size]?=_;rw [World.heap_patch _ _ _ (by rw [World.size_alloc];omega)];exact World.row_alloc_new _
def resZ:List Value:=[.int .i64 0,.int .i64 0,.int .i64 0,.bool false,.complex .f64 0 0]
theorem yaf {T:Nat→Prop} {g:GW} {own:Nat→Nat} {V:World} {q:Nat} (M:Mod T g ⟨own,V⟩) (R:Blk ⟨own,V⟩ 9 q 40 resZ) (hq:g.w.heap.size≤q) (op ow e:Int) (rf:Bool) (x y:Nat):
 Mod T g ⟨own,((((V.setCell ⟨q,0,none⟩ (zI z6 op)).setCell ⟨q,1,none⟩ (zI z6 ow)).setCell ⟨q,2,none⟩ (zI z6 e)).setCell ⟨q,3,none⟩ (.bool rf)).setCell ⟨q,4,none⟩ (.complex .f64 x y)⟩∧
 Mod (fun x=>x=9) ⟨own,V⟩ ⟨own,((((V.setCell ⟨q,0,none⟩ (zI z6 op)).setCell ⟨q,1,none⟩ (zI z6 ow)).setCell ⟨q,2,none⟩ (zI z6 e)).setCell ⟨q,3,none⟩ (.bool rf)).setCell ⟨q,4,none⟩ (.complex .f64 x y)⟩∧
 Blk ⟨own,((((V.setCell ⟨q,0,none⟩ (zI z6 op)).setCell ⟨q,1,none⟩ (zI z6 ow)).setCell ⟨q,2,none⟩ (zI z6 e)).setCell ⟨q,3,none⟩ (.bool rf)).setCell ⟨q,4,none⟩ (.complex .f64 x y)⟩ 9 q 40 [.int .i64 op,.int .i64 ow,.int .i64 e,.bool rf,.complex .f64 x y]:=
 ⟨Mod.stn (Mod.stn (Mod.stn (Mod.stn (Mod.stn M hq) hq) hq) hq) hq,Mod.st (Mod.st (Mod.st (Mod.st (Mod.st (Mod.refl _ _) R.own) R.own) R.own) R.own) R.own,((((R.set 0 (zI z6 op)).set 1 (zI z6 ow)).set 2 (zI z6 e)).set 3 (.bool rf)).set 4 (.complex .f64 x y)⟩
theorem yj4 (g:GW) (t b:Nat) (A:AcS) (p:AcP) (v:LVal) (e:Int) (ht:100≤t) (H:AcAt g t b A p) (hn:0≤A.next∧A.next≤1099511627776):Calls prog 81 #[.pointer (some ⟨b,0,none⟩),v.val,.int .i64 e] g.w (Does (resV (A.res v e,true)) g (acO t) (fun g'=>AcAt g' t b A.done p)):=by
 have HH:=zH H;obtain ⟨hn0,hn1⟩:=hn;unfold LVal.val;clear H;go_enter func81,ntmps81;go_upto_region 1 with fail
 obtain ⟨own0,M0,X0,R0⟩:=yaz g 38 40 v.cells resZ;unfold LVal.cells resZ at M0 X0 R0;generalize ((g.w.alloc (.cells #[.bool v.ref,.complex .f64 v.z.1 v.z.2] 38)).alloc (.cells #[.int .i64 0,.int .i64 0,.int .i64 0,.bool false,.complex .f64 0 0] 40))=w0 at *;have H0:=zH (HH.out.keep M0 id (fun _=>False.elim));obtain ⟨a0,a1,a2,a3,a4,a5,a6,a7,a8,a9,a10,a11,a12,a13,a14,a15,a16,a17,a18,al⟩:=H0.out.blk.k19;have af6:=H0.out.blk.liv 6;have af3:=H0.out.blk.liv 3;have af7:=H0.out.blk.liv 7;obtain ⟨x0,x1,xl⟩:=X0.k2;obtain ⟨r0,r1,r2,r3,r4,rl⟩:=R0.k5;have rf0:=R0.liv 0;have X0':=zH X0;have R0':=zH R0;have M0':=zH M0;clear X0 R0 M0;refine yab [zT,zT,zT,zT,zT,zT,zT,zT,zT,zT,zT,zU,zU] 2 12 ?_;intro X00;simp only [pickOps];repeat (go_big_quiet_step (fail))
 refine wpQuiet_nil (fun X0=>?_);clear X00;refine yaj 11 _ zQ rfl rfl zd (fun X1 K Q' hK=>?_);go_simp;refine hK _ _ ?_ ?_
 · exact zE
 clear hK K Q';refine yae rfl zQ (fun X2=>?_);simp only [List.drop_succ_cons,List.drop_zero];go_upto_region 2 with fail
 obtain ⟨own1,m1,N1,hN⟩:=ygH own0 w0 ⟨X0.blocks++X1.blocks,X1.drawn⟩ X2 40 [.int .i64 A.next,.int .i64 A.own,.int .i64 e,.bool false,.complex .f64 0 0];have M1:=zH (M0'.out.trans m1);have H1:=zH (H0.out.keep m1 id (fun _=>False.elim));have Q1:=zH (X0'.out.keep m1 id);have R1:=zH (R0'.out.keep m1 id);have hb0:=HH.out.blk.lt;have hrl:=rl;have hNg:g.w.heap.size≤(w0.patch ⟨X0.blocks++X1.blocks,X1.drawn⟩).heap.size:=Nat.le_trans M0'.out.size hN;clear a0 a1 a2 a3 a4 a5 a6 a7 a8 a9 a10 a11 a12 a13 a14 a15 a16 a17 a18 af6 af3 af7 al x0 x1 xl r0 r1 r2 r3 r4 rf0 rl H0 X0' R0' m1 M0';generalize ((w0.patch ⟨X0.blocks++X1.blocks,X1.drawn⟩).alloc (.cells #[.int .i64 A.next,.int .i64 A.own,.int .i64 e,.bool false,.complex .f64 0 0] 40)).patch X2=w1 at *;generalize (w0.patch ⟨X0.blocks++X1.blocks,X1.drawn⟩).heap.size=qn at *;clear X0 X1 X2;have HN:=zH N1;clear N1;have d1:b≠qn:=zo;have d2:qn≠b:=zo;have d3:b≠g.w.heap.size+1:=zo;have d4:g.w.heap.size+1≠b:=zo;have d5:qn≠g.w.heap.size+1:=zo;have d6:g.w.heap.size+1≠qn:=zo;clear hN hrl hb0;obtain ⟨a0,a1,a2,a3,a4,a5,a6,a7,a8,a9,a10,a11,a12,a13,a14,a15,a16,a17,a18,al⟩:=H1.out.blk.k19;have af6:=H1.out.blk.liv 6;have af3:=H1.out.blk.liv 3
 have af7:=H1.out.blk.liv 7;obtain ⟨x0,x1,xl⟩:=Q1.out.k2;obtain ⟨r0,r1,r2,r3,r4,rl⟩:=R1.out.k5;have rf0:=R1.out.liv 0;have rf1:=R1.out.liv 1;have rf2:=R1.out.liv 2;have rf3:=R1.out.liv 3;have rf4:=R1.out.liv 4;obtain ⟨n0,n1,n2,n3,n4,nl⟩:=HN.out.k5;have nf0:=HN.out.liv 0;have nf1:=HN.out.liv 1;have nf2:=HN.out.liv 2;have nf3:=HN.out.liv 3;have nf4:=HN.out.liv 4;by_cases h0:e=0
 · subst h0;have HV:=zH (show A.res v 0=⟨A.next,A.own,0,v⟩ by unfold AcS.res;rw [if_pos rfl]);have NA:=zH ((HN.out.set 3 (.bool v.ref)).set 4 (.complex .f64 v.z.1 v.z.2));have RA:=zH ((R1.out.setOther 3 (.bool v.ref) d5).setOther 4 (.complex .f64 v.z.1 v.z.2) d5);have mA:=zH (show Mod (fun x=>x=9) ⟨own1,w1⟩ ⟨own1,(w1.setCell ⟨qn,3,none⟩ (.bool v.ref)).setCell ⟨qn,4,none⟩ (.complex .f64 v.z.1 v.z.2)⟩ from Mod.st (Mod.st (Mod.refl _ _) HN.out.own) HN.out.own);have MA:=zH (show Mod (acO t) g ⟨own1,(w1.setCell ⟨qn,3,none⟩ (.bool v.ref)).setCell ⟨qn,4,none⟩ (.complex .f64 v.z.1 v.z.2)⟩ from Mod.stn (Mod.stn (M1.out.mono (fun _=>False.elim)) hNg) hNg);have HA:=zH (H1.out.keep mA.out zo (fun x (hx:x=9)=>by omega));go_upto_region 4 with fail
   generalize (w1.setCell ⟨qn,3,none⟩ (.bool v.ref)).setCell ⟨qn,4,none⟩ (.complex .f64 v.z.1 v.z.2)=wA at *;clear mA HN R1 M1 H1 Q1;clear a0 a1 a2 a3 a4 a5 a6 a7 a8 a9 a10 a11 a12 a13 a14 a15 a16 a17 a18 af6 af3 af7 al x0 x1 xl r0 r1 r2 r3 r4 rf0 rf1 rf2 rf3 rf4 rl n0 n1 n2 n3 n4 nf0 nf1 nf2 nf3 nf4 nl;obtain ⟨a0,a1,a2,a3,a4,a5,a6,a7,a8,a9,a10,a11,a12,a13,a14,a15,a16,a17,a18,al⟩:=HA.out.blk.k19;have af6:=HA.out.blk.liv 6;have af3:=HA.out.blk.liv 3;have af7:=HA.out.blk.liv 7;obtain ⟨r0,r1,r2,r3,r4,rl⟩:=RA.out.k5;have rf0:=RA.out.liv 0;have rf1:=RA.out.liv 1;have rf2:=RA.out.liv 2;have rf3:=RA.out.liv 3;have rf4:=RA.out.liv 4;obtain ⟨n0,n1,n2,n3,n4,nl⟩:=NA.out.k5;cases hp:(A.phase==4)
   · have HD:=zH (show A.done={ A with next:=A.next+1,phase:=1,pc:=0 } by unfold AcS.done;rw [if_neg (beq_eq_false_iff_ne.1 hp)]);have hpp:(A.phase !=4)=true:=by unfold bne;rw [hp];rfl
     have H2:=zH (((HA.out.set ht 6 (zI z6 (A.next+1)) { A with next:=A.next+1 } rfl ⟨rfl,rfl,rfl,rfl,rfl,rfl⟩).set ht 3 (zI z6 1) { A with next:=A.next+1,phase:=1 } rfl ⟨rfl,rfl,rfl,rfl,rfl,rfl⟩).set ht 7 (zI z6 0) { A with next:=A.next+1,phase:=1,pc:=0 } rfl ⟨rfl,rfl,rfl,rfl,rfl,rfl⟩);have R2:=zH (((RA.out.setOther 6 (zI z6 (A.next+1)) d3).setOther 3 (zI z6 1) d3).setOther 7 (zI z6 0) d3);have N2:=zH (((NA.out.setOther 6 (zI z6 (A.next+1)) d1).setOther 3 (zI z6 1) d1).setOther 7 (zI z6 0) d1);have M2:=zH (show Mod (acO t) g ⟨own1,((wA.setCell ⟨b,6,none⟩ (zI z6 (A.next+1))).setCell ⟨b,3,none⟩ (zI z6 1)).setCell ⟨b,7,none⟩ (zI z6 0)⟩ from Mod.st (Mod.st (Mod.st MA.out (Or.inl HA.out.blk.own)) (Or.inl HA.out.blk.own)) (Or.inl HA.out.blk.own));clear hp;go_upto_region 7 with fail
     generalize ((wA.setCell ⟨b,6,none⟩ (zI z6 (A.next+1))).setCell ⟨b,3,none⟩ (zI z6 1)).setCell ⟨b,7,none⟩ (zI z6 0)=w2 at *;clear a0 a1 a2 a3 a4 a5 a6 a7 a8 a9 a10 a11 a12 a13 a14 a15 a16 a17 a18 af6 af3 af7 al r0 r1 r2 r3 r4 rf0 rf1 rf2 rf3 rf4 rl n0 n1 n2 n3 n4 nl hpp HA RA NA MA;obtain ⟨r0,r1,r2,r3,r4,rl⟩:=R2.out.k5;have rf0:=R2.out.liv 0;have rf1:=R2.out.liv 1;have rf2:=R2.out.liv 2;have rf3:=R2.out.liv 3;have rf4:=R2.out.liv 4;obtain ⟨n0,n1,n2,n3,n4,nl⟩:=N2.out.k5;go_wp2_with fail;obtain ⟨Mf,mf,Rf⟩:=yaf M2.out R2.out (Nat.le_succ _) (A.next) (A.own) (0) (v.ref) (v.z.1) (v.z.2);generalize (((((w2).setCell ⟨g.w.heap.size+1,0,none⟩ (zI z6 (A.next))).setCell ⟨g.w.heap.size+1,1,none⟩ (zI z6 (A.own))).setCell ⟨g.w.heap.size+1,2,none⟩ (zI z6 (0))).setCell ⟨g.w.heap.size+1,3,none⟩ (.bool (v.ref))).setCell ⟨g.w.heap.size+1,4,none⟩ (.complex .f64 (v.z.1) (v.z.2))=wf at *;obtain ⟨f0,f1,f2,f3,f4,fl⟩:=Rf.k5;refine bodyPost_ret (v:=.tuple #[.agg #[.int .i64 (A.next),.int .i64 (A.own),.int .i64 (0),.bool (v.ref),.complex .f64 (v.z.1) (v.z.2)],.bool true]) (by simp [results,Tryz.results81,go_sem,f0,f1,f2,f3,f4]) rfl ?_
     exact Does.of ⟨own1,wf⟩ rfl (by rw [HV.out];rfl) Mf (by rw [HD.out];exact H2.out.keep mf zo (fun x (hx:x=9)=>by omega))
   · have HD:=zH (show A.done={ A with next:=A.next+1 } by unfold AcS.done;rw [if_pos (beq_iff_eq.1 hp)]);have hpp:(A.phase !=4)=false:=by unfold bne;rw [hp];rfl
     have H2:=zH (HA.out.set ht 6 (zI z6 (A.next+1)) { A with next:=A.next+1 } rfl ⟨rfl,rfl,rfl,rfl,rfl,rfl⟩);have R2:=zH (RA.out.setOther 6 (zI z6 (A.next+1)) d3);have N2:=zH (NA.out.setOther 6 (zI z6 (A.next+1)) d1);have M2:=zH (show Mod (acO t) g ⟨own1,wA.setCell ⟨b,6,none⟩ (zI z6 (A.next+1))⟩ from Mod.st MA.out (Or.inl HA.out.blk.own));clear hp;go_upto_region 7 with fail
     generalize wA.setCell ⟨b,6,none⟩ (zI z6 (A.next+1))=w2 at *;clear a0 a1 a2 a3 a4 a5 a6 a7 a8 a9 a10 a11 a12 a13 a14 a15 a16 a17 a18 af6 af3 af7 al r0 r1 r2 r3 r4 rf0 rf1 rf2 rf3 rf4 rl n0 n1 n2 n3 n4 nl hpp HA RA NA MA;obtain ⟨r0,r1,r2,r3,r4,rl⟩:=R2.out.k5;have rf0:=R2.out.liv 0;have rf1:=R2.out.liv 1;have rf2:=R2.out.liv 2;have rf3:=R2.out.liv 3;have rf4:=R2.out.liv 4;obtain ⟨n0,n1,n2,n3,n4,nl⟩:=N2.out.k5;go_wp2_with fail;obtain ⟨Mf,mf,Rf⟩:=yaf M2.out R2.out (Nat.le_succ _) (A.next) (A.own) (0) (v.ref) (v.z.1) (v.z.2);generalize (((((w2).setCell ⟨g.w.heap.size+1,0,none⟩ (zI z6 (A.next))).setCell ⟨g.w.heap.size+1,1,none⟩ (zI z6 (A.own))).setCell ⟨g.w.heap.size+1,2,none⟩ (zI z6 (0))).setCell ⟨g.w.heap.size+1,3,none⟩ (.bool (v.ref))).setCell ⟨g.w.heap.size+1,4,none⟩ (.complex .f64 (v.z.1) (v.z.2))=wf at *;obtain ⟨f0,f1,f2,f3,f4,fl⟩:=Rf.k5;refine bodyPost_ret (v:=.tuple #[.agg #[.int .i64 (A.next),.int .i64 (A.own),.int .i64 (0),.bool (v.ref),.complex .f64 (v.z.1) (v.z.2)],.bool true]) (by simp [results,Tryz.results81,go_sem,f0,f1,f2,f3,f4]) rfl ?_;exact Does.of ⟨own1,wf⟩ rfl (by rw [HV.out];rfl) Mf (by rw [HD.out];exact H2.out.keep mf zo (fun x (hx:x=9)=>by omega))
 · have HV:=zH (show A.res v e=⟨A.next,A.own,e,LVal.zero⟩ by unfold AcS.res;rw [if_neg h0]);have hz:(e==0)=false:=beq_eq_false_iff_ne.2 h0;have NA:=HN;have RA:=R1;have MA:=zH (M1.out.mono (S:=acO t) (fun _=>False.elim));have HA:=H1;clear h0;go_upto_region 4 with fail
   generalize w1=wA at *;clear HN R1 M1 H1 Q1;clear a0 a1 a2 a3 a4 a5 a6 a7 a8 a9 a10 a11 a12 a13 a14 a15 a16 a17 a18 af6 af3 af7 al x0 x1 xl r0 r1 r2 r3 r4 rf0 rf1 rf2 rf3 rf4 rl n0 n1 n2 n3 n4 nf0 nf1 nf2 nf3 nf4 nl;obtain ⟨a0,a1,a2,a3,a4,a5,a6,a7,a8,a9,a10,a11,a12,a13,a14,a15,a16,a17,a18,al⟩:=HA.out.blk.k19;have af6:=HA.out.blk.liv 6;have af3:=HA.out.blk.liv 3;have af7:=HA.out.blk.liv 7;obtain ⟨r0,r1,r2,r3,r4,rl⟩:=RA.out.k5;have rf0:=RA.out.liv 0;have rf1:=RA.out.liv 1;have rf2:=RA.out.liv 2;have rf3:=RA.out.liv 3;have rf4:=RA.out.liv 4;obtain ⟨n0,n1,n2,n3,n4,nl⟩:=NA.out.k5;cases hp:(A.phase==4)
   · have HD:=zH (show A.done={ A with next:=A.next+1,phase:=1,pc:=0 } by unfold AcS.done;rw [if_neg (beq_eq_false_iff_ne.1 hp)]);have hpp:(A.phase !=4)=true:=by unfold bne;rw [hp];rfl
     have H2:=zH (((HA.out.set ht 6 (zI z6 (A.next+1)) { A with next:=A.next+1 } rfl ⟨rfl,rfl,rfl,rfl,rfl,rfl⟩).set ht 3 (zI z6 1) { A with next:=A.next+1,phase:=1 } rfl ⟨rfl,rfl,rfl,rfl,rfl,rfl⟩).set ht 7 (zI z6 0) { A with next:=A.next+1,phase:=1,pc:=0 } rfl ⟨rfl,rfl,rfl,rfl,rfl,rfl⟩);have R2:=zH (((RA.out.setOther 6 (zI z6 (A.next+1)) d3).setOther 3 (zI z6 1) d3).setOther 7 (zI z6 0) d3);have N2:=zH (((NA.out.setOther 6 (zI z6 (A.next+1)) d1).setOther 3 (zI z6 1) d1).setOther 7 (zI z6 0) d1);have M2:=zH (show Mod (acO t) g ⟨own1,((wA.setCell ⟨b,6,none⟩ (zI z6 (A.next+1))).setCell ⟨b,3,none⟩ (zI z6 1)).setCell ⟨b,7,none⟩ (zI z6 0)⟩ from Mod.st (Mod.st (Mod.st MA.out (Or.inl HA.out.blk.own)) (Or.inl HA.out.blk.own)) (Or.inl HA.out.blk.own));clear hp;go_upto_region 7 with fail
     generalize ((wA.setCell ⟨b,6,none⟩ (zI z6 (A.next+1))).setCell ⟨b,3,none⟩ (zI z6 1)).setCell ⟨b,7,none⟩ (zI z6 0)=w2 at *;clear a0 a1 a2 a3 a4 a5 a6 a7 a8 a9 a10 a11 a12 a13 a14 a15 a16 a17 a18 af6 af3 af7 al r0 r1 r2 r3 r4 rf0 rf1 rf2 rf3 rf4 rl n0 n1 n2 n3 n4 nl hpp HA RA NA MA;obtain ⟨r0,r1,r2,r3,r4,rl⟩:=R2.out.k5;have rf0:=R2.out.liv 0;have rf1:=R2.out.liv 1;have rf2:=R2.out.liv 2;have rf3:=R2.out.liv 3;have rf4:=R2.out.liv 4;obtain ⟨n0,n1,n2,n3,n4,nl⟩:=N2.out.k5;go_wp2_with fail;obtain ⟨Mf,mf,Rf⟩:=yaf M2.out R2.out (Nat.le_succ _) (A.next) (A.own) (e) (false) (0) (0);generalize (((((w2).setCell ⟨g.w.heap.size+1,0,none⟩ (zI z6 (A.next))).setCell ⟨g.w.heap.size+1,1,none⟩ (zI z6 (A.own))).setCell ⟨g.w.heap.size+1,2,none⟩ (zI z6 (e))).setCell ⟨g.w.heap.size+1,3,none⟩ (.bool (false))).setCell ⟨g.w.heap.size+1,4,none⟩ (.complex .f64 (0) (0))=wf at *;obtain ⟨f0,f1,f2,f3,f4,fl⟩:=Rf.k5;refine bodyPost_ret (v:=.tuple #[.agg #[.int .i64 (A.next),.int .i64 (A.own),.int .i64 (e),.bool (false),.complex .f64 (0) (0)],.bool true]) (by simp [results,Tryz.results81,go_sem,f0,f1,f2,f3,f4]) rfl ?_
     exact Does.of ⟨own1,wf⟩ rfl (by rw [HV.out];rfl) Mf (by rw [HD.out];exact H2.out.keep mf zo (fun x (hx:x=9)=>by omega))
   · have HD:=zH (show A.done={ A with next:=A.next+1 } by unfold AcS.done;rw [if_pos (beq_iff_eq.1 hp)]);have hpp:(A.phase !=4)=false:=by unfold bne;rw [hp];rfl
     have H2:=zH (HA.out.set ht 6 (zI z6 (A.next+1)) { A with next:=A.next+1 } rfl ⟨rfl,rfl,rfl,rfl,rfl,rfl⟩);have R2:=zH (RA.out.setOther 6 (zI z6 (A.next+1)) d3);have N2:=zH (NA.out.setOther 6 (zI z6 (A.next+1)) d1);have M2:=zH (show Mod (acO t) g ⟨own1,wA.setCell ⟨b,6,none⟩ (zI z6 (A.next+1))⟩ from Mod.st MA.out (Or.inl HA.out.blk.own));clear hp;go_upto_region 7 with fail
     generalize wA.setCell ⟨b,6,none⟩ (zI z6 (A.next+1))=w2 at *;clear a0 a1 a2 a3 a4 a5 a6 a7 a8 a9 a10 a11 a12 a13 a14 a15 a16 a17 a18 af6 af3 af7 al r0 r1 r2 r3 r4 rf0 rf1 rf2 rf3 rf4 rl n0 n1 n2 n3 n4 nl hpp HA RA NA MA;obtain ⟨r0,r1,r2,r3,r4,rl⟩:=R2.out.k5;have rf0:=R2.out.liv 0;have rf1:=R2.out.liv 1;have rf2:=R2.out.liv 2;have rf3:=R2.out.liv 3;have rf4:=R2.out.liv 4;obtain ⟨n0,n1,n2,n3,n4,nl⟩:=N2.out.k5;go_wp2_with fail;obtain ⟨Mf,mf,Rf⟩:=yaf M2.out R2.out (Nat.le_succ _) (A.next) (A.own) (e) (false) (0) (0);generalize (((((w2).setCell ⟨g.w.heap.size+1,0,none⟩ (zI z6 (A.next))).setCell ⟨g.w.heap.size+1,1,none⟩ (zI z6 (A.own))).setCell ⟨g.w.heap.size+1,2,none⟩ (zI z6 (e))).setCell ⟨g.w.heap.size+1,3,none⟩ (.bool (false))).setCell ⟨g.w.heap.size+1,4,none⟩ (.complex .f64 (0) (0))=wf at *;obtain ⟨f0,f1,f2,f3,f4,fl⟩:=Rf.k5;refine bodyPost_ret (v:=.tuple #[.agg #[.int .i64 (A.next),.int .i64 (A.own),.int .i64 (e),.bool (false),.complex .f64 (0) (0)],.bool true]) (by simp [results,Tryz.results81,go_sem,f0,f1,f2,f3,f4]) rfl ?_;exact Does.of ⟨own1,wf⟩ rfl (by rw [HV.out];rfl) Mf (by rw [HD.out];exact H2.out.keep mf zo (fun x (hx:x=9)=>by omega))
end Go.Proofs.YtdhjjpnajjingaaGreat
namespace Go.Proofs.YtdhjjpnajjingaaGreat
open Go Go.RowKit
theorem ybL (g:GW) (t b:Nat) (A:AcS) (p:AcP) (v:LVal) (e:Int) (r:ResS) (ht:100≤t) (H:AcAt g t b A p) (hn:0≤A.next∧A.next≤1099511627776) (hr:A.res v e=r):Calls prog 81 #[.pointer (some ⟨b,0,none⟩),.agg #[.bool v.ref,.complex .f64 v.z.1 v.z.2],.int .i64 e] g.w (Does (.tuple #[.agg #[.int .i64 r.op,.int .i64 r.own,.int .i64 r.e,.bool r.v.ref,.complex .f64 r.v.z.1 r.v.z.2],.bool true]) g (acO t) (fun g'=>AcAt g' t b A.done p)):=by
 subst hr;exact yj4 g t b A p v e ht H hn
theorem ybk (g:GW) (t b:Nat) (A:AcS) (p:AcP) (e:Int) (r:ResS) (ht:100≤t) (H:AcAt g t b A p) (hn:0≤A.next∧A.next≤1099511627776) (hr:A.res LVal.zero e=r):Calls prog 85 #[.pointer (some ⟨b,0,none⟩),.int .i64 e] g.w (Does (.tuple #[.agg #[.int .i64 r.op,.int .i64 r.own,.int .i64 r.e,.bool r.v.ref,.complex .f64 r.v.z.1 r.v.z.2],.bool true]) g (acO t) (fun g'=>AcAt g' t b A.done p)):=by
 have HH:=zH H;have HR:=zH hr;clear H hr;go_enter func85,ntmps85;go_upto_region 1 with fail
 obtain ⟨own0,M0,R0⟩:=yay g 40 resZ;unfold resZ at M0 R0;generalize (g.w.alloc (.cells #[.int .i64 0,.int .i64 0,.int .i64 0,.bool false,.complex .f64 0 0] 40))=w0 at *;have M0':=zH M0;have R0':=zH R0;clear M0 R0;have H0:=zH (HH.out.keep M0'.out id (fun _=>False.elim));go_wp2_with fail;refine (ybL ⟨own0,w0⟩ t b A p LVal.zero e r ht H0.out hn HR.out).mono ?_;rintro e2 w1 ⟨rfl,own1,m1,h1⟩;have M1:=zH ((M0'.out.mono (S:=acO t) (fun _=>False.elim)).trans m1);have H1:=zH h1;have R1:=zH (R0'.out.keep m1 (by unfold acO;omega));clear m1 h1 R0' H0;obtain ⟨r0,r1,r2,r3,r4,rl⟩:=R1.out.k5;have rf0:=R1.out.liv 0;have rf1:=R1.out.liv 1;have rf2:=R1.out.liv 2;have rf3:=R1.out.liv 3;have rf4:=R1.out.liv 4;go_wp2_with fail;obtain ⟨Mf,mf,Rf⟩:=yaf M1.out R1.out (Nat.le_refl _) (r.op) (r.own) (r.e) (r.v.ref) (r.v.z.1) (r.v.z.2);generalize ((((((w1).setCell ⟨g.w.heap.size,0,none⟩ (zI z6 (r.op))).setCell ⟨g.w.heap.size,1,none⟩ (zI z6 (r.own))).setCell ⟨g.w.heap.size,2,none⟩ (zI z6 (r.e))).setCell ⟨g.w.heap.size,3,none⟩ (.bool (r.v.ref))).setCell ⟨g.w.heap.size,4,none⟩ (.complex .f64 (r.v.z.1) (r.v.z.2)))=wf at *;obtain ⟨f0,f1,f2,f3,f4,fl⟩:=Rf.k5
 refine bodyPost_ret (v:=.tuple #[.agg #[.int .i64 (r.op),.int .i64 (r.own),.int .i64 (r.e),.bool (r.v.ref),.complex .f64 (r.v.z.1) (r.v.z.2)],.bool true]) (by simp [results,Tryz.results85,go_sem,f0,f1,f2,f3,f4]) rfl ?_;exact Does.of ⟨own1,wf⟩ rfl rfl Mf (H1.out.keep mf zo (fun x (hx:x=9)=>by omega))
theorem AcAt.setLoc {g:GW} {t b:Nat} {A:AcS} {p:AcP} (H:AcAt g t b A p) (ht:100≤t) {q k:Nat} (hA:p.locA=some ⟨q,0,none⟩) (ho:g.own q=t+1) (v:LVal):
 AcAt ⟨g.own,(g.w.setCell ⟨q,k*2,none⟩ (.bool v.ref)).setCell ⟨q,k*2+1,none⟩ (.complex .f64 v.z.1 v.z.2)⟩ t b { A with locals:=A.locals.set k v } p∧
 Mod (fun x=>x=t+1) g ⟨g.own,(g.w.setCell ⟨q,k*2,none⟩ (.bool v.ref)).setCell ⟨q,k*2+1,none⟩ (.complex .f64 v.z.1 v.z.2)⟩:=by
 have m:Mod (fun x=>x=t+1) g ⟨g.own,(g.w.setCell ⟨q,k*2,none⟩ (.bool v.ref)).setCell ⟨q,k*2+1,none⟩ (.complex .f64 v.z.1 v.z.2)⟩:=Mod.st (Mod.st (Mod.refl _ _) ho) ho;refine ⟨⟨?_,⟨H.r.ops.keep m zo,H.r.opsC,?_,H.r.grey.keep m zo,H.r.greyC,H.r.fn,fun S hS=>?_,H.r.got.keep m zo,H.r.gotC,H.r.wr.keep m zo,H.r.wrE,H.r.wrC⟩⟩,m⟩
 · have h:=H.blk.keep m zo;unfold AcS.cells at h ⊢;simp only [List.length_set];exact h
 · have h:=H.r.loc;rw [hA] at h ⊢;have h2:=(h.store (k*2) (.bool v.ref)).store (k*2+1) (.complex .f64 v.z.1 v.z.2);simp only [List.length_set];rw [yi6];exact h2
 · obtain ⟨bf,cm,e1,e2,e3⟩:=H.r.fs S hS;exact ⟨bf,cm,e1,e2,e3.keep m zo zo⟩
theorem ybA (g:GW) (t b:Nat) (A:AcS) (p:AcP) (i:Int) (v:LVal) (r:ResS) (ht:100≤t) (H:AcAt g t b A p) (hn:0≤A.next∧A.next≤1099511627776) (hi:0≤i∧i<A.locals.length) (hr:A.res v 0=r):Calls prog 136 #[.pointer (some ⟨b,0,none⟩),.int .i64 i,.agg #[.bool v.ref,.complex .f64 v.z.1 v.z.2]] g.w (Does (.tuple #[.agg #[.int .i64 r.op,.int .i64 r.own,.int .i64 r.e,.bool r.v.ref,.complex .f64 r.v.z.1 r.v.z.2],.bool true]) g (acO t) (fun g'=>AcAt g' t b { A with locals:=A.locals.set i.toNat v }.done p)):=by
 obtain ⟨k,rfl⟩: ∃k:Nat,i=k:=⟨i.toNat,zo⟩;have hk:k<A.locals.length:=zo;rw [Int.toNat_natCast];have HH:=zH H;have HR:=zH hr;clear H hr hi;go_enter func136,ntmps136;go_upto_region 1 with fail
 obtain ⟨own0,M0,Q0,R0⟩:=yaz g 38 40 v.cells resZ;unfold LVal.cells resZ at M0 Q0 R0;generalize ((g.w.alloc (.cells #[.bool v.ref,.complex .f64 v.z.1 v.z.2] 38)).alloc (.cells #[.int .i64 0,.int .i64 0,.int .i64 0,.bool false,.complex .f64 0 0] 40))=w0 at *;have H0:=zH (HH.out.keep M0 id (fun _=>False.elim));have M0':=zH M0;have R0':=zH R0;have Q0':=zH Q0;obtain ⟨q,hA,hq,ho,c0,c1,hfr⟩:=H0.out.r.local_ hk;have cf0:=hfr (k*2);have cf1:=hfr (k*2+1);simp only at hq c0 c1 cf0 cf1 ho;obtain ⟨a0,a1,a2,a3,a4,a5,a6,a7,a8,a9,a10,a11,a12,a13,a14,a15,a16,a17,a18,al⟩:=H0.out.blk.k19;obtain ⟨x0,x1,xl⟩:=Q0.k2;rw [hA] at a2;clear M0 Q0 R0 hfr;refine yab [zT,zT,zT,zT,zT,zT,zT,zU] 1 7 ?_;intro X00;simp only [pickOps];repeat (go_big_quiet_step (fail))
 refine wpQuiet_nil (fun X0=>?_);clear X00;refine yai 7 _ zQ zQ rfl rfl (fun X1 K Q' hK=>?_);go_simp;refine hK _ _ (fun X2=>?_);clear hK K Q';obtain ⟨H1',m1⟩:=H0.out.setLoc ht (k:=k) hA ho v;simp only at m1 H1';have Q1':=Q0'.out.keep m1 zo;have R1':=R0'.out.keep m1 zo;have M1':=(M0'.out.mono (S:=acO t) (fun _=>False.elim)).trans (m1.mono (fun x hx=>Or.inr hx));have m2:Mod (fun _=>False) ⟨own0,(w0.setCell ⟨q,k*2,none⟩ (.bool v.ref)).setCell ⟨q,k*2+1,none⟩ (.complex .f64 v.z.1 v.z.2)⟩ (GW.to ⟨own0,(w0.setCell ⟨q,k*2,none⟩ (.bool v.ref)).setCell ⟨q,k*2+1,none⟩ (.complex .f64 v.z.1 v.z.2)⟩ 9 ((((w0.setCell ⟨q,k*2,none⟩ (.bool v.ref)).setCell ⟨q,k*2+1,none⟩ (.complex .f64 v.z.1 v.z.2)).patch ⟨X0.blocks++X1.blocks,X1.drawn⟩).patch X2)):=Mod.ext zE 9;unfold GW.to at m2;have H2:=zH (H1'.keep m2 id (fun _=>False.elim));have Q2:=zH (Q1'.keep m2 id);have R2:=zH (R1'.keep m2 id);have M2:=zH (M1'.trans (m2.mono (fun _=>False.elim)));generalize (fun x=>if x<((w0.setCell ⟨q,k*2,none⟩ (.bool v.ref)).setCell ⟨q,k*2+1,none⟩ (.complex .f64 v.z.1 v.z.2)).heap.size then own0 x else 9)=own2 at *
 generalize (((w0.setCell ⟨q,k*2,none⟩ (.bool v.ref)).setCell ⟨q,k*2+1,none⟩ (.complex .f64 v.z.1 v.z.2)).patch ⟨X0.blocks++X1.blocks,X1.drawn⟩).patch X2=w2 at *;clear H1' m1 Q1' R1' M1' m2 a0 a1 a2 a3 a4 a5 a6 a7 a8 a9 a10 a11 a12 a13 a14 a15 a16 a17 a18 al x0 x1 xl c0 c1 cf0 cf1 H0 Q0' R0' M0';obtain ⟨x0,x1,xl⟩:=Q2.out.k2;go_wp2_with fail;refine (ybL ⟨own2,w2⟩ t b _ p v 0 r ht H2.out hn HR.out).mono ?_;rintro e2 w3 ⟨rfl,own3,m3,h3⟩;have M3:=zH (M2.out.trans m3);have H3:=zH h3;have R3:=zH (R2.out.keep m3 (by unfold acO;omega));clear m3 h3 R2 H2;obtain ⟨r0,r1,r2,r3,r4,rl⟩:=R3.out.k5;have rf0:=R3.out.liv 0;have rf1:=R3.out.liv 1;have rf2:=R3.out.liv 2;have rf3:=R3.out.liv 3;have rf4:=R3.out.liv 4;go_wp2_with fail;obtain ⟨Mf,mf,Rf⟩:=yaf M3.out R3.out (Nat.le_succ _) (r.op) (r.own) (r.e) (r.v.ref) (r.v.z.1) (r.v.z.2);generalize ((((((w3).setCell ⟨g.w.heap.size+1,0,none⟩ (zI z6 (r.op))).setCell ⟨g.w.heap.size+1,1,none⟩ (zI z6 (r.own))).setCell ⟨g.w.heap.size+1,2,none⟩ (zI z6 (r.e))).setCell ⟨g.w.heap.size+1,3,none⟩ (.bool (r.v.ref))).setCell ⟨g.w.heap.size+1,4,none⟩ (.complex .f64 (r.v.z.1) (r.v.z.2)))=wf at *;obtain ⟨f0,f1,f2,f3,f4,fl⟩:=Rf.k5
 refine bodyPost_ret (v:=.tuple #[.agg #[.int .i64 (r.op),.int .i64 (r.own),.int .i64 (r.e),.bool (r.v.ref),.complex .f64 (r.v.z.1) (r.v.z.2)],.bool true]) (by simp [results,Tryz.results136,go_sem,f0,f1,f2,f3,f4]) rfl ?_;exact Does.of ⟨own3,wf⟩ rfl rfl Mf (H3.out.keep mf zo (fun x (hx:x=9)=>by omega))
end Go.Proofs.YtdhjjpnajjingaaGreat
