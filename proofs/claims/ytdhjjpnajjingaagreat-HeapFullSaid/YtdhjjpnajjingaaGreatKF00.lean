import Derived.WalkKit
import Derived.WalkLawsBesides
import Derived.Deep.QuietTactic
import Derived.BigQuiet
import Derived.Lib.Hide
import Derived.OrdersHeld
import Derived.StillTail
import Derived.OrdersIn
import Derived.RangeFuncCalls
import Derived.TacticsIn
import Derived.Deep.RegionWith
import Derived.Deep.DeepFit
import Derived.Maps.AppendAt
import Derived.Test.YtdhjjpnajjingaaGreatChecked
import Derived.ScopeJumps
import Derived.WalkMore
import Derived.Laws.Tables
import Derived.Laws.MakeOwn
import Derived.Laws.OwnMore
set_option linter.unusedVariables false
set_option linter.unnecessarySimpa false
set_option linter.unusedSimpArgs false
open Bool renaming true→zT,false→zU
open Go.Value renaming int→zI,complex→zc,pointer→zp,bool→zb
open Go.IntKind renaming i64→z6
open Go.FloatKind renaming f64→z4
set_option maxHeartbeats 8000000
set_option maxRecDepth 100000
open Go.Proofs.Tryz
theorem Go.zo {p:Prop} (h:p:=by omega):p:=h
theorem Go.zd {p:Prop} (h:p:=by decide):p:=h
theorem Go.zQ {p:Prop} (h:p:=by kernel_rfl):p:=h
theorem Go.z9 {p:Nat→Prop} (h:p 9:=by omega):∀ x,x=9→p x:=by rintro _ rfl;exact h
theorem Go.zG {p:Nat→Prop}:∀ x,False→p x:=fun _=>False.elim
theorem Go.RowKit.Hid.o {p:Prop} (h:Go.RowKit.Hid p):p:=h
open Go.Lib renaming hid→zH
namespace Go
@[go_sem] theorem ykC (P:Program) (w:World) (a:Addr) (m:Mode) (k:FloatKind) (x y:Nat):(store a (.complex k x y) m).run P w=stored P w a (.complex k x y) m:=run_store P w a _ m rfl
structure Extra where
 blocks:Array Obj
 drawn:Nat
 deriving Inhabited
def World.patch (w:World) (X:Extra):World:={ w with heap:=w.heap++X.blocks,drawn:=X.drawn }
section
variable (w:World) (X Y:Extra)
theorem World.heap_patch (b:Nat) (h:b<w.heap.size):(w.patch X).heap[b]?=w.heap[b]?:=by
 show (w.heap++X.blocks)[b]?=_;rw [Array.getElem?_append_left h]
@[go_sem] theorem World.cell?_patch (b o:Nat) (h:b<w.heap.size):(w.patch X).cell? ⟨b,o,none⟩=w.cell? ⟨b,o,none⟩:=by
  simp only [World.cell?,World.heap_patch w X b h]
@[go_sem] theorem World.frozen?_patch (b o:Nat) (h:b<w.heap.size):(w.patch X).frozen? ⟨b,o,none⟩=w.frozen? ⟨b,o,none⟩:=by
  simp only [World.frozen?,World.heap_patch w X b h]
theorem World.size_patch:(w.patch X).heap.size=w.heap.size+X.blocks.size:=by
 show (w.heap++X.blocks).size=_;simp
@[go_sem] theorem World.lt_patch (n:Nat) (h:n<w.heap.size):(n<(w.patch X).heap.size)=True:=by
  rw [World.size_patch];exact eq_true zo
@[go_sem] theorem World.lt_patch_more (n:Nat) (h:n<w.heap.size):(n<(w.patch X).heap.size+1)=True:=by
  rw [World.size_patch];exact eq_true zo
@[go_sem,simp] theorem World.tape_patch:(w.patch X).tape=w.tape:=rfl
@[go_sem] theorem World.patch_patch:(w.patch X).patch Y=w.patch ⟨X.blocks++Y.blocks,Y.drawn⟩:=by
  simp [World.patch]
@[go_sem] theorem World.drew_patch:(w.patch X).drew=w.patch ⟨X.blocks,X.drawn+1⟩:=rfl
@[go_sem] theorem World.drewN_patch (n:Nat):(w.patch X).drewN n=w.patch ⟨X.blocks,X.drawn+n⟩:=rfl
@[go_sem] theorem World.patch_drew:w.drew.patch X=w.patch X:=rfl
@[go_sem] theorem World.patch_drewN (n:Nat):(w.drewN n).patch X=w.patch X:=rfl
@[go_sem] theorem World.setCell_patch (b o:Nat) (v:Value) (h:b<w.heap.size):(w.patch X).setCell ⟨b,o,none⟩ v=(w.setCell ⟨b,o,none⟩ v).patch X:=by
  simp only [World.setCell,World.patch,World.mk.injEq,and_true];apply Array.ext_getElem?;intro i;simp only [Array.getElem?_modify];by_cases hi:i<w.heap.size
  · rw [Array.getElem?_append_left hi,Array.getElem?_append_left (by simpa using hi),Array.getElem?_modify]
  · rw [if_neg zo,Array.getElem?_append_right zo,Array.getElem?_append_right (by simp;omega)];simp
end
section
variable (w:World) (X Y Z:Extra) (o u:Obj)
@[go_sem] theorem World.cell?_p1 (b i:Nat) (h:b<w.heap.size):((w.patch X).alloc o).cell? ⟨b,i,none⟩=w.cell? ⟨b,i,none⟩:=
  (World.cell?_alloc_past _ _ _ (by rw [World.size_patch];omega)).trans (World.cell?_patch _ _ _ _ h)
@[go_sem] theorem World.cell?_p2 (b i:Nat) (h:b<w.heap.size):(((w.patch X).alloc o).patch Y).cell? ⟨b,i,none⟩=w.cell? ⟨b,i,none⟩:=
  (World.cell?_patch _ _ _ _ (by rw [World.size_alloc,World.size_patch];omega)).trans (World.cell?_p1 _ _ _ _ _ h)
@[go_sem] theorem World.cell?_p3 (b i:Nat) (h:b<w.heap.size):((((w.patch X).alloc o).patch Y).alloc u).cell? ⟨b,i,none⟩=w.cell? ⟨b,i,none⟩:=
  (World.cell?_alloc_past _ _ _ (by rw [World.size_patch,World.size_alloc,World.size_patch];omega)).trans (World.cell?_p2 _ _ _ _ _ _ h)
@[go_sem] theorem World.cell?_p4 (b i:Nat) (h:b<w.heap.size):(((((w.patch X).alloc o).patch Y).alloc u).patch Z).cell? ⟨b,i,none⟩=w.cell? ⟨b,i,none⟩:=
  (World.cell?_patch _ _ _ _ (by rw [World.size_alloc,World.size_patch,World.size_alloc,World.size_patch];omega)).trans (World.cell?_p3 _ _ _ _ _ _ _ h)
@[go_sem] theorem World.frozen?_p1 (b i:Nat) (h:b<w.heap.size):((w.patch X).alloc o).frozen? ⟨b,i,none⟩=w.frozen? ⟨b,i,none⟩:=
  (World.frozen?_alloc_past _ _ _ (by rw [World.size_patch];omega)).trans (World.frozen?_patch _ _ _ _ h)
@[go_sem] theorem World.frozen?_p2 (b i:Nat) (h:b<w.heap.size):(((w.patch X).alloc o).patch Y).frozen? ⟨b,i,none⟩=w.frozen? ⟨b,i,none⟩:=
  (World.frozen?_patch _ _ _ _ (by rw [World.size_alloc,World.size_patch];omega)).trans (World.frozen?_p1 _ _ _ _ _ h)
@[go_sem] theorem World.frozen?_p3 (b i:Nat) (h:b<w.heap.size):((((w.patch X).alloc o).patch Y).alloc u).frozen? ⟨b,i,none⟩=w.frozen? ⟨b,i,none⟩:=
  (World.frozen?_alloc_past _ _ _ (by rw [World.size_patch,World.size_alloc,World.size_patch];omega)).trans (World.frozen?_p2 _ _ _ _ _ _ h)
@[go_sem] theorem World.frozen?_p4 (b i:Nat) (h:b<w.heap.size):(((((w.patch X).alloc o).patch Y).alloc u).patch Z).frozen? ⟨b,i,none⟩=w.frozen? ⟨b,i,none⟩:=
  (World.frozen?_patch _ _ _ _ (by rw [World.size_alloc,World.size_patch,World.size_alloc,World.size_patch];omega)).trans (World.frozen?_p3 _ _ _ _ _ _ _ h)
end
def Ext (w w':World):Prop:= ∃X,w'=w.patch X
theorem Ext.refl (w:World):Ext w w:=⟨⟨#[],w.drawn⟩,by simp [World.patch]⟩
theorem Ext.trans {a b c:World} (h:Ext a b) (k:Ext b c):Ext a c:=by
 obtain ⟨X,rfl⟩:=h;obtain ⟨Y,rfl⟩:=k;exact ⟨_,World.patch_patch _ _ _⟩
theorem Ext.patch {a b:World} (h:Ext a b) (X:Extra):Ext a (b.patch X):=h.trans ⟨X,rfl⟩
theorem Ext.more (b:World) (X:Extra) (Y:Array Obj) (d:Nat):Ext (b.patch X) (b.patch ⟨X.blocks++Y,d⟩):=⟨⟨Y,d⟩,(World.patch_patch b X ⟨Y,d⟩).symm⟩
theorem Ext.drew {a b:World} (h:Ext a b):Ext a b.drew:=h.trans ⟨⟨#[],b.drawn+1⟩,by show World.drew b=_;simp only [World.patch,Array.append_empty];rfl⟩
theorem Ext.drewN {a b:World} (h:Ext a b) (n:Nat):Ext a (b.drewN n):=h.trans ⟨⟨#[],b.drawn+n⟩,by simp [World.patch,World.drewN]⟩
theorem Ext.alloc {a b:World} (h:Ext a b) (o:Obj):Ext a (b.alloc o):=h.trans ⟨⟨#[o],b.drawn⟩,by simp only [World.patch,Array.append_singleton];rfl⟩
theorem Ext.size {a b:World} (h:Ext a b):a.heap.size≤b.heap.size:=by obtain ⟨X,rfl⟩:=h;rw [World.size_patch];omega
theorem Ext.heap {a b:World} (h:Ext a b) (k:Nat) (hk:k<a.heap.size):b.heap[k]?=a.heap[k]?:=by obtain ⟨X,rfl⟩:=h;exact World.heap_patch _ _ _ hk
theorem yaE {a b:World} (h:RowKit.Below a.heap.size a b):Ext a b:=by
 refine ⟨⟨b.heap.extract a.heap.size b.heap.size,b.drawn⟩,?_⟩;obtain ⟨h1,h2,h3,h4,h5⟩:=h
 have e:b.heap=a.heap++b.heap.extract a.heap.size b.heap.size:=by
  apply Array.ext_getElem?;intro i;by_cases hi:i<a.heap.size
  · rw [Array.getElem?_append_left hi,h5 i hi]
  · rw [Array.getElem?_append_right zo,Array.getElem?_extract];by_cases hb:i<b.heap.size
    · rw [if_pos zo];congr 1;omega
    · rw [if_neg zo,Array.getElem?_eq_none zo]
 cases b
 simp only [World.patch,World.mk.injEq] at *;exact ⟨e,h2,trivial,h1,h3⟩
theorem Ext.below {a b:World} (h:Ext a b):RowKit.Below a.heap.size a b:=by
 obtain ⟨X,rfl⟩:=h;exact ⟨rfl,rfl,rfl,by rw [World.size_patch];omega,fun k hk=>World.heap_patch _ _ _ hk⟩
theorem Ext.setCell {a b:World} (h:Ext a b) {p:Addr} (hp:a.heap.size≤p.block) (v:Value):Ext a (b.setCell p v):=
 yaE (h.below.setCell hp v)
theorem ycV {P:Program} {c:Code} {Q:Exit→Act→World→Prop} {a:Act} {base w:World} (he:Ext base w) (h: ∀Z,c.wp P Q a (base.patch Z)):c.wp P Q a w:=by
 obtain ⟨Z,rfl⟩:=he;exact h Z
def Gives (v:Value) (w:World) (e:Ending) (w':World):Prop:=e=.returned v∧ ∃X,w'=w.patch X
theorem Gives.mk {v v':Value} {w w':World} (hv:v'=v) (h:Ext w w'):Gives v w (.returned v') w':=⟨by rw [hv],h⟩
theorem Gives.bool {b b':Bool} {w w':World} (h:b=b') (he:Ext w w'):Gives (zb b') w (.returned (zb b)) w':=⟨by rw [h],he⟩
theorem Gives.int {k:IntKind} {a b:Int} {w w':World} (h:a=b) (he:Ext w w'):Gives (.int k b) w (.returned (.int k a)) w':=⟨by rw [h],he⟩
theorem Gives.iib {k:IntKind} {a b c d:Int} {x y:Bool} {w w':World} (h:a=c) (h':b=d) (hx:x=y) (he:Ext w w'):Gives (.tuple #[.int k c,.int k d,zb y]) w (.returned (.tuple #[.int k a,.int k b,zb x])) w':=⟨by rw [h,h',hx],he⟩
theorem Gives.ii {k l:IntKind} {a b c d:Int} {w w':World} (h:a=c) (h':b=d) (he:Ext w w'):Gives (.tuple #[.int k c,.int l d]) w (.returned (.tuple #[.int k a,.int l b])) w':=⟨by rw [h,h'],he⟩
theorem Gives.bb {a b c d:Bool} {w w':World} (h:a=c) (h':b=d) (he:Ext w w'):Gives (.tuple #[zb c,zb d]) w (.returned (.tuple #[zb a,zb b])) w':=⟨by rw [h,h'],he⟩
theorem Gives.of_ext {v:Value} {w w':World} (h:Ext w w'):Gives v w (.returned v) w':=⟨rfl,h⟩
theorem Calls.added {P:Program} {f:FuncId} {args:Array Value} {w:World} {B:Array Obj} {X:Extra} {v:Value}
 (h:Calls P f args (w.patch ⟨B++X.blocks,X.drawn⟩) (Gives v (w.patch ⟨B++X.blocks,X.drawn⟩))):Calls P f args (w.patch ⟨B++X.blocks,X.drawn⟩) fun e w''=>e=.returned v∧ ∃Y:Extra,w''=w.patch ⟨B++Y.blocks,Y.drawn⟩:=
 h.mono fun _ _ ⟨he,Y,hY⟩=>⟨he,⟨X.blocks++Y.blocks,Y.drawn⟩,by rw [hY,World.patch_patch,Array.append_assoc]⟩
end Go
namespace Go
def stopFrame:Frame:={ fn:=0,tmps:=#[],todo:=[.code (.refuse "")],defers:=[],mode:=.run,kind:=.normal }
theorem ydu (v:Value):stopFrame.finish v=stopFrame:=rfl
theorem yeo (P:Program) (w:World): ∃o w',step P (lone stopFrame [] w)=.ended o w':=by
 refine ⟨_,_,step_lone_ended (w':=w) (o:=?_) ?_⟩;rotate_left
 · simp [stepG,stepG.exec,stopFrame];rfl
theorem yfS {fr fr':Frame} {cs cs':List Frame} {w w':World} (h:lone fr cs w=lone fr' cs' w'):fr=fr'∧cs=cs'∧w=w':=by
 simp only [lone,Machine.mk.injEq,Array.mk.injEq,List.cons.injEq,Goroutine.mk.injEq,and_true] at h;exact ⟨h.2.1,h.2.2,h.1⟩
theorem Calls.later {P:Program} {f:FuncId} {args:Array Value} {w:World} {v u:Value} {w1 w2:World} {fr1 fr2:Frame} {n k:Nat}
 (h1:runN P n (lone (Frame.enter P f args .normal) [stopFrame] w)=.next (lone fr1 [stopFrame] w1)) (l1:fr1.leaving P w1 (.returned v))
 (h2:runN P (n+k) (lone (Frame.enter P f args .normal) [stopFrame] w)=.next (lone fr2 [stopFrame] w2)) (l2:fr2.leaving P w2 (.returned u)):v=u:=by
 rw [runN_add,h1] at h2;simp only at h2;cases k with
 |zero=>
  simp only [runN] at h2;injection h2 with h2;obtain ⟨rfl,_,rfl⟩:=yfS h2;obtain ⟨_,_,_,fn,hf,hr⟩:=l1;obtain ⟨_,_,_,fn',hf',hr'⟩:=l2;rw [hf] at hf';injection hf' with hf';subst hf';rw [hr] at hr';injection hr'
 |succ k=>
  have hs:=step_leave_returned (c:=stopFrame) (cs:=[]) l1;simp only [runN,hs,ydu] at h2;cases k with
  |zero=>
   simp only [runN] at h2;injection h2 with h2;have:=(yfS h2).2.1;cases this
  |succ k=>
   obtain ⟨o,w',ho⟩:=yeo P w1;simp only [runN,ho] at h2;cases h2
theorem Calls.same {P:Program} {f:FuncId} {args:Array Value} {w:World} {v u:Value} {A B:World→Prop}
 (h:Calls P f args w fun e w'=>e=.returned v∧A w') (h':Calls P f args w fun e w'=>e=.returned u∧B w'):v=u:=by
 obtain ⟨e1,w1,fr1,⟨rfl,_⟩,⟨n1,hn1⟩,_,l1⟩:=h [stopFrame];obtain ⟨e2,w2,fr2,⟨rfl,_⟩,⟨n2,hn2⟩,_,l2⟩:=h' [stopFrame];rcases Nat.le_total n1 n2 with hle|hle
 · obtain ⟨k,rfl⟩:=Nat.exists_eq_add_of_le hle;exact Calls.later hn1 l1 hn2 l2
 · obtain ⟨k,rfl⟩:=Nat.exists_eq_add_of_le hle;exact (Calls.later hn2 l2 hn1 l1).symm
section
variable {P:Program} {ops:Array Oper} {Q:Exit→Act→World→Prop} {md:Region.Mode} {w0:World}
def Oper.calmUpon (P:Program) (w1:World) (v:Value):Result Next→Prop
 |.ok (.value u) w'=>w'=w1∧u=v
 |.ok .skip w'=>w'=w1∧v=undef
 |.ok (.enter f args) w'=>w'=w1∧Calls P f args w1 (Gives v w1)
 |_=>False
def Oper.calmAt (P:Program) (o:Oper) (a:Act) (w1:World) (v:Value):Prop:=Oper.calmUpon P w1 v ((execOp a.eval o).run P w1)
def Oper.calm (P:Program) (o:Oper) (a:Act) (w0:World) (next:Act→Prop):Prop:= ∃v,(∀X,o.calmAt P a (w0.patch X) v)∧next (a.put o.dst v)
attribute [go_sem] Oper.calm Oper.calmAt Oper.calmUpon
def wpCalm (P:Program) (ops:Array Oper) (w0:World) (Q:Act→Prop):List Oper→Act→Prop
 |[],a=>Q a
 |o::rest,a=>if Region.wanted o (yielded ops a.tmps) then o.calm P a w0 (wpCalm P ops w0 Q rest) else wpCalm P ops w0 Q rest (a.put o.dst undef)
def YieldsE (P:Program) (ops:Array Oper) (w0:World) (o:Oper) (v:Value) (a:Act):Prop:=
 (Region.wanted o (yielded ops a.tmps)=true∧ ∀X,o.calmAt P a (w0.patch X) v)∨(Region.wanted o (yielded ops a.tmps)=false∧v=undef)
theorem YieldsE.of_same {o:Oper} {v:Value} {a a':Act} (hy:YieldsE P ops w0 o v a) (he:execOp a'.eval o=execOp a.eval o)
 (hw:Region.wanted o (yielded ops a'.tmps)=Region.wanted o (yielded ops a.tmps)):YieldsE P ops w0 o v a':=by
 unfold YieldsE Oper.calmAt at *;rw [he,hw];exact hy
theorem YieldsE.wpOp {i:Nat} {o:Oper} {v:Value} {a:Act} (hi:ops[i]?=some o) (hy:YieldsE P ops w0 o v a)
 {K:Act→World→Prop} {w:World} (hS:Ext w0 w) (h: ∀w',Ext w w'→K (a.put o.dst v) w'):wpOp P ops Q i K a w:=by
 unfold Go.wpOp;simp only [hi];rcases hy with ⟨hw,hv⟩|⟨hw,rfl⟩
 · simp only [hw,if_true];obtain ⟨X,rfl⟩:=hS;have h3:=hv X;unfold Oper.calmAt at h3;refine .inl ?_;unfold Oper.wp;generalize (execOp a.eval o).run P (w0.patch X)=r at *;cases r with
   |ok n w'=>
    cases n<;>simp only [Oper.calmUpon] at h3<;>simp only [Oper.upon]
    case value u=>
     obtain ⟨e1,e2⟩:=h3;rw [e1,e2];exact h _ (Ext.refl _)
    case skip=>
     obtain ⟨e1,e2⟩:=h3;rw [e1, ←e2];exact h _ (Ext.refl _)
    case enter f args=>
     obtain ⟨e1,hc⟩:=h3;rw [e1];exact hc.mono fun e w'' ⟨he,hw''⟩=>by subst he;exact h _ hw''
   |halt x w'=>simp only [Oper.calmUpon] at h3
 · simp only [hw,Bool.false_eq_true,if_false];exact h _ (Ext.refl _)
theorem ya2 {o:Oper} {rest:List Oper} {a:Act} {Q:Act→Prop} (h:wpCalm P ops w0 Q (o::rest) a): ∃v,YieldsE P ops w0 o v a∧wpCalm P ops w0 Q rest (a.put o.dst v):=by
 unfold wpCalm at h;by_cases hw:Region.wanted o (yielded ops a.tmps)=true
 · simp only [hw,if_true] at h;obtain ⟨v,h1,h2⟩:=h;exact ⟨v,.inl ⟨hw,h1⟩,h2⟩
 · simp only [hw] at h;exact ⟨undef,.inr ⟨by simpa using hw,rfl⟩,h⟩
def withX (w0:World) (X0:Extra) (w':World):Prop:= ∃X:Extra,w'=w0.patch ⟨X0.blocks++X.blocks,X.drawn⟩
theorem yiK (X:Extra):withX w0 X (w0.patch X):=⟨⟨#[],X.drawn⟩,by simp⟩
theorem ykz {X:Extra} {w':World} (h:withX w0 X w'):Ext (w0.patch X) w':=by
 obtain ⟨Y,rfl⟩:=h;exact ⟨Y,(World.patch_patch _ _ _).symm⟩
theorem yav {Q:Act→Prop}: ∀(l:List Oper) (a:Act),(∀X0,wpQuiet P ops (withX w0 X0) Q l a)→wpCalm P ops w0 Q l a
 |[],_,h=>h default
 |o::rest,a,h=>by
  unfold wpCalm;by_cases hw:Region.wanted o (yielded ops a.tmps)=true
  · rw [if_pos hw]
    have h': ∀X0,o.quiet P a (withX w0 X0) (wpQuiet P ops (withX w0 X0) Q rest):=fun X0=>by
     have:=h X0;unfold wpQuiet at this;rwa [if_pos hw] at this
    obtain ⟨v,hv,_⟩:=h' ⟨#[],w0.drawn⟩
    have same: ∀X,o.calmAt P a (w0.patch X) v∧wpQuiet P ops (withX w0 X) Q rest (a.put o.dst v):=fun X=>by
     obtain ⟨u,hu,hk⟩:=h' X;have h1:=hv (w0.patch X) ⟨X,by simp⟩;have h2:=hu (w0.patch X) (yiK X);unfold Oper.quietAt at h1 h2;unfold Oper.calmAt;generalize (execOp a.eval o).run P (w0.patch X)=r at *;cases r with
     |halt x w'=>simp only [Oper.quietUpon] at h1
     |ok n w'=>
      cases n<;>simp only [Oper.quietUpon] at h1 h2<;>simp only [Oper.calmUpon]
      case value t=>
       obtain ⟨e1,e2⟩:=h1;obtain ⟨_,e3⟩:=h2;have e4:u=v:=e3.symm.trans e2;subst e4;exact ⟨⟨e1,e2⟩,hk⟩
      case skip=>
       have e4:u=v:=h2.2.trans h1.2.symm;subst e4;exact ⟨h1,hk⟩
      case enter f args=>
       obtain ⟨e1,hc1⟩:=h1;obtain ⟨_,hc2⟩:=h2;subst e1;have e4:u=v:=Calls.same hc2 hc1;subst e4;exact ⟨⟨rfl,hc2.mono fun e w'' ⟨he,hw''⟩=>⟨he,ykz hw''⟩⟩,hk⟩
    exact ⟨v,fun X=>(same X).1,yav rest _ fun X=>(same X).2⟩
  · rw [if_neg hw];refine yav rest _ fun X0=>?_;have:=h X0;unfold wpQuiet at this;rwa [if_neg hw] at this
def Closed (md:Region.Mode) (ops:Array Oper) (listed:Array Bool):Prop:=
 listed.size=ops.size∧ ∀j oj,ops[j]?=some oj→listed.getD j false=true→ ∀e∈oj.after,Region.binds md e=true→listed.getD e.on false=true
theorem Closed.set {listed:Array Bool} {i:Nat} (h:Closed md ops listed) (hi:i∈Region.ready md ops listed):Closed md ops (listed.setIfInBounds i true):=by
 obtain ⟨_,oi,hoi,hall⟩:=mem_ready.1 hi;refine ⟨by simp [h.1],fun j oj hj hl e he hb=>?_⟩;by_cases hij:i=j
 · subst hij;have:oj=oi:=Option.some.inj (hj.symm.trans hoi);subst this;exact getD_set_true (hall e he hb)
 · rw [getD_set_ne false hij] at hl;exact getD_set_true (h.2 j oj hj hl e he hb)
theorem Closed.start (n:Nat) (h:n=ops.size):Closed md ops (Array.replicate n false):=by
 refine ⟨by simp [h],fun j oj hj hl=>?_⟩;rw [getD_replicate_false] at hl;cases hl
theorem ycI {L:Nat} {listed:Array Bool} (hc:Closed md ops listed) (hs:Region.sinkB md ops L=true) (hL:listed.getD L false=true): ∀(d i:Nat),L-i=d→i<L→listed.getD i false=true:=by
 intro d;induction d using Nat.strongRecOn with
 |_ d ih=>
  intro i hd hi;have h1:=List.all_eq_true.1 hs i (List.mem_range.2 hi);obtain ⟨j,hj,hj2⟩:=List.any_eq_true.1 h1;simp only [Bool.and_eq_true,decide_eq_true_eq] at hj2;obtain ⟨oj,hoj,e,he,hb,hon⟩:=Region.waitsFor_spec hj2.2;have hjle:j≤L:=by have:=List.mem_range.1 hj;omega
  have hjl:listed.getD j false=true:=by
   by_cases hjL:j=L
   · rw [hjL];exact hL
   · exact ih (L-j) zo j rfl zo
  rw [←hon];exact hc.2 j oj hoj hjl e he hb
theorem ycJ {L:Nat} {listed:Array Bool} (hc:Closed md ops listed) (hC:Region.chainB md ops L=true): ∀(d t:Nat),t=L+d→listed.getD t false=true→listed.getD L false=true
 |0,t,ht,hl=>by rw [←show t=L by omega];exact hl
 |d+1,t,ht,hl=>by
  have htlt:t<ops.size:=by
   rw [←hc.1];rcases Nat.lt_or_ge t listed.size with h|h
   · exact h
   · simp [Array.getElem?_eq_none h] at hl
  have h1:=List.all_eq_true.1 hC t (List.mem_range.2 htlt);simp only [Bool.or_eq_true,decide_eq_true_eq] at h1;rcases h1 with h1|h1
  · omega
  · obtain ⟨oj,hoj,e,he,hb,hon⟩:=Region.waitsFor_spec h1;have:=hc.2 t oj hoj hl e he hb;rw [hon] at this;exact ycJ hc hC d (t-1) zo this
def Region.lastB (md:Region.Mode) (ops:Array Oper) (L:Nat):Bool:=L==ops.size || (Region.sinkB md ops L&&Region.chainB md ops L&&decide (L<ops.size))
theorem yh3 {L:Nat} (hL:Region.lastB md ops L=true) {listed:Array Bool} (hc:Closed md ops listed) {i:Nat} (hi:i∈Region.ready md ops listed) (hne:i<L): ∀j∈Region.ready md ops listed,j<L:=by
 intro j hr;obtain ⟨hun,oi,hoi,_⟩:=mem_ready.1 hi;obtain ⟨_,oj,hoj,_⟩:=mem_ready.1 hr;have hjl:=(Array.getElem?_eq_some_iff.1 hoj).1;simp only [Region.lastB,Bool.or_eq_true,beq_iff_eq,Bool.and_eq_true,decide_eq_true_eq] at hL;rcases hL with hL|⟨⟨hs,hC⟩,hz⟩
 · omega
 · refine Nat.lt_of_not_le fun hLj=>?_;refine tail_waits (md:=md) (ops:=ops) (n:=L) hs hC hz ⟨hc.1,hc.2,fun t ht ht'=>?_⟩ (L-i) i rfl hne hun j hLj hr;refine getD_in (by rw [hc.1];exact ht') ?_;cases hl:listed.getD t false with
   |false=>rfl
   |true=>
    have h1:=ycJ hc hC (t-L) t zo hl;have h2:=ycI hc hs h1 _ i rfl hne;rw [getD_both hun] at h2;cases h2
def wpAnyM (P:Program) (md:Region.Mode) (ops:Array Oper) (Q:Exit→Act→World→Prop) (w0:World) (L:Nat):Nat→Array Bool→Act→World→Prop
 |0,listed,a,w=>Region.ready md ops listed=[]∧ ∀w1,Ext w w1→Q .normal a w1
 |fuel+1,listed,a,w=> ∀w1,Ext w w1→
  (Region.ready md ops listed=[]→Q .normal a w1)∧
  ∀i∈Region.ready md ops listed,(i<L→wpOp P ops Q i (fun a' w'=>Ext w0 w'∧wpAnyM P md ops Q w0 L fuel (listed.setIfInBounds i true) a' w') a w1)∧
   (L≤i→wpOp P ops Q i (fun a' w'=>wpAny P md ops Q fuel (listed.setIfInBounds i true) a' w') a w1)
theorem ya1 {L:Nat}: ∀(fuel:Nat) (listed:Array Bool) (a:Act) (w:World),wpAnyM P md ops Q w0 L fuel listed a w→wpAny P md ops Q fuel listed a w
 |0,_,_,_,h=>⟨h.1,h.2 _ (Ext.refl _)⟩
 |fuel+1,_,_,w,h=>⟨(h w (Ext.refl _)).1,fun i hi=>by
  have h1:=(h w (Ext.refl _)).2 i hi;rcases Nat.lt_or_ge i L with hl|hl
  · exact wpOp_mono (fun a' w' h'=>ya1 fuel _ a' w' h'.2) (h1.1 hl)
  · exact h1.2 hl⟩
theorem wpAnyM.ext {L:Nat} {fuel:Nat} {listed:Array Bool} {a:Act} {w w':World} (h:wpAnyM P md ops Q w0 L fuel listed a w) (he:Ext w w'):wpAnyM P md ops Q w0 L fuel listed a w':=by
 cases fuel with
 |zero=>exact ⟨h.1,fun w1 h1=>h.2 w1 (he.trans h1)⟩
 |succ n=>exact fun w1 h1=>h w1 (he.trans h1)
theorem ycU {j:Nat} {oi oj:Oper} {v:Value} (hj:ops[j]?=some oj) (hap:oi.apart ops oj=true)
 (hsi: ∀cs b,oi.op≠.select cs b) (hsj: ∀cs b,oj.op≠.select cs b)
 (hQ: ∀c a w,Q (.panic c) (a.put oi.dst v) w→Q (.panic c) a w) {K:Act→World→Prop} {a:Act} {w:World}
 (hy:YieldsE P ops w0 oi v a) (h:wpOp P ops Q j K (a.put oi.dst v) w):
 wpOp P ops Q j (fun a' w'=>YieldsE P ops w0 oi v a'∧K (a'.put oi.dst v) w') a w:=by
 obtain ⟨h1,h2,h3⟩:=Oper.apart_spec hap
 have keep: ∀(a:Act),YieldsE P ops w0 oi v a→ ∀u,YieldsE P ops w0 oi v (a.put oj.dst u):=fun a hy u=>
  hy.of_same (execOp_put oi hsi a oj.dst u h3) (wanted_put oi a oj.dst u h3)
 have keepD: ∀d,YieldsE P ops w0 oi v { a with defers:=d::a.defers }:=fun d=>hy.of_same rfl rfl;unfold wpOp at *;simp only [hj] at *;rw [wanted_put oj a oi.dst v h1] at h;split
 · rename_i hw
   simp only [hw,if_true] at h;rcases h with h|⟨hasks,hlets⟩
   case inr=>exact .inr ⟨by unfold Oper.asks at *;rw [execOp_put oj hsj a oi.dst v h1] at hasks;exact hasks,hlets⟩
   refine .inl ?_;unfold Oper.wp at *;rw [execOp_put oj hsj a oi.dst v h1] at h;generalize (execOp a.eval oj).run P w=r at *;cases r with
   |ok n w'=>
    cases n<;>simp only [Oper.upon] at h ⊢
    case value u=>exact ⟨keep a hy u,by rw [←Act.put_comm a v u h2];exact h⟩
    case skip=>exact ⟨keep a hy _,by rw [←Act.put_comm a v undef h2];exact h⟩
    case defer d=>
     refine ⟨keep _ (keepD d) _,?_⟩;rw [←Act.put_comm _ v undef h2, ←Act.put_defers];exact h
    case enter f args=>
     refine Calls.mono h fun e w'' he=>?_;cases e with
     |returned u=>exact ⟨keep a hy u,by rw [←Act.put_comm a v u h2];exact he⟩
     |panicked c=>exact hQ _ _ _ he
     |outgrown=>exact he
    case row row args=>exact Rows.mono h fun u w'' he=>⟨keep a hy u,by rw [←Act.put_comm a v u h2];exact he⟩
   |halt x w'=>
    cases x<;>simp only [Oper.upon] at h ⊢
    case panic u=>exact hQ _ _ _ h
 · rename_i hw
   simp only [hw] at h;exact ⟨keep a hy _,by rw [←Act.put_comm a v undef h2];exact h⟩
theorem ygl {L:Nat} {i:Nat} {oi:Oper} {v:Value} (hLast:Region.lastB md ops L=true) (hiL:i<L) (hi:ops[i]?=some oi) (hsel: ∀(j:Nat) (o:Oper) cs b,ops[j]?=some o→o.op≠.select cs b)
 (hQ: ∀c a w,Q (.panic c) (a.put oi.dst v) w→Q (.panic c) a w):
 ∀(fuel:Nat) (listed:Array Bool) (a:Act) (w:World),Closed md ops listed→
  (∀j oj,ops[j]?=some oj→j≠i→listed.getD j true=false→(∀e∈oj.after,Region.binds md e=true→e.on≠i)→oi.apart ops oj=true)→
  i∈Region.ready md ops listed→YieldsE P ops w0 oi v a→Ext w0 w→
  wpAnyM P md ops Q w0 L fuel (listed.setIfInBounds i true) (a.put oi.dst v) w→wpAnyM P md ops Q w0 L (fuel+1) listed a w:=by
 intro fuel;induction fuel with
 |zero=>
  intro listed a w hcl _ hr hy hS H w1 hw1;refine ⟨fun h=>(by rw [h] at hr;cases hr),fun j hj=>?_⟩;by_cases hji:j=i
  · subst hji;exact ⟨fun _=>hy.wpOp hi (hS.trans hw1) (fun w' hw'=>⟨(hS.trans hw1).trans hw',H.ext (hw1.trans hw')⟩),fun h=>by omega⟩
  · have:=ready_mono hj hji;rw [H.1] at this;cases this
 |succ fuel ih=>
  intro listed a w hcl hfree hr hy hS H w1 hw1;refine ⟨fun h=>(by rw [h] at hr;cases hr),fun j hj=>?_⟩;have hjL:j<L:=yh3 hLast hcl hr hiL j hj;refine ⟨fun _=>?_,fun h=>by omega⟩;by_cases hji:j=i
  · subst hji;exact hy.wpOp hi (hS.trans hw1) (fun w' hw'=>⟨(hS.trans hw1).trans hw',H.ext (hw1.trans hw')⟩)
  · have h1:=((H w1 hw1).2 j (ready_mono hj hji)).1 hjL;obtain ⟨hjun,oj,hoj,hall⟩:=mem_ready.1 hj
    have hnot: ∀e∈oj.after,Region.binds md e=true→e.on≠i:=fun e he hb heq=>by
     have h1:=hall e he hb;have h0:=(mem_ready.1 hr).1;rw [heq] at h1;rcases Nat.lt_or_ge i listed.size with h'|h'
     · simp [h'] at h0 h1;rw [h0] at h1;cases h1
     · simp [Array.getElem?_eq_none h'] at h1
    have h2:=ycU hoj (hfree j oj hoj hji hjun hnot) (fun cs b=>hsel i oi cs b hi) (fun cs b=>hsel j oj cs b hoj) hQ hy h1
    have hfree': ∀k ok,ops[k]?=some ok→k≠i→(listed.setIfInBounds j true).getD k true=false→
     (∀e∈ok.after,Region.binds md e=true→e.on≠i)→oi.apart ops ok=true:=fun k ok hk hki hun hno=>by
     refine hfree k ok hk hki ?_ hno;by_cases hjk:j=k
     · subst hjk;exact hjun
     · rw [getD_set_ne true hjk] at hun;exact hun
    refine wpOp_mono (fun a' w' h3=>⟨h3.2.1,ih (listed.setIfInBounds j true) a' w' (hcl.set hj) hfree' (ready_mono hr (Ne.symm hji)) h3.1 h3.2.1 ?_⟩) h2;rw [Array.setIfInBounds_comm _ _ hji];exact h3.2.2
def pickOps:List Bool→List Oper→List Oper
 |true::m,o::l=>o::pickOps m l
 |false::m,_::l=>pickOps m l
 |_,_=>[]
def markOps:List Bool→Nat→Array Bool→Array Bool
 |true::m,k,l=>markOps m (k+1) (l.setIfInBounds k true)
 |false::m,k,l=>markOps m (k+1) l
 |[],_,l=>l
def countB:List Bool→Nat
 |true::m=>countB m+1
 |false::m=>countB m
 |[]=>0
def lexMask (md:Region.Mode) (ops:Array Oper):List Bool→Nat→Array Bool→Bool
 |true::m,k,l=>(Region.ready md ops l).contains k&&Region.free md ops l k&&lexMask md ops m (k+1) (l.setIfInBounds k true)
 |false::m,k,l=>lexMask md ops m (k+1) l
 |[],_,_=>true
def maskBut (L:Nat):List Bool→Nat→Bool
 |true::m,k=>decide (k<L)&&maskBut L m (k+1)
 |false::m,k=>maskBut L m (k+1)
 |[],_=>true
theorem ybA {L:Nat} (hLast:Region.lastB md ops L=true) (hs:Region.noSelect ops=true) (hQ: ∀(c:List PanicEntry) (a:Act) (d:Option Tmp) (v:Value) (w:World),Q (.panic c) (a.put d v) w→Q (.panic c) a w) (n:Nat): ∀(m:List Bool) (l:List Oper) (k:Nat) (listed:Array Bool) (a:Act),Closed md ops listed→(∀j,l[j]?=ops[k+j]?)→m.length≤l.length→
 lexMask md ops m k listed=true→maskBut L m k=true→wpCalm P ops w0 (fun a'=> ∀X,wpAnyM P md ops Q w0 L n (markOps m k listed) a' (w0.patch X)) (pickOps m l) a→
 ∀X,wpAnyM P md ops Q w0 L (n+countB m) listed a (w0.patch X)
 |[],_,_,_,_,_,_,_,_,_,h,X=>by
  simp only [pickOps,wpCalm,markOps] at h;exact h X
 |_::_,[],_,_,_,_,_,hlen,_,_,_,_=>by simp at hlen
 |false::m,o::l,k,listed,a,hcl,hl,hlen,hB,hM,h,X=>
  ybA hLast hs hQ n m l (k+1) listed a hcl (fun j=>by have:=hl (j+1);simpa [Nat.add_assoc,Nat.add_comm 1 j] using this) (by simpa using hlen) (by simpa [lexMask] using hB) (by simpa [maskBut] using hM) (by simpa [pickOps,markOps] using h) X
 |true::m,o::l,k,listed,a,hcl,hl,hlen,hB,hM,h,X=>by
  have h0:ops[k]?=some o:=by simpa using (hl 0).symm
  simp only [lexMask,Bool.and_eq_true] at hB;obtain ⟨⟨hr,hf⟩,hB'⟩:=hB;simp only [maskBut,Bool.and_eq_true,decide_eq_true_eq] at hM;simp only [pickOps,markOps] at h;obtain ⟨v,hy,hK⟩:=ya2 h;have hr':k∈Region.ready md ops listed:=by simpa using hr
  refine ygl hLast hM.1 h0 (Region.noSelect_spec hs) (fun c a w h=>hQ c a _ _ w h) (n+countB m) listed a _ hcl (Region.free_spec h0 hf) hr' hy ⟨X,rfl⟩ ?_;exact ybA hLast hs hQ n m l (k+1) _ _ (hcl.set hr') (fun j=>by have:=hl (j+1);simpa [Nat.add_assoc,Nat.add_comm 1 j] using this) (by simpa using hlen) hB' hM.2 hK X
theorem yd0 {id:Nat} {a:Act} {w:World} {l:List Oper} (m:List Bool) (n L:Nat) (hm:P.follows .mixedOrders=true) (hs:Region.noSelect l.toArray=true) (hLast:Region.lastB .any l.toArray L=true) (hQ: ∀(c:List PanicEntry) (a:Act) (d:Option Tmp) (v:Value) (w:World),Q (.panic c) (a.put d v) w→Q (.panic c) a w)
 (hlen:m.length≤l.length) (hn:n+countB m=l.length) (hM:maskBut L m 0=true) (hB:lexMask .any l.toArray m 0 (Array.replicate l.length false)=true)
 (h: ∀X00:Extra,wpQuiet P l.toArray (fun w'=> ∃X:Extra,w'=w.patch ⟨X00.blocks++X.blocks,X.drawn⟩) (fun a'=> ∀X,wpAnyM P .any l.toArray Q w L n (markOps m 0 (Array.replicate l.length false)) a' (w.patch X)) (pickOps m l) a):(Code.region id l.toArray true).wp P Q a w:=by
 refine wp_region_any hm (ya1 (w0:=w) (L:=L) _ _ _ _ ?_);obtain ⟨X,hX⟩:=Ext.drew (Ext.refl w);have:=ybA (md:=.any) hLast hs hQ n m l 0 (Array.replicate l.length false) a (Closed.start _ (by simp)) (by simp) hlen hB hM (yav _ _ h) X;rw [←hX] at this;simpa [hn] using this
theorem yab {id:Nat} {a:Act} {w:World} {l:List Oper} (m:List Bool) (n L:Nat)
 (h: ∀X00:Extra,wpQuiet P l.toArray (fun w'=> ∃X:Extra,w'=w.patch ⟨X00.blocks++X.blocks,X.drawn⟩) (fun a'=> ∀X,wpAnyM P .any l.toArray Q w L n (markOps m 0 (Array.replicate l.length false)) a' (w.patch X)) (pickOps m l) a)
 (hm:P.follows .mixedOrders=true:=by kernel_rfl) (hs:Region.noSelect l.toArray=true:=by kernel_rfl) (hLast:Region.lastB .any l.toArray L=true:=by kernel_rfl)
 (hQ: ∀(c:List PanicEntry) (a:Act) (d:Option Tmp) (v:Value) (w:World),Q (.panic c) (a.put d v) w→Q (.panic c) a w:=by (intro c a d v w h;cases d<;>exact h))
 (hlen:m.length≤l.length:=by decide) (hn:n+countB m=l.length:=by decide) (hM:maskBut L m 0=true:=by decide) (hB:lexMask .any l.toArray m 0 (Array.replicate l.length false)=true:=by kernel_rfl):(Code.region id l.toArray true).wp P Q a w:=
 yd0 m n L hm hs hLast hQ hlen hn hM hB h
theorem yah {L n:Nat} {listed:Array Bool} {a:Act} {w:World} (i:Nat) (o:Oper) (hr:Region.ready md ops listed=[i]) (ho:ops[i]?=some o) (hg:o.guard=none) (hiL:i<L)
 (h: ∀X, ∀K:Act→World→Prop, ∀Q':Exit→Act→World→Prop,(∀a' w',Ext w0 w'→wpAnyM P md ops Q w0 L n (listed.setIfInBounds i true) a' w'→K a' w')→o.wp P a (w.patch X) K Q'):wpAnyM P md ops Q w0 L (n+1) listed a w:=by
 rintro w1 ⟨X,rfl⟩;refine ⟨fun h0=>(by rw [hr] at h0;cases h0),fun j hj=>?_⟩;rw [hr] at hj;simp only [List.mem_singleton] at hj;subst hj;refine ⟨fun _=>?_,fun h=>by omega⟩;unfold wpOp;simp only [ho,Region.wanted,hg,if_true];exact .inl (h X _ Q fun a' w' h1 h2=>⟨h1,h2⟩)
theorem yaa {L:Nat} {listed:Array Bool} {a:Act} {w:World} (hr:Region.ready md ops listed=[]) (h: ∀X,Q .normal a (w.patch X)): ∀fuel,wpAnyM P md ops Q w0 L fuel listed a w
 |0=>⟨hr,by rintro w1 ⟨X,rfl⟩;exact h X⟩
 |_+1=>by
  rintro w1 ⟨X,rfl⟩;exact ⟨fun _=>h X,by rw [hr];simp⟩
theorem yg8 {L n:Nat} {listed:Array Bool} {a:Act} {w:World} {l:List Oper} (hn:n=l.length) (hl: ∀j,l[j]?=ops[L+j]?) (hB:Region.seqB md ops l.length L listed=true)
 (h: ∀X,wpList P ops Q l a (w.patch X)):wpAnyM P md ops Q w0 L n listed a w:=by
 subst hn;cases l with
 |nil=>
  have hr:Region.ready md ops listed=[]:=by simpa [Region.seqB] using hB
  exact ⟨hr,by rintro w1 ⟨X,rfl⟩;exact h X⟩
 |cons o l=>
  rintro w1 ⟨X,rfl⟩;have:=wpAny_of_seq (md:=md) (Q':=Q) (o::l) L listed a (w.patch X) hl hB (h X);simp only [List.length_cons] at this ⊢;refine ⟨this.1,fun i hi=>⟨fun hiL=>?_,fun _=>this.2 i hi⟩⟩;have:=seqB_ready hB i hi;omega
theorem yaf {l0:List Oper} {L n:Nat} {listed:Array Bool} {a:Act} {w:World} (hn:n=(l0.drop L).length) (hB:Region.seqB md l0.toArray (l0.drop L).length L listed=true)
 (h: ∀X,wpList P l0.toArray Q (l0.drop L) a (w.patch X)):wpAnyM P md l0.toArray Q w0 L n listed a w:=
 yg8 hn (fun j=>by simp [List.getElem?_drop]) hB h
theorem yaj {n:Nat} {listed:Array Bool} {a:Act} {w:World} (i:Nat) (o:Oper) (hr:Region.ready md ops listed=[i]) (hr':Region.ready md ops (listed.setIfInBounds i true)=[]) (ho:ops[i]?=some o) (hg:o.guard=none)
 (h: ∀X, ∀K:Act→World→Prop, ∀Q':Exit→Act→World→Prop,(∀a' w',(∀Y,Q .normal a' (w'.patch Y))→K a' w')→o.wp P a (w.patch X) K Q'):wpAnyM P md ops Q w0 i (n+1) listed a w:=by
 rintro w1 ⟨X,rfl⟩;refine ⟨fun h0=>(by rw [hr] at h0;cases h0),fun j hj=>?_⟩;rw [hr] at hj;simp only [List.mem_singleton] at hj;subst hj;refine ⟨fun h=>by omega,fun _=>?_⟩;unfold wpOp;simp only [ho,Region.wanted,hg,if_true];refine .inl (h X _ Q fun a' w' h1=>ya1 (w0:=w0) (L:=j) _ _ _ _ (yaa hr' h1 _))
theorem yco {L n:Nat} {listed:Array Bool} {a:Act} {w:World} (i j:Nat) (o u:Oper) (hr:Region.ready md ops listed=[i,j]) (ho:ops[i]?=some o) (hu:ops[j]?=some u) (hg:o.guard=none) (hg':u.guard=none) (hiL:i<L) (hjL:j<L)
 (h: ∀X, ∀K:Act→World→Prop, ∀Q':Exit→Act→World→Prop,(∀a' w',Ext w0 w'→wpAnyM P md ops Q w0 L n (listed.setIfInBounds i true) a' w'→K a' w')→o.wp P a (w.patch X) K Q')
 (h': ∀X, ∀K:Act→World→Prop, ∀Q':Exit→Act→World→Prop,(∀a' w',Ext w0 w'→wpAnyM P md ops Q w0 L n (listed.setIfInBounds j true) a' w'→K a' w')→u.wp P a (w.patch X) K Q'):wpAnyM P md ops Q w0 L (n+1) listed a w:=by
 rintro w1 ⟨X,rfl⟩;refine ⟨fun h0=>(by rw [hr] at h0;cases h0),fun k hk=>?_⟩;rw [hr] at hk;simp only [List.mem_cons,List.not_mem_nil,or_false] at hk;rcases hk with rfl|rfl
 · refine ⟨fun _=>?_,fun h=>by omega⟩;unfold wpOp;simp only [ho,Region.wanted,hg,if_true];exact .inl (h X _ Q fun a' w' h1 h2=>⟨h1,h2⟩)
 · refine ⟨fun _=>?_,fun h=>by omega⟩;unfold wpOp;simp only [hu,Region.wanted,hg',if_true];exact .inl (h' X _ Q fun a' w' h1 h2=>⟨h1,h2⟩)
end
section
variable {P:Program} {ops:Array Oper} {Q:Exit→Act→World→Prop} {md:Region.Mode}
end
end Go
namespace Go
open Go.RowKit
def CellsAt (w:World) (A:Option Addr) (vs:List Value):Prop:=
 ∀i v,vs[i]?=some v→ ∃b o,A=some ⟨b,o,none⟩∧b<w.heap.size∧w.cell? ⟨b,o+i,none⟩=some v
theorem CellsAt.nil (w:World) (A:Option Addr):CellsAt w A []:=fun i v h=>by simp at h
theorem CellsAt.at_ {w:World} {A:Option Addr} {vs:List Value} (h:CellsAt w A vs) {i:Nat} (hi:i<vs.length):
 ∃b o,A=some ⟨b,o,none⟩∧b<w.heap.size∧w.cell? ⟨b,o+i,none⟩=some vs[i]:=h i _ (List.getElem?_eq_getElem hi)
theorem CellsAt.cases {w:World} {A:Option Addr} {vs:List Value} (h:CellsAt w A vs) (hv:0<vs.length):
 ∃b o,A=some ⟨b,o,none⟩∧b<w.heap.size∧ ∀i v,vs[i]?=some v→w.cell? ⟨b,o+i,none⟩=some v:=by
 obtain ⟨b,o,hA,hb,_⟩:=h.at_ hv;refine ⟨b,o,hA,hb,fun i v hi=>?_⟩;obtain ⟨b',o',hA',_,hc⟩:=h i v hi;rw [hA] at hA';simp only [Option.some.injEq,Addr.mk.injEq,and_true] at hA';obtain ⟨rfl,rfl⟩:=hA';exact hc
theorem CellsAt.mk {w:World} {b o:Nat} {vs:List Value} (hb:b<w.heap.size) (h: ∀i v,vs[i]?=some v→w.cell? ⟨b,o+i,none⟩=some v):CellsAt w (some ⟨b,o,none⟩) vs:=
 fun i v hi=>⟨b,o,rfl,hb,h i v hi⟩
theorem CellsAt.ext {w w':World} {A:Option Addr} {vs:List Value} (h:CellsAt w A vs) (he:Ext w w'):CellsAt w' A vs:=fun i v hi=>by
 obtain ⟨b,o,hA,hb,hc⟩:=h i v hi;obtain ⟨X,rfl⟩:=he;exact ⟨b,o,hA,by rw [World.size_patch];omega,by rw [World.cell?_patch _ _ _ _ hb];exact hc⟩
theorem CellsAt.patch {w:World} {A:Option Addr} {vs:List Value} (h:CellsAt w A vs) (X:Extra):CellsAt (w.patch X) A vs:=h.ext ⟨X,rfl⟩
theorem CellsAt.alloc {w:World} {A:Option Addr} {vs:List Value} (h:CellsAt w A vs) (o:Obj):CellsAt (w.alloc o) A vs:=h.ext ((Ext.refl _).alloc o)
theorem CellsAt.drew {w:World} {A:Option Addr} {vs:List Value} (h:CellsAt w A vs):CellsAt w.drew A vs:=h.ext (Ext.refl _).drew
theorem CellsAt.sub {w:World} {A:Option Addr} {vs:List Value} (h:CellsAt w A vs) (k:Nat):CellsAt w (A.map (·.add k)) (vs.drop k):=fun i v hi=>by
 rw [List.getElem?_drop] at hi;obtain ⟨b,o,rfl,hb,hc⟩:=h _ v hi;refine ⟨b,o+k,?_,hb,by rw [Nat.add_assoc];exact hc⟩;simp only [Option.map,Addr.add];split
 · rename_i h0;subst h0;rfl
 · rfl
theorem CellsAt.take {w:World} {A:Option Addr} {vs:List Value} (h:CellsAt w A vs) (k:Nat):CellsAt w A (vs.take k):=fun i v hi=>by
 rw [List.getElem?_take] at hi;split at hi
 · exact h i v hi
 · cases hi
structure Shp where
 arr:Bool
 A:Option Addr
 cap:Nat
 refs:List Bool
namespace Shp
def cells (s:Shp):List Value:=[zb s.arr,.slice s.A s.refs.length s.cap]
def val (s:Shp):Value:=.agg #[zb s.arr,.slice s.A s.refs.length s.cap]
structure Ok (w:World) (s:Shp):Prop where
 refs:CellsAt w s.A (s.refs.map Value.bool)
 len:s.refs.length≤s.cap
 max:s.refs.length≤140737488355328
theorem Ok.ext {w w':World} {s:Shp} (h:s.Ok w) (he:Ext w w'):s.Ok w':=⟨h.refs.ext he,h.len,h.max⟩
def may (s:Shp):Bool:=decide (s.refs.length≤40∧(s.arr=true→s.refs.length=1))
end Shp
structure Cnf where
 frags:Int
 spine:Int
 globals:Int
 threads:Int
 locals:Int
 cache:Int
 stack:Int
 low:Int
 A:Option Addr
 cap:Nat
 shapes:List Shp
namespace Cnf
def val (c:Cnf):Value:=.agg #[zI z6 c.frags,zI z6 c.spine,zI z6 c.globals,zI z6 c.threads,zI z6 c.locals,zI z6 c.cache,zI z6 c.stack,zI z6 c.low,.slice c.A c.shapes.length c.cap]
structure Ok (w:World) (c:Cnf):Prop where
 cells:CellsAt w c.A (c.shapes.flatMap Shp.cells)
 shapes: ∀s∈c.shapes,s.Ok w
 len:c.shapes.length≤c.cap
 max:c.shapes.length≤140737488355328
theorem Ok.ext {w w':World} {c:Cnf} (h:c.Ok w) (he:Ext w w'):c.Ok w':=⟨h.cells.ext he,fun s hs=>(h.shapes s hs).ext he,h.len,h.max⟩
end Cnf
theorem yhQ (l:List Shp) (k:Nat) (s:Shp) (h:l[k]?=some s):(l.flatMap Shp.cells)[k*2]?=some (zb s.arr)∧(l.flatMap Shp.cells)[k*2+1]?=some (.slice s.A s.refs.length s.cap):=by
 induction l generalizing k with
 |nil=>simp at h
 |cons x l ih=>
  cases k with
  |zero=>simp at h;subst h;exact ⟨rfl,rfl⟩
  |succ k=>
   have:=ih k (by simpa using h);rw [show (k+1)*2=k*2+1+1 from zo];simpa [List.flatMap_cons,Shp.cells] using this
theorem ycP {w:World} {A:Option Addr} {l:List Shp} (h:CellsAt w A (l.flatMap Shp.cells)) {k:Nat} (hk:k<l.length):
 ∃b o,A=some ⟨b,o,none⟩∧b<w.heap.size∧w.cell? ⟨b,o+k*2,none⟩=some (zb l[k].arr)∧w.cell? ⟨b,o+k*2+1,none⟩=some (.slice l[k].A l[k].refs.length l[k].cap):=by
 obtain ⟨f0,f1⟩:=yhQ l k l[k] (List.getElem?_eq_getElem hk);obtain ⟨b,o,rfl,hb,hc⟩:=h.cases (by have:=(List.getElem?_eq_some_iff.1 f0).1;omega);exact ⟨b,o,rfl,hb,hc _ _ f0,by rw [Nat.add_assoc];exact hc _ _ f1⟩
theorem ybg (n k:Nat):((n:Int)==(k:Int))=decide (n=k):=by rw [Bool.eq_iff_iff];simp;omega
def within (a b c:Int):Bool:=decide (b≤a∧a≤c)
def badIn (l:List Shp):Bool:=l.any fun s=> !s.may
theorem yew {l:List Shp} {k:Nat} {s:Shp} (hk:l[k]?=some s) (h:s.may=false):badIn l=true:=by
 unfold badIn;rw [List.any_eq_true];exact ⟨s,List.mem_of_getElem? hk,by simp [h]⟩
theorem ykG {l:List Shp} (h: ∀s∈l,s.may=true):badIn l=false:=by
 unfold badIn;rw [List.any_eq_false];intro s hs;simp [h s hs]
theorem ybS {α:Type} {p:α→Prop} {l:List α} {k:Nat} {x:α} (hk:l[k]?=some x) (h: ∀y∈l.take k,p y) (hx:p x): ∀y∈l.take (k+1),p y:=by
 intro y hy;rw [List.take_add_one,hk] at hy;rcases List.mem_append.1 hy with hy|hy
 · exact h y hy
 · simp at hy;subst hy;exact hx
def Cnf.ranges (c:Cnf):List Bool:=[within c.frags 4 1024,within c.spine 0 2048,within c.globals 0 8,within c.threads 1 16,within c.locals 1 8,within c.cache 0 8,within c.stack 1 256,within c.low 0 c.frags]
def Cnf.rangedTo (c:Cnf) (k:Nat):Bool:=(c.ranges.take k).all id
theorem Cnf.rangedTo_succ {c:Cnf} {k:Nat} {b:Bool} (h:c.rangedTo k=true) (hk:c.ranges[k]?=some b) (hb:b=true):c.rangedTo (k+1)=true:=by
 unfold Cnf.rangedTo at *;rw [List.take_add_one,hk,List.all_append,h,hb];rfl
def Cnf.check (c:Cnf):Int:=if c.rangedTo 8&&decide (c.threads*c.cache≤c.frags) then (if within c.shapes.length 1 8&& !badIn c.shapes then 0 else 4) else 1
theorem Cnf.check_out {c:Cnf} {k:Nat} (hk:c.ranges[k]?=some false):c.check=1:=by
 have:c.rangedTo 8=false:=by
  unfold Cnf.rangedTo;rw [List.take_of_length_le (by simp [Cnf.ranges]),List.all_eq_false];exact ⟨false,List.mem_of_getElem? hk,by simp⟩
 simp [Cnf.check,this]
theorem Cnf.ranged {c:Cnf} (h:c.rangedTo 8=true):(4≤c.frags∧c.frags≤1024)∧(0≤c.spine∧c.spine≤2048)∧(0≤c.globals∧c.globals≤8)∧(1≤c.threads∧c.threads≤16)∧(1≤c.locals∧c.locals≤8)∧(0≤c.cache∧c.cache≤8)∧(1≤c.stack∧c.stack≤256)∧(0≤c.low∧c.low≤c.frags):=by
 simpa [Cnf.rangedTo,Cnf.ranges,within] using h
def sData (n:Int):Int:=if n<1∨512<n then 0 else (n+7)/8
theorem yaW (n:Int):0≤sData n∧sData n≤64:=by unfold sData;split<;>omega
namespace Shp
def len (s:Shp):Int:=s.refs.length
def size (s:Shp) (n:Int):Int:=
 if s.may=false∨n<0∨512<n∨(s.arr=false∧0<n) then-1
 else if s.arr=true then 1+sData n else if s.len≤6 then 1 else 1+s.len/7
def spine (s:Shp) (n:Int):Int:=if s.may=false∨s.arr=false∨sData n≤4 then 0 else sData n+2
def hasField (s:Shp) (k:Int):Bool:=s.may&& !s.arr &&decide (0≤k∧k<s.len)
def placeF (k:Int):Int:=if k<6 then 0 else 1+(k-6)/7
def placeW (k:Int):Int:=if k<6 then 2+k else 1+(k-6)%7
def place (s:Shp) (k:Int):Value:=if s.hasField k then .tuple #[zI z6 (placeF k),zI z6 (placeW k),zb true] else .tuple #[zI z6 0,zI z6 0,zb false]
end Shp
def wNone:Value:=zc z4 0 4607182418800017408
def wZero:Value:=zc z4 0 0
def wRef (i:Int):Value:=if i<0∨1099511627776<i then wNone else zc z4 (floatOfInt .f64 (i+1)) 4607182418800017408
def wHead (k m:Int):Value:=if k<0∨1099511627776<k∨m<0∨1099511627776<m then wZero else zc z4 (floatOfInt .f64 k) (floatOfInt .f64 m)
def wWhole (n:Int):Value:=if n< -9007199254740992∨9007199254740992<n then wZero else zc z4 (floatOfInt .f64 n) 0
theorem ybJ:floatOfInt .f64 0=0:=by decide+kernel
theorem yc3:floatOfInt .f64 1=4607182418800017408:=by decide+kernel
theorem yg5:wWhole 0=wZero:=by unfold wWhole wZero;rw [if_neg zo,ybJ]
def wBlank (b:Bool):Value:=if b then wNone else wZero
def Cnf.shapeAt (c:Cnf) (k:Int):Option (Bool × List Bool):=if k<0 then none else (c.shapes[k.toNat]?).map fun s=>(s.arr,s.refs)
theorem Cnf.shapeAt_neg {c:Cnf} {k:Int} (h:k<0):c.shapeAt k=none:=if_pos h
theorem Cnf.shapeAt_big {c:Cnf} {k:Int} (h:(c.shapes.length:Int)≤k):c.shapeAt k=none:=by
 unfold Cnf.shapeAt;rw [if_neg zo,List.getElem?_eq_none zo];rfl
theorem Cnf.shapeAt_in {c:Cnf} {n:Nat} {s:Shp} (h:c.shapes[n]?=some s):c.shapeAt n=some (s.arr,s.refs):=by
 unfold Cnf.shapeAt;rw [if_neg zo,Int.toNat_natCast,h];rfl
theorem yfL {w w':World} (h:Ext w w'):w.grownBy w' none:=by
 obtain ⟨X,rfl⟩:=h;exact ⟨rfl,rfl,rfl,by rw [World.size_patch];omega,fun k hk _=>World.heap_patch _ _ _ hk⟩
theorem yaQ {w w':World} {base e size n:Nat} {v:Value} {xs:List Value} (h:w.ownsRow base e size v n xs) (he:Ext w w'):w'.ownsRow base e size v n xs:=
 h.kept (yfL he) (by cases v.ownBlock<;>simp)
theorem yaC {w w1 w2:World} {row:Option Nat} (h:Ext w w1) (hg:w1.grownBy w2 row) (hr: ∀k,row=some k→w.heap.size≤k):Ext w w2:=
 yaE (h.below.grown hg h.size hr)
theorem ybh {w:World} {base e size n c:Nat} {A:Option Addr} {xs:List Value} (h:w.ownsRow base e size (.slice A n c) n xs):CellsAt w A xs:=fun i v hi=>by
 obtain ⟨h1,h2⟩:=h;rcases h2 with ⟨hv,hn⟩|⟨g,cap,cur,hv,hb,hh,hn,hc,hs,ht⟩
 · subst hn;simp only [Nat.zero_mul] at h1;rw [List.length_eq_zero_iff] at h1;subst h1;simp at hi
 · injection hv with hA _ _;subst hA;refine ⟨g,0,rfl,(Array.getElem?_eq_some_iff.1 hh).1,?_⟩
   have hl:i<n*size:=by
    have:=(List.getElem?_eq_some_iff.1 hi).1;omega
   simp only [World.cell?,hh,Nat.zero_add];rw [←ht,List.getElem?_take_of_lt hl] at hi;simpa using hi
theorem yak {w:World} {base e size n:Nat} {v:Value} {xs:List Value} (h:w.ownsRow base e size v n xs): ∃A c,v=.slice A n c:=by
 rcases h.2 with ⟨hv,hn⟩|⟨g,cap,cur,hv,_⟩
 · subst hn;exact ⟨none,0,hv⟩
 · exact ⟨_,_,hv⟩
theorem ybZ {w:World} {base e size n c:Nat} {A:Option Addr} {xs:List Value} (h:w.ownsRow base e size (.slice A n c) n xs): ∀a,A=some a→base≤a.block:=fun a ha=>by
 subst ha;exact (h.lt a.block rfl).1
theorem CellsAt.rebase {U U':World} {X Z:Extra} {A:Option Addr} {vs:List Value} (h:CellsAt (U.patch X) A vs) (hf: ∀a,A=some a→U.heap.size≤a.block) (hs:U'.heap.size=U.heap.size) (hz: ∃Y,Z.blocks=X.blocks++Y):CellsAt (U'.patch Z) A vs:=fun i v hi=>by
 obtain ⟨b,o,hA,hb,hc⟩:=h i v hi;have hbu:=hf _ hA;simp only at hbu;obtain ⟨Y,hY⟩:=hz;have s1:=World.size_patch U X;have s2:=World.size_patch U' Z;have s3:Z.blocks.size=X.blocks.size+Y.size:=by rw [hY,Array.size_append]
 have e:(U'.patch Z).heap[b]?=(U.patch X).heap[b]?:=by
  show (U'.heap++Z.blocks)[b]?=(U.heap++X.blocks)[b]?;have g1:(U'.heap++(X.blocks++Y))[b]?=(X.blocks++Y)[b-U'.heap.size]?:=Array.getElem?_append_right zo;have g2:(U.heap++X.blocks)[b]?=X.blocks[b-U.heap.size]?:=Array.getElem?_append_right zo;have g3:(X.blocks++Y)[b-U.heap.size]?=X.blocks[b-U.heap.size]?:=Array.getElem?_append_left zo;rw [hY,g1,g2,hs,g3]
 refine ⟨b,o,hA,zo,?_⟩;rw [←hc];exact World.cell?_of_block e
theorem Shp.Ok.rebase {U U':World} {X Z:Extra} {s:Shp} (h:s.Ok (U.patch X)) (hf: ∀a,s.A=some a→U.heap.size≤a.block) (hs:U'.heap.size=U.heap.size) (hz: ∃Y,Z.blocks=X.blocks++Y):s.Ok (U'.patch Z):=
 ⟨h.refs.rebase hf hs hz,h.len,h.max⟩
theorem yek {w:World} {base e size n c:Nat} {A:Option Addr} {xs:List Value} (h:w.ownsRow base e size (.slice A n c) n xs):n≤c∧c≤9223372036854775807:=by
 obtain ⟨_,h2⟩:=h;rcases h2 with ⟨hv,hn⟩|⟨g,cap,cur,hv,hb,hh,hn,hc,_⟩
 · injection hv with _ h1 h2;omega
 · injection hv with _ h1 h2;unfold maxLen at hc;omega
theorem ybk (w:World) (cs:List Value) (t:TypeId): ∀j u,cs[j]?=some u→(w.alloc (.cells cs.toArray t)).cell? ((⟨w.heap.size,0,none⟩:Addr).add j)=some u:=fun j u hj=>by
 have:((⟨w.heap.size,0,none⟩:Addr).add j)=⟨w.heap.size,j,none⟩:=by
  unfold Addr.add;split
  · rename_i h;subst h;rfl
  · simp
 rw [this,World.cell?_alloc_new];simpa using hj
theorem ybo {w:World} {ad:Addr} {vs:List Value} (h:CellsAt w (some ad) vs): ∀j u,vs[j]?=some u→w.cell? (ad.add j)=some u:=fun j u hj=>by
 obtain ⟨b,o,hA,_,hc⟩:=h j u hj;injection hA with hA;subst hA
 have:((⟨b,o,none⟩:Addr).add j)=⟨b,o+j,none⟩:=by
  unfold Addr.add;split
  · rename_i h;subst h;rfl
  · rfl
 rw [this];exact hc
structure Opr where
 kind:Int
 a:Int
 b:Int
 c:Int
 n:Int
 re:Nat
 im:Nat
namespace Opr
def cells (o:Opr):List Value:=[zI z6 o.kind,zI z6 o.a,zI z6 o.b,zI z6 o.c,zI z6 o.n,zc z4 o.re o.im]
def val (o:Opr):Value:=.agg #[zI z6 o.kind,zI z6 o.a,zI z6 o.b,zI z6 o.c,zI z6 o.n,zc z4 o.re o.im]
end Opr
def three (x:Int):Int:=if x%3=0 then 0 else if x%3=1 then 1 else 4
def opOf (k x y z:Int):Opr:=
 if k%20≤1 then ⟨1,x%3,three y,0,0,0,0⟩
 else if k%20=2 then ⟨2,x%3,2+y%2,0,z%50,0,0⟩
 else if k%20≤4 then ⟨3,x%3,y%3,0,z%9,0,0⟩
 else if k%20≤7 then ⟨4,x%3,y%3,0,z%9,0,0⟩
 else if k%20=8 then ⟨5,x%3,y%3,0,z%50,0,0⟩
 else if k%20≤10 then ⟨6,x%3,y%3,0,z%50,0,0⟩
 else if k%20=11 then ⟨7,x%3,0,0,y%2,0,0⟩
 else if k%20=12 then ⟨8,0,x%3,0,y%2,0,0⟩
 else if k%20=13 then ⟨13,x%3,0,0,0,0,0⟩
 else if k%20=14 then ⟨14,x%3,y%3,0,0,0,0⟩
 else if k%20=15 then ⟨12,x%3,0,0,0,floatOfInt .f64 x,floatOfInt .f64 y⟩
 else if k%20=16 then ⟨15+z%2,x%3,y%3,z%3,0,0,0⟩
 else if k%20=17 then ⟨9,x%3,y%3,z%3,0,0,0⟩
 else if k%20=18 then ⟨10+z%2,x%3,y%3,0,0,0,0⟩
 else ⟨17,0,0,0,0,0,0⟩
def opAtOf (bs:List Int) (i:Nat):Opr:=opOf (bs.getD (4*i) 0) (bs.getD (4*i+1) 0) (bs.getD (4*i+2) 0) (bs.getD (4*i+3) 0)
def opCount (bs:List Int):Nat:=min (bs.length/4) 1000
def opsTo (bs:List Int) (k:Nat):List Opr:=(List.range k).map (opAtOf bs)
def opsOf (bs:List Int):List Opr:=opsTo bs (opCount bs)
@[simp] theorem ymg (bs:List Int) (k:Nat):(opsTo bs k).length=k:=by simp [opsTo]
@[simp] theorem ymf (bs:List Int):(opsOf bs).length=opCount bs:=by simp [opsOf]
def Made (t:TypeId) (size n:Nat) (xs:List Value) (w:World) (e:Ending) (w':World):Prop:= ∃v,e=.returned v∧w'.ownsRow w.heap.size t size v n xs∧Ext w w'
theorem ygk {w:World} {A:Option Addr} {bs:List Int} (h:CellsAt w A (bs.map (zI z6))) {k:Nat} (hk:k<bs.length):
 ∃b o,A=some ⟨b,o,none⟩∧b<w.heap.size∧ ∀j,j<bs.length→w.cell? ⟨b,o+j,none⟩=some (zI z6 (bs.getD j 0)):=by
 obtain ⟨b,o,hA,hb,hc⟩:=h.cases (by simp;omega);exact ⟨b,o,hA,hb,fun j hj=>hc j _ (by simp [List.getD_eq_getElem?_getD,hj])⟩
end Go
namespace Go.Proofs.YtdhjjpnajjingaaGreat
open Go Go.RowKit
theorem ya7:(prog.info? 3).map (fun i=>(i.zero,i.size,i.bytes))=some (some (zI z6 0),1,8):=zQ
end Go.Proofs.YtdhjjpnajjingaaGreat
namespace Go
theorem yar {P:Program} {a:Act} {w:World} {Q:Exit→Act→World→Prop} {c rest:Code} (l:Nat) (hf:findLabel c l=some rest)
 (first:c.wp P (Exit.jump l (fun a w=>rest.wp P (Exit.noGoto Q) a w) Q) a w):(Code.scope c).wp P Q a w:=
 wp_scope_jumps l _ (fun _ _=>0) hf first fun _ _ h=>wp_mono h fun e _ _ hq=>by
  cases e<;>first|exact hq|exact hq.elim
theorem Exit.jump_ret {l:Nat} {J:Act→World→Prop} {Q:Exit→Act→World→Prop} {a:Act} {w:World}:Exit.jump l J Q .ret a w=Q .ret a w:=rfl
theorem Calls.added2 {P:Program} {f:FuncId} {args:Array Value} {w:World} {X:Extra} {B C:Array Obj} {v:Value}
 (h:Calls P f args (w.patch ⟨B++(C++X.blocks),X.drawn⟩) (Gives v (w.patch ⟨B++(C++X.blocks),X.drawn⟩))):Calls P f args (w.patch ⟨B++(C++X.blocks),X.drawn⟩) fun e w''=>e=.returned v∧ ∃Y:Extra,w''=w.patch ⟨B++(C++Y.blocks),Y.drawn⟩:=
 h.mono fun _ _ ⟨he,Y,hY⟩=>⟨he,⟨X.blocks++Y.blocks,Y.drawn⟩,by rw [hY,World.patch_patch,Array.append_assoc,Array.append_assoc]⟩
open Go.RowKit
theorem CellsAt.setCell {w:World} {A:Option Addr} {vs:List Value} {p:Addr} {v:Value} (h:CellsAt w A vs) (hp: ∀a,A=some a→p.block≠a.block):CellsAt (w.setCell p v) A vs:=fun i u hi=>by
 obtain ⟨b,o,hA,hb,hc⟩:=h i u hi;refine ⟨b,o,hA,by rw [World.size_setCell];exact hb,?_⟩;rw [←hc];exact World.cell?_setCell_other _ _ _ _ (fun e=>hp _ hA (by rw [e]))
theorem Shp.Ok.setCell {w:World} {s:Shp} {p:Addr} {v:Value} (h:s.Ok w) (hp: ∀a,s.A=some a→p.block≠a.block):s.Ok (w.setCell p v):=
 ⟨h.refs.setCell hp,h.len,h.max⟩
def World.putBlk (w:World) (b:Nat) (o:Obj):World:={ w with heap:=w.heap.setIfInBounds b o }
section
variable (w:World) {b:Nat} {o p:Obj}
@[simp] theorem World.size_putBlk:(w.putBlk b o).heap.size=w.heap.size:=by simp [World.putBlk]
theorem World.row_put (h:b<w.heap.size):(w.putBlk b o).heap[b]?=some o:=by
 simp [World.putBlk,h]
theorem World.row_put_other {k:Nat} (h:b≠k):(w.putBlk b o).heap[k]?=w.heap[k]?:=by
 simp [World.putBlk,h]
theorem World.putBlk_self (h:w.heap[b]?=some o):w.putBlk b o=w:=by
 have e:w.heap.setIfInBounds b o=w.heap:=by
  apply Array.ext_getElem?;intro i;by_cases hi:b=i
  · subst hi;rw [h];simp [(Array.getElem?_eq_some_iff.1 h).1]
  · simp [hi]
 simp only [World.putBlk,e]
theorem World.putBlk_putBlk:(w.putBlk b o).putBlk b p=w.putBlk b p:=by
 simp [World.putBlk]
theorem World.putBlk_patch {X:Extra} (h:b<w.heap.size):(w.patch X).putBlk b o=(w.putBlk b o).patch X:=by
 simp only [World.putBlk,World.patch,World.mk.injEq,and_true];apply Array.ext_getElem?;intro i;by_cases hi:i<w.heap.size<;>by_cases hb:b=i
 · subst hb;simp [h,Array.getElem?_append]
 · simp [hb,hi,Array.getElem?_append]
 · omega
 · simp [hb,hi,Array.getElem?_append]
theorem World.row_alloc_new:(w.alloc o).heap[w.heap.size]?=some o:=by
 show (w.heap.push o)[w.heap.size]?=some o;simp
theorem World.row_alloc_past {k:Nat} (h:k<w.heap.size):(w.alloc o).heap[k]?=w.heap[k]?:=by
 show (w.heap.push o)[k]?=w.heap[k]?;rw [Array.getElem?_push,if_neg zo]
theorem World.setCell_row {c:Array Value} {t:TypeId} {f:Nat × Nat} {i:Nat} {v:Value} (h:w.heap[b]?=some (.cells c t f)):w.setCell ⟨b,i,none⟩ v=w.putBlk b (.cells (c.setIfInBounds i v) t f):=by
 simp only [World.putBlk,World.setCell,World.mk.injEq,and_true];apply Array.ext_getElem?;intro j;have hb:=(Array.getElem?_eq_some_iff.1 h).1;by_cases hj:b=j
 · subst hj;rw [Array.getElem?_modify,h];simp [hb]
 · rw [Array.getElem?_modify];simp [hj]
end
theorem CellsAt.putBlk {w:World} {A:Option Addr} {vs:List Value} {b:Nat} {o:Obj} (h:CellsAt w A vs) (hp: ∀a,A=some a→0<vs.length→b≠a.block):CellsAt (w.putBlk b o) A vs:=fun i u hi=>by
 have hv:0<vs.length:=by have:=(List.getElem?_eq_some_iff.1 hi).1;omega
 obtain ⟨k,q,hA,hb,hc⟩:=h i u hi;refine ⟨k,q,hA,by rw [World.size_putBlk];exact hb,?_⟩;rw [←hc];exact World.cell?_of_block (World.row_put_other _ (show b≠k from hp _ hA hv))
theorem Shp.Ok.putBlk {w:World} {s:Shp} {b:Nat} {o:Obj} (h:s.Ok w) (hp: ∀a,s.A=some a→0<s.refs.length→b≠a.block):s.Ok (w.putBlk b o):=
 ⟨h.refs.putBlk (fun a ha hl=>hp a ha (by simpa using hl)),h.len,h.max⟩
theorem ycg {w:World} {b i:Nat} {l:List Value} {t:TypeId} {v:Value} (h:w.heap[b]?=some (.cells l.toArray t)) (hi:l[i]?=some v):w.cell? ⟨b,i,none⟩=some v:=by
 simp only [World.cell?,h];simpa using hi
theorem ydo {w:World} {b i:Nat} {l:List Value} {t:TypeId} (h:w.heap[b]?=some (.cells l.toArray t)):w.frozen? ⟨b,i,none⟩=false:=by
 simp [World.frozen?,h]
def putFields (s:Shp) (frag:Int) (vs:List Value):Nat→List Value
 |0=>vs
 |k+1=>if s.hasField k=true∧Shp.placeF k=frag then (putFields s frag vs k).set (Shp.placeW k).toNat (wBlank (s.refs.getD k false)) else putFields s frag vs k
theorem yaN (s:Shp) (frag:Int) (vs:List Value): ∀k,(putFields s frag vs k).length=vs.length
 |0=>rfl
 |k+1=>by
  have:=yaN s frag vs k;unfold putFields;split
  · rw [List.length_set,this]
  · exact this
theorem yga {s:Shp} {frag:Int} {vs:List Value} {k:Nat} (h: ¬(s.hasField k=true∧Shp.placeF k=frag)):putFields s frag vs (k+1)=putFields s frag vs k:=if_neg h
theorem yfi {s:Shp} {frag:Int} {vs:List Value} {k:Nat} (h:s.hasField k=true∧Shp.placeF k=frag):putFields s frag vs (k+1)=(putFields s frag vs k).set (Shp.placeW k).toNat (wBlank (s.refs.getD k false)):=if_pos h
def cx (p:Nat × Nat):Value:=zc z4 p.1 p.2
def cxs (f:Nat→Nat × Nat):List Value:=(List.range 8).map fun j=>cx (f j)
def writes (i:Int) (f:Nat→Nat × Nat):Nat→List Value
 |0=>[]
 |k+1=>writes i f k++[zI z6 (i*8+k),cx (f k)]
theorem Shp.placeW_bd (k:Int) (h:0≤k):1≤placeW k∧placeW k≤7:=by
 unfold placeW;split<;>omega
end Go
namespace Go
open Go.RowKit
theorem ybw {w:World} {b:Nat} {t:TypeId} {old cells:Array Value} (h:w.heap[b]?=some (.cells old t)):w.setRow b cells=w.putBlk b (.cells cells t):=by
 simp only [World.putBlk,World.setRow,World.mk.injEq,and_true];apply Array.ext_getElem?;intro j;have hb:=(Array.getElem?_eq_some_iff.1 h).1;by_cases hj:b=j
 · subst hj;rw [Array.getElem?_modify,h];simp [hb]
 · rw [Array.getElem?_modify];simp [hj]
theorem ydy {P:Program} {ops:Array Oper} {rest:List Oper} {op:Oper} {a:Act} {w:World} {X:Extra} {Q:Exit→Act→World→Prop} (hgd:op.guard=none) (ty:TypeId) (x y:Operand) (ho:op.op=.store ty x y)
 (g:Nat) (news:List Value) (hx:a.eval x=zp (some ⟨g,0,none⟩)) (hy:a.eval y=.agg news.toArray)
 (t:TypeId) (old:List Value) (hg:w.heap[g]?=some (.cells old.toArray t)) (hi:(P.info? ty).map (·.size)=some news.length) (hl:old.length=news.length) (h1: ∀v∈news,v.oneCell'=true)
 (h:wpList P ops Q rest (a.put op.dst undef) ((w.putBlk g (.cells news.toArray t)).patch X)):wpList P ops Q (op::rest) a (w.patch X):=by
 have hb:=(Array.getElem?_eq_some_iff.1 hg).1;have hg':(w.patch X).heap[g]?=some (.cells old.toArray t):=by rw [World.heap_patch _ _ _ hb,hg]
 refine wpList_store_row hgd ty x y ho g news.toArray hx hy t old.toArray hg' (by rw [hi];simp) (by simpa using hl) (by simpa using h1) ?_;rw [ybw hg',World.putBlk_patch _ hb];exact h
theorem yaO {P:Program} {ops:Array Oper} {rest:List Oper} {op:Oper} {a:Act} {w:World} {X:Extra} {Q:Exit→Act→World→Prop} (hgd:op.guard=none) (ty:TypeId) (x y:Operand) (ho:op.op=.store ty x y)
 (g i:Nat) (v:Value) (hx:a.eval x=zp (some ⟨g,i,none⟩)) (hy:a.eval y=v)
 (t:TypeId) (old:List Value) (hg:w.heap[g]?=some (.cells old.toArray t)) (hi:(P.info? ty).map (·.size)=some 1) (hl:i<old.length) (h1: ∃p q,v=zc z4 p q)
 (h:wpList P ops Q rest (a.put op.dst undef) ((w.putBlk g (.cells (old.set i v).toArray t)).patch X)):wpList P ops Q (op::rest) a (w.patch X):=by
 have hb:=(Array.getElem?_eq_some_iff.1 hg).1;have hc:(w.patch X).cell? ⟨g,i,none⟩=some old[i]:=by rw [World.cell?_patch _ _ _ _ hb];exact ycg hg (List.getElem?_eq_getElem hl)
 have hf:(w.patch X).frozen? ⟨g,i,none⟩=false:=by rw [World.frozen?_patch _ _ _ _ hb];exact ydo hg
 obtain ⟨p,q,rfl⟩:=h1;refine wpList_plain hgd fun K hK=>?_;unfold Oper.wp execOp
 have hs:(storeVar ty ⟨g,i,none⟩ (zc z4 p q)).run P (w.patch X)=.ok () ((w.putBlk g (.cells (old.set i (zc z4 p q)).toArray t)).patch X):=by
  cases hq:P.info? ty with
  |none=>simp [hq] at hi
  |some inf=>
   have hs:inf.size=1:=by simp [hq] at hi;omega
   have hr:=run_store P (w.patch X) ⟨g,i,none⟩ (zc z4 p q) .plain rfl;rw [hc,hf] at hr
   have hw:(w.patch X).setCell ⟨g,i,none⟩ (zc z4 p q)=(w.putBlk g (.cells (old.set i (zc z4 p q)).toArray t)).patch X:=by
    rw [World.setCell_patch _ _ _ _ _ hb,World.setCell_row _ hg,List.setIfInBounds_toArray]
   simp [storeVar,sizeOf,typeInfo,hq,Value.cells,hs,storeCells];rw [show (⟨g,i,none⟩:Addr).add 0=⟨g,i,none⟩ by simp [Addr.add],hr, ←hw];rfl
 simp only [ho,hx,hy,Instr.storeAt,Instr.sureAddr,Sem.run_bind,Sem.run_pure,Result.andThen_ok,hs];exact hK _ _ h
def World.upTo (w:World) (n:Nat):World:={ w with heap:=w.heap.extract 0 n }
theorem World.size_upTo (w:World) {n:Nat} (h:n≤w.heap.size):(w.upTo n).heap.size=n:=by
 simp [World.upTo];omega
theorem World.heap_upTo (w:World) {n k:Nat} (hk:k<n):(w.upTo n).heap[k]?=w.heap[k]?:=by
 simp only [World.upTo,Array.getElem?_extract];simp;omega
theorem World.cell_upTo (w:World) {n k o:Nat} (hk:k<n):(w.upTo n).cell? ⟨k,o,none⟩=w.cell? ⟨k,o,none⟩:=by
 simp only [World.cell?,World.heap_upTo w hk]
theorem ydf (w:World) {n:Nat} (h:n≤w.heap.size):Ext (w.upTo n) w:=
 yaE ⟨rfl,rfl,rfl,by rw [World.size_upTo w h];exact h,fun k hk=>by rw [World.size_upTo w h] at hk;rw [World.heap_upTo w hk]⟩
theorem Ext.upTo {a w:World} (he:Ext a w) {n:Nat} (hn:a.heap.size≤n) (h:n≤w.heap.size):Ext a (w.upTo n):=by
 obtain ⟨b1,b2,b3,b4,b5⟩:=he.below;exact yaE ⟨b1,b2,b3,by rw [World.size_upTo w h];exact hn,fun k hk=>by rw [World.heap_upTo w zo];exact b5 k hk⟩
theorem CellsAt.upTo {w:World} {A:Option Addr} {vs:List Value} (hc:CellsAt w A vs) {n:Nat} (h:n≤w.heap.size) (ha: ∀a,A=some a→0<vs.length→a.block<n):CellsAt (w.upTo n) A vs:=by
 intro i v hi;obtain ⟨b,o,rfl,hb,hv⟩:=hc i v hi;have hn:=ha _ rfl (by have:=(List.getElem?_eq_some_iff.1 hi).1;omega);exact ⟨b,o,rfl,by rw [World.size_upTo w h];exact hn,by rw [World.cell_upTo w hn];exact hv⟩
theorem Shp.Ok.upTo {w:World} {s:Shp} (hs:s.Ok w) {n:Nat} (h:n≤w.heap.size) (ha: ∀a,s.A=some a→0<s.refs.length→a.block<n):s.Ok (w.upTo n):=
 ⟨hs.refs.upTo h (fun a h1 h2=>ha a h1 (by simpa using h2)),hs.len,hs.max⟩
theorem ya9 {w:World} {b b':Nat} {T:TypeId} {size:Nat} {v:Value} {n:Nat} {xs:List Value} (h:w.ownsRow b T size v n xs) (hb:b'≤b):w.ownsRow b' T size v n xs:=by
 obtain ⟨o1,o2⟩:=h;refine ⟨o1,?_⟩;rcases o2 with ⟨hv,hn⟩|⟨g,cap,cur,hv,hbg,r⟩
 · exact Or.inl ⟨hv,hn⟩
 · exact Or.inr ⟨g,cap,cur,hv,Nat.le_trans hb hbg,r⟩
theorem Ext.cell {a b:World} (h:Ext a b) {k o:Nat} (hk:k<a.heap.size):b.cell? ⟨k,o,none⟩=a.cell? ⟨k,o,none⟩:=World.cell?_of_block (h.heap k hk)
theorem Ext.live {a b:World} (h:Ext a b) {k o:Nat} (hk:k<a.heap.size):b.frozen? ⟨k,o,none⟩=a.frozen? ⟨k,o,none⟩:=World.frozen?_of_block (h.heap k hk)
structure GW where
 own:Nat→Nat
 w:World
structure Mod (T:Nat→Prop) (g g':GW):Prop where
 os:g'.w.os=g.w.os
 tape:g'.w.tape=g.w.tape
 output:g'.w.output=g.w.output
 size:g.w.heap.size≤g'.w.heap.size
 own: ∀k,k<g.w.heap.size→g'.own k=g.own k
 block: ∀k,k<g.w.heap.size→ ¬T (g.own k)→g'.w.heap[k]?=g.w.heap[k]?
namespace Mod
variable {T S:Nat→Prop} {a b c:GW}
theorem refl (T:Nat→Prop) (g:GW):Mod T g g:=⟨rfl,rfl,rfl,Nat.le_refl _,fun _ _=>rfl,fun _ _ _=>rfl⟩
theorem trans (h:Mod T a b) (k:Mod T b c):Mod T a c:=
 ⟨k.os.trans h.os,k.tape.trans h.tape,k.output.trans h.output,Nat.le_trans h.size k.size,fun i hi=>(k.own i (Nat.lt_of_lt_of_le hi h.size)).trans (h.own i hi),
  fun i hi ht=>(k.block i (Nat.lt_of_lt_of_le hi h.size) (by rw [h.own i hi];exact ht)).trans (h.block i hi ht)⟩
theorem mono (h:Mod T a b) (hs: ∀t,T t→S t):Mod S a b:=⟨h.os,h.tape,h.output,h.size,h.own,fun k hk hn=>h.block k hk fun ht=>hn (hs _ ht)⟩
end Mod
def GW.to (g:GW) (t:Nat) (w':World):GW:=⟨fun k=>if k<g.w.heap.size then g.own k else t,w'⟩
theorem GW.to_old {g:GW} {t:Nat} {w':World} {k:Nat} (h:k<g.w.heap.size):(g.to t w').own k=g.own k:=if_pos h
theorem GW.to_new {g:GW} {t:Nat} {w':World} {k:Nat} (h:g.w.heap.size≤k):(g.to t w').own k=t:=if_neg zo
theorem Mod.ext {T:Nat→Prop} {g:GW} {w':World} (h:Ext g.w w') (t:Nat):Mod T g (g.to t w'):=by
 obtain ⟨h1,h2,h3,h4,h5⟩:=h.below;exact ⟨h1,h2,h3,h4,fun k hk=>GW.to_old hk,fun k hk _=>h5 k hk⟩
theorem Mod.set {T:Nat→Prop} {g:GW} {b i:Nat} {v:Value} (h:T (g.own b)):Mod T g ⟨g.own,g.w.setCell ⟨b,i,none⟩ v⟩:=
 ⟨rfl,rfl,rfl,by rw [World.size_setCell];exact Nat.le_refl _,fun _ _=>rfl,fun k _ hn=>Below.heap_setCell _ _ _ _ (fun e=>hn (by simp only at e;rw [e];exact h))⟩
theorem Mod.put {T:Nat→Prop} {g:GW} {b:Nat} {o:Obj} (h:T (g.own b)):Mod T g ⟨g.own,g.w.putBlk b o⟩:=
 ⟨rfl,rfl,rfl,by rw [World.size_putBlk];exact Nat.le_refl _,fun _ _=>rfl,fun k _ hn=>World.row_put_other _ (fun e=>hn (by rw [←e];exact h))⟩
theorem Mod.grown {T:Nat→Prop} {g:GW} {w':World} {row:Option Nat} (h:g.w.grownBy w' row) (t:Nat) (hr: ∀k,row=some k→k<g.w.heap.size→T (g.own k)):Mod T g (g.to t w'):=
 ⟨h.os,h.tape,h.output,h.size,fun k hk=>GW.to_old hk,fun k hk hn=>h.block k hk (fun e=>hn (hr k e.symm hk))⟩
def Does (v:Value) (g:GW) (T:Nat→Prop) (R:GW→Prop) (e:Ending) (w':World):Prop:=e=.returned v∧ ∃own',Mod T g ⟨own',w'⟩∧R ⟨own',w'⟩
theorem Does.mk {v v':Value} {g g':GW} {T:Nat→Prop} {R:GW→Prop} (hv:v'=v) (hm:Mod T g g') (hr:R g'):Does v g T R (.returned v') g'.w:=⟨by rw [hv],g'.own,hm,hr⟩
theorem Does.of {v v':Value} {g:GW} {T:Nat→Prop} {R:GW→Prop} {w':World} (g':GW) (hw:g'.w=w') (hv:v'=v) (hm:Mod T g g') (hr:R g'):Does v g T R (.returned v') w':=by
 subst hw;exact Does.mk hv hm hr
structure Blk (g:GW) (t b:Nat) (T:TypeId) (vs:List Value):Prop where
 row:g.w.heap[b]?=some (.cells vs.toArray T)
 own:g.own b=t
namespace Blk
variable {g g':GW} {t b:Nat} {T:TypeId} {vs:List Value}
theorem lt (h:Blk g t b T vs):b<g.w.heap.size:=(Array.getElem?_eq_some_iff.1 h.row).1
theorem cell (h:Blk g t b T vs) {i:Nat} {v:Value} (hi:vs[i]?=some v):g.w.cell? ⟨b,i,none⟩=some v:=ycg h.row hi
theorem live (h:Blk g t b T vs) (i:Nat):g.w.frozen? ⟨b,i,none⟩=false:=ydo h.row
theorem keep {S:Nat→Prop} (h:Blk g t b T vs) (m:Mod S g g') (hs: ¬S t):Blk g' t b T vs:=
 ⟨by rw [m.block b h.lt (by rw [h.own];exact hs)];exact h.row,by rw [m.own b h.lt];exact h.own⟩
theorem set (h:Blk g t b T vs) (i:Nat) (v:Value):Blk ⟨g.own,g.w.setCell ⟨b,i,none⟩ v⟩ t b T (vs.set i v):=
 ⟨by rw [World.setCell_row _ h.row,List.setIfInBounds_toArray];exact World.row_put _ h.lt,h.own⟩
theorem setOther (h:Blk g t b T vs) {b':Nat} (i:Nat) (v:Value) (hb:b'≠b):Blk ⟨g.own,g.w.setCell ⟨b',i,none⟩ v⟩ t b T vs:=
 ⟨by rw [Below.heap_setCell _ _ _ _ (fun e=>hb (by simpa using e.symm))];exact h.row,h.own⟩
theorem put (h:Blk g t b T vs) (vs':List Value):Blk ⟨g.own,g.w.putBlk b (.cells vs'.toArray T)⟩ t b T vs':=⟨World.row_put _ h.lt,h.own⟩
theorem ext (h:Blk g t b T vs) {w':World} (he:Ext g.w w') (t':Nat):Blk (g.to t' w') t b T vs:=h.keep (S:=fun _=>False) (Mod.ext he t') id
theorem new (g:GW) (t:Nat) (T:TypeId) (vs:List Value):Blk (g.to t (g.w.alloc (.cells vs.toArray T))) t g.w.heap.size T vs:=⟨World.row_alloc_new _,GW.to_new (Nat.le_refl _)⟩
theorem same {t':Nat} {T':TypeId} {vs':List Value} (h:Blk g t b T vs) (k:Blk g t' b T' vs'):vs=vs':=by
 have e:=h.row;rw [k.row] at e;simp only [Option.some.injEq,Obj.cells.injEq] at e;have:=congrArg Array.toList e.1;simpa using this.symm
theorem ne {t' b':Nat} {T':TypeId} {vs':List Value} (h:Blk g t b T vs) (k:Blk g t' b' T' vs') (ht:t≠t'):b≠b':=fun e=>ht (by rw [←h.own, ←k.own,e])
end Blk
structure Row (g:GW) (t:Nat) (E:TypeId) (size:Nat) (v:Value) (n:Nat) (xs:List Value):Prop where
 row:g.w.ownsRow 0 E size v n xs
 own: ∀k,v.ownBlock=some k→g.own k=t
namespace Row
variable {g g':GW} {t:Nat} {E:TypeId} {size n:Nat} {v:Value} {xs:List Value}
theorem lt (h:Row g t E size v n xs): ∀k,v.ownBlock=some k→k<g.w.heap.size:=fun k hk=>(h.row.lt k hk).2
theorem len (h:Row g t E size v n xs):xs.length=n*size:=h.row.1
theorem nil (g:GW) (t:Nat) (E:TypeId) (size:Nat):Row g t E size (.slice none 0 0) 0 []:=⟨World.ownsRow_nil _ _ _ _,fun k hk=>by simp [Value.ownBlock] at hk⟩
theorem form (h:Row g t E size v n xs): ∃A c,v=.slice A n c∧n≤c∧c≤9223372036854775807∧(A=none→n=0):=by
 rcases h.row.2 with ⟨hv,hn⟩|⟨b,cap,cur,hv,_,_,hn,hc,_⟩
 · exact ⟨none,0,by rw [hv,hn],zo,zo,fun _=>hn⟩
 · exact ⟨_,_,hv,hn,hc,fun e=>by cases e⟩
theorem keep {S:Nat→Prop} (h:Row g t E size v n xs) (m:Mod S g g') (hs: ¬S t):Row g' t E size v n xs:=by
 refine ⟨⟨h.row.1,?_⟩,fun k hk=>by rw [m.own k (h.lt k hk)];exact h.own k hk⟩;rcases h.row.2 with hv|⟨b,cap,cur,hv,hb,hr,r⟩
 · exact Or.inl hv
 · have ho:v.ownBlock=some b:=by rw [hv];rfl
   exact Or.inr ⟨b,cap,cur,hv,hb,by rw [m.block b (h.lt b ho) (by rw [h.own b ho];exact hs)];exact hr,r⟩
theorem ext (h:Row g t E size v n xs) {w':World} (he:Ext g.w w') (t':Nat):Row (g.to t' w') t E size v n xs:=h.keep (S:=fun _=>False) (Mod.ext he t') id
theorem cells {A:Option Addr} {c:Nat} (h:Row g t E size (.slice A n c) n xs):CellsAt g.w A xs:=ybh h.row
theorem block {A:Option Addr} {c:Nat} (h:Row g t E size (.slice A n c) n xs) (hn:0<n): ∃b,A=some ⟨b,0,none⟩∧b<g.w.heap.size∧g.own b=t∧(∀j u,xs[j]?=some u→g.w.cell? ⟨b,j,none⟩=some u)∧ ∀j,g.w.frozen? ⟨b,j,none⟩=false:=by
 rcases h.row.2 with ⟨_,h0⟩|⟨b,cap,cur,hv,hb,hr,h1,h2,h3,h4⟩
 · omega
 · simp only [Value.slice.injEq] at hv;obtain ⟨rfl, -,rfl⟩:=hv;refine ⟨b,rfl,h.lt b rfl,h.own b rfl,fun j u hj=>?_,fun j=>by simp [World.frozen?,hr]⟩;have hl:j<n*size:=by have:=(List.getElem?_eq_some_iff.1 hj).1;rw [h.row.1] at this;exact this
   rw [←h4,List.getElem?_take_of_lt hl] at hj;simpa [World.cell?,hr] using hj
theorem store {b c:Nat} (h:Row g t E size (.slice (some ⟨b,0,none⟩) n c) n xs) (j:Nat) (u:Value):Row ⟨g.own,g.w.setCell ⟨b,j,none⟩ u⟩ t E size (.slice (some ⟨b,0,none⟩) n c) n (xs.set j u):=
 ⟨(h.row.stored j u).1,fun k hk=>h.own k hk⟩
theorem setOther {b':Nat} (h:Row g t E size v n xs) (i:Nat) (u:Value) (hb: ∀k,v.ownBlock=some k→b'≠k):Row ⟨g.own,g.w.setCell ⟨b',i,none⟩ u⟩ t E size v n xs:=by
 refine ⟨⟨h.row.1,?_⟩,h.own⟩;rcases h.row.2 with hv|⟨b,cap,cur,hv,hb0,hr,r⟩
 · exact Or.inl hv
 · exact Or.inr ⟨b,cap,cur,hv,hb0,by rw [Below.heap_setCell _ _ _ _ (fun e=>hb b (by rw [hv];rfl) (by simpa using e.symm))];exact hr,r⟩
theorem grown {w':World} {v':Value} {n':Nat} {xs':List Value} (h:Row g t E size v n xs) (hr:w'.ownsRow 0 E size v' n' xs') (hat:v'.ownBlock=v.ownBlock∨v'.ownBlock=some g.w.heap.size):Row (g.to t w') t E size v' n' xs':=
 ⟨hr,fun k hk=>by
  rcases hat with e|e
  · rw [e] at hk;rw [GW.to_old (h.lt k hk)];exact h.own k hk
  · rw [e] at hk;injection hk with hk;subst hk;exact GW.to_new (Nat.le_refl _)⟩
theorem cut {A:Option Addr} {c m:Nat} (h:Row g t E size (.slice A n c) n xs) (hm:m≤n):Row g t E size (.slice A m c) m (xs.take (m*size)):=by
 refine ⟨⟨?_,?_⟩,fun k hk=>h.own k (by cases A<;>simpa [Value.ownBlock] using hk)⟩
 · rw [List.length_take,h.row.1];exact Nat.min_eq_left (Nat.mul_le_mul_right _ hm)
 · rcases h.row.2 with ⟨hv,hn⟩|⟨b,cap,cur,hv,hb,hr,h1,h2,h3,h4⟩
   · simp only [Value.slice.injEq] at hv;obtain ⟨rfl, -,rfl⟩:=hv;exact Or.inl ⟨by rw [show m=0 by omega],zo⟩
   · simp only [Value.slice.injEq] at hv;obtain ⟨rfl, -,rfl⟩:=hv;exact Or.inr ⟨b,_,cur,rfl,hb,hr,Nat.le_trans hm h1,h2,h3,by rw [←h4,List.take_take,Nat.min_eq_left (Nat.mul_le_mul_right _ hm)]⟩
theorem ne {t' b':Nat} {T':TypeId} {vs':List Value} (h:Row g t E size v n xs) (k:Blk g t' b' T' vs') (ht:t≠t'): ∀x,v.ownBlock=some x→b'≠x:=fun x hx e=>ht (by rw [←h.own x hx, ←k.own,e])
theorem ne_type {t' b':Nat} {T':TypeId} {vs':List Value} (h:Row g t E size v n xs) (k:Blk g t' b' T' vs') (hT:E≠T') {x:Nat} (hx:v.ownBlock=some x):b'≠x:=fun e=>by
 rcases h.row.2 with ⟨hv,hn⟩|⟨b,cap,cur,hv,hb0,hr,r⟩
 · rw [hv] at hx;cases hx
 · rw [hv] at hx;injection hx with hx;simp only at hx;have h2:=k.row;rw [e, ←hx,hr] at h2;simp only [Option.some.injEq,Obj.cells.injEq] at h2;exact hT h2.2.1
theorem pt (h:Row g t E size v n xs) (X:Extra):Row (g.to 0 (g.w.patch X)) t E size v n xs:=h.ext ⟨X,rfl⟩ 0
end Row
def GW.pt (g:GW) (X:Extra):GW:=g.to 0 (g.w.patch X)
theorem Mod.pt {T:Nat→Prop} {a g:GW} (h:Mod T a g) (X:Extra):Mod T a (g.pt X):=h.trans (Mod.ext ⟨X,rfl⟩ 0)
theorem Mod.st {T:Nat→Prop} {g:GW} {o:Nat→Nat} {W:World} {b i:Nat} {v:Value} (h:Mod T g ⟨o,W⟩) (hb:T (o b)):Mod T g ⟨o,W.setCell ⟨b,i,none⟩ v⟩:=h.trans (Mod.set (g:=⟨o,W⟩) hb)
theorem Mod.stn {T:Nat→Prop} {g:GW} {o:Nat→Nat} {W:World} {b i:Nat} {v:Value} (h:Mod T g ⟨o,W⟩) (hb:g.w.heap.size≤b):Mod T g ⟨o,W.setCell ⟨b,i,none⟩ v⟩:=
 ⟨h.os,h.tape,h.output,by show g.w.heap.size≤(W.setCell _ _).heap.size;rw [World.size_setCell];exact h.size,h.own,fun k hk ht=>(Below.heap_setCell _ _ _ _ (fun e=>by simp only at e;omega)).trans (h.block k hk ht)⟩
theorem Mod.self {T:Nat→Prop} {g:GW}:Mod T g ⟨g.own,g.w⟩:=Mod.refl T g
theorem Blk.pt {g:GW} {t b:Nat} {T:TypeId} {vs:List Value} (h:Blk g t b T vs) (X:Extra):Blk (g.pt X) t b T vs:=h.ext ⟨X,rfl⟩ 0
theorem Row.ptx {g:GW} {t:Nat} {E:TypeId} {size n:Nat} {v:Value} {xs:List Value} (h:Row g t E size v n xs) (X:Extra):Row (g.pt X) t E size v n xs:=h.ext ⟨X,rfl⟩ 0
theorem Blk.made {g:GW} {w':World} {t b:Nat} {T:TypeId} {vs:List Value} (h:w'.heap[b]?=some (.cells vs.toArray T)) (hb:g.w.heap.size≤b):Blk (g.to t w') t b T vs:=⟨h,GW.to_new hb⟩
theorem Row.made {g:GW} {w':World} {t r n size:Nat} {E:TypeId} {xs:List Value} (h:w'.heap[r]?=some (.cells xs.toArray E)) (hr:g.w.heap.size≤r) (hl:xs.length=n*size) (hm:n≤9223372036854775807):Row (g.to t w') t E size (.slice (some ⟨r,0,none⟩) n n) n xs:=
 ⟨⟨hl,Or.inr ⟨r,n,xs.toArray,rfl,Nat.zero_le _,h,Nat.le_refl _,hm,by simpa using hl,by rw [←hl];simp⟩⟩,fun k hk=>by
   have hk:some r=some k:=hk;injection hk with hk;subst hk;exact GW.to_new hr⟩
theorem yaI (w:World) (o p:Obj):((w.alloc o).alloc p).heap[w.heap.size]?=some o∧((w.alloc o).alloc p).heap[w.heap.size+1]?=some p:=by
 refine ⟨?_,?_⟩
 · rw [World.row_alloc_past _ (by rw [World.size_alloc];omega)];exact World.row_alloc_new _
 · have h:=World.row_alloc_new (w:=w.alloc o) (o:=p);rw [World.size_alloc] at h;exact h
theorem ybR {P:Program} (t e:TypeId) (i:TypeInfo) (z:Value) (size bytes:Nat) (ht:P.underlying t=some (.slice e)) (hi:P.info? e=some i) (hz:i.zero=some z) (hsize:i.size=size) (hby:i.bytes=bytes) (n:Nat) (hn:n*bytes≤281474976710656) (hm:n≤1099511627776) (w:World):
 (Instr.makeSlice t (zI z6 (n:Int)) (zI z6 (n:Int))).run P w=.ok (.slice (some ⟨w.heap.size,0,none⟩) n n) (w.alloc (.cells (madeCells z.cells (n*size)) e)):=by
 have hr:=run_make (P:=P) w t e i z ht hi hz .i64 .i64 n n zo (Int.le_refl _) (by
  rw [hby];have h:((n*bytes:Nat):Int)≤281474976710656:=zo;rw [Int.natCast_mul,Int.mul_comm] at h;exact h) zo
 simp only [Int.toNat_natCast,hsize] at hr;exact hr
theorem ydi (z:Value) (n:Nat):madeCells #[z] (n*1)=(List.replicate n z).toArray:=by
 rw [←toList_madeCells_one z n,Nat.mul_one]
theorem Does.ext {v v':Value} {g:GW} {T:Nat→Prop} {R:GW→Prop} {w':World} (g1:GW) (he:Ext g1.w w') (hv:v'=v) (hm:Mod T g g1) (hr: ∀g2,Mod (fun _=>False) g1 g2→R g2):Does v g T R (.returned v') w':=
 Does.of (g1.to 0 w') rfl hv (hm.trans (Mod.ext he 0)) (hr _ (Mod.ext he 0))
theorem Blk.grown {g:GW} {w':World} {t t' b:Nat} {T:TypeId} {vs:List Value} {row:Option Nat} (h:Blk g t b T vs) (hg:g.w.grownBy w' row) (hr: ∀x,row=some x→b≠x):Blk (g.to t' w') t b T vs:=
 ⟨by have:=hg.block b h.lt (fun e=>hr b e.symm rfl);show w'.heap[b]?=_;rw [this];exact h.row,by rw [GW.to_old h.lt];exact h.own⟩
theorem Does.give {v v':Value} {g:GW} {T:Nat→Prop} {R:GW→Prop} {w':World} (g':GW) (hv:v'=v) (hm:Mod T g g') (hr:R g') (hw:g'.w=w'):Does v g T R (.returned v') w':=Does.of g' hw hv hm hr
def Makes (g:GW) (T:Nat→Prop) (R:Value→GW→Prop) (e:Ending) (w':World):Prop:= ∃v own',e=.returned v∧Mod T g ⟨own',w'⟩∧R v ⟨own',w'⟩
theorem Makes.ext {v:Value} {g:GW} {T:Nat→Prop} {R:Value→GW→Prop} {w':World} (g1:GW) (he:Ext g1.w w') (hm:Mod T g g1) (hr: ∀g2,Mod (fun _=>False) g1 g2→R v g2):Makes g T R (.returned v) w':=
 ⟨v,(g1.to 0 w').own,rfl,hm.trans (Mod.ext he 0),hr _ (Mod.ext he 0)⟩
theorem Row.weak {g:GW} {t:Nat} {E:TypeId} {size n m:Nat} {v:Value} {xs ys:List Value} (h:Row g t E size v n xs) (hn:n=m) (hx:xs=ys):Row g t E size v m ys:=by subst hn hx;exact h
structure Mine (g gr:GW) (E:TypeId) (size:Nat) (v:Value) (n:Nat) (xs:List Value):Prop where
 row:Row gr 0 E size v n xs
 new: ∀k,v.ownBlock=some k→g.w.heap.size≤k
theorem Mine.nil (g gr:GW) (E:TypeId) (size:Nat):Mine g gr E size (.slice none 0 0) 0 []:=⟨Row.nil _ _ _ _,fun k hk=>by simp [Value.ownBlock] at hk⟩
theorem Mine.keep {S:Nat→Prop} {g gr g':GW} {E:TypeId} {size n:Nat} {v:Value} {xs:List Value} (h:Mine g gr E size v n xs) (m:Mod S gr g') (hs: ¬S 0):Mine g g' E size v n xs:=⟨h.row.keep m hs,h.new⟩
theorem Mine.app {T:Nat→Prop} {g gr:GW} {E:TypeId} {size n n':Nat} {v v':Value} {xs xs':List Value} {W w2:World} (h:Mine g gr E size v n xs) (M:Mod T g gr) (he:Ext gr.w W) (hown:w2.ownsRow 0 E size v' n' xs') (hgrow:W.grownBy w2 v.ownBlock)
 (hat:v'.ownBlock=v.ownBlock∨v'.ownBlock=some W.heap.size): ∃own2,Mod T g ⟨own2,w2⟩∧Mine g ⟨own2,w2⟩ E size v' n' xs'∧Mod (fun x=>x=0) gr ⟨own2,w2⟩:=by
 have m1:Mod (fun x=>x=0) gr (gr.to 0 W):=Mod.ext he 0;have m2:Mod (fun x=>x=0) (gr.to 0 W) ((gr.to 0 W).to 0 w2):=Mod.grown hgrow 0 (fun k hk hl=>by rw [GW.to_old (h.row.lt k hk)];exact h.row.own k hk);have m3:=m1.trans m2;have hs:=Nat.le_trans M.size he.size;refine ⟨_,?_,⟨(h.row.ext he 0).grown hown hat,fun k hk=>?_⟩,m3⟩
 · refine ⟨m3.os.trans M.os,m3.tape.trans M.tape,m3.output.trans M.output,Nat.le_trans M.size m3.size,fun k hk=>(m3.own k (Nat.lt_of_lt_of_le hk M.size)).trans (M.own k hk),fun k hk ht=>?_⟩;have hk1:=Nat.lt_of_lt_of_le hk M.size;have e1:W.heap[k]?=gr.w.heap[k]?:=he.heap k hk1;have e2:w2.heap[k]?=W.heap[k]?:=hgrow.block k (Nat.lt_of_lt_of_le hk1 he.size) (fun e=>by have:=h.new k e.symm;omega);exact (e2.trans e1).trans (M.block k hk ht)
 · rcases hat with e|e
   · rw [e] at hk;exact h.new k hk
   · rw [e] at hk;injection hk with hk;omega
structure Seg (g:GW) (t:Nat) (A:Option Addr) (vs:List Value):Prop where
 cells:CellsAt g.w A vs
 own: ∀a,A=some a→0<vs.length→g.own a.block=t
theorem Seg.keep {S:Nat→Prop} {g g':GW} {t:Nat} {A:Option Addr} {vs:List Value} (h:Seg g t A vs) (m:Mod S g g') (hs: ¬S t):Seg g' t A vs:=by
 refine ⟨fun i v hi=>?_,fun a ha hv=>?_⟩
 · obtain ⟨b,o,rfl,hb,hc⟩:=h.cells i v hi;have ho:=h.own _ rfl (by have:=(List.getElem?_eq_some_iff.1 hi).1;omega);exact ⟨b,o,rfl,Nat.lt_of_lt_of_le hb m.size,by rw [←hc];exact World.cell?_of_block (m.block b hb (by rw [ho];exact hs))⟩
 · obtain ⟨b,o,e,hb,_⟩:=h.cells.at_ hv;rw [ha] at e;injection e with e;subst e;rw [m.own b hb];exact h.own _ ha hv
theorem Row.seg {g:GW} {t:Nat} {E:TypeId} {size n c:Nat} {A:Option Addr} {xs:List Value} (h:Row g t E size (.slice A n c) n xs):Seg g t A xs:=⟨h.cells,fun a ha _=>h.own a.block (by rw [ha];rfl)⟩
theorem Seg.nil (g:GW) (t:Nat) (A:Option Addr):Seg g t A []:=⟨CellsAt.nil _ _,fun a ha h=>by simp at h⟩
theorem Seg.ext {g:GW} {t:Nat} {A:Option Addr} {vs:List Value} (h:Seg g t A vs) {w':World} (he:Ext g.w w') (t':Nat):Seg (g.to t' w') t A vs:=h.keep (S:=fun _=>False) (Mod.ext he t') id
theorem Seg.set {g:GW} {t b i:Nat} {v:Value} {A:Option Addr} {vs:List Value} (h:Seg g t A vs) (hb: ∀a,A=some a→0<vs.length→b≠a.block):Seg ⟨g.own,g.w.setCell ⟨b,i,none⟩ v⟩ t A vs:=by
 refine ⟨fun k u hk=>?_,h.own⟩;obtain ⟨x,o,hA,hx,hc⟩:=h.cells k u hk;have hn:=hb _ hA (by have:=(List.getElem?_eq_some_iff.1 hk).1;omega);exact ⟨x,o,hA,by rw [World.size_setCell];exact hx,by rw [←hc];exact World.cell?_setCell_other _ _ _ _ (fun e=>hn (congrArg Addr.block e))⟩
theorem Mod.toExt {g g':GW} (h:Mod (fun _=>False) g g'):Ext g.w g'.w:=yaE ⟨h.os,h.tape,h.output,h.size,fun k hk=>h.block k hk id⟩
structure ShpAt (g:GW) (t:Nat) (s:Shp):Prop where
 seg:Seg g t s.A (s.refs.map Value.bool)
 len:s.refs.length≤s.cap
 max:s.refs.length≤140737488355328
theorem ShpAt.ok {g:GW} {t:Nat} {s:Shp} (h:ShpAt g t s):s.Ok g.w:=⟨h.seg.cells,h.len,h.max⟩
theorem ShpAt.keep {S:Nat→Prop} {g g':GW} {t:Nat} {s:Shp} (h:ShpAt g t s) (m:Mod S g g') (hs: ¬S t):ShpAt g' t s:=⟨h.seg.keep m hs,h.len,h.max⟩
structure CnfAt (g:GW) (t:Nat) (c:Cnf):Prop where
 cells:Seg g t c.A (c.shapes.flatMap Shp.cells)
 shapes: ∀s∈c.shapes,ShpAt g t s
 len:c.shapes.length≤c.cap
 max:c.shapes.length≤140737488355328
theorem CnfAt.ok {g:GW} {t:Nat} {c:Cnf} (h:CnfAt g t c):c.Ok g.w:=⟨h.cells.cells,fun s hs=>(h.shapes s hs).ok,h.len,h.max⟩
theorem CnfAt.keep {S:Nat→Prop} {g g':GW} {t:Nat} {c:Cnf} (h:CnfAt g t c) (m:Mod S g g') (hs: ¬S t):CnfAt g' t c:=⟨h.cells.keep m hs,fun s hm=>(h.shapes s hm).keep m hs,h.len,h.max⟩
def Shp.data (s:Shp):Bool × List Bool:=(s.arr,s.refs)
structure Cnf.Same (c d:Cnf):Prop where
 frags:c.frags=d.frags
 spine:c.spine=d.spine
 globals:c.globals=d.globals
 threads:c.threads=d.threads
 locals:c.locals=d.locals
 cache:c.cache=d.cache
 check:c.check=d.check
 low:c.low=d.low
 shapes:c.shapes.map Shp.data=d.shapes.map Shp.data
theorem ykH {c d:Cnf} (h:c.shapes.map Shp.data=d.shapes.map Shp.data):badIn c.shapes=badIn d.shapes:=by
 have e: ∀l:List Shp,badIn l=(l.map Shp.data).any fun p=> !decide (p.2.length≤40∧(p.1=true→p.2.length=1)):=fun l=>by
  unfold badIn;rw [List.any_map];rfl
 rw [e,e,h]
theorem Cnf.Same.of {c d:Cnf} (h1:c.frags=d.frags) (h2:c.spine=d.spine) (h3:c.globals=d.globals) (h4:c.threads=d.threads) (h5:c.locals=d.locals) (h6:c.cache=d.cache) (h7:c.stack=d.stack) (h8:c.low=d.low) (h9:c.shapes.map Shp.data=d.shapes.map Shp.data):c.Same d:=by
 have hl:c.shapes.length=d.shapes.length:=by have:=congrArg List.length h9;simpa using this
 refine ⟨h1,h2,h3,h4,h5,h6,?_,h8,h9⟩;unfold Cnf.check Cnf.rangedTo Cnf.ranges;rw [h1,h2,h3,h4,h5,h6,h7,h8,hl,ykH h9]
theorem Blk.liv {o:Nat→Nat} {w:World} {t b:Nat} {T:TypeId} {vs:List Value} (h:Blk ⟨o,w⟩ t b T vs) (i:Nat):w.frozen? ⟨b,i,none⟩=false:=h.live i
theorem Blk.k19 {o:Nat→Nat} {w:World} {t b:Nat} {T:TypeId} {v0 v1 v2 v3 v4 v5 v6 v7 v8 v9 v10 v11 v12 v13 v14 v15 v16 v17 v18:Value} (h:Blk ⟨o,w⟩ t b T [v0,v1,v2,v3,v4,v5,v6,v7,v8,v9,v10,v11,v12,v13,v14,v15,v16,v17,v18]):w.cell? ⟨b,0,none⟩=some v0∧w.cell? ⟨b,1,none⟩=some v1∧w.cell? ⟨b,2,none⟩=some v2∧w.cell? ⟨b,3,none⟩=some v3∧w.cell? ⟨b,4,none⟩=some v4∧w.cell? ⟨b,5,none⟩=some v5∧w.cell? ⟨b,6,none⟩=some v6∧w.cell? ⟨b,7,none⟩=some v7∧w.cell? ⟨b,8,none⟩=some v8∧w.cell? ⟨b,9,none⟩=some v9∧w.cell? ⟨b,10,none⟩=some v10∧w.cell? ⟨b,11,none⟩=some v11∧w.cell? ⟨b,12,none⟩=some v12∧w.cell? ⟨b,13,none⟩=some v13∧w.cell? ⟨b,14,none⟩=some v14∧w.cell? ⟨b,15,none⟩=some v15∧w.cell? ⟨b,16,none⟩=some v16∧w.cell? ⟨b,17,none⟩=some v17∧w.cell? ⟨b,18,none⟩=some v18∧b<w.heap.size:=⟨h.cell (i:=0) rfl,h.cell (i:=1) rfl,h.cell (i:=2) rfl,h.cell (i:=3) rfl,h.cell (i:=4) rfl,h.cell (i:=5) rfl,h.cell (i:=6) rfl,h.cell (i:=7) rfl,h.cell (i:=8) rfl,h.cell (i:=9) rfl,h.cell (i:=10) rfl,h.cell (i:=11) rfl,h.cell (i:=12) rfl,h.cell (i:=13) rfl,h.cell (i:=14) rfl,h.cell (i:=15) rfl,h.cell (i:=16) rfl,h.cell (i:=17) rfl,h.cell (i:=18) rfl,h.lt⟩
theorem Blk.k16 {o:Nat→Nat} {w:World} {t b:Nat} {T:TypeId} {v0 v1 v2 v3 v4 v5 v6 v7 v8 v9 v10 v11 v12 v13 v14 v15:Value} (h:Blk ⟨o,w⟩ t b T [v0,v1,v2,v3,v4,v5,v6,v7,v8,v9,v10,v11,v12,v13,v14,v15]):w.cell? ⟨b,0,none⟩=some v0∧w.cell? ⟨b,1,none⟩=some v1∧w.cell? ⟨b,2,none⟩=some v2∧w.cell? ⟨b,3,none⟩=some v3∧w.cell? ⟨b,4,none⟩=some v4∧w.cell? ⟨b,5,none⟩=some v5∧w.cell? ⟨b,6,none⟩=some v6∧w.cell? ⟨b,7,none⟩=some v7∧w.cell? ⟨b,8,none⟩=some v8∧w.cell? ⟨b,9,none⟩=some v9∧w.cell? ⟨b,10,none⟩=some v10∧w.cell? ⟨b,11,none⟩=some v11∧w.cell? ⟨b,12,none⟩=some v12∧w.cell? ⟨b,13,none⟩=some v13∧w.cell? ⟨b,14,none⟩=some v14∧w.cell? ⟨b,15,none⟩=some v15∧b<w.heap.size:=⟨h.cell (i:=0) rfl,h.cell (i:=1) rfl,h.cell (i:=2) rfl,h.cell (i:=3) rfl,h.cell (i:=4) rfl,h.cell (i:=5) rfl,h.cell (i:=6) rfl,h.cell (i:=7) rfl,h.cell (i:=8) rfl,h.cell (i:=9) rfl,h.cell (i:=10) rfl,h.cell (i:=11) rfl,h.cell (i:=12) rfl,h.cell (i:=13) rfl,h.cell (i:=14) rfl,h.cell (i:=15) rfl,h.lt⟩
theorem Blk.k14 {o:Nat→Nat} {w:World} {t b:Nat} {T:TypeId} {v0 v1 v2 v3 v4 v5 v6 v7 v8 v9 v10 v11 v12 v13:Value} (h:Blk ⟨o,w⟩ t b T [v0,v1,v2,v3,v4,v5,v6,v7,v8,v9,v10,v11,v12,v13]):w.cell? ⟨b,0,none⟩=some v0∧w.cell? ⟨b,1,none⟩=some v1∧w.cell? ⟨b,2,none⟩=some v2∧w.cell? ⟨b,3,none⟩=some v3∧w.cell? ⟨b,4,none⟩=some v4∧w.cell? ⟨b,5,none⟩=some v5∧w.cell? ⟨b,6,none⟩=some v6∧w.cell? ⟨b,7,none⟩=some v7∧w.cell? ⟨b,8,none⟩=some v8∧w.cell? ⟨b,9,none⟩=some v9∧w.cell? ⟨b,10,none⟩=some v10∧w.cell? ⟨b,11,none⟩=some v11∧w.cell? ⟨b,12,none⟩=some v12∧w.cell? ⟨b,13,none⟩=some v13∧b<w.heap.size:=⟨h.cell (i:=0) rfl,h.cell (i:=1) rfl,h.cell (i:=2) rfl,h.cell (i:=3) rfl,h.cell (i:=4) rfl,h.cell (i:=5) rfl,h.cell (i:=6) rfl,h.cell (i:=7) rfl,h.cell (i:=8) rfl,h.cell (i:=9) rfl,h.cell (i:=10) rfl,h.cell (i:=11) rfl,h.cell (i:=12) rfl,h.cell (i:=13) rfl,h.lt⟩
theorem Blk.k13 {o:Nat→Nat} {w:World} {t b:Nat} {T:TypeId} {v0 v1 v2 v3 v4 v5 v6 v7 v8 v9 v10 v11 v12:Value} (h:Blk ⟨o,w⟩ t b T [v0,v1,v2,v3,v4,v5,v6,v7,v8,v9,v10,v11,v12]):w.cell? ⟨b,0,none⟩=some v0∧w.cell? ⟨b,1,none⟩=some v1∧w.cell? ⟨b,2,none⟩=some v2∧w.cell? ⟨b,3,none⟩=some v3∧w.cell? ⟨b,4,none⟩=some v4∧w.cell? ⟨b,5,none⟩=some v5∧w.cell? ⟨b,6,none⟩=some v6∧w.cell? ⟨b,7,none⟩=some v7∧w.cell? ⟨b,8,none⟩=some v8∧w.cell? ⟨b,9,none⟩=some v9∧w.cell? ⟨b,10,none⟩=some v10∧w.cell? ⟨b,11,none⟩=some v11∧w.cell? ⟨b,12,none⟩=some v12∧b<w.heap.size:=⟨h.cell (i:=0) rfl,h.cell (i:=1) rfl,h.cell (i:=2) rfl,h.cell (i:=3) rfl,h.cell (i:=4) rfl,h.cell (i:=5) rfl,h.cell (i:=6) rfl,h.cell (i:=7) rfl,h.cell (i:=8) rfl,h.cell (i:=9) rfl,h.cell (i:=10) rfl,h.cell (i:=11) rfl,h.cell (i:=12) rfl,h.lt⟩
theorem Blk.k12 {o:Nat→Nat} {w:World} {t b:Nat} {T:TypeId} {v0 v1 v2 v3 v4 v5 v6 v7 v8 v9 v10 v11:Value} (h:Blk ⟨o,w⟩ t b T [v0,v1,v2,v3,v4,v5,v6,v7,v8,v9,v10,v11]):w.cell? ⟨b,0,none⟩=some v0∧w.cell? ⟨b,1,none⟩=some v1∧w.cell? ⟨b,2,none⟩=some v2∧w.cell? ⟨b,3,none⟩=some v3∧w.cell? ⟨b,4,none⟩=some v4∧w.cell? ⟨b,5,none⟩=some v5∧w.cell? ⟨b,6,none⟩=some v6∧w.cell? ⟨b,7,none⟩=some v7∧w.cell? ⟨b,8,none⟩=some v8∧w.cell? ⟨b,9,none⟩=some v9∧w.cell? ⟨b,10,none⟩=some v10∧w.cell? ⟨b,11,none⟩=some v11∧b<w.heap.size:=⟨h.cell (i:=0) rfl,h.cell (i:=1) rfl,h.cell (i:=2) rfl,h.cell (i:=3) rfl,h.cell (i:=4) rfl,h.cell (i:=5) rfl,h.cell (i:=6) rfl,h.cell (i:=7) rfl,h.cell (i:=8) rfl,h.cell (i:=9) rfl,h.cell (i:=10) rfl,h.cell (i:=11) rfl,h.lt⟩
theorem Blk.k9 {o:Nat→Nat} {w:World} {t b:Nat} {T:TypeId} {v0 v1 v2 v3 v4 v5 v6 v7 v8:Value} (h:Blk ⟨o,w⟩ t b T [v0,v1,v2,v3,v4,v5,v6,v7,v8]):w.cell? ⟨b,0,none⟩=some v0∧w.cell? ⟨b,1,none⟩=some v1∧w.cell? ⟨b,2,none⟩=some v2∧w.cell? ⟨b,3,none⟩=some v3∧w.cell? ⟨b,4,none⟩=some v4∧w.cell? ⟨b,5,none⟩=some v5∧w.cell? ⟨b,6,none⟩=some v6∧w.cell? ⟨b,7,none⟩=some v7∧w.cell? ⟨b,8,none⟩=some v8∧b<w.heap.size:=⟨h.cell (i:=0) rfl,h.cell (i:=1) rfl,h.cell (i:=2) rfl,h.cell (i:=3) rfl,h.cell (i:=4) rfl,h.cell (i:=5) rfl,h.cell (i:=6) rfl,h.cell (i:=7) rfl,h.cell (i:=8) rfl,h.lt⟩
theorem Blk.k8 {o:Nat→Nat} {w:World} {t b:Nat} {T:TypeId} {v0 v1 v2 v3 v4 v5 v6 v7:Value} (h:Blk ⟨o,w⟩ t b T [v0,v1,v2,v3,v4,v5,v6,v7]):w.cell? ⟨b,0,none⟩=some v0∧w.cell? ⟨b,1,none⟩=some v1∧w.cell? ⟨b,2,none⟩=some v2∧w.cell? ⟨b,3,none⟩=some v3∧w.cell? ⟨b,4,none⟩=some v4∧w.cell? ⟨b,5,none⟩=some v5∧w.cell? ⟨b,6,none⟩=some v6∧w.cell? ⟨b,7,none⟩=some v7∧b<w.heap.size:=⟨h.cell (i:=0) rfl,h.cell (i:=1) rfl,h.cell (i:=2) rfl,h.cell (i:=3) rfl,h.cell (i:=4) rfl,h.cell (i:=5) rfl,h.cell (i:=6) rfl,h.cell (i:=7) rfl,h.lt⟩
theorem Blk.k7 {o:Nat→Nat} {w:World} {t b:Nat} {T:TypeId} {v0 v1 v2 v3 v4 v5 v6:Value} (h:Blk ⟨o,w⟩ t b T [v0,v1,v2,v3,v4,v5,v6]):w.cell? ⟨b,0,none⟩=some v0∧w.cell? ⟨b,1,none⟩=some v1∧w.cell? ⟨b,2,none⟩=some v2∧w.cell? ⟨b,3,none⟩=some v3∧w.cell? ⟨b,4,none⟩=some v4∧w.cell? ⟨b,5,none⟩=some v5∧w.cell? ⟨b,6,none⟩=some v6∧b<w.heap.size:=⟨h.cell (i:=0) rfl,h.cell (i:=1) rfl,h.cell (i:=2) rfl,h.cell (i:=3) rfl,h.cell (i:=4) rfl,h.cell (i:=5) rfl,h.cell (i:=6) rfl,h.lt⟩
theorem Blk.k6 {o:Nat→Nat} {w:World} {t b:Nat} {T:TypeId} {v0 v1 v2 v3 v4 v5:Value} (h:Blk ⟨o,w⟩ t b T [v0,v1,v2,v3,v4,v5]):w.cell? ⟨b,0,none⟩=some v0∧w.cell? ⟨b,1,none⟩=some v1∧w.cell? ⟨b,2,none⟩=some v2∧w.cell? ⟨b,3,none⟩=some v3∧w.cell? ⟨b,4,none⟩=some v4∧w.cell? ⟨b,5,none⟩=some v5∧b<w.heap.size:=⟨h.cell (i:=0) rfl,h.cell (i:=1) rfl,h.cell (i:=2) rfl,h.cell (i:=3) rfl,h.cell (i:=4) rfl,h.cell (i:=5) rfl,h.lt⟩
theorem Blk.k5 {o:Nat→Nat} {w:World} {t b:Nat} {T:TypeId} {v0 v1 v2 v3 v4:Value} (h:Blk ⟨o,w⟩ t b T [v0,v1,v2,v3,v4]):w.cell? ⟨b,0,none⟩=some v0∧w.cell? ⟨b,1,none⟩=some v1∧w.cell? ⟨b,2,none⟩=some v2∧w.cell? ⟨b,3,none⟩=some v3∧w.cell? ⟨b,4,none⟩=some v4∧b<w.heap.size:=⟨h.cell (i:=0) rfl,h.cell (i:=1) rfl,h.cell (i:=2) rfl,h.cell (i:=3) rfl,h.cell (i:=4) rfl,h.lt⟩
theorem Blk.k4 {o:Nat→Nat} {w:World} {t b:Nat} {T:TypeId} {v0 v1 v2 v3:Value} (h:Blk ⟨o,w⟩ t b T [v0,v1,v2,v3]):w.cell? ⟨b,0,none⟩=some v0∧w.cell? ⟨b,1,none⟩=some v1∧w.cell? ⟨b,2,none⟩=some v2∧w.cell? ⟨b,3,none⟩=some v3∧b<w.heap.size:=⟨h.cell (i:=0) rfl,h.cell (i:=1) rfl,h.cell (i:=2) rfl,h.cell (i:=3) rfl,h.lt⟩
theorem Blk.k3 {o:Nat→Nat} {w:World} {t b:Nat} {T:TypeId} {v0 v1 v2:Value} (h:Blk ⟨o,w⟩ t b T [v0,v1,v2]):w.cell? ⟨b,0,none⟩=some v0∧w.cell? ⟨b,1,none⟩=some v1∧w.cell? ⟨b,2,none⟩=some v2∧b<w.heap.size:=⟨h.cell (i:=0) rfl,h.cell (i:=1) rfl,h.cell (i:=2) rfl,h.lt⟩
theorem Blk.k2 {o:Nat→Nat} {w:World} {t b:Nat} {T:TypeId} {v0 v1:Value} (h:Blk ⟨o,w⟩ t b T [v0,v1]):w.cell? ⟨b,0,none⟩=some v0∧w.cell? ⟨b,1,none⟩=some v1∧b<w.heap.size:=⟨h.cell (i:=0) rfl,h.cell (i:=1) rfl,h.lt⟩
end Go
