import Derived.Test.YtdhjjpnajjingaaGreatKL14
import Derived.Deep.DeepCutAuto
set_option linter.unusedVariables false
set_option linter.unnecessarySimpa false
set_option linter.unusedSimpArgs false
open Bool renaming true→zT,false→zU
open Go.Value renaming int→zI
open Go.IntKind renaming i64→z6
set_option maxHeartbeats 8000000
set_option maxRecDepth 100000
open Go.Proofs.Tryz
open Go.Lib renaming hid→zH
open Go.Ext renaming alloc→zA,patch→zP,drew→zD,drewN→zN,more→zM,refl→zR,setCell→zS
open Nat renaming le_refl→zL,le_add_right→zK
namespace Go.Proofs.YtdhjjpnajjingaaGreat
open Go Go.RowKit
structure TraceS.Ok (S:TraceS):Prop where
 pc:0≤S.pc∧S.pc≤9
 rng:S.pc≠9→(0≤S.j∧S.j≤64)∧(0≤S.n∧S.n≤512)∧(0≤S.base∧S.base≤100000)
 chk:S.pc≠0→S.pc≠9→S.c.check=0∧S.shp.may=true
 wd:S.pc=1→S.words≠[]
 j3:S.pc=3→S.j+1≤64
 md:S.pc=7→S.mode=1∨S.mode=2
theorem TraceS.Ok.bd {S:TraceS} (h:S.Ok) (h0:S.pc≠0) (h9:S.pc≠9):S.Bd:=
 ⟨by have:=(h.rng h9).1;omega,(h.rng h9).2.1,(h.rng h9).2.2,(h.chk h0 h9).1,(h.chk h0 h9).2⟩
theorem ymp {S:TraceS} (h:S.shp.may=true):S.frs≤64:=by
 unfold TraceS.frs;split
 · exact (yaY S.n).2
 · have h1:S.refs.length≤40:=(of_decide_eq_true h).1;unfold Shp.size Shp.len TraceS.shp;simp only;repeat (first|split|omega)
theorem TraceS.fresh_ok (c:Cnf) (head:Int) (sense:Bool):(TraceS.fresh c head sense).Ok:=⟨by show (0:Int)≤0∧(0:Int)≤9;decide,fun _=>by show ((0:Int)≤0∧(0:Int)≤64)∧((0:Int)≤0∧(0:Int)≤512)∧((0:Int)≤0∧(0:Int)≤100000);decide,fun h=>absurd rfl h,fun h=>absurd h (by show¬(0:Int)=1;decide),fun h=>absurd h (by show¬(0:Int)=3;decide),fun h=>absurd h (by show¬(0:Int)=7;decide)⟩
theorem TraceS.ended_ok {S:TraceS}:({ S with pc:=9,e:=10 }:TraceS).Ok:=⟨by show (0:Int)≤9∧(9:Int)≤9;decide,fun h=>absurd rfl h,fun _ h=>absurd rfl h,fun h=>absurd h (by show¬(9:Int)=1;decide),fun h=>absurd h (by show¬(9:Int)=3;decide),fun h=>absurd h (by show¬(9:Int)=7;decide)⟩
theorem TraceS.pc9_ok {S:TraceS} (h:S.pc=9):S.Ok:=⟨zo,fun e=>absurd h e,fun _ e=>absurd h e,fun e=>by omega,fun e=>by omega,fun e=>by omega⟩
theorem TraceS.gone_ok {S:TraceS} (hr:(0≤S.j∧S.j≤64)∧(0≤S.n∧S.n≤512)∧(0≤S.base∧S.base≤100000)) (hc:S.c.check=0∧S.shp.may=true):S.gone.Ok:=by
 have hf:=ymp hc.2;unfold TraceS.gone TraceS.goes TraceS.goesPc;by_cases hw:S.words≠[]
 · rw [if_pos hw,if_pos hw];exact ⟨by show (0:Int)≤1∧(1:Int)≤9;decide,fun _=>hr,fun _ _=>hc,fun _=>hw,fun h=>absurd h (by show¬(1:Int)=3;decide),fun h=>absurd h (by show¬(1:Int)=7;decide)⟩
 · rw [if_neg hw,if_neg hw];by_cases h1:S.frs≤S.j+1
   · rw [if_pos h1,if_pos h1];exact TraceS.pc9_ok rfl
   · rw [if_neg h1,if_neg h1];by_cases ha:S.arr=false
     · rw [if_pos ha,if_pos ha];exact ⟨by show (0:Int)≤3∧(3:Int)≤9;decide,fun _=>hr,fun _ _=>hc,fun h=>absurd h (by show¬(3:Int)=1;decide),fun _=>by show S.j+1≤64;omega,fun h=>absurd h (by show¬(3:Int)=7;decide)⟩
     · rw [if_neg ha,if_neg ha];have hr':(0≤S.j+1∧S.j+1≤64)∧(0≤S.n∧S.n≤512)∧(0≤S.base∧S.base≤100000):=zo;unfold TraceS.enters TraceS.entersPc;simp only;by_cases hm:S.mode=2
       · rw [if_pos hm,if_pos hm];exact ⟨by show (0:Int)≤4∧(4:Int)≤9;decide,fun _=>hr',fun _ _=>hc,fun h=>absurd h (by show¬(4:Int)=1;decide),fun h=>absurd h (by show¬(4:Int)=3;decide),fun h=>absurd h (by show¬(4:Int)=7;decide)⟩
       · rw [if_neg hm,if_neg hm];exact ⟨by show (0:Int)≤8∧(8:Int)≤9;decide,fun _=>hr',fun _ _=>hc,fun h=>absurd h (by show¬(8:Int)=1;decide),fun h=>absurd h (by show¬(8:Int)=3;decide),fun h=>absurd h (by show¬(8:Int)=7;decide)⟩
structure TrApart (t tm ts tt tp:Nat):Prop where
 a:t≠tm∧t+1≠tm∧t≠ts∧t+1≠ts∧t≠tt∧t+1≠tt∧t≠tp∧t+1≠tp∧tm≠ts∧tm≠tt∧tm≠tp∧ts≠tt∧ts≠tp∧tt≠tp
def trT (t tm ts tt tp:Nat):Nat→Prop:=fun x=>x=t∨x=tm∨x=ts∨x=tt∨x=tp
structure TrAt (g:GW) (t tm ts tt tp b bm bs bt bp:Nat) (w:TrW):Prop where
 tr:TraceAt g t b w.s
 mem:MemAt g tm bm w.m
 shd:ShdAt g ts bs bt tt bp tp w.T w.p w.k
namespace TrW
theorem head_eq (w:TrW):w.head=(⟨w.head.1.s,w.s.rdM w.m w.s.head 1,w.T,w.p,w.k⟩,w.head.2):=by unfold head;split<;>rfl
theorem field_eq (w:TrW):w.field=(⟨w.field.1.s,w.s.rdM w.m w.s.frag (w.s.words.headD 0),w.T,w.p,w.k⟩,w.field.2):=by unfold field;(repeat' split)<;>rfl
theorem link_eq (w:TrW):w.link=(⟨w.link.1.s,w.s.rdM w.m w.s.frag 0,w.T,w.p,w.k⟩,w.link.2):=by unfold link;(repeat' split)<;>rfl
theorem length_eq (w:TrW):w.length=(⟨w.length.1.s,w.s.rdM w.m w.s.head 2,w.T,w.p,w.k⟩,w.length.2):=by unfold length;(repeat' split)<;>rfl
theorem mode_eq (w:TrW):w.mode=(⟨w.mode.1.s,w.s.rdM w.m w.s.head 3,w.T,w.p,w.k⟩,w.mode.2):=by unfold mode;(repeat' split)<;>rfl
theorem base_eq (w:TrW):w.base=(⟨w.base.1.s,w.s.rdM w.m w.s.head 4,w.T,w.p,w.k⟩,w.base.2):=by unfold base;(repeat' split)<;>rfl
theorem slot_eq (w:TrW):w.slot=(⟨w.slot.1.s,w.slotM,w.T,w.p,w.k⟩,w.slot.2):=by unfold slot;split<;>rfl
end TrW
section
variable {t tm ts tt tp b bm bs bt bp:Nat}
theorem yh6 (g:GW) (A:TrApart t tm ts tt tp) (w:TrW) (H:TrAt g t tm ts tt tp b bm bs bt bp w) (hok:w.s.Ok) (h9:w.s.pc≠9) (hc:0≤w.m.count∧w.m.count≤1099511627776) (hk:0≤w.k∧w.k≤1099511627776):
 Calls prog 229 #[.pointer (some ⟨b,0,none⟩),.pointer (some ⟨bm,0,none⟩),.pointer (some ⟨bs,0,none⟩)] g.w (Does (.bool w.does.2) g (trT t tm ts tt tp) (fun g'=>TrAt g' t tm ts tt tp b bm bs bt bp w.does.1)):=by
 have hA:=A.a;obtain ⟨P,hP⟩:=H.tr;have keepS: ∀g',Mod (fun x=>x=t∨x=tm) g g'→ShdAt g' ts bs bt tt bp tp w.T w.p w.k:=fun g' m=>H.shd.keep m zo zo zo;have keepM: ∀g',Mod (fun x=>x=t∨x=ts∨x=tt∨x=tp) g g'→MemAt g' tm bm w.m:=fun g' m=>H.mem.keep m zo;have sub1: ∀x,(x=t∨x=tm)→trT t tm ts tt tp x:=fun x hx=>by unfold trT;omega
 have sub2: ∀x,(x=t∨x=ts∨x=tt∨x=tp)→trT t tm ts tt tp x:=fun x hx=>by unfold trT;omega
 obtain ⟨S,m,T,p,k⟩:=w;simp only at *;have hpc:=hok.pc;rcases (show S.pc=0∨S.pc=1∨S.pc=2∨S.pc=3∨S.pc=4∨S.pc=5∨S.pc=6∨S.pc=7∨S.pc=8 by omega) with e|e|e|e|e|e|e|e|e
 · have hr:=hok.rng h9;have hd:TrW.does ⟨S,m,T,p,k⟩=TrW.head ⟨S,m,T,p,k⟩:=by unfold TrW.does;simp only;rw [if_pos e]
   rw [hd,TrW.head_eq];exact (yiA g t b tm bm bs S m ⟨P,hP⟩ H.mem hc zo zo e zo zo zo T p k).mono (fun e w' h=>Does.impT h sub1 (fun g' m r=>⟨r.1,r.2,keepS g' m⟩))
 all_goals have hb:=hok.bd zo h9
 · have hd:TrW.does ⟨S,m,T,p,k⟩=TrW.field ⟨S,m,T,p,k⟩:=by unfold TrW.does;simp only [e];rfl
   have hw:=hok.wd e;obtain ⟨x,l,hxl⟩:=List.exists_cons_of_ne_nil hw;have hq:=TrW.field_eq ⟨S,m,T,p,k⟩;simp only [hxl,List.headD_cons] at hq;rw [hd,hq];refine ybs g t b bm bs S ⟨P,hP⟩ zo zo _ _ _ ?_;exact (ygv g t b tm bm bs S P m x l hP H.mem hc zo zo e hxl hb _ _ T p k hq).mono (fun e w' h=>Does.impT h sub1 (fun g' m r=>⟨r.1,r.2,keepS g' m⟩))
 · have hd:TrW.does ⟨S,m,T,p,k⟩=TrW.grey ⟨S,m,T,p,k⟩:=by unfold TrW.does;simp only [e];rfl
   rw [hd];refine ybs g t b bm bs S ⟨P,hP⟩ zo zo _ _ _ ?_;exact (yh8 g t b bm ts bs bt tt bp tp S P T p k hP H.shd hk e hb zo zo zo zo zo zo zo zo zo).mono (fun e w' h=>Does.impT h sub2 (fun g' m r=>⟨r.1,keepM g' m,r.2⟩))
 · have hd:TrW.does ⟨S,m,T,p,k⟩=TrW.link ⟨S,m,T,p,k⟩:=by unfold TrW.does;simp only [e];rfl
   have hq:=TrW.link_eq ⟨S,m,T,p,k⟩;rw [hd,hq];refine ybs g t b bm bs S ⟨P,hP⟩ zo zo _ _ _ ?_;exact (yh9 g t b tm bm bs S P m hP H.mem hc zo zo e hb _ _ T p k hq).mono (fun e w' h=>Does.impT h sub1 (fun g' m r=>⟨r.1,r.2,keepS g' m⟩))
 · have hd:TrW.does ⟨S,m,T,p,k⟩=TrW.part ⟨S,m,T,p,k⟩:=by unfold TrW.does;simp only [e];rfl
   rw [hd];refine ybs g t b bm bs S ⟨P,hP⟩ zo zo _ _ _ ?_;exact (yia g t b bm ts bs bt tt bp tp S P T p k hP H.shd hk e hb zo zo zo zo zo zo zo zo zo).mono (fun e w' h=>Does.impT h sub2 (fun g' m r=>⟨r.1,keepM g' m,r.2⟩))
 · have hd:TrW.does ⟨S,m,T,p,k⟩=TrW.length ⟨S,m,T,p,k⟩:=by unfold TrW.does;simp only [e];rfl
   have hq:=TrW.length_eq ⟨S,m,T,p,k⟩;rw [hd,hq];refine ybr g t b bm bs S ⟨P,hP⟩ zo _ _ _ ?_;exact (yfa g t b tm bm S P m hP H.mem hc zo zo e hb _ _ T p k hq).mono (fun e w' h=>Does.impT h sub1 (fun g' m r=>⟨r.1,r.2,keepS g' m⟩))
 · have hd:TrW.does ⟨S,m,T,p,k⟩=TrW.mode ⟨S,m,T,p,k⟩:=by unfold TrW.does;simp only [e];rfl
   have hq:=TrW.mode_eq ⟨S,m,T,p,k⟩;rw [hd,hq];refine ybr g t b bm bs S ⟨P,hP⟩ zo _ _ _ ?_;exact (ygU g t b tm bm S P m hP H.mem hc zo zo e hb _ _ T p k hq).mono (fun e w' h=>Does.impT h sub1 (fun g' m r=>⟨r.1,r.2,keepS g' m⟩))
 · have hd:TrW.does ⟨S,m,T,p,k⟩=TrW.base ⟨S,m,T,p,k⟩:=by unfold TrW.does;simp only [e];rfl
   have hq:=TrW.base_eq ⟨S,m,T,p,k⟩;rw [hd,hq];refine ybr g t b bm bs S ⟨P,hP⟩ zo _ _ _ ?_;exact (ygT g t b tm bm S P m hP H.mem hc zo zo e (hok.md e) hb _ _ T p k hq).mono (fun e w' h=>Does.impT h sub1 (fun g' m r=>⟨r.1,r.2,keepS g' m⟩))
 · have hd:TrW.does ⟨S,m,T,p,k⟩=TrW.slot ⟨S,m,T,p,k⟩:=by unfold TrW.does;simp only [e];rfl
   have hq:=TrW.slot_eq ⟨S,m,T,p,k⟩;rw [hd,hq];refine ybr g t b bm bs S ⟨P,hP⟩ zo _ _ _ ?_;exact (ygV g t b tm bm S P m hP H.mem hc zo zo e hb _ _ _ T p k hq).mono (fun e w' h=>Does.impT h sub1 (fun g' m r=>⟨r.1,r.2,keepS g' m⟩))
theorem yeA {w:TrW} (h:w.s.Ok):w.ticked.s.Ok:=⟨h.pc,h.rng,h.chk,h.wd,h.j3,h.md⟩
theorem yh7 (g:GW) (A:TrApart t tm ts tt tp) (w:TrW) (H:TrAt g t tm ts tt tp b bm bs bt bp w) (hok:w.s.Ok) (hs:0≤w.s.steps∧w.s.steps≤1099511627776) (hc:0≤w.m.count∧w.m.count≤1099511627776) (hk:0≤w.k∧w.k≤1099511627776):
 Calls prog 167 #[.pointer (some ⟨b,0,none⟩),.pointer (some ⟨bm,0,none⟩),.pointer (some ⟨bs,0,none⟩)] g.w (Does (.bool (w.step.s.pc==9)) g (trT t tm ts tt tp) (fun g'=>TrAt g' t tm ts tt tp b bm bs bt bp w.step)):=by
 have hA:=A.a;by_cases h9:w.s.pc=9
 · have hst:w.step=w:=by unfold TrW.step;rw [if_pos h9]
   rw [hst,h9]
   exact (ykT g t b bm bs w.s H.tr h9).mono (fun e w' h=>by
    obtain ⟨rfl,rfl⟩:=h;exact ⟨rfl,g.own,Mod.refl _ _,H⟩)
 · obtain ⟨P,hP⟩:=H.tr;have m1:Mod (fun x=>x=t) g ⟨g.own,g.w.setCell ⟨b,22,none⟩ (zI z6 (w.s.steps+1))⟩:=Mod.st Mod.self hP.blk.own;have H1:TrAt ⟨g.own,g.w.setCell ⟨b,22,none⟩ (zI z6 (w.s.steps+1))⟩ t tm ts tt tp b bm bs bt bp w.ticked:=⟨H.tr.ticked,H.mem.keep m1 zo,H.shd.keep m1 zo zo zo⟩;have hd:=yh6 _ A w.ticked H1 (yeA hok) h9 hc hk;have hg:=ylq g t b bm bs w.s w.ticked.does.1.s w.ticked.does.2 (trT t tm ts tt tp) (fun g'=>MemAt g' tm bm w.ticked.does.1.m∧ShdAt g' ts bs bt tt bp tp w.ticked.does.1.T w.ticked.does.1.p w.ticked.does.1.k) H.tr h9 hs (Or.inl rfl) (fun g g' m r=>⟨r.1.keep m zo,r.2.keep m zo zo zo⟩) (hd.mono (fun e w' h=>Does.impT h (fun _ hx=>hx) (fun g' m r=>⟨r.tr,r.mem,r.shd⟩)));have hst:w.step=if w.ticked.does.2 then w.ticked.does.1 else w.ticked.does.1.ended:=by unfold TrW.step;rw [if_neg h9]
   rw [hst];generalize w.ticked.does=q at *;obtain ⟨W,ok⟩:=q;cases ok
   · exact hg.mono (fun e w' h=>Does.impT h (fun _ hx=>hx) (fun g' m r=>⟨r.1,r.2.1,r.2.2⟩))
   · exact hg.mono (fun e w' h=>Does.impT h (fun _ hx=>hx) (fun g' m r=>⟨r.1,r.2.1,r.2.2⟩))
end
theorem yev (S:TraceS) (m:MemS) (f k:Int):(S.rdM m f k).l=m.l∧m.count≤(S.rdM m f k).count∧(S.rdM m f k).count≤m.count+1:=by
 unfold TraceS.rdM;split
 · exact ⟨rfl,by show m.count≤m.count+1;omega,Int.le_refl _⟩
 · exact ⟨rfl,Int.le_refl _,zo⟩
theorem ymB {S:TraceS} {m:MemS} {f k:Int} {v:Nat × Nat} (h:S.rd m f k=some v):S.c.check=0:=by
 unfold TraceS.rd at h;split at h
 · rename_i h1
   simp only [Bool.and_eq_true] at h1;exact (of_decide_eq_true h1.1).1
 · cases h
theorem gone_same (S:TraceS):S.gone.c=S.c∧S.gone.head=S.head∧S.gone.sense=S.sense∧S.gone.steps=S.steps∧S.gone.e=S.e:=by
 unfold TraceS.gone TraceS.goes TraceS.enters;(repeat' split)<;>exact ⟨rfl,rfl,rfl,rfl,rfl⟩
theorem first_same (S:TraceS) (v:Nat × Nat):(S.first v).1.c=S.c∧(S.first v).1.head=S.head∧(S.first v).1.sense=S.sense∧(S.first v).1.steps=S.steps∧(S.first v).1.e=S.e:=by
 unfold TraceS.first;(repeat' split)<;>first|exact ⟨rfl,rfl,rfl,rfl,rfl⟩|exact gone_same _
structure TrW.Keeps (w w':TrW):Prop where
 c:w'.s.c=w.s.c
 head:w'.s.head=w.s.head
 sense:w'.s.sense=w.s.sense
 steps:w'.s.steps=w.s.steps
 ml:w'.m.l=w.m.l
 cnt:w.m.count≤w'.m.count∧w'.m.count≤w.m.count+1
 k:w.k≤w'.k∧w'.k≤w.k+1
theorem yaX {w:TrW} {f k:Int} {S':TraceS} (h:S'.c=w.s.c∧S'.head=w.s.head∧S'.sense=w.s.sense∧S'.steps=w.s.steps):w.Keeps ⟨S',w.s.rdM w.m f k,w.T,w.p,w.k⟩:=
 ⟨h.1,h.2.1,h.2.2.1,h.2.2.2,(yev _ _ _ _).1,(yev _ _ _ _).2,⟨Int.le_refl _,by show w.k≤w.k+1;omega⟩⟩
theorem yg7 (w:TrW):w.Keeps w.does.1:=by
 have g:=gone_same;unfold TrW.does;split
 · rw [TrW.head_eq];refine yaX ?_;unfold TrW.head;split
   · exact ⟨rfl,rfl,rfl,rfl⟩
   · rename_i v _
     exact ⟨(first_same w.s v).1,(first_same w.s v).2.1,(first_same w.s v).2.2.1,(first_same w.s v).2.2.2.1⟩
 split
 · split
   · rw [TrW.mode_eq];refine yaX ?_;unfold TrW.mode;(repeat' split)<;>exact ⟨rfl,rfl,rfl,rfl⟩
   split
   · rw [TrW.base_eq];refine yaX ?_;unfold TrW.base;(repeat' split)<;>exact ⟨rfl,rfl,rfl,rfl⟩
   split
   · rw [TrW.slot_eq]
     have hs:w.slot.1.s.c=w.s.c∧w.slot.1.s.head=w.s.head∧w.slot.1.s.sense=w.s.sense∧w.slot.1.s.steps=w.s.steps:=by
      unfold TrW.slot;split<;>exact ⟨rfl,rfl,rfl,rfl⟩
     unfold TrW.slotM;split
     · exact yaX hs
     · exact ⟨hs.1,hs.2.1,hs.2.2.1,hs.2.2.2,rfl,⟨by show w.m.count≤w.m.count+1;omega,Int.le_refl _⟩,⟨Int.le_refl _,by show w.k≤w.k+1;omega⟩⟩
   · rw [TrW.length_eq];refine yaX ?_;unfold TrW.length;(repeat' split)<;>exact ⟨rfl,rfl,rfl,rfl⟩
 split
 · exact ⟨(g _).1,(g _).2.1,(g _).2.2.1,(g _).2.2.2.1,rfl,⟨Int.le_refl _,by show w.m.count≤w.m.count+1;omega⟩,⟨by show w.k≤w.k+1;omega,Int.le_refl _⟩⟩
 split
 · rw [TrW.link_eq];refine yaX ?_;unfold TrW.link;(repeat' split)<;>exact ⟨rfl,rfl,rfl,rfl⟩
 split
 · exact ⟨(g _).1,(g _).2.1,(g _).2.2.1,(g _).2.2.2.1,rfl,⟨Int.le_refl _,by show w.m.count≤w.m.count+1;omega⟩,⟨by show w.k≤w.k+1;omega,Int.le_refl _⟩⟩
 · rw [TrW.field_eq];refine yaX ?_;unfold TrW.field;(repeat' split)<;>first|exact ⟨rfl,rfl,rfl,rfl⟩|exact ⟨(g _).1,(g _).2.1,(g _).2.2.1,(g _).2.2.2.1⟩
theorem yk5 {w:TrW} (h:w.s.Ok) (h9:w.s.pc≠9) (hd:w.does.2=true):w.does.1.s.Ok:=by
 have hr:=h.rng h9;have hc:=fun h0=>h.chk h0 h9;have nine: ∀{S:TraceS},S.pc=9→S.Ok:=fun h=>TraceS.pc9_ok h;revert hd;unfold TrW.does;split
 · unfold TrW.head;split
   · intro hd;cases hd
   · rename_i v hv
     have hck:=ymB hv;unfold TraceS.first;split
     · intro hd;cases hd
     split
     · intro hd;cases hd
     rename_i kd md ht arr refs hk
     have hmay:=ybI hck hk none 0;split
     · intro hd;cases hd
     split
     · intro _;exact ⟨by show (0:Int)≤5∧(5:Int)≤9;decide,fun _=>hr,fun _ _=>⟨hck,hmay⟩,fun h=>absurd h (by show¬(5:Int)=1;decide),fun h=>absurd h (by show¬(5:Int)=3;decide),fun h=>absurd h (by show¬(5:Int)=7;decide)⟩
     · intro _;exact TraceS.gone_ok hr ⟨hck,hmay⟩
 rename_i h0
 have hc:=hc h0;split
 · split
   · unfold TrW.mode;split
     · intro hd;cases hd
     split
     · intro hd;cases hd
     rename_i n hn
     split
     · intro hd;cases hd
     rename_i hcond
     intro _;by_cases hn0:n=0
     · refine ⟨?_,fun _=>hr,fun _ _=>hc,fun h=>?_,fun h=>?_,fun h=>?_⟩
       · show (0:Int)≤(if n=0 then 8 else 7)∧(if n=0 then (8:Int) else 7)≤9;split<;>decide
       · have h:(if n=0 then (8:Int) else 7)=1:=h;rw [if_pos hn0] at h;omega
       · have h:(if n=0 then (8:Int) else 7)=3:=h;rw [if_pos hn0] at h;omega
       · have h:(if n=0 then (8:Int) else 7)=7:=h;rw [if_pos hn0] at h;omega
     · refine ⟨?_,fun _=>hr,fun _ _=>hc,fun h=>?_,fun h=>?_,fun h=>?_⟩
       · show (0:Int)≤(if n=0 then 8 else 7)∧(if n=0 then (8:Int) else 7)≤9;split<;>decide
       · have h:(if n=0 then (8:Int) else 7)=1:=h;rw [if_neg hn0] at h;omega
       · have h:(if n=0 then (8:Int) else 7)=3:=h;rw [if_neg hn0] at h;omega
       · show n=1∨n=2;have: ¬n<0:=fun e=>hcond (Or.inl e);have: ¬2<n:=fun e=>hcond (Or.inr (Or.inl e));omega
   split
   · have hw:=yea hc.1;have hfr:=(Cnf.ranged (Cnf.check_zero hc.1).1).1;have hsd:=yaY w.s.n;unfold TrW.base;split
     · intro hd;cases hd
     split
     · split
       · intro hd;cases hd
       split
       · intro hd;cases hd
       intro _;refine ⟨by show (0:Int)≤8∧(8:Int)≤9;decide,fun _=>⟨hr.1,hr.2.1,?_⟩,fun _ _=>hc,fun h=>absurd h (by show¬(8:Int)=1;decide),fun h=>absurd h (by show¬(8:Int)=3;decide),fun h=>absurd h (by show¬(8:Int)=7;decide)⟩;rename_i a _ hcond _ _
       show 0≤a∧a≤100000;omega
     · split
       · intro hd;cases hd
       rename_i i hi
       have hib:=(yc9 hi).1;split
       · intro hd;cases hd
       intro _;refine ⟨by show (0:Int)≤4∧(4:Int)≤9;decide,fun _=>⟨hr.1,hr.2.1,?_⟩,fun _ _=>hc,fun h=>absurd h (by show¬(4:Int)=1;decide),fun h=>absurd h (by show¬(4:Int)=3;decide),fun h=>absurd h (by show¬(4:Int)=7;decide)⟩;show 0≤i∧i≤100000;omega
   split
   · unfold TrW.slot;split
     · intro hd;cases hd
     intro _;exact ⟨by show (0:Int)≤4∧(4:Int)≤9;decide,fun _=>hr,fun _ _=>hc,fun h=>absurd h (by show¬(4:Int)=1;decide),fun h=>absurd h (by show¬(4:Int)=3;decide),fun h=>absurd h (by show¬(4:Int)=7;decide)⟩
   · unfold TrW.length;split
     · intro hd;cases hd
     split
     · intro hd;cases hd
     rename_i n hn
     split
     · intro hd;cases hd
     rename_i hcond
     intro _;by_cases hn0:n=0
     · exact nine (by show (if n=0 then (9:Int) else 6)=9;rw [if_pos hn0])
     · have h6:(if n=0 then (9:Int) else 6)=6:=if_neg hn0;refine ⟨?_,fun _=>⟨hr.1,?_,hr.2.2⟩,fun _ _=>hc,fun h=>?_,fun h=>?_,fun h=>?_⟩
       · show (0:Int)≤(if n=0 then 9 else 6)∧(if n=0 then (9:Int) else 6)≤9;rw [h6];decide
       · show 0≤n∧n≤512;omega
       · have h:(if n=0 then (9:Int) else 6)=1:=h;omega
       · have h:(if n=0 then (9:Int) else 6)=3:=h;omega
       · have h:(if n=0 then (9:Int) else 6)=7:=h;omega
 rename_i h5
 split
 · intro _;exact TraceS.gone_ok hr hc
 split
 · rename_i h3
   have hj:=h.j3 h3;unfold TrW.link;split
   · intro hd;cases hd
   split
   · intro hd;cases hd
   split
   · intro _;refine ⟨by show (0:Int)≤4∧(4:Int)≤9;decide,fun _=>⟨?_,hr.2⟩,fun _ _=>hc,fun h=>absurd h (by show¬(4:Int)=1;decide),fun h=>absurd h (by show¬(4:Int)=3;decide),fun h=>absurd h (by show¬(4:Int)=7;decide)⟩;show 0≤w.s.j+1∧w.s.j+1≤64;omega
   · intro hd;cases hd
 split
 · intro _;exact TraceS.gone_ok hr hc
 · unfold TrW.field;split
   · intro hd;cases hd
   split
   · intro hd;cases hd
   split
   · intro _;exact ⟨by show (0:Int)≤2∧(2:Int)≤9;decide,fun _=>hr,fun _ _=>hc,fun h=>absurd h (by show¬(2:Int)=1;decide),fun h=>absurd h (by show¬(2:Int)=3;decide),fun h=>absurd h (by show¬(2:Int)=7;decide)⟩
   · intro _;exact TraceS.gone_ok hr hc
theorem ylr {w:TrW} (h:w.s.Ok):w.step.s.Ok:=by
 unfold TrW.step;split
 · exact h
 · rename_i h9
   split
   · rename_i hd
     exact yk5 (w:=w.ticked) (yeA h) h9 hd
   · exact TraceS.ended_ok
theorem ydH (w:TrW):w.step.s.c=w.s.c∧w.step.s.head=w.s.head∧w.step.s.sense=w.s.sense∧w.step.m.l=w.m.l∧(w.m.count≤w.step.m.count∧w.step.m.count≤w.m.count+1)∧(w.k≤w.step.k∧w.step.k≤w.k+1)∧w.step.s.steps=if w.s.pc=9 then w.s.steps else w.s.steps+1:=by
 have h:=yg7 w.ticked;unfold TrW.step;by_cases h9:w.s.pc=9
 · rw [if_pos h9,if_pos h9];exact ⟨rfl,rfl,rfl,rfl,⟨Int.le_refl _,zo⟩,⟨Int.le_refl _,zo⟩,rfl⟩
 · rw [if_neg h9,if_neg h9];split
   · exact ⟨h.c,h.head,h.sense,h.ml,h.cnt,h.k,h.steps⟩
   · exact ⟨h.c,h.head,h.sense,h.ml,h.cnt,h.k,h.steps⟩
end Go.Proofs.YtdhjjpnajjingaaGreat
namespace Go.Proofs.YtdhjjpnajjingaaGreat
open Go Go.RowKit
namespace TrW
def go:Nat→TrW→TrW
 |0,w=>w
 |n+1,w=>(go n w).step
end TrW
section
variable {S:TraceS} {l:List (Nat × Nat)} {c k:Int} {T:TabS} {p:PileS}
end
structure ObjIn (cm:Cnf) (l:List (Nat × Nat)) (got:List Int) (kd md:Int) (refs:List Bool):Prop where
 one:1≤got.length
 check:cm.check=0
 gotb: ∀i,i<got.length→0≤got.getD i 0∧got.getD i 0<cm.frags
 shape:cm.shapeAt kd=some (false,refs)
 kdb:0≤kd∧kd≤1000000
 mdb:0≤md∧md≤1
 size:(got.length:Int)=Shp.size ⟨false,none,0,refs⟩ 0
 mlen: ∀a,0≤a→a<cm.frags*8→inB a l.length=true
 head:MemS.peek ⟨l,0⟩ (got.getD 0 0*8+1)=(floatOfInt .f64 kd,floatOfInt .f64 md)
 link: ∀i,i+1<got.length→MemS.peek ⟨l,0⟩ (got.getD i 0*8+0)=(floatOfInt .f64 (got.getD (i+1) 0+1),4607182418800017408)
 fld: ∀k:Nat,k<refs.length→refs.getD k false=true→wIs (MemS.peek ⟨l,0⟩ (got.getD (Shp.placeF k).toNat 0*8+Shp.placeW k))=true
section
variable {cm:Cnf} {l:List (Nat × Nat)} {got:List Int} {kd md:Int} {refs:List Bool}
theorem ObjIn.few (H:ObjIn cm l got kd md refs):cm.frags≤1024:=(Cnf.ranged (Cnf.check_zero H.check).1).1.2
end
end Go.Proofs.YtdhjjpnajjingaaGreat
namespace Go.Proofs.YtdhjjpnajjingaaGreat
open Go Go.RowKit
theorem Cnf.Same.shapeAt {c d:Cnf} (h:c.Same d) (k:Int):c.shapeAt k=d.shapeAt k:=by
 unfold Cnf.shapeAt;split
 · rfl
 · have e:=congrArg (fun l=>l[k.toNat]?) h.shapes;simp only [List.getElem?_map] at e;exact e
def c16 (A:Nat):Cnf:=⟨4,0,0,1,1,0,1,0,some ⟨A,0,none⟩,1,[⟨false,none,0,[]⟩]⟩
section
variable {got:List Int} {refs giv:List Bool}
end
end Go.Proofs.YtdhjjpnajjingaaGreat
namespace Go.Proofs.YtdhjjpnajjingaaGreat
open Go Go.RowKit
theorem yfE {c d:Cnf} (h:c.Same d) (k:Int):c.shapeAt k=d.shapeAt k:=by
 have e: ∀l:List Shp,(l[k.toNat]?).map (fun s=>(s.arr,s.refs))=((l.map Shp.data)[k.toNat]?):=fun l=>by rw [List.getElem?_map];rfl
 unfold Cnf.shapeAt;rw [e,e,h.shapes]
theorem ycZ {c d:Cnf} (h:c.Same d):cWords c=cWords d:=by
 unfold cWords;rw [h.check,h.frags,h.spine,h.globals]
def TraceS.withC (S:TraceS) (c:Cnf):TraceS:={ S with c:=c }
theorem TraceS.okAt_same {S:TraceS} {c:Cnf} (h:c.Same S.c) (f k:Int):(S.withC c).okAt f k=S.okAt f k:=by
 unfold TraceS.okAt TraceS.withC;simp only;rw [h.check,h.frags]
theorem TraceS.rd_same {S:TraceS} {c:Cnf} (h:c.Same S.c) (m:MemS) (f k:Int):(S.withC c).rd m f k=S.rd m f k:=by
 unfold TraceS.rd;rw [TraceS.okAt_same h]
theorem TraceS.rdM_same {S:TraceS} {c:Cnf} (h:c.Same S.c) (m:MemS) (f k:Int):(S.withC c).rdM m f k=S.rdM m f k:=by
 unfold TraceS.rdM;rw [TraceS.okAt_same h]
theorem TraceS.enters_same (S:TraceS) (c:Cnf):(S.withC c).enters=S.enters.withC c:=by
 unfold TraceS.enters TraceS.withC;simp only;split<;>rfl
theorem TraceS.goes_same (S:TraceS) (c:Cnf):(S.withC c).goes=S.goes.withC c:=by
 unfold TraceS.goes;show (if S.words≠[] then S.withC c else if S.frs≤S.j+1 then S.withC c else if S.arr=false then S.withC c else (TraceS.enters (TraceS.withC { S with j:=S.j+1 } c)))=_;rw [TraceS.enters_same];split
 · rfl
 · split
   · rfl
   · split<;>rfl
theorem TraceS.gone_same (S:TraceS) (c:Cnf):(S.withC c).gone=S.gone.withC c:=by
 unfold TraceS.gone;rw [TraceS.goes_same];rfl
theorem TraceS.first_same {S:TraceS} {c:Cnf} (h:c.Same S.c) (w:Nat × Nat):(S.withC c).first w=((S.first w).1.withC c,(S.first w).2):=by
 unfold TraceS.first;rw [show (S.withC c).c=c from rfl];cases wTell w with
 |none=>rfl
 |some x=>
  obtain ⟨kind,mode⟩:=x;simp only;rw [yfE h];cases S.c.shapeAt kind with
  |none=>rfl
  |some y=>
   obtain ⟨arr,refs⟩:=y;simp only;split
   · rfl
   · split
     · rfl
     · exact congrArg (fun x=>(x,true)) (TraceS.gone_same { S with arr:=arr,refs:=refs,words:=TraceS.refsL { S with arr:=arr,refs:=refs } } c)
namespace TrW
def withC (w:TrW) (c:Cnf):TrW:={ w with s:=w.s.withC c }
def wc (x:TrW × Bool) (c:Cnf):TrW × Bool:=(x.1.withC c,x.2)
variable {w:TrW} {c:Cnf}
theorem yiS (h:c.Same w.s.c):(w.withC c).head=wc w.head c:=by
 obtain ⟨S,m,T,p,k⟩:=w;simp only at h;unfold head;show (match (S.withC c).rd m S.head 1 with|none=>_|some v=>_)=_;rw [TraceS.rd_same h];show (match S.rd m S.head 1 with|none=>((⟨S.withC c,(S.withC c).rdM m S.head 1,T,p,k⟩:TrW),false)|some v=>(⟨((S.withC c).first v).1,(S.withC c).rdM m S.head 1,T,p,k⟩,((S.withC c).first v).2))=_;rw [TraceS.rdM_same h];simp only;cases S.rd m S.head 1 with
 |none=>rfl
 |some v=>
  simp only;rw [TraceS.first_same h];rfl
theorem yhc (h:c.Same w.s.c):(w.withC c).field=wc w.field c:=by
 obtain ⟨S,m,T,p,k⟩:=w;simp only at h;unfold field withC;simp only;rw [show (S.withC c).frag=S.frag from rfl,show (S.withC c).words=S.words from rfl,TraceS.rd_same h,TraceS.rdM_same h];cases S.rd m S.frag (S.words.headD 0) with
 |none=>rfl
 |some v=>
  simp only;split
  · rfl
  · split
    · rfl
    · exact congrArg (fun s:TraceS=>((⟨s,S.rdM m S.frag (S.words.headD 0),T,p,k⟩:TrW),true)) (TraceS.gone_same { S with words:=S.words.tail,next:=0 } c)
theorem yiL:(w.withC c).grey=wc w.grey c:=by
 unfold grey wc withC;simp only;rw [TraceS.gone_same];rfl
theorem yi8 (h:c.Same w.s.c):(w.withC c).link=wc w.link c:=by
 obtain ⟨S,m,T,p,k⟩:=w;simp only at h;unfold link withC;simp only;rw [show (S.withC c).frag=S.frag from rfl,TraceS.rd_same h,TraceS.rdM_same h];cases S.rd m S.frag 0 with
 |none=>rfl
 |some v=>
  simp only;cases wIndex v with
  |none=>rfl
  |some i=>
   simp only;rw [show (S.withC c).c.frags=S.c.frags from h.frags];split<;>rfl
theorem yjq:(w.withC c).part=wc w.part c:=by
 unfold part wc withC;simp only;exact congrArg (fun s:TraceS=>((⟨s,w.m,w.T.mark w.s.frag w.s.sense,w.p,w.k+1⟩:TrW),true)) (TraceS.gone_same { w.s with words:=w.s.refsL } c)
theorem yf8 (h:c.Same w.s.c):(w.withC c).length=wc w.length c:=by
 obtain ⟨S,m,T,p,k⟩:=w;simp only at h;unfold length withC;simp only;rw [show (S.withC c).head=S.head from rfl,TraceS.rd_same h,TraceS.rdM_same h];cases S.rd m S.head 2 with
 |none=>rfl
 |some v=>
  simp only;cases wInt v with
  |none=>rfl
  |some n=>
   simp only;split<;>rfl
theorem yjf (h:c.Same w.s.c):(w.withC c).mode=wc w.mode c:=by
 obtain ⟨S,m,T,p,k⟩:=w;simp only at h;unfold mode withC;simp only;rw [show (S.withC c).head=S.head from rfl,show (S.withC c).n=S.n from rfl,TraceS.rd_same h,TraceS.rdM_same h];cases S.rd m S.head 3 with
 |none=>rfl
 |some v=>
  simp only;cases wInt v with
  |none=>rfl
  |some n=>
   simp only;split<;>rfl
theorem yin (h:c.Same w.s.c):(w.withC c).base=wc w.base c:=by
 obtain ⟨S,m,T,p,k⟩:=w;simp only at h;unfold base withC;simp only;rw [show (S.withC c).head=S.head from rfl,show (S.withC c).n=S.n from rfl,show (S.withC c).mode=S.mode from rfl,show (S.withC c).c=c from rfl,TraceS.rd_same h,TraceS.rdM_same h,ycZ h,h.frags];cases S.rd m S.head 4 with
 |none=>rfl
 |some v=>
  simp only;split
  · cases wInt v with
    |none=>rfl
    |some n=>
     simp only;split<;>rfl
  · cases wIndex v with
    |none=>rfl
    |some n=>
     simp only;split<;>rfl
theorem yjK (h:c.Same w.s.c):(w.withC c).slot=wc w.slot c:=by
 obtain ⟨S,m,T,p,k⟩:=w;simp only at h
 have e1:(withC ⟨S,m,T,p,k⟩ c).slotRd=slotRd ⟨S,m,T,p,k⟩:=by
  unfold slotRd withC;simp only;rw [TraceS.rd_same h];rfl
 have e2:(withC ⟨S,m,T,p,k⟩ c).slotM=slotM ⟨S,m,T,p,k⟩:=by
  unfold slotM withC;simp only;rw [TraceS.rdM_same h];rfl
 unfold slot;rw [e1,e2];cases slotRd ⟨S,m,T,p,k⟩ with
 |none=>rfl
 |some v=>
  simp only;unfold withC wc;simp only;rw [show (S.withC c).c.frags=S.c.frags from h.frags];rfl
theorem yiB (h:c.Same w.s.c):(w.withC c).does=wc w.does c:=by
 unfold does;rw [show (w.withC c).s.pc=w.s.pc from rfl,yiS h,yhc h,yiL,yi8 h,yjq,yf8 h,yjf h,yin h,yjK h];(repeat' split)<;>rfl
theorem step_same (h:c.Same w.s.c):(w.withC c).step=w.step.withC c:=by
 have hd:=yiB (w:=w.ticked) (c:=c) h;unfold step;rw [show (w.withC c).s.pc=w.s.pc from rfl,show (w.withC c).ticked=w.ticked.withC c from rfl,hd];split
 · rfl
 · unfold wc;simp only;split<;>rfl
end TrW
namespace CyW
def rootsSeen (W:CyW) (h:Int):CyW:={ W with y:={ W.y with head:=h,at_:=3 },K:={ W.K with mem:=W.K.mem.tick } }
def rootsGrey (W:CyW):CyW:={ W with y:={ W.y with at_:=0,i:=W.y.i+1 },K:={ W.K with sp:={ W.K.sp with tab:=W.K.sp.tab.grey W.y.head W.y.sense },pile:=W.K.pile.grey W.K.sp.tab W.y.head W.y.sense,n:=W.K.n+1 } }
def trW (W:CyW) (S:TraceS):TrW:=⟨S,W.K.mem,W.K.sp.tab,W.K.pile,W.K.n⟩
def trPut (W:CyW) (w:TrW):CyW:={ W with tr:=some w.s,K:={ W.K with mem:=w.m,sp:={ W.K.sp with tab:=w.T },pile:=w.p,n:=w.k } }
def follows (W:CyW):CyW:=if W.y.i+1=W.K.c.frags then { W with y:={ W.y with at_:=0,i:=0 } } else { W with y:={ W.y with at_:=6,i:=W.y.i+1 } }
def tracedB (W:CyW) (S:TraceS):Bool:=(W.trW S).step.s.pc==9
def traced (W:CyW) (S:TraceS):CyW:=if W.tracedB S then { W.trPut (W.trW S).step with y:={ W.y with e:=(W.trW S).step.s.e } } else W.trPut (W.trW S).step
def marksTrace (W:CyW) (S:TraceS):CyW:=if W.tracedB S then (if W.y.rescan then ((W.traced S).atY 0).follows else (W.traced S).atY 0) else W.traced S
def marksNext (W:CyW):CyW:={ W with tr:=some (TraceS.fresh W.K.c W.K.pile.top W.y.sense),y:={ W.y with head:=W.K.pile.top,at_:=4,rescan:=false },K:={ W.K with pile:=W.K.pile.pop,n:=W.K.n+1 } }
def marksLost (W:CyW):CyW:={ W with y:={ W.y with at_:=6,i:=0 },K:={ W.K with pile:=W.K.pile.found,n:=W.K.n+1 } }
def scanB (W:CyW):Bool:=W.K.sp.tab.head W.y.i&&W.K.sp.tab.black W.y.i W.y.sense
def marksSeen (W:CyW):CyW:={ W with tr:=some (TraceS.fresh W.K.c W.y.i W.y.sense),y:={ W.y with at_:=4,rescan:=true },K:={ W.K with n:=W.K.n+1 } }
def marksScan (W:CyW):CyW:=if W.scanB then W.marksSeen else CyW.follows { W with K:={ W.K with n:=W.K.n+1 } }
def rootsG (W:CyW):Option CyW:=
 if W.y.at_=3 then some W.rootsGrey
 else if W.K.c.globals≤W.y.i∨W.y.at_=1 then some W.rootsPoll
 else if W.y.at_=0∧0≤W.y.i∧W.K.c.check=0∧inB (W.y.i+cAhead W.K.c 3) W.K.mem.l.length=true then (match wIndex (W.K.mem.peek (W.y.i+cAhead W.K.c 3)) with
  |none=>some W.rootsNone
  |some h=>some (W.rootsSeen h)) else none
def marksG (W:CyW):Option CyW:=
 if W.y.at_=0 then (if W.K.pile.some_ then (if W.K.c.check=0 then some W.marksNext else none) else some W.marksEmpty)
 else if W.y.at_=4 then (match W.tr with
  |none=>none
  |some S=>if cOk S.steps then some (W.marksTrace S) else none)
 else if W.y.at_=5 then (if W.K.pile.lost then some W.marksLost else some W.marksFound)
 else if W.y.at_=6 then (if W.K.c.check=0 then some W.marksScan else none) else none
def stageG (W:CyW):Option CyW:=if W.y.stage=4 then W.rootsG else if W.y.stage=5 then W.marksG else W.stageO
def stepG (W:CyW):Option CyW:=
 if (W.bdB&&(W.tick1.bdB&&W.y.e==0))=false then none
 else if W.y.stage=0 then some W.tick1.idles
 else W.tick1.stageG
def TrOk (W:CyW):Prop:= ∀S,W.tr=some S→S.Ok
end CyW
end Go.Proofs.YtdhjjpnajjingaaGreat
namespace Go
open Go.RowKit
def SpaceS.freed (S:SpaceS) (l:List Int):SpaceS:=l.foldl (fun S i=>{ S with tab:=S.tab.set i 0 false false,pool:=S.pool.give i }) S
end Go
namespace Go.Proofs.YtdhjjpnajjingaaGreat
open Go Go.RowKit
def drainN (S:SpaceS) (t:Int):Int:=if inB t S.stocks.length then ((stockOf S t).l.length:Int) else 0
def drainS (S:SpaceS) (t:Int):SpaceS:=if inB t S.stocks.length then ({ S.tick with stocks:=S.stocks.set t.toNat ⟨[],(stockOf S t).most⟩ }).freed (stockOf S t).l else S.tick
theorem ygm (t:Int) (g:GW) (B b bt:Nat) (S:SpaceS) (h:SpaceAt g B b bt S) (hB:100≤B) (hc:0≤S.count∧S.count≤1099511627776):
 Calls prog 73 #[.pointer (some ⟨b,0,none⟩),.int .i64 t] g.w (Does (zI z6 (drainN S t)) g (inst B) (fun g'=>SpaceAt g' B b bt (drainS S t))):=by
 obtain ⟨bp,bk,bl,A,cs,cm,bs,h⟩:=h;obtain ⟨hc0,hc1⟩:=hc;have M0:=zH (show Mod (inst B) g ⟨g.own,g.w.setCell ⟨b,3,none⟩ (zI z6 (S.count+1))⟩ from Mod.set (by rw [h.blk.own];exact ⟨zo,zo⟩));have H0:=zH (show SpaceIn ⟨g.own,g.w.setCell ⟨b,3,none⟩ (zI z6 (S.count+1))⟩ B b bt S.tick bp bk bl A cs cm bs from h.tick);have HST:=zH (yc7 t h.tick);obtain ⟨a0,a1,a2,a3,a4,a5,a6,a7,a8,a9,a10,a11,a12,a13,a14,a15,al⟩:=h.blk.k16;have af3:=h.blk.liv 3;clear h;cases hin:inB t S.stocks.length
 · have HV:=zH (show drainN S t=0 by unfold drainN;rw [hin];rfl);have HW:=zH (show drainS S t=S.tick by unfold drainS;rw [hin];rfl);simp only [hin,Bool.false_eq_true,if_false] at HST;clear hin;go_enter func73,ntmps73;go_wp2_with fail;refine HST.out.mono ?_;rintro e w1 ⟨rfl,rfl⟩;go_wp2_with fail;go_ret;exact Does.of ⟨g.own,_⟩ rfl (by rw [HV.out];try rfl) M0.out (by rw [HW.out];exact ⟨_,_,_,_,_,_,_,H0.out⟩)
 · obtain ⟨k,rfl,hk⟩:=yam hin;obtain ⟨s,hs⟩: ∃s,S.stocks[k]?=some s:=⟨S.stocks[k],List.getElem?_eq_getElem hk⟩;obtain ⟨x,hx⟩: ∃x,bs[k]?=some x:=⟨bs[k]'(by have:=H0.out.blen;rw [this];exact hk),List.getElem?_eq_getElem _⟩;have HSO:=zH (show stockOf S k=s by unfold stockOf;rw [Int.toNat_natCast,List.getD_eq_getElem?_getD,hs];rfl);have HV:=zH (show drainN S k=(s.l.length:Int) by unfold drainN;rw [hin,HSO.out];rfl);have HW:=zH (show drainS S k=({ S.tick with stocks:=S.stocks.set k ⟨[],s.most⟩ }).freed s.l by unfold drainS;rw [hin,HSO.out,Int.toNat_natCast];rfl);have hbx:bs.getD k 0=x:=by rw [List.getD_eq_getElem?_getD,hx];rfl
   simp only [hin,if_true,Int.toNat_natCast,hbx] at HST;have HSA:=zH (H0.out.stock k x s hx hs);have HX:=zH hx;have HKL:=zH hk;have HD:=zH (ygr _ _ _ _ HSA.out);have hsl:s.l.length≤8:=by have h1:=HSA.out.most;have h2:=HSA.out.len;omega
   clear hin hbx hs hx hk;go_enter func73,ntmps73;go_wp2_with fail;refine HST.out.mono ?_;rintro e w1 ⟨rfl,rfl⟩;go_wp2_with fail;refine HD.out.mono ?_;rintro e w2 ⟨v,own2,rfl,m2,s2,r2⟩;obtain ⟨A2,c2,rfl⟩:=yak r2.row;have M2:=zH (M0.out.trans (m2.mono (fun y (hy:y=B+10+k)=>(⟨by have:=HKL.out;omega,by have:=HKL.out;have:=H0.out.few;simp only [SpaceS.tick] at this;omega⟩:inst B y))));have H2:=zH (H0.out.withStock HKL.out HX.out m2 s2);have R2:=zH r2;clear m2 s2 r2 a0 a1 a2 a3 a4 a5 a6 a7 a8 a9 a10 a11 a12 a13 a14 a15 al HST HD;go_wp2_with fail;go_loopw [25] (fun i wr=> ∃(j:Nat) (own:Nat→Nat),j≤s.l.length∧i=.int .i64 j∧Hid (Mod (inst B) g ⟨own,wr⟩)∧Hid (SpaceIn ⟨own,wr⟩ B b bt (({ S.tick with stocks:=S.stocks.set k ⟨[],s.most⟩ }).freed (s.l.take j)) bp bk bl A cs cm bs)∧Hid (Row ⟨own,wr⟩ (B+10+k) 3 1 (.slice A2 s.l.length c2) s.l.length (s.l.map (Value.int .i64)))) (fun i _=>s.l.length-(intOf i).toNat)
   case atStart=>exact ⟨0,own2,Nat.zero_le _,rfl,M2,H2,R2⟩
   case round=>
    obtain ⟨j,own3,hj,rfl,M3,H3,R3⟩:=hrel;clear M2 H2 R2;by_cases hlt:j<s.l.length
    · obtain ⟨q,o,hA,hq,hcell⟩:=yfL R3.out.cells hlt;have k0:=hcell j hlt;simp only at k0 hq
      have HS:=zH (show ({ S.tick with stocks:=S.stocks.set k ⟨[],s.most⟩ }).freed (s.l.take (j+1))={ ({ S.tick with stocks:=S.stocks.set k ⟨[],s.most⟩ }).freed (s.l.take j) with tab:=(({ S.tick with stocks:=S.stocks.set k ⟨[],s.most⟩ }).freed (s.l.take j)).tab.set (s.l.getD j 0) 0 false false,pool:=(({ S.tick with stocks:=S.stocks.set k ⟨[],s.most⟩ }).freed (s.l.take j)).pool.give (s.l.getD j 0) } by
       unfold SpaceS.freed;rw [List.take_add_one,List.getElem?_eq_getElem hlt,List.getD_eq_getElem?_getD,List.getElem?_eq_getElem hlt,List.foldl_append];rfl)
      generalize s.l.getD j 0=y at *;subst hA;clear hcell;go_wp2_with fail;refine (yc6 y H3.out hB).mono ?_;rintro e w4 ⟨rfl,own4,m4,h4⟩;have M4:=zH (M3.out.trans (m4.mono (fun z (hz:z=B+50∨z=B+1)=>(⟨zo,zo⟩:inst B z))));have H4:=zH h4;have R4:=zH (R3.out.keep m4 (by have:=HKL.out;have:=H0.out.few;simp only [SpaceS.tick] at this;omega));clear m4 h4;go_wp2_with fail;go_roundw
      case rel=>exact ⟨j+1,own4,zo,by go_num,M4,by rw [HS.out];exact H4,R4⟩
      case measure=>simp [intOf];omega
    · obtain rfl:j=s.l.length:=zo;have HS:=zH (show s.l.take s.l.length=s.l from List.take_of_length_le (Nat.le_refl _));go_wp2_with fail;go_ret;rw [HS.out] at H3;exact Does.of ⟨own3,_⟩ rfl (by rw [HV.out];try rfl) M3.out (by rw [HW.out];exact ⟨_,_,_,_,_,_,_,H3.out⟩)
structure FindS where
 c:Cnf
 head:Int
 k:Int
 array:Bool
 pc:Int
 frag:Int
 ahead:Int
 word:Int
 n:Int
 mode:Int
 slot:Int
 at_:Int
 ref:Bool
 e:Int
 steps:Int
namespace FindS
def cells (S:FindS):List Value:=[.int .i64 S.c.frags,.int .i64 S.c.spine,.int .i64 S.c.globals,.int .i64 S.c.threads,.int .i64 S.c.locals,.int .i64 S.c.cache,.int .i64 S.c.stack,.int .i64 S.c.low,.slice S.c.A S.c.shapes.length S.c.cap,
 .int .i64 S.head,.int .i64 S.k,.bool S.array,.int .i64 S.pc,.int .i64 S.frag,.int .i64 S.ahead,.int .i64 S.word,.int .i64 S.n,.int .i64 S.mode,.int .i64 S.slot,.int .i64 S.at_,.bool S.ref,.int .i64 S.e,.int .i64 S.steps]
def fresh (c:Cnf) (head k:Int) (array:Bool) (frag:Int):FindS:=⟨c,head,k,array,0,frag,0,0,0,0,0, -1,false,0,0⟩
def ends (S:FindS) (e:Int):FindS:={ S with pc:=6,e:=e,at_:= -1,ref:=false }
def okAt (S:FindS) (frag k:Int):Bool:=decide (S.c.check=0∧0≤frag∧frag<S.c.frags∧0≤k∧k<8)
def stands (S:FindS) (frag k:Int):FindS:=if S.okAt frag k then { S with pc:=6,at_:=frag*8+k } else S.ends 10
end FindS
structure FindAt (g:GW) (t b:Nat) (S:FindS):Prop where
 blk:Blk g t b 250 S.cells
 cnf:CnfAt g (t+1) S.c
theorem FindAt.keep {T:Nat→Prop} {g g':GW} {t b:Nat} {S:FindS} (h:FindAt g t b S) (m:Mod T g g') (h1: ¬T t) (h2: ¬T (t+1)):FindAt g' t b S:=⟨h.blk.keep m h1,h.cnf.keep m h2⟩
theorem FindAt.st {g:GW} {t b:Nat} {S:FindS} (h:FindAt g t b S) (i:Nat) (v:Value) (S':FindS) (hc:S'.cells=S.cells.set i v) (hcc:S'.c=S.c):FindAt ⟨g.own,g.w.setCell ⟨b,i,none⟩ v⟩ t b S':=by
 refine ⟨by rw [hc];exact h.blk.set i v,?_⟩;rw [hcc];exact h.cnf.keep (Mod.set (T:=fun x=>x=t) h.blk.own) zo
theorem yk6 (g:GW) (t b:Nat) (S:FindS) (h:FindAt g t b S):Calls prog 144 #[.pointer (some ⟨b,0,none⟩)] g.w (fun e w'=>e=.returned (zI z6 S.at_)∧g.w=w'):=by
 have c0:=h.blk.cell (i:=19) rfl;have hl:=h.blk.lt;clear h;go_enter func144,ntmps144;go_wp2_with fail;go_ret;exact ⟨rfl,rfl⟩
theorem yhf (g:GW) (t b:Nat) (S:FindS) (h:FindAt g t b S):Calls prog 143 #[.pointer (some ⟨b,0,none⟩)] g.w (fun e w'=>e=.returned (zI z6 S.e)∧g.w=w'):=by
 have c0:=h.blk.cell (i:=21) rfl;have hl:=h.blk.lt;clear h;go_enter func143,ntmps143;go_wp2_with fail;go_ret;exact ⟨rfl,rfl⟩
theorem ykl (g:GW) (t b:Nat) (S:FindS) (h:FindAt g t b S):Calls prog 145 #[.pointer (some ⟨b,0,none⟩)] g.w (fun e w'=>e=.returned (.bool (decide (0≤S.at_)&&S.ref))∧g.w=w'):=by
 have c0:=h.blk.cell (i:=19) rfl;have c1:=h.blk.cell (i:=20) rfl;have hl:=h.blk.lt;clear h;by_cases hp:0≤S.at_
 · have hd:decide (0≤S.at_)=true:=decide_eq_true hp;go_enter func145,ntmps145;go_wp2_with fail;go_ret;exact ⟨by first|rfl|(rw [hd];rfl),rfl⟩
 · have hd:decide (0≤S.at_)=false:=decide_eq_false hp;go_enter func145,ntmps145;go_wp2_with fail;go_ret;exact ⟨by first|rfl|(rw [hd];rfl),rfl⟩
theorem yiE (g:GW) (t b:Nat) (S:FindS) (x:Int) (h:FindAt g t b S):Calls prog 252 #[.pointer (some ⟨b,0,none⟩),.int .i64 x] g.w (Does (.bool true) g (fun x=>x=t) (fun g'=>FindAt g' t b (S.ends x))):=by
 have c0:=h.blk.cell (i:=12) rfl;have c1:=h.blk.cell (i:=21) rfl;have c2:=h.blk.cell (i:=19) rfl;have c3:=h.blk.cell (i:=20) rfl;have f0:=h.blk.live 12;have f1:=h.blk.live 21;have f2:=h.blk.live 19;have f3:=h.blk.live 20;have hl:=h.blk.lt;have HO:=zH h.blk.own;have H:=zH ((((h.st 12 (zI z6 6) { S with pc:=6 } rfl rfl).st 21 (zI z6 x) { S with pc:=6,e:=x } rfl rfl).st 19 (zI z6 (-1)) { S with pc:=6,e:=x,at_:= -1 } rfl rfl).st 20 (.bool false) (S.ends x) rfl rfl);clear h;go_enter func252,ntmps252;go_wp2_with fail;go_ret;exact Does.of ⟨g.own,_⟩ rfl rfl (Mod.st (Mod.st (Mod.st (Mod.st Mod.self HO.out) HO.out) HO.out) HO.out) H.out
theorem yd9 {S:FindS} {frag k:Int} (h:S.okAt frag k=true):cFrag S.c frag k=.tuple #[.int .i64 (frag*8+k),.int .i64 0]:=by
 have h':S.c.check=0∧0≤frag∧frag<S.c.frags∧0≤k∧k<8:=by simpa [FindS.okAt] using h
 unfold cFrag;rw [if_pos h']
theorem yfc {S:FindS} {frag k:Int} (h:S.okAt frag k=false):cFrag S.c frag k=.tuple #[.int .i64 0,.int .i64 1]:=by
 have h': ¬(S.c.check=0∧0≤frag∧frag<S.c.frags∧0≤k∧k<8):=by intro hh;rw [show S.okAt frag k=true from by simpa [FindS.okAt] using hh] at h;cases h
 unfold cFrag;rw [if_neg h']
theorem yfW (g:GW) (t b:Nat) (S:FindS) (frag k:Int) (h:FindAt g t b S):Calls prog 251 #[.pointer (some ⟨b,0,none⟩),.int .i64 frag,.int .i64 k] g.w (Does (.bool true) g (fun x=>x=t) (fun g'=>FindAt g' t b (S.stands frag k))):=by
 have k0:=h.blk.cell (i:=0) rfl;have k1:=h.blk.cell (i:=1) rfl;have k2:=h.blk.cell (i:=2) rfl;have k3:=h.blk.cell (i:=3) rfl;have k4:=h.blk.cell (i:=4) rfl;have k5:=h.blk.cell (i:=5) rfl;have k6:=h.blk.cell (i:=6) rfl;have k7:=h.blk.cell (i:=7) rfl;have k8:=h.blk.cell (i:=8) rfl;have hl:=h.blk.lt;have HF:=zH (ybH S.c frag k g.w h.cnf.ok);have H:=zH h;have HO:=zH h.blk.own;unfold Cnf.val at HF;clear h;cases hok:S.okAt frag k
 · have HV:=zH (show S.stands frag k=S.ends 10 by unfold FindS.stands;rw [if_neg (by rw [hok];simp)]);rw [yfc hok] at HF;clear hok;go_enter func251,ntmps251;go_wp2_with fail;refine HF.out.mono ?_;rintro e w1 ⟨rfl,hE⟩;have HE:=zH (Mod.ext (T:=fun _=>False) (g:=g) (show Ext g.w w1 from hE) 0);have HX:=zH (show (g.to 0 w1).w=w1 from rfl);have H1:=zH (H.out.keep HE.out id id);clear hE;go_wp2_with fail;refine (yiE (g.to 0 w1) t b S 10 H1.out).mono ?_;rintro e w2 ⟨rfl,own2,m2,r2⟩;have M2:=zH m2;have R2:=zH r2;clear m2 r2;go_wp2_with fail;go_ret;exact ⟨rfl,own2,(HE.out.mono (fun _=>False.elim)).trans M2.out,by rw [HV.out];exact R2.out⟩
 · have HV:=zH (show S.stands frag k={ S with pc:=6,at_:=frag*8+k } by unfold FindS.stands;rw [if_pos hok]);rw [yd9 hok] at HF;clear hok;go_enter func251,ntmps251;go_wp2_with fail;refine HF.out.mono ?_;rintro e w1 ⟨rfl,hE⟩;have HE:=zH (Mod.ext (T:=fun _=>False) (g:=g) (show Ext g.w w1 from hE) 0);have H1:=zH (H.out.keep HE.out id id);have f0:=H1.out.blk.live 12;have f1:=H1.out.blk.live 19;have c0:=H1.out.blk.cell (i:=12) rfl;have c1:=H1.out.blk.cell (i:=19) rfl;have hl1:=H1.out.blk.lt;simp only [GW.to] at f0 f1 c0 c1 hl1;clear hE k0 k1 k2 k3 k4 k5 k6 k7 k8 hl;go_wp2_with fail;go_ret;refine ⟨rfl,(g.to 0 w1).own,?_,?_⟩
   · exact (HE.out.mono (fun _=>False.elim)).trans (Mod.st (Mod.st Mod.self H1.out.blk.own) H1.out.blk.own)
   · rw [HV.out];exact (H1.out.st 12 (zI z6 6) { S with pc:=6 } rfl rfl).st 19 (zI z6 (frag*8+k)) { S with pc:=6,at_:=frag*8+k } rfl rfl
def rdV (S:FindS) (m:MemS) (frag k:Int):Value:=if S.okAt frag k then .tuple #[.complex .f64 (m.peek (frag*8+k)).1 (m.peek (frag*8+k)).2,.bool (inB (frag*8+k) m.l.length)] else .tuple #[.complex .f64 0 0,.bool false]
def rdM (S:FindS) (m:MemS) (frag k:Int):MemS:=if S.okAt frag k then m.tick else m
theorem yiF (g:GW) (t b tm bm:Nat) (S:FindS) (m:MemS) (frag k:Int) (h:FindAt g t b S) (hm:MemAt g tm bm m) (hc:0≤m.count∧m.count≤1099511627776):
 Calls prog 249 #[.pointer (some ⟨b,0,none⟩),.pointer (some ⟨bm,0,none⟩),.int .i64 frag,.int .i64 k] g.w (Does (rdV S m frag k) g (fun x=>x=tm) (fun g'=>MemAt g' tm bm (rdM S m frag k))):=by
 have k0:=h.blk.cell (i:=0) rfl;have k1:=h.blk.cell (i:=1) rfl;have k2:=h.blk.cell (i:=2) rfl;have k3:=h.blk.cell (i:=3) rfl;have k4:=h.blk.cell (i:=4) rfl;have k5:=h.blk.cell (i:=5) rfl;have k6:=h.blk.cell (i:=6) rfl;have k7:=h.blk.cell (i:=7) rfl;have k8:=h.blk.cell (i:=8) rfl;have hl:=h.blk.lt;have HF:=zH (ybH S.c frag k g.w h.cnf.ok);have HM:=zH hm;unfold Cnf.val at HF;clear h hm;cases hok:S.okAt frag k
 · have HV:=zH (show rdV S m frag k=.tuple #[.complex .f64 0 0,.bool false] by unfold rdV;rw [if_neg (by rw [hok];simp)]);have HV2:=zH (show rdM S m frag k=m by unfold rdM;rw [if_neg (by rw [hok];simp)]);rw [yfc hok] at HF;clear hok;go_enter func249,ntmps249;go_wp2_with fail;refine HF.out.mono ?_;rintro e w1 ⟨rfl,hE⟩;have HE:=zH (Mod.ext (T:=fun _=>False) (g:=g) (show Ext g.w w1 from hE) 0);clear hE;go_wp2_with fail;go_ret2;exact ⟨by rw [HV.out];rfl,(g.to 0 w1).own,HE.out.mono (fun _=>False.elim),by rw [HV2.out];exact HM.out.keep HE.out id⟩
 · have HV:=zH (show rdV S m frag k=.tuple #[.complex .f64 (m.peek (frag*8+k)).1 (m.peek (frag*8+k)).2,.bool (inB (frag*8+k) m.l.length)] by unfold rdV;rw [if_pos hok]);have HV2:=zH (show rdM S m frag k=m.tick by unfold rdM;rw [if_pos hok]);rw [yd9 hok] at HF;clear hok;go_enter func249,ntmps249;go_wp2_with fail;refine HF.out.mono ?_;rintro e w1 ⟨rfl,hE⟩;have HE:=zH (Mod.ext (T:=fun _=>False) (g:=g) (show Ext g.w w1 from hE) 0);have HM1:=zH (HM.out.keep HE.out id);clear hE;go_wp2_with fail;refine (ybe (g.to 0 w1) tm bm (frag*8+k) m HM1.out hc).mono ?_;rintro e w2 ⟨rfl,own2,m2,r2⟩;have M2:=zH m2;have R2:=zH r2;clear m2 r2;cases hb:inB (frag*8+k) m.l.length
   · rw [hb] at HV;clear hb;go_wp2_with fail;go_ret2;exact ⟨by rw [HV.out];rfl,own2,(HE.out.mono (fun _=>False.elim)).trans M2.out,by rw [HV2.out];exact R2.out⟩
   · rw [hb] at HV;clear hb;go_wp2_with fail;go_ret2;exact ⟨by rw [HV.out];rfl,own2,(HE.out.mono (fun _=>False.elim)).trans M2.out,by rw [HV2.out];exact R2.out⟩
def FindMade (c:Cnf) (head k:Int) (array:Bool) (frag:Int) (t:Nat) (g:GW) (e:Ending) (w':World):Prop:= ∃own' b cm,e=.returned (.pointer (some ⟨b,0,none⟩))∧Mod (fun _=>False) g ⟨own',w'⟩∧FindAt ⟨own',w'⟩ t b (FindS.fresh cm head k array frag)∧cm.Same c
theorem yhg (c:Cnf) (head k:Int) (t:Nat) (g:GW) (hc:c.Ok g.w) (hmax:c.shapes.length≤1000000):Calls prog 207 #[c.val,.int .i64 head,.int .i64 k] g.w (FindMade c head k false head t g):=by
 have HC:=zH (ybC c (t+1) (g.to 9 (g.w.alloc (.cells #[.int .i64 c.frags,.int .i64 c.spine,.int .i64 c.globals,.int .i64 c.threads,.int .i64 c.locals,.int .i64 c.cache,.int .i64 c.stack,.int .i64 c.low,.slice c.A c.shapes.length c.cap] 34))) (hc.ext zE) hmax);have HE0:=zH (Mod.ext (T:=fun _=>False) (g:=g) (show Ext g.w (g.w.alloc (.cells #[.int .i64 c.frags,.int .i64 c.spine,.int .i64 c.globals,.int .i64 c.threads,.int .i64 c.locals,.int .i64 c.cache,.int .i64 c.stack,.int .i64 c.low,.slice c.A c.shapes.length c.cap] 34)) from zE) 9);unfold Cnf.val at HC ⊢;clear hc;go_enter func207,ntmps207;go_wp2_with fail;refine HC.out.mono ?_;rintro e w1 ⟨cm,rfl,hs,hm,hE⟩;have HS:=zH hs;have HM:=zH hm;have HE1:=zH (Mod.ext (T:=fun _=>False) (g:=g.to 9 (g.w.alloc (.cells #[.int .i64 c.frags,.int .i64 c.spine,.int .i64 c.globals,.int .i64 c.threads,.int .i64 c.locals,.int .i64 c.cache,.int .i64 c.stack,.int .i64 c.low,.slice c.A c.shapes.length c.cap] 34))) hE (t+1));clear hs hm hE;unfold Cnf.val;go_wp2_with fail;go_ret
 have m2:Mod (fun _=>False) ((g.to 9 (g.w.alloc (.cells #[.int .i64 c.frags,.int .i64 c.spine,.int .i64 c.globals,.int .i64 c.threads,.int .i64 c.locals,.int .i64 c.cache,.int .i64 c.stack,.int .i64 c.low,.slice c.A c.shapes.length c.cap] 34))).to (t+1) w1) _:=Mod.ext (T:=fun _=>False) (show Ext w1 (w1.alloc (.cells (FindS.fresh cm head k false head).cells.toArray 250)) from zE) t;exact ⟨_,w1.heap.size,cm,rfl,(HE0.out.trans HE1.out).trans m2,⟨Blk.new ((g.to 9 (g.w.alloc (.cells #[.int .i64 c.frags,.int .i64 c.spine,.int .i64 c.globals,.int .i64 c.threads,.int .i64 c.locals,.int .i64 c.cache,.int .i64 c.stack,.int .i64 c.low,.slice c.A c.shapes.length c.cap] 34))).to (t+1) w1) t 250 (FindS.fresh cm head k false head).cells,HM.out.keep m2 id⟩,HS.out⟩
theorem yfj (g:GW) (t b tm bm:Nat) (S:FindS) (m:MemS) (frag k:Int) (h:FindAt g t b S) (hm:MemAt g tm bm m) (hc:0≤m.count∧m.count≤1099511627776) (hok:S.okAt frag k=true) (hin:inB (frag*8+k) m.l.length=true) (p q:Nat) (hw:m.peek (frag*8+k)=(p,q)) (ht:t≠tm) (ht1:t+1≠tm):
 Calls prog 249 #[.pointer (some ⟨b,0,none⟩),.pointer (some ⟨bm,0,none⟩),.int .i64 frag,.int .i64 k] g.w (Does (.tuple #[.complex .f64 p q,.bool true]) g (fun x=>x=tm) (fun g'=>MemAt g' tm bm m.tick∧FindAt g' t b S)):=by
 refine (yiF g t b tm bm S m frag k h hm hc).mono ?_;rintro e w' ⟨rfl,own,md,r⟩;refine ⟨?_,own,md,?_,h.keep md (fun e=>ht e) (fun e=>ht1 e)⟩
 · unfold rdV;rw [if_pos hok,hw,hin]
 · unfold rdM at r;rw [if_pos hok] at r;exact r
theorem ydd (g:GW) (t b tm bm:Nat) (S S':FindS) (m:MemS) (r:Bool) (p q:Nat) (h:FindAt g t b S) (hm:MemAt g tm bm m) (hc:0≤m.count∧m.count≤1099511627776) (hpc:S.pc=0) (hok:S.okAt S.head 1=true) (hin:inB (S.head*8+1) m.l.length=true) (hw:m.peek (S.head*8+1)=(p,q)) (ht:t≠tm) (ht1:t+1≠tm)
 (hF: ∀g',FindAt g' t b S→Calls prog 250 #[.pointer (some ⟨b,0,none⟩),.complex .f64 p q] g'.w (Does (.bool r) g' (fun x=>x=t) (fun g''=>FindAt g'' t b S'))):
 Calls prog 211 #[.pointer (some ⟨b,0,none⟩),.pointer (some ⟨bm,0,none⟩)] g.w (Does (.bool (!r)) g (fun x=>x=t∨x=tm) (fun g'=>FindAt g' t b S'∧MemAt g' tm bm m.tick)):=by
 have c0:=h.blk.cell (i:=12) rfl;have c1:=h.blk.cell (i:=9) rfl;have hl:=h.blk.lt;rw [hpc] at c0;have HR:=zH (yfj g t b tm bm S m S.head 1 h hm hc hok hin p q hw ht ht1);have HF:=zH hF;have HT:=zH ht;clear h hm hpc hok hin hw hF ht ht1;go_enter func211,ntmps211;go_wp2_with fail;go_step3
 go_wp2_with fail;refine HR.out.mono ?_;rintro e w1 ⟨rfl,own1,m1,r1,r2⟩;have M1:=zH m1;have R1:=zH r1;have R2:=zH r2;clear m1 r1 r2 c0 c1 hl;go_wp2_with fail;refine (HF.out ⟨own1,w1⟩ R2.out).mono ?_;rintro e w2 ⟨rfl,own2,m2,r3⟩;have M2:=zH m2;have R3:=zH r3;clear m2 r3;go_wp2_with fail;rw [Exit.noGoto_ret];go_ret;exact ⟨rfl,own2,(M1.out.mono (fun x hx=>Or.inr hx)).trans (M2.out.mono (fun x hx=>Or.inl hx)),R3.out,R1.out.keep M2.out (fun e=>HT.out e.symm)⟩
theorem yeT (g:GW) (t b:Nat) (v:Value) (S:FindS) (h:FindAt g t b S) (hpc:S.pc=6):Calls prog 142 #[.pointer (some ⟨b,0,none⟩),v] g.w (fun e w'=>e=.returned (.bool true)∧g.w=w'):=by
 have c0:=h.blk.cell (i:=12) rfl;have hl:=h.blk.lt;rw [hpc] at c0;clear h hpc;go_enter func142,ntmps142;go_wp2_with fail;go_ret;exact ⟨rfl,rfl⟩
theorem yfX (g:GW) (t b bm:Nat) (S:FindS) (r:Bool) (T:Nat→Prop) (R:GW→Prop) (h:FindAt g t b S) (hpc:S.pc=0∨S.pc=1) (hs:0≤S.steps∧S.steps≤1099511627776) (hT:T t)
 (hB: ∀g',Mod (fun x=>x=t) g g'→FindAt g' t b { S with steps:=S.steps+1 }→Calls prog 211 #[.pointer (some ⟨b,0,none⟩),.pointer (some ⟨bm,0,none⟩)] g'.w (Does (.bool r) g' T R)):
 Calls prog 142 #[.pointer (some ⟨b,0,none⟩),.pointer (some ⟨bm,0,none⟩)] g.w (Does (.bool r) g T R):=by
 have c0:=h.blk.cell (i:=12) rfl;rcases hpc with hpc|hpc
 · rw [hpc] at c0;clear hpc;have c1:=h.blk.cell (i:=22) rfl;have f1:=h.blk.live 22;have hl:=h.blk.lt;have HO:=zH h.blk.own;have M1:=zH (show Mod (fun x=>x=t) g ⟨g.own,g.w.setCell ⟨b,22,none⟩ (zI z6 (S.steps+1))⟩ from Mod.st Mod.self HO.out);have HB:=zH (hB ⟨g.own,g.w.setCell ⟨b,22,none⟩ (zI z6 (S.steps+1))⟩ M1.out (h.st 22 (zI z6 (S.steps+1)) { S with steps:=S.steps+1 } rfl rfl));have HT:=zH hT;clear h hB hT;go_enter func142,ntmps142;go_wp2_with fail;refine HB.out.mono ?_;rintro e w1 ⟨rfl,own1,m1,r1⟩;have M2:=zH m1;have R1:=zH r1;clear m1 r1;go_wp2_with fail;go_ret;exact ⟨rfl,own1,(M1.out.mono (fun x hx=>hx▸HT.out)).trans M2.out,R1.out⟩
 · rw [hpc] at c0;clear hpc;have c1:=h.blk.cell (i:=22) rfl;have f1:=h.blk.live 22;have hl:=h.blk.lt;have HO:=zH h.blk.own;have M1:=zH (show Mod (fun x=>x=t) g ⟨g.own,g.w.setCell ⟨b,22,none⟩ (zI z6 (S.steps+1))⟩ from Mod.st Mod.self HO.out);have HB:=zH (hB ⟨g.own,g.w.setCell ⟨b,22,none⟩ (zI z6 (S.steps+1))⟩ M1.out (h.st 22 (zI z6 (S.steps+1)) { S with steps:=S.steps+1 } rfl rfl));have HT:=zH hT;clear h hB hT;go_enter func142,ntmps142;go_wp2_with fail;refine HB.out.mono ?_;rintro e w1 ⟨rfl,own1,m1,r1⟩;have M2:=zH m1;have R1:=zH r1;clear m1 r1;go_wp2_with fail;go_ret;exact ⟨rfl,own1,(M1.out.mono (fun x hx=>hx▸HT.out)).trans M2.out,R1.out⟩
theorem ydv (g:GW) (t b:Nat) (S:FindS) (p q:Nat) (kd md:Int) (refs:List Bool) (k:Nat) (h:FindAt g t b S) (ht: ∀w,Calls prog 248 #[.complex .f64 p q] w (Gives (.tuple #[.int .i64 kd,.int .i64 md,.bool true]) w)) (hat:S.c.shapeAt kd=some (false,refs)) (ha:S.array=false) (hk:S.k=k) (hlt:k<refs.length)
 (hfd: ∀A cap,Shp.hasField ⟨false,A,cap,refs⟩ k=true) (hmd:md=1∨md=0∧Shp.placeF k=0) (hh:0≤S.head∧S.head≤100000):
 Calls prog 250 #[.pointer (some ⟨b,0,none⟩),.complex .f64 p q] g.w (Does (.bool false) g (fun x=>x=t) (fun g'=>FindAt g' t b (FindS.stands { S with ref:=refs.getD k false } (S.head+Shp.placeF k) (Shp.placeW k)))):=by
 have HA:=zH ha;have HK:=zH hk;have HMD:=zH hmd;have HHH:=zH hh;clear ha hk hmd hh;have HSH:=zH (fun w' (he:Ext g.w w')=>yax S.c kd w' (h.cnf.ok.ext he));unfold Cnf.val at HSH;have H:=zH h;have HT:=zH (ht g.w);clear h ht;go_enter func250,ntmps250;go_wp2_with fail;refine HT.out.mono ?_;rintro e w1 ⟨rfl,hE⟩;have HE1:=zH (Mod.ext (T:=fun _=>False) (g:=g) (show Ext g.w w1 from hE) 0);have H1:=zH (H.out.keep HE1.out id id);have HX1:=zH (show Ext g.w w1 from hE);clear hE HT;have k0:=H1.out.blk.cell (i:=0) rfl;have k1:=H1.out.blk.cell (i:=1) rfl;have k2:=H1.out.blk.cell (i:=2) rfl;have k3:=H1.out.blk.cell (i:=3) rfl;have k4:=H1.out.blk.cell (i:=4) rfl;have k5:=H1.out.blk.cell (i:=5) rfl;have k6:=H1.out.blk.cell (i:=6) rfl;have k7:=H1.out.blk.cell (i:=7) rfl;have k8:=H1.out.blk.cell (i:=8) rfl;have hl:=H1.out.blk.lt;simp only [GW.to] at k0 k1 k2 k3 k4 k5 k6 k7 k8 hl;go_wp2_with fail;refine (HSH.out _ HX1.out).mono ?_;rintro e w2 ⟨s',rfl,hs,hfr,hok,hE⟩;have HS:=zH (hs.trans (by rw [hat];rfl:_=(false,refs)));have HI:=zH (show (S.c.shapeAt kd).isSome=true by rw [hat];rfl);have HOK:=zH hok;clear hs hfr hok HSH k0 k1 k2 k3 k4 k5 k6 k7 k8 hl hat;rw [HI.out];obtain ⟨arr',A',cap',refs'⟩:=s'
 have ha:arr'=false:=congrArg Prod.fst HS.out;have hr:refs'=refs:=congrArg Prod.snd HS.out;subst ha hr;clear HS HI;unfold Shp.val;have HE2:=zH (Mod.ext (T:=fun _=>False) (g:=g.to 0 w1) (show Ext w1 (w2.alloc (.cells #[.bool false,.slice A' refs'.length cap'] 94)) from (show Ext w1 w2 from hE).trans zE) 0);have HE:=zH (HE1.out.trans HE2.out);have H2:=zH (H1.out.keep HE2.out id id);have HB:=zH (show (w2.alloc (.cells #[.bool false,.slice A' refs'.length cap'] 94)).heap[w2.heap.size]?=some (.cells #[.bool false,.slice A' refs'.length cap'] 94) from World.row_alloc_new _);have HOK2:=zH (HOK.out.ext (show Ext w2 (w2.alloc (.cells #[.bool false,.slice A' refs'.length cap'] 94)) from zE));clear hE H1 HX1 HE1 HE2 H HOK;go_upto_region 3 with fail
 generalize w2.heap.size=bs at *;generalize w2.alloc (.cells #[.bool false,.slice A' refs'.length cap'] 94)=wb at *;have c1:=H2.out.blk.cell (i:=11) rfl;have c2:=H2.out.blk.cell (i:=12) rfl;have c3:=H2.out.blk.cell (i:=20) rfl;have c4:=H2.out.blk.cell (i:=10) rfl;have c5:=H2.out.blk.cell (i:=9) rfl;have f2:=H2.out.blk.live 12;have f3:=H2.out.blk.live 20;have f4:=H2.out.blk.live 14;have f5:=H2.out.blk.live 15;have hl:=H2.out.blk.lt;have s0:wb.cell? ⟨bs,0,none⟩=some (.bool false):=by simp only [World.cell?,HB.out];rfl
 have s1:wb.cell? ⟨bs,1,none⟩=some (.slice A' refs'.length cap'):=by simp only [World.cell?,HB.out];rfl
 have hbs:bs<wb.heap.size:=(Array.getElem?_eq_some_iff.1 HB.out).1;simp only [GW.to] at c1 c2 c3 c4 c5 f2 f3 f4 f5 hl;have HO:=zH H2.out.blk.own;rw [HA.out] at c1;rw [HK.out] at c4;have hlen:refs'.length≤140737488355328:=HOK2.out.max
 have HPL:=zH (fun X=>(show Calls prog 257 #[.agg #[.bool false,.slice A' refs'.length cap'],.int .i64 k] (wb.patch X) (Gives (.tuple #[.int .i64 (Shp.placeF k),.int .i64 (Shp.placeW k),.bool true]) (wb.patch X)) from by
  have h1:=ycL ⟨false,A',cap',refs'⟩ k (wb.patch X) (HOK2.out.ext ⟨X,rfl⟩) zo zo;unfold Shp.place at h1;rw [if_pos (hfd A' cap')] at h1;exact h1))
 obtain ⟨bq,oq,hA,hbq,hcq⟩:=HOK2.out.refs.cases (by simpa using Nat.lt_of_le_of_lt (Nat.zero_le _) hlt);have z0:=hcq k (.bool (refs'.getD k false)) (by rw [List.getElem?_map,List.getElem?_eq_getElem hlt,List.getD_eq_getElem?_getD,List.getElem?_eq_getElem hlt];rfl);simp only at hA;subst hA;generalize hrf:refs'.getD k false=rf at *;have HRF:=zH hrf;have HEX:=zH (H2.out.st 20 (.bool rf) { S with ref:=rf } rfl rfl);have hpb:0≤Shp.placeF k∧Shp.placeF k≤140737488355328:=by unfold Shp.placeF;split<;>omega
 generalize hpf:Shp.placeF (k:Int)=pf at *;generalize hpw:Shp.placeW (k:Int)=pw at *;have HPF:=zH (And.intro hpf hpw);obtain ⟨hh0,hh1⟩:=HHH.out;obtain ⟨hp0,hp1⟩:=hpb;have hik:(k:Int)<refs'.length:=zo;clear hcq hrf hpf hpw hfd;have HSTD:=zH (fun X=>yfW (GW.pt ⟨((g.to 0 w1).to 0 wb).own,wb.setCell ⟨b,20,none⟩ (.bool rf)⟩ X) t b { S with ref:=rf } (S.head+pf) pw (HEX.out.keep (Mod.pt (Mod.refl (fun _=>False) _) X) id id))
 have HEND:=zH (fun own3 (w3:World) (M:Mod (fun x=>x=t) ⟨((g.to 0 w1).to 0 wb).own,wb.setCell ⟨b,20,none⟩ (.bool rf)⟩ ⟨own3,w3⟩) (r:FindAt ⟨own3,w3⟩ t b (FindS.stands { S with ref:=rf } (S.head+pf) pw))=>show Does (.bool false) g (fun x=>x=t) (fun g'=>FindAt g' t b (FindS.stands { S with ref:=refs'.getD k false } (S.head+Shp.placeF k) (Shp.placeW k))) (.returned (.bool false)) w3 from by
  refine ⟨rfl,own3,(HE.out.mono (fun _=>False.elim)).trans ((Mod.st Mod.self HO.out).trans M),?_⟩;rw [HRF.out,HPF.out.1,HPF.out.2];exact r)
 rcases HMD.out with rfl|⟨rfl,h0⟩
 · clear HMD;go_wp2_with fail;refine yab [zT,zT,zT,zT,zT,zT,zT,zT] 0 8 ?_;intro X00;simp only [pickOps];repeat (go_big_quiet_step (fail))
   refine wpQuiet_nil (fun X0=>?_);clear X00;refine yaa zQ (fun X0'=>?_) _;go_wp2_with fail;refine ycS (base:=wb) zE (fun Z=>?_);refine yab [zT,zT,zT,zT,zT,zT,zT,zT,zT,zT,zT,zT,zT] 0 13 ?_;intro X00;simp only [pickOps];repeat (go_big_quiet_step ((go_at_call 257;exact Calls.added2 (HPL.out _))))
   refine wpQuiet_nil (fun X0=>?_);clear X00;refine yaa zQ (fun X0'=>?_) _;go_wp2_with fail;refine yab [zT,zT,zT,zT,zT,zT,zT,zT,zT,zT,zT,zU] 1 11 ?_;intro X00;simp only [pickOps];repeat (go_big_quiet_step (fail))
   refine wpQuiet_nil (fun X0=>?_);clear X00;refine yae rfl zQ (fun X2=>?_);simp only [List.drop_succ_cons,List.drop_zero];go_wp2_with fail;refine (HSTD.out _).mono ?_;rintro e w3 ⟨rfl,own3,m3,r3⟩;have M3:=zH m3;have R3:=zH r3;clear m3 r3;go_wp2_with fail;go_ret;exact HEND.out own3 w3 ((Mod.pt (Mod.refl _ _) _).trans M3.out) R3.out
 · have hpz:(pf==0)=true:=beq_iff_eq.2 h0;clear h0 HMD;go_wp2_with fail;refine yab [zT,zT,zT,zT,zT,zT,zT,zT] 0 8 ?_;intro X00;simp only [pickOps];repeat (go_big_quiet_step (fail))
   refine wpQuiet_nil (fun X0=>?_);clear X00;refine yaa zQ (fun X0'=>?_) _;go_wp2_with fail;refine ycS (base:=wb) zE (fun Z=>?_);refine yab [zT,zT,zT,zT,zT,zT,zT,zT,zT,zT,zT,zT,zT] 0 13 ?_;intro X00;simp only [pickOps];repeat (go_big_quiet_step ((go_at_call 257;exact Calls.added2 (HPL.out _))))
   refine wpQuiet_nil (fun X0=>?_);clear X00;refine yaa zQ (fun X0'=>?_) _;go_wp2_with fail;refine yab [zT,zT,zT,zT,zT,zT,zT,zT,zT,zT,zT,zU] 1 11 ?_;intro X00;simp only [pickOps];repeat (go_big_quiet_step (fail))
   refine wpQuiet_nil (fun X0=>?_);clear X00;refine yae rfl zQ (fun X2=>?_);simp only [List.drop_succ_cons,List.drop_zero];go_wp2_with fail;refine (HSTD.out _).mono ?_;rintro e w3 ⟨rfl,own3,m3,r3⟩;have M3:=zH m3;have R3:=zH r3;clear m3 r3;go_wp2_with fail;go_ret;exact HEND.out own3 w3 ((Mod.pt (Mod.refl _ _) _).trans M3.out) R3.out
theorem yaE {c d:Cnf} (h:c.Same d) (k:Int):c.shapeAt k=d.shapeAt k:=by
 have e: ∀l:List Shp, ∀n:Nat,(l[n]?).map (fun s=>(s.arr,s.refs))=(l.map Shp.data)[n]?:=fun l n=>by rw [List.getElem?_map];rfl
 unfold Cnf.shapeAt;rw [e,e,h.shapes]
namespace FindS
def okRd (S:FindS) (m:MemS) (frag k:Int):Bool:=S.okAt frag k&&inB (frag*8+k) m.l.length
def rdTell (S:FindS) (m:MemS):Option (Int × Int):=if S.okRd m S.head 1 then wTell (m.peek (S.head*8+1)) else none
def withRef (S:FindS) (r:Bool):FindS:={ S with ref:=r }
def up (S:FindS):FindS:={ S with steps:=S.steps+1 }
abbrev R:=Option (Bool × FindS × MemS)
def firstO (S:FindS) (m:MemS) (kd md:Int) (arr:Bool) (refs:List Bool):R:=
 if arr≠S.array then none
 else if arr=true then none
 else if S.k<0∨(refs.length:Int)≤S.k then none
 else if 40<refs.length then none
 else if md=1∨md=0∧Shp.placeF S.k=0 then (if 0≤S.head∧S.head≤100000 then some (true,(S.withRef (refs.getD S.k.toNat false)).stands (S.head+Shp.placeF S.k) (Shp.placeW S.k),m.tick) else none)
 else none
def headO (S:FindS) (m:MemS):R:=match S.rdTell m with
 |none=>none
 |some (kd,md)=>match S.c.shapeAt kd with
  |none=>none
  |some (arr,refs)=>S.firstO m kd md arr refs
def stepO (S:FindS) (m:MemS):R:=
 if S.pc=6 then some (true,S,m) else if S.pc=0 then S.up.headO m else none
def withC (S:FindS) (cm:Cnf):FindS:={ S with c:=cm }
def mapC (cm:Cnf) (r:R):R:=r.map fun x=>(x.1,x.2.1.withC cm,x.2.2)
section
variable {S:FindS} {cm:Cnf}
theorem okAt_same (h:cm.Same S.c) (frag k:Int):(S.withC cm).okAt frag k=S.okAt frag k:=by unfold okAt withC;simp only;rw [h.check,h.frags]
theorem yjm (h:cm.Same S.c) (m:MemS) (frag k:Int):(S.withC cm).okRd m frag k=S.okRd m frag k:=by unfold okRd;rw [okAt_same h]
theorem ygq (h:cm.Same S.c) (frag k:Int):(S.withC cm).stands frag k=(S.stands frag k).withC cm:=by
 unfold stands;rw [okAt_same h];split<;>rfl
theorem yf3 (h:cm.Same S.c) (m:MemS) (kd md:Int) (arr:Bool) (refs:List Bool):(S.withC cm).firstO m kd md arr refs=mapC cm (S.firstO m kd md arr refs):=by
 unfold firstO;have e: ∀(r:Bool) (a b:Int),((S.withC cm).withRef r).stands a b=((S.withRef r).stands a b).withC cm:=fun r a b=>ygq (S:=S.withRef r) h a b;rw [show (S.withC cm).array=S.array from rfl,show (S.withC cm).k=S.k from rfl,show (S.withC cm).head=S.head from rfl,e];repeat (first|rfl|split)
theorem yhr (h:cm.Same S.c) (m:MemS):(S.withC cm).headO m=mapC cm (S.headO m):=by
 unfold headO;have e:(S.withC cm).rdTell m=S.rdTell m:=by unfold rdTell;rw [show (S.withC cm).head=S.head from rfl,yjm h]
 rw [e];cases hx:S.rdTell m with
 |none=>rfl
 |some x=>
  obtain ⟨kd,md⟩:=x;simp only;rw [show (S.withC cm).c=cm from rfl,yaE h];cases hy:S.c.shapeAt kd with
  |none=>rfl
  |some y=>
   obtain ⟨arr,refs⟩:=y;exact yf3 h m kd md arr refs
theorem stepO_same (h:cm.Same S.c) (m:MemS):(S.withC cm).stepO m=mapC cm (S.stepO m):=by
 unfold stepO;rw [show (S.withC cm).pc=S.pc from rfl,show (S.withC cm).up=S.up.withC cm from rfl,yhr (S:=S.up) h];repeat (first|rfl|split)
end
end FindS
theorem yiP {refs:List Bool} {k:Nat} (hl:refs.length≤40) (hk:k<refs.length) (A:Option Addr) (cap:Nat):Shp.hasField ⟨false,A,cap,refs⟩ k=true:=by
 unfold Shp.hasField Shp.may Shp.len;simp only [Bool.not_false,Bool.and_true,Bool.and_eq_true,decide_eq_true_eq];exact ⟨⟨hl,fun h=>by cases h⟩,zo,zo⟩
theorem FindS.okRd_of {S:FindS} {m:MemS} {f k:Int} (h:S.okRd m f k=true):S.okAt f k=true∧inB (f*8+k) m.l.length=true:=by
 unfold FindS.okRd at h;exact Bool.and_eq_true_iff.1 h
theorem FindS.rdTell_of {S:FindS} {m:MemS} {kd md:Int} (h:S.rdTell m=some (kd,md)):S.okAt S.head 1=true∧inB (S.head*8+1) m.l.length=true∧wTell (m.peek (S.head*8+1))=some (kd,md):=by
 unfold FindS.rdTell at h;split at h
 · rename_i h1;exact ⟨(okRd_of h1).1,(okRd_of h1).2,h⟩
 · cases h
section
variable {t b tm bm:Nat}
theorem yfi (S:FindS) (m:MemS) (kd md:Int) (arr:Bool) (refs:List Bool) (p:Nat × Nat) (x:Bool × FindS × MemS) (htl:wTell p=some (kd,md)) (hsa:S.c.shapeAt kd=some (arr,refs)) (hkb: -9223372036854775808≤S.k∧S.k≤9223372036854775807) (ho:S.firstO m kd md arr refs=some x):
 x.2.2=m.tick∧ ∀g',FindAt g' t b S→Calls prog 250 #[.pointer (some ⟨b,0,none⟩),.complex .f64 p.1 p.2] g'.w (Does (.bool (!x.1)) g' (fun x=>x=t) (fun g''=>FindAt g'' t b x.2.1)):=by
 have htell: ∀w,Calls prog 248 #[.complex .f64 p.1 p.2] w (Gives (.tuple #[.int .i64 kd,.int .i64 md,.bool true]) w):=fun w=>by
  have h1:=yaQ p w;rw [htl] at h1;exact h1
 unfold FindS.firstO at ho;by_cases ha:arr≠S.array
 · rw [if_pos ha] at ho;cases ho
 rw [if_neg ha] at ho;have ha':arr=S.array:=by simpa using ha
 by_cases har:arr=true
 · rw [if_pos har] at ho;cases ho
 rw [if_neg har] at ho;have haf:arr=false:=by simpa using har
 rw [haf] at hsa;by_cases h1:S.k<0∨(refs.length:Int)≤S.k
 · rw [if_pos h1] at ho;cases ho
 rw [if_neg h1] at ho;by_cases h2:40<refs.length
 · rw [if_pos h2] at ho;cases ho
 rw [if_neg h2] at ho;obtain ⟨k,hk⟩: ∃k:Nat,S.k=k:=⟨S.k.toNat,zo⟩;have hkl:k<refs.length:=zo;obtain ⟨c0,hd0,k0,ar0,pc0,fr0,ah0,wo0,n0,mo0,sl0,at0,re0,e0,st0⟩:=S;simp only at hk hsa ha' ho;subst hk;rw [Int.toNat_natCast] at ho;by_cases h3:md=1∨md=0∧Shp.placeF k=0
 · rw [if_pos h3] at ho;by_cases h4:0≤hd0∧hd0≤100000
   · rw [if_pos h4] at ho;injection ho with ho;subst ho;exact ⟨rfl,fun g' hf=>ydv g' t b _ _ _ kd md refs k hf htell hsa (by rw [←haf,ha']) rfl hkl (yiP zo hkl) h3 h4⟩
   · rw [if_neg h4] at ho;cases ho
 rw [if_neg h3] at ho;cases ho
theorem yeS (g:GW) (S:FindS) (m:MemS) (x:Bool × FindS × MemS) (h:FindAt g t b S) (hm:MemAt g tm bm m) (hc:0≤m.count∧m.count≤1099511627776) (ht:t≠tm) (ht1:t+1≠tm) (hkb: -9223372036854775808≤S.k∧S.k≤9223372036854775807) (ho:S.pc=0∧S.headO m=some x):
 Calls prog 211 #[.pointer (some ⟨b,0,none⟩),.pointer (some ⟨bm,0,none⟩)] g.w (Does (.bool x.1) g (fun x=>x=t∨x=tm) (fun g'=>FindAt g' t b x.2.1∧MemAt g' tm bm x.2.2)):=by
 obtain ⟨hpc,ho⟩:=ho
 · unfold FindS.headO at ho;cases ht0:S.rdTell m with
   |none=>rw [ht0] at ho;cases ho
   |some y=>
    obtain ⟨kd,md⟩:=y;rw [ht0] at ho;simp only at ho;obtain ⟨ok1,in1,tl⟩:=FindS.rdTell_of ht0;cases hsa:S.c.shapeAt kd with
    |none=>rw [hsa] at ho;cases ho
    |some z=>
     obtain ⟨arr,refs⟩:=z;rw [hsa] at ho;simp only at ho;obtain ⟨hx,hF⟩:=yfi (t:=t) (b:=b) S m kd md arr refs _ x tl hsa hkb ho;have:=ydd g t b tm bm S x.2.1 m (!x.1) _ _ h hm hc hpc ok1 in1 (by rfl) ht ht1 hF;rw [Bool.not_not] at this;rw [hx];exact this
theorem yfY (g:GW) (S:FindS) (m:MemS) (x:Bool × FindS × MemS) (h:FindAt g t b S) (hm:MemAt g tm bm m) (hs:0≤S.steps∧S.steps≤1099511627776) (hc:0≤m.count∧m.count≤1099511627776) (ht:t≠tm) (ht1:t+1≠tm) (hkb: -9223372036854775808≤S.k∧S.k≤9223372036854775807) (ho:S.stepO m=some x):
 Calls prog 142 #[.pointer (some ⟨b,0,none⟩),.pointer (some ⟨bm,0,none⟩)] g.w (Does (.bool x.1) g (fun x=>x=t∨x=tm) (fun g'=>FindAt g' t b x.2.1∧MemAt g' tm bm x.2.2)):=by
 have keepM: ∀g',Mod (fun x=>x=t) g g'→MemAt g' tm bm m:=fun g' m=>hm.keep m (fun e=>ht e.symm);unfold FindS.stepO at ho;split at ho
 · rename_i h6
   injection ho with ho;subst ho;refine (yeT g t b _ S h h6).mono ?_;rintro e w' ⟨rfl,rfl⟩;exact Does.of g rfl rfl (Mod.refl _ _) ⟨h,hm⟩
 split at ho
 · rename_i hp
   exact yfX g t b bm S x.1 _ _ h (Or.inl hp) hs (Or.inl rfl) (fun g' m' h'=>yeS g' S.up m x h' (keepM g' m') hc ht ht1 hkb ⟨hp,ho⟩)
 · cases ho
end
end Go.Proofs.YtdhjjpnajjingaaGreat
