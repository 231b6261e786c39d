import Derived.Test.YtdhjjpnajjingaaGreatKF09
set_option linter.unusedVariables false
set_option linter.unnecessarySimpa false
set_option linter.unusedSimpArgs false
open Bool renaming true→zT,false→zU
open Go.Value renaming int→zI,complex→zc,pointer→zp,bool→zb
open Go.IntKind renaming i64→z6
open Go.FloatKind renaming f64→z4
set_option maxHeartbeats 8000000
set_option maxRecDepth 100000
open Go.Proofs.Tryz
open Go.Lib renaming hid→zH
open Go.Ext renaming alloc→zA,patch→zP,drew→zD,drewN→zN,more→zM,refl→zR,setCell→zS
open Nat renaming le_refl→zL,le_add_right→zK
namespace Go.Proofs.YtdhjjpnajjingaaGreat
open Go Go.RowKit
structure TraceS.Ok (S:TraceS):Prop where
 pc:0≤S.pc∧S.pc≤9
 rng:S.pc≠9→(0≤S.j∧S.j≤64)∧(0≤S.n∧S.n≤512)∧(0≤S.base∧S.base≤100000)
 chk:S.pc≠0→S.pc≠9→S.c.check=0∧S.shp.may=true
 wd:S.pc=1→S.words≠[]
 j3:S.pc=3→S.j+1≤64
 md:S.pc=7→S.mode=1∨S.mode=2
theorem TraceS.Ok.bd {S:TraceS} (h:S.Ok) (h0:S.pc≠0) (h9:S.pc≠9):S.Bd:=
 ⟨by have:=(h.rng h9).1;omega,(h.rng h9).2.1,(h.rng h9).2.2,(h.chk h0 h9).1,(h.chk h0 h9).2⟩
theorem yl0 {S:TraceS} (h:S.shp.may=true):S.frs≤64:=by
 unfold TraceS.frs;split
 · exact (yaW S.n).2
 · have h1:S.refs.length≤40:=(of_decide_eq_true h).1;unfold Shp.size Shp.len TraceS.shp;simp only;repeat (first|split|omega)
theorem TraceS.fresh_ok (c:Cnf) (head:Int) (sense:Bool):(TraceS.fresh c head sense).Ok:=⟨by show (0:Int)≤0∧(0:Int)≤9;decide,fun _=>by show ((0:Int)≤0∧(0:Int)≤64)∧((0:Int)≤0∧(0:Int)≤512)∧((0:Int)≤0∧(0:Int)≤100000);decide,fun h=>absurd rfl h,fun h=>absurd h (by show¬(0:Int)=1;decide),fun h=>absurd h (by show¬(0:Int)=3;decide),fun h=>absurd h (by show¬(0:Int)=7;decide)⟩
theorem TraceS.ended_ok {S:TraceS}:({ S with pc:=9,e:=10 }:TraceS).Ok:=⟨by show (0:Int)≤9∧(9:Int)≤9;decide,fun h=>absurd rfl h,fun _ h=>absurd rfl h,fun h=>absurd h (by show¬(9:Int)=1;decide),fun h=>absurd h (by show¬(9:Int)=3;decide),fun h=>absurd h (by show¬(9:Int)=7;decide)⟩
theorem TraceS.pc9_ok {S:TraceS} (h:S.pc=9):S.Ok:=⟨zo,fun e=>absurd h e,fun _ e=>absurd h e,fun e=>by omega,fun e=>by omega,fun e=>by omega⟩
theorem TraceS.gone_ok {S:TraceS} (hr:(0≤S.j∧S.j≤64)∧(0≤S.n∧S.n≤512)∧(0≤S.base∧S.base≤100000)) (hc:S.c.check=0∧S.shp.may=true):S.gone.Ok:=by
 have hf:=yl0 hc.2;unfold TraceS.gone TraceS.goes TraceS.goesPc;by_cases hw:S.words≠[]
 · rw [if_pos hw,if_pos hw];exact ⟨by show (0:Int)≤1∧(1:Int)≤9;decide,fun _=>hr,fun _ _=>hc,fun _=>hw,fun h=>absurd h (by show¬(1:Int)=3;decide),fun h=>absurd h (by show¬(1:Int)=7;decide)⟩
 · rw [if_neg hw,if_neg hw];by_cases h1:S.frs≤S.j+1
   · rw [if_pos h1,if_pos h1];exact TraceS.pc9_ok rfl
   · rw [if_neg h1,if_neg h1];by_cases ha:S.arr=false
     · rw [if_pos ha,if_pos ha];exact ⟨by show (0:Int)≤3∧(3:Int)≤9;decide,fun _=>hr,fun _ _=>hc,fun h=>absurd h (by show¬(3:Int)=1;decide),fun _=>by show S.j+1≤64;omega,fun h=>absurd h (by show¬(3:Int)=7;decide)⟩
     · rw [if_neg ha,if_neg ha];have hr':(0≤S.j+1∧S.j+1≤64)∧(0≤S.n∧S.n≤512)∧(0≤S.base∧S.base≤100000):=zo;unfold TraceS.enters TraceS.entersPc;simp only;by_cases hm:S.mode=2
       · rw [if_pos hm,if_pos hm];exact ⟨by show (0:Int)≤4∧(4:Int)≤9;decide,fun _=>hr',fun _ _=>hc,fun h=>absurd h (by show¬(4:Int)=1;decide),fun h=>absurd h (by show¬(4:Int)=3;decide),fun h=>absurd h (by show¬(4:Int)=7;decide)⟩
       · rw [if_neg hm,if_neg hm];exact ⟨by show (0:Int)≤8∧(8:Int)≤9;decide,fun _=>hr',fun _ _=>hc,fun h=>absurd h (by show¬(8:Int)=1;decide),fun h=>absurd h (by show¬(8:Int)=3;decide),fun h=>absurd h (by show¬(8:Int)=7;decide)⟩
structure TrApart (t tm ts tt tp:Nat):Prop where
 a:t≠tm∧t+1≠tm∧t≠ts∧t+1≠ts∧t≠tt∧t+1≠tt∧t≠tp∧t+1≠tp∧tm≠ts∧tm≠tt∧tm≠tp∧ts≠tt∧ts≠tp∧tt≠tp
def trT (t tm ts tt tp:Nat):Nat→Prop:=fun x=>x=t∨x=tm∨x=ts∨x=tt∨x=tp
structure TrAt (g:GW) (t tm ts tt tp b bm bs bt bp:Nat) (w:TrW):Prop where
 tr:TraceAt g t b w.s
 mem:MemAt g tm bm w.m
 shd:ShdAt g ts bs bt tt bp tp w.T w.p w.k
theorem TrAt.keep {U:Nat→Prop} {g g':GW} {t tm ts tt tp b bm bs bt bp:Nat} {w:TrW} (h:TrAt g t tm ts tt tp b bm bs bt bp w) (m:Mod U g g') (h1: ¬U t) (h2: ¬U (t+1)) (h3: ¬U tm) (h4: ¬U ts) (h5: ¬U tt) (h6: ¬U tp):TrAt g' t tm ts tt tp b bm bs bt bp w:=⟨h.tr.keep m h1 h2,h.mem.keep m h3,h.shd.keep m h4 h5 h6⟩
namespace TrW
theorem head_eq (w:TrW):w.head=(⟨w.head.1.s,w.s.rdM w.m w.s.head 1,w.T,w.p,w.k⟩,w.head.2):=by unfold head;split<;>rfl
theorem field_eq (w:TrW):w.field=(⟨w.field.1.s,w.s.rdM w.m w.s.frag (w.s.words.headD 0),w.T,w.p,w.k⟩,w.field.2):=by unfold field;(repeat' split)<;>rfl
theorem link_eq (w:TrW):w.link=(⟨w.link.1.s,w.s.rdM w.m w.s.frag 0,w.T,w.p,w.k⟩,w.link.2):=by unfold link;(repeat' split)<;>rfl
theorem length_eq (w:TrW):w.length=(⟨w.length.1.s,w.s.rdM w.m w.s.head 2,w.T,w.p,w.k⟩,w.length.2):=by unfold length;(repeat' split)<;>rfl
theorem mode_eq (w:TrW):w.mode=(⟨w.mode.1.s,w.s.rdM w.m w.s.head 3,w.T,w.p,w.k⟩,w.mode.2):=by unfold mode;(repeat' split)<;>rfl
theorem base_eq (w:TrW):w.base=(⟨w.base.1.s,w.s.rdM w.m w.s.head 4,w.T,w.p,w.k⟩,w.base.2):=by unfold base;(repeat' split)<;>rfl
theorem slot_eq (w:TrW):w.slot=(⟨w.slot.1.s,w.slotM,w.T,w.p,w.k⟩,w.slot.2):=by unfold slot;split<;>rfl
end TrW
section
variable {t tm ts tt tp b bm bs bt bp:Nat}
theorem yiF (g:GW) (A:TrApart t tm ts tt tp) (w:TrW) (H:TrAt g t tm ts tt tp b bm bs bt bp w) (hok:w.s.Ok) (h9:w.s.pc≠9) (hc:0≤w.m.count∧w.m.count≤1099511627776) (hk:0≤w.k∧w.k≤1099511627776) (hp5:w.s.pc<5):
 Calls prog 229 #[zp (some ⟨b,0,none⟩),zp (some ⟨bm,0,none⟩),zp (some ⟨bs,0,none⟩)] g.w (Does (zb w.does.2) g (trT t tm ts tt tp) (fun g'=>TrAt g' t tm ts tt tp b bm bs bt bp w.does.1)):=by
 have hA:=A.a;obtain ⟨P,hP⟩:=H.tr;have keepS: ∀g',Mod (fun x=>x=t∨x=tm) g g'→ShdAt g' ts bs bt tt bp tp w.T w.p w.k:=fun g' m=>H.shd.keep m zo zo zo;have keepM: ∀g',Mod (fun x=>x=t∨x=ts∨x=tt∨x=tp) g g'→MemAt g' tm bm w.m:=fun g' m=>H.mem.keep m zo;have sub1: ∀x,(x=t∨x=tm)→trT t tm ts tt tp x:=fun x hx=>by unfold trT;omega
 have sub2: ∀x,(x=t∨x=ts∨x=tt∨x=tp)→trT t tm ts tt tp x:=fun x hx=>by unfold trT;omega
 obtain ⟨S,m,T,p,k⟩:=w;simp only at *;have hpc:=hok.pc;rcases (show S.pc=0∨S.pc=1∨S.pc=2∨S.pc=3∨S.pc=4 by omega) with e|e|e|e|e
 · have hr:=hok.rng h9;have hd:TrW.does ⟨S,m,T,p,k⟩=TrW.head ⟨S,m,T,p,k⟩:=by unfold TrW.does;simp only;rw [if_pos e]
   rw [hd,TrW.head_eq];exact (yjc g t b tm bm bs S m ⟨P,hP⟩ H.mem hc zo zo e zo zo zo T p k).mono (fun e w' h=>Does.impT h sub1 (fun g' m r=>⟨r.1,r.2,keepS g' m⟩))
 all_goals have hb:=hok.bd zo h9
 · have hd:TrW.does ⟨S,m,T,p,k⟩=TrW.field ⟨S,m,T,p,k⟩:=by unfold TrW.does;simp only [e];rfl
   have hw:=hok.wd e;obtain ⟨x,l,hxl⟩:=List.exists_cons_of_ne_nil hw;have hq:=TrW.field_eq ⟨S,m,T,p,k⟩;simp only [hxl,List.headD_cons] at hq;rw [hd,hq];refine ybx g t b bm bs S ⟨P,hP⟩ zo zo _ _ _ ?_;exact (yg7 g t b tm bm bs S P m x l hP H.mem hc zo zo e hxl hb _ _ T p k hq).mono (fun e w' h=>Does.impT h sub1 (fun g' m r=>⟨r.1,r.2,keepS g' m⟩))
 · have hd:TrW.does ⟨S,m,T,p,k⟩=TrW.grey ⟨S,m,T,p,k⟩:=by unfold TrW.does;simp only [e];rfl
   rw [hd];refine ybx g t b bm bs S ⟨P,hP⟩ zo zo _ _ _ ?_;exact (yiH g t b bm ts bs bt tt bp tp S P T p k hP H.shd hk e hb zo zo zo zo zo zo zo zo zo).mono (fun e w' h=>Does.impT h sub2 (fun g' m r=>⟨r.1,keepM g' m,r.2⟩))
 · have hd:TrW.does ⟨S,m,T,p,k⟩=TrW.link ⟨S,m,T,p,k⟩:=by unfold TrW.does;simp only [e];rfl
   have hq:=TrW.link_eq ⟨S,m,T,p,k⟩;rw [hd,hq];refine ybx g t b bm bs S ⟨P,hP⟩ zo zo _ _ _ ?_;exact (yiI g t b tm bm bs S P m hP H.mem hc zo zo e hb _ _ T p k hq).mono (fun e w' h=>Does.impT h sub1 (fun g' m r=>⟨r.1,r.2,keepS g' m⟩))
 · have hd:TrW.does ⟨S,m,T,p,k⟩=TrW.part ⟨S,m,T,p,k⟩:=by unfold TrW.does;simp only [e];rfl
   rw [hd];refine ybx g t b bm bs S ⟨P,hP⟩ zo zo _ _ _ ?_;exact (yiJ g t b bm ts bs bt tt bp tp S P T p k hP H.shd hk e hb zo zo zo zo zo zo zo zo zo).mono (fun e w' h=>Does.impT h sub2 (fun g' m r=>⟨r.1,keepM g' m,r.2⟩))
theorem yeW {w:TrW} (h:w.s.Ok):w.ticked.s.Ok:=⟨h.pc,h.rng,h.chk,h.wd,h.j3,h.md⟩
theorem yiG (g:GW) (A:TrApart t tm ts tt tp) (w:TrW) (H:TrAt g t tm ts tt tp b bm bs bt bp w) (hok:w.s.Ok) (hs:0≤w.s.steps∧w.s.steps≤1099511627776) (hc:0≤w.m.count∧w.m.count≤1099511627776) (hk:0≤w.k∧w.k≤1099511627776) (hp5:w.s.pc<5):
 Calls prog 167 #[zp (some ⟨b,0,none⟩),zp (some ⟨bm,0,none⟩),zp (some ⟨bs,0,none⟩)] g.w (Does (zb (w.step.s.pc==9)) g (trT t tm ts tt tp) (fun g'=>TrAt g' t tm ts tt tp b bm bs bt bp w.step)):=by
 have hA:=A.a;by_cases h9:w.s.pc=9
 · have hst:w.step=w:=by unfold TrW.step;rw [if_pos h9]
   rw [hst,h9]
   exact (ylj g t b bm bs w.s H.tr h9).mono (fun e w' h=>by
    obtain ⟨rfl,rfl⟩:=h;exact ⟨rfl,g.own,Mod.refl _ _,H⟩)
 · obtain ⟨P,hP⟩:=H.tr;have m1:Mod (fun x=>x=t) g ⟨g.own,g.w.setCell ⟨b,22,none⟩ (zI z6 (w.s.steps+1))⟩:=Mod.st Mod.self hP.blk.own;have H1:TrAt ⟨g.own,g.w.setCell ⟨b,22,none⟩ (zI z6 (w.s.steps+1))⟩ t tm ts tt tp b bm bs bt bp w.ticked:=⟨H.tr.ticked,H.mem.keep m1 zo,H.shd.keep m1 zo zo zo⟩;have hd:=yiF _ A w.ticked H1 (yeW hok) h9 hc hk hp5;have hg:=ylN g t b bm bs w.s w.ticked.does.1.s w.ticked.does.2 (trT t tm ts tt tp) (fun g'=>MemAt g' tm bm w.ticked.does.1.m∧ShdAt g' ts bs bt tt bp tp w.ticked.does.1.T w.ticked.does.1.p w.ticked.does.1.k) H.tr h9 hs (Or.inl rfl) (fun g g' m r=>⟨r.1.keep m zo,r.2.keep m zo zo zo⟩) (hd.mono (fun e w' h=>Does.impT h (fun _ hx=>hx) (fun g' m r=>⟨r.tr,r.mem,r.shd⟩)));have hst:w.step=if w.ticked.does.2 then w.ticked.does.1 else w.ticked.does.1.ended:=by unfold TrW.step;rw [if_neg h9]
   rw [hst];generalize w.ticked.does=q at *;obtain ⟨W,ok⟩:=q;cases ok
   · exact hg.mono (fun e w' h=>Does.impT h (fun _ hx=>hx) (fun g' m r=>⟨r.1,r.2.1,r.2.2⟩))
   · exact hg.mono (fun e w' h=>Does.impT h (fun _ hx=>hx) (fun g' m r=>⟨r.1,r.2.1,r.2.2⟩))
end
theorem yeS (S:TraceS) (m:MemS) (f k:Int):(S.rdM m f k).l=m.l∧m.count≤(S.rdM m f k).count∧(S.rdM m f k).count≤m.count+1:=by
 unfold TraceS.rdM;split
 · exact ⟨rfl,by show m.count≤m.count+1;omega,Int.le_refl _⟩
 · exact ⟨rfl,Int.le_refl _,zo⟩
theorem ymh {S:TraceS} {m:MemS} {f k:Int} {v:Nat × Nat} (h:S.rd m f k=some v):S.c.check=0:=by
 unfold TraceS.rd at h;split at h
 · rename_i h1
   simp only [Bool.and_eq_true] at h1;exact (of_decide_eq_true h1.1).1
 · cases h
theorem gone_same (S:TraceS):S.gone.c=S.c∧S.gone.head=S.head∧S.gone.sense=S.sense∧S.gone.steps=S.steps∧S.gone.e=S.e:=by
 unfold TraceS.gone TraceS.goes TraceS.enters;(repeat' split)<;>exact ⟨rfl,rfl,rfl,rfl,rfl⟩
theorem first_same (S:TraceS) (v:Nat × Nat):(S.first v).1.c=S.c∧(S.first v).1.head=S.head∧(S.first v).1.sense=S.sense∧(S.first v).1.steps=S.steps∧(S.first v).1.e=S.e:=by
 unfold TraceS.first;(repeat' split)<;>first|exact ⟨rfl,rfl,rfl,rfl,rfl⟩|exact gone_same _
structure TrW.Keeps (w w':TrW):Prop where
 c:w'.s.c=w.s.c
 head:w'.s.head=w.s.head
 sense:w'.s.sense=w.s.sense
 steps:w'.s.steps=w.s.steps
 ml:w'.m.l=w.m.l
 cnt:w.m.count≤w'.m.count∧w'.m.count≤w.m.count+1
 k:w.k≤w'.k∧w'.k≤w.k+1
theorem ya5 {w:TrW} {f k:Int} {S':TraceS} (h:S'.c=w.s.c∧S'.head=w.s.head∧S'.sense=w.s.sense∧S'.steps=w.s.steps):w.Keeps ⟨S',w.s.rdM w.m f k,w.T,w.p,w.k⟩:=
 ⟨h.1,h.2.1,h.2.2.1,h.2.2.2,(yeS _ _ _ _).1,(yeS _ _ _ _).2,⟨Int.le_refl _,by show w.k≤w.k+1;omega⟩⟩
theorem yhG (w:TrW):w.Keeps w.does.1:=by
 have g:=gone_same;unfold TrW.does;split
 · rw [TrW.head_eq];refine ya5 ?_;unfold TrW.head;split
   · exact ⟨rfl,rfl,rfl,rfl⟩
   · rename_i v _
     exact ⟨(first_same w.s v).1,(first_same w.s v).2.1,(first_same w.s v).2.2.1,(first_same w.s v).2.2.2.1⟩
 split
 · split
   · rw [TrW.mode_eq];refine ya5 ?_;unfold TrW.mode;(repeat' split)<;>exact ⟨rfl,rfl,rfl,rfl⟩
   split
   · rw [TrW.base_eq];refine ya5 ?_;unfold TrW.base;(repeat' split)<;>exact ⟨rfl,rfl,rfl,rfl⟩
   split
   · rw [TrW.slot_eq]
     have hs:w.slot.1.s.c=w.s.c∧w.slot.1.s.head=w.s.head∧w.slot.1.s.sense=w.s.sense∧w.slot.1.s.steps=w.s.steps:=by
      unfold TrW.slot;split<;>exact ⟨rfl,rfl,rfl,rfl⟩
     unfold TrW.slotM;split
     · exact ya5 hs
     · exact ⟨hs.1,hs.2.1,hs.2.2.1,hs.2.2.2,rfl,⟨by show w.m.count≤w.m.count+1;omega,Int.le_refl _⟩,⟨Int.le_refl _,by show w.k≤w.k+1;omega⟩⟩
   · rw [TrW.length_eq];refine ya5 ?_;unfold TrW.length;(repeat' split)<;>exact ⟨rfl,rfl,rfl,rfl⟩
 split
 · exact ⟨(g _).1,(g _).2.1,(g _).2.2.1,(g _).2.2.2.1,rfl,⟨Int.le_refl _,by show w.m.count≤w.m.count+1;omega⟩,⟨by show w.k≤w.k+1;omega,Int.le_refl _⟩⟩
 split
 · rw [TrW.link_eq];refine ya5 ?_;unfold TrW.link;(repeat' split)<;>exact ⟨rfl,rfl,rfl,rfl⟩
 split
 · exact ⟨(g _).1,(g _).2.1,(g _).2.2.1,(g _).2.2.2.1,rfl,⟨Int.le_refl _,by show w.m.count≤w.m.count+1;omega⟩,⟨by show w.k≤w.k+1;omega,Int.le_refl _⟩⟩
 · rw [TrW.field_eq];refine ya5 ?_;unfold TrW.field;(repeat' split)<;>first|exact ⟨rfl,rfl,rfl,rfl⟩|exact ⟨(g _).1,(g _).2.1,(g _).2.2.1,(g _).2.2.2.1⟩
theorem ylt {w:TrW} (h:w.s.Ok) (h9:w.s.pc≠9) (hd:w.does.2=true):w.does.1.s.Ok:=by
 have hr:=h.rng h9;have hc:=fun h0=>h.chk h0 h9;have nine: ∀{S:TraceS},S.pc=9→S.Ok:=fun h=>TraceS.pc9_ok h;revert hd;unfold TrW.does;split
 · unfold TrW.head;split
   · intro hd;cases hd
   · rename_i v hv
     have hck:=ymh hv;unfold TraceS.first;split
     · intro hd;cases hd
     split
     · intro hd;cases hd
     rename_i kd md ht arr refs hk
     have hmay:=ybO hck hk none 0;split
     · intro hd;cases hd
     split
     · intro _;exact ⟨by show (0:Int)≤5∧(5:Int)≤9;decide,fun _=>hr,fun _ _=>⟨hck,hmay⟩,fun h=>absurd h (by show¬(5:Int)=1;decide),fun h=>absurd h (by show¬(5:Int)=3;decide),fun h=>absurd h (by show¬(5:Int)=7;decide)⟩
     · intro _;exact TraceS.gone_ok hr ⟨hck,hmay⟩
 rename_i h0
 have hc:=hc h0;split
 · split
   · unfold TrW.mode;split
     · intro hd;cases hd
     split
     · intro hd;cases hd
     rename_i n hn
     split
     · intro hd;cases hd
     rename_i hcond
     intro _;by_cases hn0:n=0
     · refine ⟨?_,fun _=>hr,fun _ _=>hc,fun h=>?_,fun h=>?_,fun h=>?_⟩
       · show (0:Int)≤(if n=0 then 8 else 7)∧(if n=0 then (8:Int) else 7)≤9;split<;>decide
       · have h:(if n=0 then (8:Int) else 7)=1:=h;rw [if_pos hn0] at h;omega
       · have h:(if n=0 then (8:Int) else 7)=3:=h;rw [if_pos hn0] at h;omega
       · have h:(if n=0 then (8:Int) else 7)=7:=h;rw [if_pos hn0] at h;omega
     · refine ⟨?_,fun _=>hr,fun _ _=>hc,fun h=>?_,fun h=>?_,fun h=>?_⟩
       · show (0:Int)≤(if n=0 then 8 else 7)∧(if n=0 then (8:Int) else 7)≤9;split<;>decide
       · have h:(if n=0 then (8:Int) else 7)=1:=h;rw [if_neg hn0] at h;omega
       · have h:(if n=0 then (8:Int) else 7)=3:=h;rw [if_neg hn0] at h;omega
       · show n=1∨n=2;have: ¬n<0:=fun e=>hcond (Or.inl e);have: ¬2<n:=fun e=>hcond (Or.inr (Or.inl e));omega
   split
   · have hw:=yi1 hc.1;have hfr:=(Cnf.ranged (Cnf.check_zero hc.1).1).1;have hsd:=yaW w.s.n;unfold TrW.base;split
     · intro hd;cases hd
     split
     · split
       · intro hd;cases hd
       split
       · intro hd;cases hd
       intro _;refine ⟨by show (0:Int)≤8∧(8:Int)≤9;decide,fun _=>⟨hr.1,hr.2.1,?_⟩,fun _ _=>hc,fun h=>absurd h (by show¬(8:Int)=1;decide),fun h=>absurd h (by show¬(8:Int)=3;decide),fun h=>absurd h (by show¬(8:Int)=7;decide)⟩;rename_i a _ hcond _ _
       show 0≤a∧a≤100000;omega
     · split
       · intro hd;cases hd
       rename_i i hi
       have hib:=(yg4 hi).1;split
       · intro hd;cases hd
       intro _;refine ⟨by show (0:Int)≤4∧(4:Int)≤9;decide,fun _=>⟨hr.1,hr.2.1,?_⟩,fun _ _=>hc,fun h=>absurd h (by show¬(4:Int)=1;decide),fun h=>absurd h (by show¬(4:Int)=3;decide),fun h=>absurd h (by show¬(4:Int)=7;decide)⟩;show 0≤i∧i≤100000;omega
   split
   · unfold TrW.slot;split
     · intro hd;cases hd
     intro _;exact ⟨by show (0:Int)≤4∧(4:Int)≤9;decide,fun _=>hr,fun _ _=>hc,fun h=>absurd h (by show¬(4:Int)=1;decide),fun h=>absurd h (by show¬(4:Int)=3;decide),fun h=>absurd h (by show¬(4:Int)=7;decide)⟩
   · unfold TrW.length;split
     · intro hd;cases hd
     split
     · intro hd;cases hd
     rename_i n hn
     split
     · intro hd;cases hd
     rename_i hcond
     intro _;by_cases hn0:n=0
     · exact nine (by show (if n=0 then (9:Int) else 6)=9;rw [if_pos hn0])
     · have h6:(if n=0 then (9:Int) else 6)=6:=if_neg hn0;refine ⟨?_,fun _=>⟨hr.1,?_,hr.2.2⟩,fun _ _=>hc,fun h=>?_,fun h=>?_,fun h=>?_⟩
       · show (0:Int)≤(if n=0 then 9 else 6)∧(if n=0 then (9:Int) else 6)≤9;rw [h6];decide
       · show 0≤n∧n≤512;omega
       · have h:(if n=0 then (9:Int) else 6)=1:=h;omega
       · have h:(if n=0 then (9:Int) else 6)=3:=h;omega
       · have h:(if n=0 then (9:Int) else 6)=7:=h;omega
 rename_i h5
 split
 · intro _;exact TraceS.gone_ok hr hc
 split
 · rename_i h3
   have hj:=h.j3 h3;unfold TrW.link;split
   · intro hd;cases hd
   split
   · intro hd;cases hd
   split
   · intro _;refine ⟨by show (0:Int)≤4∧(4:Int)≤9;decide,fun _=>⟨?_,hr.2⟩,fun _ _=>hc,fun h=>absurd h (by show¬(4:Int)=1;decide),fun h=>absurd h (by show¬(4:Int)=3;decide),fun h=>absurd h (by show¬(4:Int)=7;decide)⟩;show 0≤w.s.j+1∧w.s.j+1≤64;omega
   · intro hd;cases hd
 split
 · intro _;exact TraceS.gone_ok hr hc
 · unfold TrW.field;split
   · intro hd;cases hd
   split
   · intro hd;cases hd
   split
   · intro _;exact ⟨by show (0:Int)≤2∧(2:Int)≤9;decide,fun _=>hr,fun _ _=>hc,fun h=>absurd h (by show¬(2:Int)=1;decide),fun h=>absurd h (by show¬(2:Int)=3;decide),fun h=>absurd h (by show¬(2:Int)=7;decide)⟩
   · intro _;exact TraceS.gone_ok hr hc
theorem ylO {w:TrW} (h:w.s.Ok):w.step.s.Ok:=by
 unfold TrW.step;split
 · exact h
 · rename_i h9
   split
   · rename_i hd
     exact ylt (w:=w.ticked) (yeW h) h9 hd
   · exact TraceS.ended_ok
theorem yiB (w:TrW):w.step.s.c=w.s.c∧w.step.s.head=w.s.head∧w.step.s.sense=w.s.sense∧w.step.m.l=w.m.l∧(w.m.count≤w.step.m.count∧w.step.m.count≤w.m.count+1)∧(w.k≤w.step.k∧w.step.k≤w.k+1)∧w.step.s.steps=if w.s.pc=9 then w.s.steps else w.s.steps+1:=by
 have h:=yhG w.ticked;unfold TrW.step;by_cases h9:w.s.pc=9
 · rw [if_pos h9,if_pos h9];exact ⟨rfl,rfl,rfl,rfl,⟨Int.le_refl _,zo⟩,⟨Int.le_refl _,zo⟩,rfl⟩
 · rw [if_neg h9,if_neg h9];split
   · exact ⟨h.c,h.head,h.sense,h.ml,h.cnt,h.k,h.steps⟩
   · exact ⟨h.c,h.head,h.sense,h.ml,h.cnt,h.k,h.steps⟩
end Go.Proofs.YtdhjjpnajjingaaGreat
namespace Go.Proofs.YtdhjjpnajjingaaGreat
open Go Go.RowKit
namespace TrW
def go:Nat→TrW→TrW
 |0,w=>w
 |n+1,w=>(go n w).step
end TrW
section
variable {S:TraceS} {l:List (Nat × Nat)} {c k:Int} {T:TabS} {p:PileS}
end
structure ObjIn (cm:Cnf) (l:List (Nat × Nat)) (got:List Int) (kd md:Int) (refs:List Bool):Prop where
 one:1≤got.length
 check:cm.check=0
 gotb: ∀i,i<got.length→0≤got.getD i 0∧got.getD i 0<cm.frags
 shape:cm.shapeAt kd=some (false,refs)
 kdb:0≤kd∧kd≤1000000
 mdb:0≤md∧md≤1
 size:(got.length:Int)=Shp.size ⟨false,none,0,refs⟩ 0
 mlen: ∀a,0≤a→a<cm.frags*8→inB a l.length=true
 head:MemS.peek ⟨l,0⟩ (got.getD 0 0*8+1)=(floatOfInt .f64 kd,floatOfInt .f64 md)
 link: ∀i,i+1<got.length→MemS.peek ⟨l,0⟩ (got.getD i 0*8+0)=(floatOfInt .f64 (got.getD (i+1) 0+1),4607182418800017408)
 fld: ∀k:Nat,k<refs.length→refs.getD k false=true→wIs (MemS.peek ⟨l,0⟩ (got.getD (Shp.placeF k).toNat 0*8+Shp.placeW k))=true
section
variable {cm:Cnf} {l:List (Nat × Nat)} {got:List Int} {kd md:Int} {refs:List Bool}
theorem ObjIn.few (H:ObjIn cm l got kd md refs):cm.frags≤1024:=(Cnf.ranged (Cnf.check_zero H.check).1).1.2
end
end Go.Proofs.YtdhjjpnajjingaaGreat
namespace Go.Proofs.YtdhjjpnajjingaaGreat
open Go Go.RowKit
theorem Cnf.Same.shapeAt {c d:Cnf} (h:c.Same d) (k:Int):c.shapeAt k=d.shapeAt k:=by
 unfold Cnf.shapeAt;split
 · rfl
 · have e:=congrArg (fun l=>l[k.toNat]?) h.shapes;simp only [List.getElem?_map] at e;exact e
def c16 (A:Nat):Cnf:=⟨4,0,0,1,1,0,1,0,some ⟨A,0,none⟩,1,[⟨false,none,0,[]⟩]⟩
section
variable {got:List Int} {refs giv:List Bool}
end
end Go.Proofs.YtdhjjpnajjingaaGreat
namespace Go.Proofs.YtdhjjpnajjingaaGreat
open Go Go.RowKit
theorem ygf {c d:Cnf} (h:c.Same d) (k:Int):c.shapeAt k=d.shapeAt k:=by
 have e: ∀l:List Shp,(l[k.toNat]?).map (fun s=>(s.arr,s.refs))=((l.map Shp.data)[k.toNat]?):=fun l=>by rw [List.getElem?_map];rfl
 unfold Cnf.shapeAt;rw [e,e,h.shapes]
theorem ygs {c d:Cnf} (h:c.Same d):cWords c=cWords d:=by
 unfold cWords;rw [h.check,h.frags,h.spine,h.globals]
def TraceS.withC (S:TraceS) (c:Cnf):TraceS:={ S with c:=c }
theorem TraceS.okAt_same {S:TraceS} {c:Cnf} (h:c.Same S.c) (f k:Int):(S.withC c).okAt f k=S.okAt f k:=by
 unfold TraceS.okAt TraceS.withC;simp only;rw [h.check,h.frags]
theorem TraceS.rd_same {S:TraceS} {c:Cnf} (h:c.Same S.c) (m:MemS) (f k:Int):(S.withC c).rd m f k=S.rd m f k:=by
 unfold TraceS.rd;rw [TraceS.okAt_same h]
theorem TraceS.rdM_same {S:TraceS} {c:Cnf} (h:c.Same S.c) (m:MemS) (f k:Int):(S.withC c).rdM m f k=S.rdM m f k:=by
 unfold TraceS.rdM;rw [TraceS.okAt_same h]
theorem TraceS.enters_same (S:TraceS) (c:Cnf):(S.withC c).enters=S.enters.withC c:=by
 unfold TraceS.enters TraceS.withC;simp only;split<;>rfl
theorem TraceS.goes_same (S:TraceS) (c:Cnf):(S.withC c).goes=S.goes.withC c:=by
 unfold TraceS.goes;show (if S.words≠[] then S.withC c else if S.frs≤S.j+1 then S.withC c else if S.arr=false then S.withC c else (TraceS.enters (TraceS.withC { S with j:=S.j+1 } c)))=_;rw [TraceS.enters_same];split
 · rfl
 · split
   · rfl
   · split<;>rfl
theorem TraceS.gone_same (S:TraceS) (c:Cnf):(S.withC c).gone=S.gone.withC c:=by
 unfold TraceS.gone;rw [TraceS.goes_same];rfl
theorem TraceS.first_same {S:TraceS} {c:Cnf} (h:c.Same S.c) (w:Nat × Nat):(S.withC c).first w=((S.first w).1.withC c,(S.first w).2):=by
 unfold TraceS.first;rw [show (S.withC c).c=c from rfl];cases wTell w with
 |none=>rfl
 |some x=>
  obtain ⟨kind,mode⟩:=x;simp only;rw [ygf h];cases S.c.shapeAt kind with
  |none=>rfl
  |some y=>
   obtain ⟨arr,refs⟩:=y;simp only;split
   · rfl
   · split
     · rfl
     · exact congrArg (fun x=>(x,true)) (TraceS.gone_same { S with arr:=arr,refs:=refs,words:=TraceS.refsL { S with arr:=arr,refs:=refs } } c)
namespace TrW
def withC (w:TrW) (c:Cnf):TrW:={ w with s:=w.s.withC c }
def wc (x:TrW × Bool) (c:Cnf):TrW × Bool:=(x.1.withC c,x.2)
variable {w:TrW} {c:Cnf}
theorem yjv (h:c.Same w.s.c):(w.withC c).head=wc w.head c:=by
 obtain ⟨S,m,T,p,k⟩:=w;simp only at h;unfold head;show (match (S.withC c).rd m S.head 1 with|none=>_|some v=>_)=_;rw [TraceS.rd_same h];show (match S.rd m S.head 1 with|none=>((⟨S.withC c,(S.withC c).rdM m S.head 1,T,p,k⟩:TrW),false)|some v=>(⟨((S.withC c).first v).1,(S.withC c).rdM m S.head 1,T,p,k⟩,((S.withC c).first v).2))=_;rw [TraceS.rdM_same h];simp only;cases S.rd m S.head 1 with
 |none=>rfl
 |some v=>
  simp only;rw [TraceS.first_same h];rfl
theorem yhH (h:c.Same w.s.c):(w.withC c).field=wc w.field c:=by
 obtain ⟨S,m,T,p,k⟩:=w;simp only at h;unfold field withC;simp only;rw [show (S.withC c).frag=S.frag from rfl,show (S.withC c).words=S.words from rfl,TraceS.rd_same h,TraceS.rdM_same h];cases S.rd m S.frag (S.words.headD 0) with
 |none=>rfl
 |some v=>
  simp only;split
  · rfl
  · split
    · rfl
    · exact congrArg (fun s:TraceS=>((⟨s,S.rdM m S.frag (S.words.headD 0),T,p,k⟩:TrW),true)) (TraceS.gone_same { S with words:=S.words.tail,next:=0 } c)
theorem yjn:(w.withC c).grey=wc w.grey c:=by
 unfold grey wc withC;simp only;rw [TraceS.gone_same];rfl
theorem yjK (h:c.Same w.s.c):(w.withC c).link=wc w.link c:=by
 obtain ⟨S,m,T,p,k⟩:=w;simp only at h;unfold link withC;simp only;rw [show (S.withC c).frag=S.frag from rfl,TraceS.rd_same h,TraceS.rdM_same h];cases S.rd m S.frag 0 with
 |none=>rfl
 |some v=>
  simp only;cases wIndex v with
  |none=>rfl
  |some i=>
   simp only;rw [show (S.withC c).c.frags=S.c.frags from h.frags];split<;>rfl
theorem yj0:(w.withC c).part=wc w.part c:=by
 unfold part wc withC;simp only;exact congrArg (fun s:TraceS=>((⟨s,w.m,w.T.mark w.s.frag w.s.sense,w.p,w.k+1⟩:TrW),true)) (TraceS.gone_same { w.s with words:=w.s.refsL } c)
theorem ygI (h:c.Same w.s.c):(w.withC c).length=wc w.length c:=by
 obtain ⟨S,m,T,p,k⟩:=w;simp only at h;unfold length withC;simp only;rw [show (S.withC c).head=S.head from rfl,TraceS.rd_same h,TraceS.rdM_same h];cases S.rd m S.head 2 with
 |none=>rfl
 |some v=>
  simp only;cases wInt v with
  |none=>rfl
  |some n=>
   simp only;split<;>rfl
theorem yjP (h:c.Same w.s.c):(w.withC c).mode=wc w.mode c:=by
 obtain ⟨S,m,T,p,k⟩:=w;simp only at h;unfold mode withC;simp only;rw [show (S.withC c).head=S.head from rfl,show (S.withC c).n=S.n from rfl,TraceS.rd_same h,TraceS.rdM_same h];cases S.rd m S.head 3 with
 |none=>rfl
 |some v=>
  simp only;cases wInt v with
  |none=>rfl
  |some n=>
   simp only;split<;>rfl
theorem yiV (h:c.Same w.s.c):(w.withC c).base=wc w.base c:=by
 obtain ⟨S,m,T,p,k⟩:=w;simp only at h;unfold base withC;simp only;rw [show (S.withC c).head=S.head from rfl,show (S.withC c).n=S.n from rfl,show (S.withC c).mode=S.mode from rfl,show (S.withC c).c=c from rfl,TraceS.rd_same h,TraceS.rdM_same h,ygs h,h.frags];cases S.rd m S.head 4 with
 |none=>rfl
 |some v=>
  simp only;split
  · cases wInt v with
    |none=>rfl
    |some n=>
     simp only;split<;>rfl
  · cases wIndex v with
    |none=>rfl
    |some n=>
     simp only;split<;>rfl
theorem yki (h:c.Same w.s.c):(w.withC c).slot=wc w.slot c:=by
 obtain ⟨S,m,T,p,k⟩:=w;simp only at h
 have e1:(withC ⟨S,m,T,p,k⟩ c).slotRd=slotRd ⟨S,m,T,p,k⟩:=by
  unfold slotRd withC;simp only;rw [TraceS.rd_same h];rfl
 have e2:(withC ⟨S,m,T,p,k⟩ c).slotM=slotM ⟨S,m,T,p,k⟩:=by
  unfold slotM withC;simp only;rw [TraceS.rdM_same h];rfl
 unfold slot;rw [e1,e2];cases slotRd ⟨S,m,T,p,k⟩ with
 |none=>rfl
 |some v=>
  simp only;unfold withC wc;simp only;rw [show (S.withC c).c.frags=S.c.frags from h.frags];rfl
theorem yjd (h:c.Same w.s.c):(w.withC c).does=wc w.does c:=by
 unfold does;rw [show (w.withC c).s.pc=w.s.pc from rfl,yjv h,yhH h,yjn,yjK h,yj0,ygI h,yjP h,yiV h,yki h];(repeat' split)<;>rfl
theorem step_same (h:c.Same w.s.c):(w.withC c).step=w.step.withC c:=by
 have hd:=yjd (w:=w.ticked) (c:=c) h;unfold step;rw [show (w.withC c).s.pc=w.s.pc from rfl,show (w.withC c).ticked=w.ticked.withC c from rfl,hd];split
 · rfl
 · unfold wc;simp only;split<;>rfl
end TrW
namespace CyW
def rootsSeen (W:CyW) (h:Int):CyW:={ W with y:={ W.y with head:=h,at_:=3 },K:={ W.K with mem:=W.K.mem.tick } }
def rootsGrey (W:CyW):CyW:={ W with y:={ W.y with at_:=0,i:=W.y.i+1 },K:={ W.K with sp:={ W.K.sp with tab:=W.K.sp.tab.grey W.y.head W.y.sense },pile:=W.K.pile.grey W.K.sp.tab W.y.head W.y.sense,n:=W.K.n+1 } }
def trW (W:CyW) (S:TraceS):TrW:=⟨S,W.K.mem,W.K.sp.tab,W.K.pile,W.K.n⟩
def trPut (W:CyW) (w:TrW):CyW:={ W with tr:=some w.s,K:={ W.K with mem:=w.m,sp:={ W.K.sp with tab:=w.T },pile:=w.p,n:=w.k } }
def follows (W:CyW):CyW:=if W.y.i+1=W.K.c.frags then { W with y:={ W.y with at_:=0,i:=0 } } else { W with y:={ W.y with at_:=6,i:=W.y.i+1 } }
def tracedB (W:CyW) (S:TraceS):Bool:=(W.trW S).step.s.pc==9
def traced (W:CyW) (S:TraceS):CyW:=if W.tracedB S then { W.trPut (W.trW S).step with y:={ W.y with e:=(W.trW S).step.s.e } } else W.trPut (W.trW S).step
def marksTrace (W:CyW) (S:TraceS):CyW:=if W.tracedB S then (if W.y.rescan then ((W.traced S).atY 0).follows else (W.traced S).atY 0) else W.traced S
def marksNext (W:CyW):CyW:={ W with tr:=some (TraceS.fresh W.K.c W.K.pile.top W.y.sense),y:={ W.y with head:=W.K.pile.top,at_:=4,rescan:=false },K:={ W.K with pile:=W.K.pile.pop,n:=W.K.n+1 } }
def rootsG (W:CyW):Option CyW:=
 if W.y.at_=3 then some W.rootsGrey
 else if W.K.c.globals≤W.y.i∨W.y.at_=1 then some W.rootsPoll
 else if W.y.at_=0∧0≤W.y.i∧W.K.c.check=0∧inB (W.y.i+cAhead W.K.c 3) W.K.mem.l.length=true then (match wIndex (W.K.mem.peek (W.y.i+cAhead W.K.c 3)) with
  |none=>some W.rootsNone
  |some h=>some (W.rootsSeen h)) else none
def marksG (W:CyW):Option CyW:=
 if W.y.at_=0 then (if W.K.pile.some_ then (if W.K.c.check=0 then some W.marksNext else none) else some W.marksEmpty)
 else if W.y.at_=4 then (match W.tr with
  |none=>none
  |some S=>if cOk S.steps=true∧S.pc<5 then some (W.marksTrace S) else none)
 else if W.y.at_=5 then (if W.K.pile.lost then none else some W.marksFound)
 else none
def stageG (W:CyW):Option CyW:=if W.y.stage=4 then W.rootsG else if W.y.stage=5 then W.marksG else W.stageO
def stepG (W:CyW):Option CyW:=
 if (W.bdB&&(W.tick1.bdB&&W.y.e==0))=false then none
 else if W.y.stage=0 then some W.tick1.idles
 else W.tick1.stageG
def TrOk (W:CyW):Prop:= ∀S,W.tr=some S→S.Ok
end CyW
end Go.Proofs.YtdhjjpnajjingaaGreat
namespace Go.Proofs.YtdhjjpnajjingaaGreat
open Go Go.RowKit
namespace AcW
def hasOp (W:AcW):Bool:=(W.a.ops[W.a.next.toNat]?).isSome
def borderK (W:AcW):AcW:=
 if W.a.pc=0 then (if !W.looksB then W.looks else if W.hasOp=false then W.looks.withA { W.a with pc:=3 } else W.looks.withA W.a.began)
 else if W.a.pc=1∨W.a.pc=2 then (if W.answersB then W.answers.withA { W.answers.a with pc:=0 } else W.answers)
 else if W.a.pc=3 then (W.spc (drainS W.K.sp W.a.t)).withA { W.a with pc:=4 }
 else if W.a.pc=4 then W.goes
 else W
def stepK (W:AcW):Option AcR:=
 if W.okL=false then none
 else if W.bdB=false then none
 else if W.a.phase=0 then some W.joins.no
 else if W.a.phase=1 then (if W.greyOk then some W.borderK.no else none)
 else if W.a.phase=2 then (if W.hasOp&&W.locOk then W.up.within else none)
 else if W.a.phase=4 then some W.no
 else none
theorem yfN {W:AcW} (h:W.bdB=true):(W.hasOp=false↔(W.a.ops.length:Int)≤W.a.next)∧(W.hasOp=W.opIn):=by
 have h0:0≤W.a.next:=by
  unfold bdB cntOk at h;simp only [Bool.and_eq_true,decide_eq_true_eq] at h;exact h.1.1.1.1.1.2.1
 have e:W.hasOp=W.opIn:=by
  unfold hasOp opIn;by_cases hl:W.a.next.toNat<W.a.ops.length
  · rw [List.getElem?_eq_getElem hl,decide_eq_true zo];rfl
  · rw [List.getElem?_eq_none zo,decide_eq_false zo];rfl
 refine ⟨?_,e⟩;rw [e];unfold opIn;rw [decide_eq_false_iff_not];omega
theorem yhv {W:AcW} (h:W.bdB=true):W.borderK=W.border:=by
 unfold borderK border;simp only [(yfN h).1]
theorem ylh {W:AcW} {r:AcR} (h:W.stepK=some r):W.stepL=some r:=by
 unfold stepK at h;cases hok:W.okL
 · rw [hok] at h;cases h
 cases hb:W.bdB
 · rw [hok,hb] at h;cases h
 rw [hok,hb,if_neg (by simp),if_neg (by simp),yhv hb,(yfN hb).2] at h
 have h3:W.a.phase≠3:=by
  unfold okL at hok;simp only [Bool.and_eq_true,bne_iff_ne,ne_eq] at hok;exact hok.1
 unfold stepL step;rw [hok,if_pos rfl,hb,if_neg (by simp)];simp only [if_neg h3];exact h
end AcW
namespace DuW
end DuW
namespace AcW
theorem ybq (W:AcW) (i:Int) (v:LVal):(W.laysR i v).2.a.ops=W.a.ops:=by unfold laysR doneR AcS.done;simp only;split<;>rfl
theorem yaU (W:AcW) (v:LVal) (e:Int):(W.doneR v e).2.a.ops=W.a.ops:=by unfold doneR AcS.done;simp only;split<;>rfl
theorem yjh (W:AcW) (o:Opr) (x:Bool × FindS × MemS):(W.found o x).2.a.ops=W.a.ops:=by
 unfold found;simp only;(repeat' split)<;>first|rfl|exact yaU _ _ _
theorem yeE {W:AcW} {o:Opr} {r:AcR} (h:W.finds o=some r):r.2.a.ops=W.a.ops:=by
 unfold finds at h;split at h
 · cases h
 · split at h
   · cases hx:FindS.stepO ‹_› W.K.mem with
     |none=>rw [hx] at h;cases h
     |some q=>rw [hx] at h;injection h with h;rw [←h];exact yjh _ _ _
   · cases h
theorem yeT {W:AcW} {o:Opr} {r:AcR} (h:W.reads o=some r):r.2.a.ops=W.a.ops:=by
 unfold reads at h;split at h
 · injection h with h;rw [←h];exact ybq _ _ _
 · cases h
theorem ydU {W:AcW} {r:AcR} (h:W.stores=some r):r.2.a.ops=W.a.ops:=by
 unfold stores at h;split at h
 · split at h
   · injection h with h;rw [←h];exact yaU _ _ _
   · cases h
 · cases h
theorem ykr {W:AcW} {o:Opr} {r:AcR} (h:W.tells o=some r):r.2.a.ops=W.a.ops:=by
 unfold tells at h;split at h
 · split at h
   · cases h
   · split at h
     · cases h
     · split at h
       · split at h
         · injection h with h;rw [←h];exact ybq _ _ _
         · split at h
           · injection h with h;rw [←h];exact yaU _ _ _
           · injection h with h;rw [←h];rfl
       · cases h
 · cases h
theorem yhA {W:AcW} {o:Opr} {r:AcR} (h:W.counts o=some r):r.2.a.ops=W.a.ops:=by
 unfold counts at h;split at h
 · split at h
   · cases h
   · split at h
     · injection h with h;rw [←h];exact ybq _ _ _
     · cases h
 · cases h
theorem yiU {W:AcW} {o:Opr} {r:AcR} (h:W.asksO o=some r):r.2.a.ops=W.a.ops:=by
 unfold asksO at h;split at h
 · injection h with h;rw [←h];unfold asks;simp only;split<;>rfl
 · cases h
theorem yiA {W:AcW} {o:Opr} {r:AcR} (h:W.starts o=some r):r.2.a.ops=W.a.ops:=by
 unfold starts at h;split at h
 · cases h
 split at h
 · injection h with h;rw [←h];exact yaU _ _ _
 split at h
 · injection h with h;rw [←h];exact ybq _ _ _
 split at h
 · exact yiU h
 split at h
 · exact yeE (W:=W.withA { W.a with f:=some (W.prog o) }) h
 split at h
 · exact yeT (W:=W.atGlobal o) h
 split at h
 · exact ydU (W:=(W.atGlobal o).withA ((W.atGlobal o).a.chooses o)) h
 split at h
 · exact ykr h
 split at h
 · injection h with h;rw [←h];exact yaU _ _ _
 split at h
 · injection h with h;rw [←h];rfl
 · cases h
theorem ydW {W:AcW} {r:AcR} (h:W.within=some r):r.2.a.ops=W.a.ops:=by
 unfold within at h;split at h
 · exact yiA h
 split at h
 · exact yeE h
 split at h
 · exact yeT h
 split at h
 · split at h
   · split at h
     · injection h with h;rw [←h];unfold makes;split<;>rfl
     · cases h
   · cases h
 split at h
 · split at h
   · injection h with h;rw [←h];exact ybq _ _ _
   · cases h
 split at h
 · exact yhA h
 split at h
 · injection h with h;rw [←h];exact yaU _ _ _
 · exact ydU h
theorem yeM (W:AcW):W.looks.a.ops=W.a.ops:=by unfold looks;split<;>rfl
theorem ybm (W:AcW):W.answers.a.ops=W.a.ops:=by unfold answers;split<;>rfl
theorem yhw (W:AcW):W.border.a.ops=W.a.ops:=by
 unfold border;split
 · split
   · exact yeM W
   · split<;>rfl
 · split
   · split
     · exact ybm W
     · exact ybm W
   · split
     · rfl
     · split<;>rfl
theorem yko {W:AcW} {r:AcR} (h:W.stepL=some r):r.2.a.ops=W.a.ops:=by
 unfold stepL at h;split at h
 case isFalse=>cases h
 rename_i hok
 have h3:W.a.phase≠3:=by
  unfold okL at hok;simp only [Bool.and_eq_true,bne_iff_ne,ne_eq] at hok;exact hok.1
 unfold step at h;split at h
 · cases h
 by_cases h0:W.a.phase=0
 · rw [if_pos h0] at h;injection h with h;rw [←h];show W.joins.a.ops=W.a.ops;unfold joins;simp only;split<;>rfl
 rw [if_neg h0] at h;by_cases h1:W.a.phase=1
 · rw [if_pos h1] at h;split at h
   · injection h with h;rw [←h];exact yhw W
   · cases h
 rw [if_neg h1] at h;by_cases h2:W.a.phase=2
 · rw [if_pos h2] at h;split at h
   · exact ydW (W:=W.up) h
   · cases h
 rw [if_neg h2] at h;split at h
 · injection h with h;rw [←h];rfl
 · cases h
end AcW
def itOps:List Opr:=[⟨1,0,0,0,0,0,0⟩,⟨7,1,0,0,0,0,0⟩,⟨4,0,1,0,0,0,0⟩,⟨8,0,0,0,0,0,0⟩]
def itsOps:Nat→List Opr
 |0=>[]
 |n+1=>itsOps n++itOps
end Go.Proofs.YtdhjjpnajjingaaGreat
namespace Go
open Go.RowKit
theorem ygN (arr:Bool) (A:Option Addr) (cap:Nat) (refs:List Bool) (kind:Int) (got:List Int) (side:Bool) (j:Nat):objRow ⟨arr,A,cap,refs⟩ kind got side j=objRow ⟨arr,none,0,refs⟩ kind got side j:=by
 have e: ∀(n:Nat) (f:Int) (vs:List Value),putFields ⟨arr,A,cap,refs⟩ f vs n=putFields ⟨arr,none,0,refs⟩ f vs n:=fun n=>by
  induction n with
  |zero=>intro f vs;rfl
  |succ n ih=>intro f vs;unfold putFields;rw [ih];rfl
 unfold objRow;exact e _ _ _
theorem yej (arr:Bool) (A:Option Addr) (cap:Nat) (refs:List Bool) (kind:Int) (got:List Int) (side:Bool) (n:Nat):objWrites ⟨arr,A,cap,refs⟩ kind got side n=objWrites ⟨arr,none,0,refs⟩ kind got side n:=by
 induction n with
 |zero=>rfl
 |succ n ih=>unfold objWrites;rw [ih,ygN]
end Go
namespace Go.Proofs.YtdhjjpnajjingaaGreat
open Go Go.RowKit
theorem ygD {c d:Cnf} (h:c.Same d) (x:Int):fragOk c x=fragOk d x:=by unfold fragOk;rw [h.check,h.frags]
theorem yb4 {c d:Cnf} (h:c.Same d) (is:Bool) (arr:Bool) (A:Option Addr) (cap:Nat) (refs:List Bool) (n:Int) (array:Bool) (got:List Int):wrongE c is ⟨arr,A,cap,refs⟩ n array got=wrongE d is ⟨arr,none,0,refs⟩ n array got:=by
 unfold wrongE;rw [h.check,show fragOk c=fragOk d from funext (ygD h)];rfl
theorem yiS {c d:Cnf} (h:c.Same d) (is:Bool) (arr:Bool) (A:Option Addr) (cap:Nat) (refs:List Bool) (n:Int) (got:List Int) (a:Int):arrE c is ⟨arr,A,cap,refs⟩ n got a=arrE d is ⟨arr,none,0,refs⟩ n got a:=by
 have hb: ∀k,beginsAt c a k=beginsAt d a k:=fun k=>by
  unfold beginsAt cOf;rw [h.check,h.frags,h.spine,h.globals]
 unfold arrE;rw [yb4 h,yb4 (Cnf.Same.refl d) is arr none 0 refs,hb];rfl
theorem yd3 (arr:Bool) (A:Option Addr) (cap:Nat) (refs:List Bool) (kind n a:Int) (got:List Int):arrWrites ⟨arr,A,cap,refs⟩ kind n a got=arrWrites ⟨arr,none,0,refs⟩ kind n a got:=rfl
theorem yfZ {w:World} {base e size n:Nat} {v:Value} {xs:List Value} (h:w.ownsRow base e size v n xs):w.ownsRow 0 e size v n xs:=by
 rcases h with ⟨h0,h1|⟨g,cap,cur,hv,hb,r⟩⟩
 · exact ⟨h0,Or.inl h1⟩
 · exact ⟨h0,Or.inr ⟨g,cap,cur,hv,Nat.zero_le _,r⟩⟩
section
variable {g:GW} {t B b k:Nat} {W:AcW} {p:AcP} {bm bs bt bp bsp bh:Nat} {cm:Cnf}
theorem ygp [TbId] (P:AcApart t B) (H:AcIn g t B b k W p bm bs bt bp bsp bh cm) (oa ob oc on:Int) (x y:Nat) (got:List Int) (gA:Option Addr) (gC:Nat) (st at_:Int) (hg:Seg g 0 gA (got.map (zI z6))) (hgc:got.length≤gC∧gC≤9223372036854775807) (hok:W.takesOk ⟨1,oa,ob,oc,on,x,y⟩ got at_=true):
 Calls prog 84 #[zp (some ⟨b,0,none⟩),zp (some ⟨k,0,none⟩),.agg #[zI z6 1,zI z6 oa,zI z6 ob,zI z6 oc,zI z6 on,zc z4 x y],.agg #[zI z6 st,.slice gA got.length gC,zI z6 at_]] g.w (Does (zb true) g (fun x=>x=t) (fun g'=> ∃p',AcIn g' t B b k (W.takes ⟨1,oa,ob,oc,on,x,y⟩ got at_) p' bm bs bt bp bsp bh cm)):=by
 unfold AcW.takesOk at hok;simp only [Bool.and_eq_true,decide_eq_true_eq,List.all_eq_true,if_true,beq_iff_eq] at hok;obtain ⟨h1,h2,h3,h4⟩:=hok;have HE:=zH h4;have HH:=zH H;have HP:=zH P;have hPt:=P.ht;have HG:=zH hg;have HB:=zH (show∀x∈got, -9223372036854775808≤x∧x≤9223372036854775807 from fun x hx=>by have:=h2 x hx;omega);clear H hg h2 h4;go_enter func84,ntmps84;go_upto_region 3 with fail
 obtain ⟨own0,M0,Q0,G0⟩:=yaq g 26 143 [zI z6 1,zI z6 oa,zI z6 ob,zI z6 oc,zI z6 on,zc z4 x y] [zI z6 st,.slice gA got.length gC,zI z6 at_];generalize (g.w.alloc (.cells #[zI z6 1,zI z6 oa,zI z6 ob,zI z6 oc,zI z6 on,zc z4 x y] 26)).alloc (.cells #[zI z6 st,.slice gA got.length gC,zI z6 at_] 143)=w0 at *;have H0:=zH (HH.o.keep0 M0);have M0':=zH M0;have Q0':=zH Q0;have G0':=zH G0;have HG0:=zH (HG.o.keep M0 id);have hqb:=Q0.lt;obtain ⟨a0,a1,a2,a3,a4,a5,a6,a7,a8,a9,a10,a11,a12,a13,a14,a15,a16,a17,a18,al⟩:=H0.o.a.blk.k19;have af18:=H0.o.a.blk.liv 18;obtain ⟨c0,c1,c2,c3,c4,c5,c6,c7,c8,c9,c10,c11,c12,cl⟩:=H0.o.c.blk.k13;obtain ⟨x0,x1,x2,x3,x4,x5,xl⟩:=Q0.k6;obtain ⟨y0,y1,y2,yl⟩:=G0.k3;clear M0 Q0 G0;have HO:=zH (fun X=>yif cm ob gA gC got (w0.patch X) (H0.o.c.cnf.ok.ext ⟨X,rfl⟩) (HG0.o.cells.ext ⟨X,rfl⟩) h1 HB.o);unfold Cnf.val at HO;refine yat [0] [zU,zT,zT,zT,zT,zT,zT,zT,zT] 9 8 ?_;intro X00;simp only [pickOps,movesAct,moveOf,List.getElem?_toArray,List.getElem?_cons_zero,List.getElem?_cons_succ];(try go_simp);repeat (go_big_quiet_step (fail))
 refine wpQuiet_nil (fun X0 K Q' hK=>?_);clear X00;(try go_simp);refine (HO.o _).mono ?_;rintro e w2 ⟨s',lv,nW,rfl,hs',hown,hE2⟩;obtain ⟨sa,sA,sc,sr⟩:=s';have hsh:(sa,sr)=(W.K.c.shapeAt ob).getD (false,[]):=by rw [←yaz HH.o.c.same];exact hs'
 have hsp:shpOf W.K.c ob=⟨sa,none,0,sr⟩:=by unfold shpOf;rw [←hsh]
 have hw0:wrongE cm (cm.shapeAt ob).isSome ⟨sa,sA,sc,sr⟩ 0 false got=0:=by
  rw [yb4 HH.o.c.same,yaz HH.o.c.same, ←hsp];exact HE.o
 rw [hw0] at hown ⊢;simp only [if_true] at hown
 have HWL:=zH (show W.takenW ⟨1,oa,ob,oc,on,x,y⟩ got at_=objWrites ⟨sa,sA,sc,sr⟩ ob got (isSide got) got.length by
  unfold AcW.takenW;rw [if_pos rfl,hsp];exact (yej sa sA sc sr _ _ _ _).symm)
 clear hsh hsp hw0 hs' HE HO;generalize objWrites ⟨sa,sA,sc,sr⟩ ob got (isSide got) got.length=wl at *;obtain ⟨lA,lC,hlv⟩:=yak hown;subst hlv
 obtain ⟨own2,m2,R2⟩: ∃own2,Mod (fun _=>False) ⟨own0,w0⟩ ⟨own2,w2⟩∧Row ⟨own2,w2⟩ 0 194 2 (.slice lA nW lC) nW (wl):=by
  have hE02:Ext w0 w2:=(show Ext w0 (w0.patch X0) from ⟨X0,rfl⟩).trans hE2;refine ⟨_,Mod.ext (g:=⟨own0,w0⟩) (show Ext w0 w2 from hE02) 0,⟨?_,fun k hk=>?_⟩⟩
  · exact yfZ hown
  · have h:=(hown.lt k hk).1;exact GW.to_new (Nat.le_trans (by show w0.heap.size≤(w0.patch X0).heap.size;rw [World.size_patch];omega) h)
 have H2:=zH (H0.o.keep0 m2);have M2:=zH (M0'.o.trans m2);have Q2:=zH (Q0'.o.keep m2 id);have G2:=zH (G0'.o.keep m2 id);have HG2:=zH (HG0.o.keep m2 id);have RW:=zH R2;clear m2 R2 hown hE2 a0 a1 a2 a3 a4 a5 a6 a7 a8 a9 a10 a11 a12 a13 a14 a15 a16 a17 a18 af18 al c0 c1 c2 c3 c4 c5 c6 c7 c8 c9 c10 c11 c12 cl x0 x1 x2 x3 x4 x5 xl y0 y1 y2 yl H0 M0' Q0' G0' HG0;obtain ⟨a0,a1,a2,a3,a4,a5,a6,a7,a8,a9,a10,a11,a12,a13,a14,a15,a16,a17,a18,al⟩:=H2.o.a.blk.k19;have af18:=H2.o.a.blk.liv 18;(try go_simp);refine hK _ _ ?_;clear hK K Q';refine yad (v:=.tuple #[.slice lA nW lC,zI z6 0]) 10 ?_;(try go_simp);refine yad (v:=.slice lA nW lC) 11 ?_;(try go_simp);refine yad (v:=zI z6 0) 12 ?_;(try go_simp);refine yad (v:=zp (some ⟨b,0,none⟩)) 13 ?_;(try go_simp);refine yad (v:=zp (some ⟨b,10,none⟩)) 14 ?_;(try go_simp);refine yad (v:=zp (some ⟨b,18,none⟩)) 15 ?_;(try go_simp);refine yag 16 (fun K Q' hK=>?_);(try go_simp);refine hK _ _ ?_;clear hK K Q';refine yad (v:=zI z6 0) 17 ?_;(try go_simp);refine wpAny_done zQ ?_ _;have hnw:wl.length/2=nW:=by rw [RW.o.len];omega
 have hnw2:wl.length%2=0:=by rw [RW.o.len];omega
 obtain ⟨A',c',e1,e2,e3, -⟩:=RW.o.form;have e4:lC=c':=by injection e1
 rw [←e4] at e2 e3;clear e1 e4 A' c'
 have R5:AcRows ⟨own2,w2⟩ t (W.takes ⟨1,oa,ob,oc,on,x,y⟩ got at_).a { p with gotA:=gA,gotC:=gC,wrA:=lA,wrC:=lC }:=by
  obtain ⟨r1,r2,r3,r4,r5,r6,r7,r8,r9,r10,r11,r12⟩:=H2.o.a.r;have hwl:(W.takes ⟨1,oa,ob,oc,on,x,y⟩ got at_).a.writes=wl:=HWL.o;exact ⟨r1,r2,r3,r4,r5,r6,r7,HG2.o,hgc,(by rw [hwl];exact RW.o.seg),(by rw [hwl];exact hnw2),(by rw [hwl,hnw];exact ⟨e2,e3⟩)⟩
 have H5:=zH (H2.o.turn (A':=(W.takes ⟨1,oa,ob,oc,on,x,y⟩ got at_).a) (p':={ p with gotA:=gA,gotC:=gC,wrA:=lA,wrC:=lC }) HP.o (g':=⟨own2,(((w2.setCell ⟨b,18,none⟩ (.slice lA nW lC)).setCell ⟨b,17,none⟩ (.slice gA got.length gC)).setCell ⟨b,3,none⟩ (zI z6 2)).setCell ⟨b,11,none⟩ (zI z6 7)⟩) (Mod.st (Mod.st (Mod.st (Mod.st (Mod.refl _ _) H2.o.a.blk.own) H2.o.a.blk.own) H2.o.a.blk.own) H2.o.a.blk.own) (by
  have h:=(((H2.o.a.blk.set 18 (.slice lA nW lC)).set 17 (.slice gA got.length gC)).set 3 (zI z6 2)).set 11 (zI z6 7)
  have hc:AcS.cells (W.takes ⟨1,oa,ob,oc,on,x,y⟩ got at_).a { p with gotA:=gA,gotC:=gC,wrA:=lA,wrC:=lC }=(((((W.a.cells p).set 18 (.slice lA nW lC)).set 17 (.slice gA got.length gC)).set 3 (zI z6 2)).set 11 (zI z6 7)):=by
   unfold AcS.cells AcW.takes AcW.withA;simp only;rw [HWL.o,hnw];rfl
  rw [hc];exact h) R5)
 have M5:=zH (show Mod (fun x=>x=t) g ⟨own2,(((w2.setCell ⟨b,18,none⟩ (.slice lA nW lC)).setCell ⟨b,17,none⟩ (.slice gA got.length gC)).setCell ⟨b,3,none⟩ (zI z6 2)).setCell ⟨b,11,none⟩ (zI z6 7)⟩ from Mod.st (Mod.st (Mod.st (Mod.st (M2.o.mono zG) H2.o.a.blk.own) H2.o.a.blk.own) H2.o.a.blk.own) H2.o.a.blk.own);have F3:=H2.o.a.blk.live 3;have F11:=H2.o.a.blk.live 11;have F17:=H2.o.a.blk.live 17;obtain ⟨x0,x1,x2,x3,x4,x5,xl⟩:=Q2.o.k6;obtain ⟨y0,y1,y2,yl⟩:=G2.o.k3;have hbq:b≠g.w.heap.size+1:=fun e=>by have h1:=H2.o.a.blk.own;have h2:=G2.o.own;rw [e] at h1;omega
 have hqb2:g.w.heap.size+1≠b:=fun e=>hbq e.symm;clear R5 hnw hnw2 e2 e3;simp only at F3 F11 F17;go_wp2_with fail;go_ret;exact Does.of ⟨own2,_⟩ rfl rfl M5.o ⟨_,H5.o⟩
theorem yc1 [TbId] (P:AcApart t B) (H:AcIn g t B b k W p bm bs bt bp bsp bh cm) (oa ob oc on:Int) (x y:Nat) (got:List Int) (gA:Option Addr) (gC:Nat) (st at_:Int) (hg:Seg g 0 gA (got.map (zI z6))) (hgc:got.length≤gC∧gC≤9223372036854775807) (hok:W.takesOk ⟨2,oa,ob,oc,on,x,y⟩ got at_=true):
 Calls prog 84 #[zp (some ⟨b,0,none⟩),zp (some ⟨k,0,none⟩),.agg #[zI z6 2,zI z6 oa,zI z6 ob,zI z6 oc,zI z6 on,zc z4 x y],.agg #[zI z6 st,.slice gA got.length gC,zI z6 at_]] g.w (Does (zb true) g (fun x=>x=t) (fun g'=> ∃p',AcIn g' t B b k (W.takes ⟨2,oa,ob,oc,on,x,y⟩ got at_) p' bm bs bt bp bsp bh cm)):=by
 unfold AcW.takesOk at hok;rw [if_neg (by show¬(2:Int)=1;decide)] at hok;simp only [Bool.and_eq_true,decide_eq_true_eq,List.all_eq_true,beq_iff_eq] at hok;obtain ⟨h1,h2,h3,h4⟩:=hok;have HE:=zH h4;have HH:=zH H;have HP:=zH P;have hPt:=P.ht;have HG:=zH hg;have HB:=zH (show∀x∈got, -9223372036854775808≤x∧x≤9223372036854775807 from fun x hx=>by have:=h2 x hx;omega);clear H hg h2 h4;go_enter func84,ntmps84;go_upto_region 4 with fail
 obtain ⟨own0,M0,Q0,G0⟩:=yaq g 26 143 [zI z6 2,zI z6 oa,zI z6 ob,zI z6 oc,zI z6 on,zc z4 x y] [zI z6 st,.slice gA got.length gC,zI z6 at_];generalize (g.w.alloc (.cells #[zI z6 2,zI z6 oa,zI z6 ob,zI z6 oc,zI z6 on,zc z4 x y] 26)).alloc (.cells #[zI z6 st,.slice gA got.length gC,zI z6 at_] 143)=w0 at *;have H0:=zH (HH.o.keep0 M0);have M0':=zH M0;have Q0':=zH Q0;have G0':=zH G0;have HG0:=zH (HG.o.keep M0 id);have hqb:=Q0.lt;obtain ⟨a0,a1,a2,a3,a4,a5,a6,a7,a8,a9,a10,a11,a12,a13,a14,a15,a16,a17,a18,al⟩:=H0.o.a.blk.k19;have af18:=H0.o.a.blk.liv 18;obtain ⟨c0,c1,c2,c3,c4,c5,c6,c7,c8,c9,c10,c11,c12,cl⟩:=H0.o.c.blk.k13;obtain ⟨x0,x1,x2,x3,x4,x5,xl⟩:=Q0.k6;obtain ⟨y0,y1,y2,yl⟩:=G0.k3;clear M0 Q0 G0;have HO:=zH (fun X=>yiT cm ob on at_ gA gC got (w0.patch X) (H0.o.c.cnf.ok.ext ⟨X,rfl⟩) (HG0.o.cells.ext ⟨X,rfl⟩) h1 hgc.1 hgc.2 HB.o zo zo);unfold Cnf.val at HO;refine yat [0] [zU,zT,zT,zT,zT,zT,zT,zT,zT,zT,zT,zT,zT] 13 8 ?_;intro X00;simp only [pickOps,movesAct,moveOf,List.getElem?_toArray,List.getElem?_cons_zero,List.getElem?_cons_succ];(try go_simp)
 repeat (go_big_quiet_step (fail))
 refine wpQuiet_nil (fun X0 K Q' hK=>?_);clear X00;(try go_simp);refine (HO.o _).mono ?_;rintro e w2 ⟨s',lv,nW,rfl,hs',hown,hE2⟩;obtain ⟨sa,sA,sc,sr⟩:=s';have hsh:(sa,sr)=(W.K.c.shapeAt ob).getD (false,[]):=by rw [←yaz HH.o.c.same];exact hs'
 have hsp:shpOf W.K.c ob=⟨sa,none,0,sr⟩:=by unfold shpOf;rw [←hsh]
 have hw0:arrE cm (cm.shapeAt ob).isSome ⟨sa,sA,sc,sr⟩ on got at_=0:=by
  rw [yiS HH.o.c.same,yaz HH.o.c.same, ←hsp];exact HE.o
 rw [hw0] at hown ⊢;simp only [if_true] at hown
 have HWL:=zH (show W.takenW ⟨2,oa,ob,oc,on,x,y⟩ got at_=arrWrites ⟨sa,sA,sc,sr⟩ ob on at_ got by
  unfold AcW.takenW;rw [if_neg (by show¬(2:Int)=1;decide),hsp];exact (yd3 sa sA sc sr _ _ _ _).symm)
 clear hsh hsp hw0 hs' HE HO;generalize arrWrites ⟨sa,sA,sc,sr⟩ ob on at_ got=wl at *;obtain ⟨lA,lC,hlv⟩:=yak hown;subst hlv
 obtain ⟨own2,m2,R2⟩: ∃own2,Mod (fun _=>False) ⟨own0,w0⟩ ⟨own2,w2⟩∧Row ⟨own2,w2⟩ 0 194 2 (.slice lA nW lC) nW (wl):=by
  have hE02:Ext w0 w2:=(show Ext w0 (w0.patch X0) from ⟨X0,rfl⟩).trans hE2;refine ⟨_,Mod.ext (g:=⟨own0,w0⟩) (show Ext w0 w2 from hE02) 0,⟨?_,fun k hk=>?_⟩⟩
  · exact yfZ hown
  · have h:=(hown.lt k hk).1;exact GW.to_new (Nat.le_trans (by show w0.heap.size≤(w0.patch X0).heap.size;rw [World.size_patch];omega) h)
 have H2:=zH (H0.o.keep0 m2);have M2:=zH (M0'.o.trans m2);have Q2:=zH (Q0'.o.keep m2 id);have G2:=zH (G0'.o.keep m2 id);have HG2:=zH (HG0.o.keep m2 id);have RW:=zH R2;clear m2 R2 hown hE2 a0 a1 a2 a3 a4 a5 a6 a7 a8 a9 a10 a11 a12 a13 a14 a15 a16 a17 a18 af18 al c0 c1 c2 c3 c4 c5 c6 c7 c8 c9 c10 c11 c12 cl x0 x1 x2 x3 x4 x5 xl y0 y1 y2 yl H0 M0' Q0' G0' HG0;obtain ⟨a0,a1,a2,a3,a4,a5,a6,a7,a8,a9,a10,a11,a12,a13,a14,a15,a16,a17,a18,al⟩:=H2.o.a.blk.k19;have af18:=H2.o.a.blk.liv 18;(try go_simp);refine hK _ _ ?_;clear hK K Q';refine yad (v:=.tuple #[.slice lA nW lC,zI z6 0]) 14 ?_;(try go_simp);refine yad (v:=.slice lA nW lC) 15 ?_;(try go_simp);refine yad (v:=zI z6 0) 16 ?_;(try go_simp);refine yad (v:=zp (some ⟨b,0,none⟩)) 17 ?_;(try go_simp);refine yad (v:=zp (some ⟨b,10,none⟩)) 18 ?_;(try go_simp);refine yad (v:=zp (some ⟨b,18,none⟩)) 19 ?_;(try go_simp);refine yag 20 (fun K Q' hK=>?_);(try go_simp);refine hK _ _ ?_;clear hK K Q';refine yad (v:=zI z6 0) 21 ?_;(try go_simp);refine wpAny_done zQ ?_ _;have hnw:wl.length/2=nW:=by rw [RW.o.len];omega
 have hnw2:wl.length%2=0:=by rw [RW.o.len];omega
 obtain ⟨A',c',e1,e2,e3, -⟩:=RW.o.form;have e4:lC=c':=by injection e1
 rw [←e4] at e2 e3;clear e1 e4 A' c'
 have R5:AcRows ⟨own2,w2⟩ t (W.takes ⟨2,oa,ob,oc,on,x,y⟩ got at_).a { p with gotA:=gA,gotC:=gC,wrA:=lA,wrC:=lC }:=by
  obtain ⟨r1,r2,r3,r4,r5,r6,r7,r8,r9,r10,r11,r12⟩:=H2.o.a.r;have hwl:(W.takes ⟨2,oa,ob,oc,on,x,y⟩ got at_).a.writes=wl:=HWL.o;exact ⟨r1,r2,r3,r4,r5,r6,r7,HG2.o,hgc,(by rw [hwl];exact RW.o.seg),(by rw [hwl];exact hnw2),(by rw [hwl,hnw];exact ⟨e2,e3⟩)⟩
 have H5:=zH (H2.o.turn (A':=(W.takes ⟨2,oa,ob,oc,on,x,y⟩ got at_).a) (p':={ p with gotA:=gA,gotC:=gC,wrA:=lA,wrC:=lC }) HP.o (g':=⟨own2,(((w2.setCell ⟨b,18,none⟩ (.slice lA nW lC)).setCell ⟨b,17,none⟩ (.slice gA got.length gC)).setCell ⟨b,3,none⟩ (zI z6 2)).setCell ⟨b,11,none⟩ (zI z6 7)⟩) (Mod.st (Mod.st (Mod.st (Mod.st (Mod.refl _ _) H2.o.a.blk.own) H2.o.a.blk.own) H2.o.a.blk.own) H2.o.a.blk.own) (by
  have h:=(((H2.o.a.blk.set 18 (.slice lA nW lC)).set 17 (.slice gA got.length gC)).set 3 (zI z6 2)).set 11 (zI z6 7)
  have hc:AcS.cells (W.takes ⟨2,oa,ob,oc,on,x,y⟩ got at_).a { p with gotA:=gA,gotC:=gC,wrA:=lA,wrC:=lC }=(((((W.a.cells p).set 18 (.slice lA nW lC)).set 17 (.slice gA got.length gC)).set 3 (zI z6 2)).set 11 (zI z6 7)):=by
   unfold AcS.cells AcW.takes AcW.withA;simp only;rw [HWL.o,hnw];rfl
  rw [hc];exact h) R5)
 have M5:=zH (show Mod (fun x=>x=t) g ⟨own2,(((w2.setCell ⟨b,18,none⟩ (.slice lA nW lC)).setCell ⟨b,17,none⟩ (.slice gA got.length gC)).setCell ⟨b,3,none⟩ (zI z6 2)).setCell ⟨b,11,none⟩ (zI z6 7)⟩ from Mod.st (Mod.st (Mod.st (Mod.st (M2.o.mono zG) H2.o.a.blk.own) H2.o.a.blk.own) H2.o.a.blk.own) H2.o.a.blk.own);have F3:=H2.o.a.blk.live 3;have F11:=H2.o.a.blk.live 11;have F17:=H2.o.a.blk.live 17;obtain ⟨x0,x1,x2,x3,x4,x5,xl⟩:=Q2.o.k6;obtain ⟨y0,y1,y2,yl⟩:=G2.o.k3;have hbq:b≠g.w.heap.size+1:=fun e=>by have h1:=H2.o.a.blk.own;have h2:=G2.o.own;rw [e] at h1;omega
 have hqb2:g.w.heap.size+1≠b:=fun e=>hbq e.symm;clear R5 hnw hnw2 e2 e3;simp only at F3 F11 F17;go_wp2_with fail;go_ret;exact Does.of ⟨own2,_⟩ rfl rfl M5.o ⟨_,H5.o⟩
end
end Go.Proofs.YtdhjjpnajjingaaGreat
namespace Go.Proofs.YtdhjjpnajjingaaGreat
open Go Go.RowKit
section
variable {g:GW} {t b B k:Nat} {A:AcS} {p:AcP}
theorem yb1 (ht:100≤t) (H:AcAt g t b A p) (ok oa ob oc on:Int) (x y:Nat) (hob:0≤ob∧ob<A.locals.length):
 Calls prog 140 #[zp (some ⟨b,0,none⟩),.agg #[zI z6 ok,zI z6 oa,zI z6 ob,zI z6 oc,zI z6 on,zc z4 x y]] g.w (Does (.tuple #[]) g (acO t) (fun g'=>AcAt g' t b (A.chooses ⟨ok,oa,ob,oc,on,x,y⟩) p)):=by
 obtain ⟨i,rfl⟩: ∃i:Nat,ob=i:=⟨ob.toNat,zo⟩;have hi:i<A.locals.length:=zo;have HD:=zH (show A.chooses ⟨ok,oa,i,oc,on,x,y⟩={ A with w:=(A.loc i).z,at_:=if A.ref&&A.shades then 3 else 6 } from rfl);have HH:=zH H;go_enter func140,ntmps140;go_upto_region 1 with fail
 obtain ⟨own0,M0,Q0⟩:=yam g 26 [zI z6 ok,zI z6 oa,zI z6 i,zI z6 oc,zI z6 on,zc z4 x y];generalize g.w.alloc (.cells #[zI z6 ok,zI z6 oa,zI z6 i,zI z6 oc,zI z6 on,zc z4 x y] 26)=w0 at *;have H0:=zH (HH.o.keep M0 id zG);obtain ⟨q,hA,hq, -,k0,k1, -⟩:=H0.o.r.local_ hi;simp only at k1 hq;obtain ⟨a0,a1,a2,a3,a4,a5,a6,a7,a8,a9,a10,a11,a12,a13,a14,a15,a16,a17,a18,al⟩:=H0.o.blk.k19;have af16:=H0.o.blk.liv 16;have af11:=H0.o.blk.liv 11;obtain ⟨x0,x1,x2,x3,x4,x5,xl⟩:=Q0.k6;rw [hA] at a2;have M0':=zH (M0.mono (S:=acO t) zG);clear M0 Q0 hA k0 H hob;generalize A.loc i=v at *;obtain ⟨vr,z1,z2⟩:=v;simp only at k1 HD;generalize A.locals.length=nl at *;refine yat [1] [zT,zU,zT,zT,zT,zT,zT,zT,zT,zT,zT] 11 7 ?_;intro X00;simp only [pickOps,movesAct,moveOf,List.getElem?_toArray,List.getElem?_cons_zero,List.getElem?_cons_succ];(try go_simp);repeat (go_big_quiet_step (fail))
 refine wpQuiet_nil (fun X0 K Q' hK=>?_);clear X00;(try go_simp);(try go_simp);refine hK _ _ ?_;clear hK K Q';refine yag 12 (fun K Q' hK=>?_);(try go_simp);refine hK _ _ ?_;clear hK K Q';refine yag 13 (fun K Q' hK=>?_);(try go_simp);refine hK _ _ ?_;clear hK K Q';refine yag 14 (fun K Q' hK=>?_);(try go_simp);refine hK _ _ ?_;clear hK K Q';refine yag 15 (fun K Q' hK=>?_);(try go_simp);refine hK _ _ ?_;clear hK K Q';refine yag 16 (fun K Q' hK=>?_);(try go_simp);refine hK _ _ ?_;clear hK K Q';refine yag 17 (fun K Q' hK=>?_);(try go_simp);refine hK _ _ ?_;clear hK K Q';refine yag 18 (fun K Q' hK=>?_);(try go_simp);refine hK _ _ ?_;clear hK K Q';refine wpAny_done zQ ?_ _;have H1:=zH ((H0.o.set ht 16 (zc z4 z1 z2) { A with w:=(z1,z2) } rfl ⟨rfl,rfl,rfl,rfl,rfl,rfl⟩).set ht 11 (zI z6 6) { A with w:=(z1,z2),at_:=6 } rfl ⟨rfl,rfl,rfl,rfl,rfl,rfl⟩);have M1:=zH (show Mod (acO t) g ⟨own0,(w0.setCell ⟨b,16,none⟩ (zc z4 z1 z2)).setCell ⟨b,11,none⟩ (zI z6 6)⟩ from Mod.st (Mod.st M0'.o (Or.inl H0.o.blk.own)) (Or.inl H0.o.blk.own))
 obtain ⟨own2,m2⟩: ∃own2,Mod (fun _=>False) (⟨own0,(w0.setCell ⟨b,16,none⟩ (zc z4 z1 z2)).setCell ⟨b,11,none⟩ (zI z6 6)⟩:GW) ⟨own2,((w0.setCell ⟨b,16,none⟩ (zc z4 z1 z2)).setCell ⟨b,11,none⟩ (zI z6 6)).patch X0⟩:=⟨_,Mod.pt (g:=⟨own0,(w0.setCell ⟨b,16,none⟩ (zc z4 z1 z2)).setCell ⟨b,11,none⟩ (zI z6 6)⟩) (Mod.refl _ _) _⟩;generalize ((w0.setCell ⟨b,16,none⟩ (zc z4 z1 z2)).setCell ⟨b,11,none⟩ (zI z6 6)).patch X0=w2 at *;have H2:=zH (show AcAt ⟨own2,w2⟩ t b { A with w:=(z1,z2),at_:=6 } p from H1.o.keep m2 id zG);have M2:=zH (M1.o.trans (m2.mono (S:=acO t) zG));have HSH:=zH (show Calls prog 209 #[zp (some ⟨b,0,none⟩)] w2 (fun e w'=>e=.returned (zb A.shades)∧w2=w') from (show A.shades=AcS.shades { A with w:=(z1,z2),at_:=6 } from rfl)▸yhn ⟨own2,w2⟩ t b { A with w:=(z1,z2),at_:=6 } p H2.o);clear m2 H1 M1 H0 M0' a0 a1 a2 a3 a4 a5 a6 a7 a8 a9 a10 a11 a12 a13 a14 a15 a16 a17 a18 af16 af11 al x0 x1 x2 x3 x4 x5 xl k1 hq;obtain ⟨a0,a1,a2,a3,a4,a5,a6,a7,a8,a9,a10,a11,a12,a13,a14,a15,a16,a17,a18,al⟩:=H2.o.blk.k19;have af11:=H2.o.blk.liv 11;cases hr:A.ref
 · have HD2:=zH (show A.chooses ⟨ok,oa,i,oc,on,x,y⟩={ A with w:=(z1,z2),at_:=6 } by rw [HD.o,hr];rfl);rw [show ({ A with w:=(z1,z2),at_:=6 }:AcS).ref=false from hr] at a14;clear hr;go_wp2_with fail;exact bodyPost_end (results_none rfl _ _ _) rfl (Does.of ⟨own2,w2⟩ rfl rfl M2.o (by rw [HD2.o];exact H2.o))
 · rw [show ({ A with w:=(z1,z2),at_:=6 }:AcS).ref=true from hr] at a14;go_wp2_with fail;refine HSH.o.mono ?_;rintro e w' ⟨rfl,rfl⟩;cases hs:A.shades
   · have HD2:=zH (show A.chooses ⟨ok,oa,i,oc,on,x,y⟩={ A with w:=(z1,z2),at_:=6 } by rw [HD.o,hr,hs];rfl);clear hr hs;go_wp2_with fail;exact bodyPost_end (results_none rfl _ _ _) rfl (Does.of ⟨own2,w2⟩ rfl rfl M2.o (by rw [HD2.o];exact H2.o))
   · have HD2:=zH (show A.chooses ⟨ok,oa,i,oc,on,x,y⟩={ A with w:=(z1,z2),at_:=3 } by rw [HD.o,hr,hs];rfl);have H3:=zH (H2.o.set ht 11 (zI z6 3) { A with w:=(z1,z2),at_:=3 } rfl ⟨rfl,rfl,rfl,rfl,rfl,rfl⟩);have M3:=zH (show Mod (acO t) g ⟨own2,w2.setCell ⟨b,11,none⟩ (zI z6 3)⟩ from Mod.st M2.o (Or.inl H2.o.blk.own));clear hr hs;go_wp2_with fail;exact bodyPost_end (results_none rfl _ _ _) rfl (Does.of ⟨own2,_⟩ rfl rfl M3.o (by rw [HD2.o];exact H3.o))
end
theorem ylM {S:FindS} {m:MemS} {x:Bool × FindS × MemS} (h:S.stepO m=some x):x.2.1.c=S.c:=by
 have h1:=FindS.stepO_same (S:=S) (cm:=S.c) ⟨rfl,rfl,rfl,rfl,rfl,rfl,rfl,rfl,rfl⟩ m;rw [show S.withC S.c=S from rfl,h] at h1;injection h1 with h1;rw [h1];rfl
section
variable {g:GW} {t b B k:Nat} {W:AcW} {p:AcP} {bm bs bt bp bsp bh:Nat} {cm:Cnf}
theorem AcIn.found [TbId] {g':GW} (H:AcIn g t B b k W p bm bs bt bp bsp bh cm) (P:AcApart t B) (m:Mod (fun x=>x=t+2∨x=B+62) g g') {F:FindS} {M:MemS} {bf:Nat} {cf:Cnf} (hp:p.fp=some ⟨bf,0,none⟩) (hs:cf.Same F.c) (hf:FindAt g' (t+2) bf (F.withC cf)) (hm:MemAt g' (B+62) bm M) (hsome:W.a.f≠none):
 AcIn g' t B b k ((W.memW M).withA { W.a with f:=some F }) p bm bs bt bp bsp bh cm:=by
 have hPa:=P.apart;have hPt:=P.ht;have hPb:=P.hb;obtain ⟨r1,r2,r3,r4,r5,r6,r7,r8,r9,r10,r11,r12⟩:=H.a.r;refine ⟨⟨H.a.blk.keep m zo,⟨r1.keep m zo,r2,r3.keep m zo,r4.keep m zo,r5,(fun h=>by cases h),(fun S hS=>?_),r8.keep m zo,r9,r10.keep m zo,r11,r12⟩⟩,?_,H.tbl⟩
 · injection hS with hS;subst hS;exact ⟨bf,cf,hp,hs,hf⟩
 · have h:=H.c;exact ⟨h.blk.keep m zo,hm,h.sh.keep m zo,h.pile.keep m zo,h.sp.keep m (fun x hx=>by omega),h.hand.keep m zo,h.cnf.keep m zo,h.same⟩
theorem yiN [TbId] (P:AcApart t B) (hmc:0≤W.K.mem.count∧W.K.mem.count≤1099511627776) (hnx:0≤W.a.next∧W.a.next≤1099511627776) (H:AcIn g t B b k W p bm bs bt bp bsp bh cm) (ok oa ob oc on:Int) (x y:Nat) (hob:0≤ob∧ob<W.a.locals.length) (F:FindS) (hF:W.a.f=some F) (hs:0≤F.steps∧F.steps≤1099511627776) (hkb: -9223372036854775808≤F.k∧F.k≤9223372036854775807) (u:Bool) (F':FindS) (m':MemS) (hx:F.stepO W.K.mem=some (u,F',m')) (R:AcR) (hR:W.found ⟨ok,oa,ob,oc,on,x,y⟩ (u,F',m')=R):
 Calls prog 76 #[zp (some ⟨b,0,none⟩),zp (some ⟨k,0,none⟩),.agg #[zI z6 ok,zI z6 oa,zI z6 ob,zI z6 oc,zI z6 on,zc z4 x y]] g.w (Does (resV R.1) g (acT t B) (fun g'=>AcWAt g' t B b k R.2)):=by
 have HH:=zH H;have HP:=zH P;have hPt:=P.ht;have hPb:=P.hb;have hPa:=P.apart;have HR:=zH hR;have HNX:=zH hnx;have hFc:=ylM hx;simp only at hFc;go_enter func76,ntmps76;go_upto_region 1 with fail
 obtain ⟨own0,M0,Q0,R0⟩:=yaq g 26 40 [zI z6 ok,zI z6 oa,zI z6 ob,zI z6 oc,zI z6 on,zc z4 x y] resZ;unfold resZ at M0 R0 Q0;generalize (g.w.alloc (.cells #[zI z6 ok,zI z6 oa,zI z6 ob,zI z6 oc,zI z6 on,zc z4 x y] 26)).alloc (.cells #[zI z6 0,zI z6 0,zI z6 0,zb false,zc z4 0 0] 40)=w0 at *;have H0:=zH (HH.o.keep0 M0);have m1:Mod (fun x=>x=t) (⟨own0,w0⟩:GW) ⟨own0,w0.setCell ⟨b,11,none⟩ (zI z6 1)⟩:=Mod.st (Mod.refl _ _) H0.o.a.blk.own;have H1:=zH (H0.o.set HP.o 11 (zI z6 1) { W.a with at_:=1 } rfl ⟨rfl,rfl,rfl,rfl,rfl,rfl⟩);have M1:=zH ((M0.mono (S:=acT t B) zG).trans (m1.mono (S:=acT t B) (fun x hx=>yaG hx)));have Q1:=zH (Q0.keep m1 zo);have R1:=zH (R0.keep m1 zo);obtain ⟨a0,a1,a2,a3,a4,a5,a6,a7,a8,a9,a10,a11,a12,a13,a14,a15,a16,a17,a18,al⟩:=H0.o.a.blk.k19;have af11:=H0.o.a.blk.liv 11;clear M0 Q0 R0 m1 H0 H P hR hnx;go_upto_region 2 with fail
 generalize w0.setCell ⟨b,11,none⟩ (zI z6 1)=w1 at *;clear af11;clear a0 a1 a2 a3 a4 a5 a6 a7 a8 a9 a10 a11 a12 a13 a14 a15 a16 a17 a18 al;obtain ⟨bf,cf,hfp,hsm,hfa⟩:=H1.o.a.r.fs F hF;have HK:=zH (fun X=>ygz ((⟨own0,w1⟩:GW).pt X) (F.withC cf) W.K.mem (u,F'.withC cf,m') (t:=t+2) (tm:=B+62) (bm:=bm) (b:=bf) (hfa.keep (Mod.pt (Mod.refl (fun _=>False) _) _) id id) (H1.o.pt X).c.mem hs hmc zo zo hkb (by rw [FindS.stepO_same hsm,hx];rfl));simp only at HK;have HFP:=zH hfp;have HSM:=zH (show cf.Same F'.c by rw [hFc];exact hsm);obtain ⟨a0,a1,a2,a3,a4,a5,a6,a7,a8,a9,a10,a11,a12,a13,a14,a15,a16,a17,a18,al⟩:=H1.o.a.blk.k19;obtain ⟨c0,c1,c2,c3,c4,c5,c6,c7,c8,c9,c10,c11,c12,cl⟩:=H1.o.c.blk.k13;rw [hfp] at a12;have HFN:=zH (show (W.withA { W.a with at_:=1 }).a.f≠none by show W.a.f≠none;rw [hF];simp);clear hfa hfp hsm hFc hx hs hkb hmc hF;refine yab [zT,zT,zT,zT,zT,zT,zT,zT,zT,zU,zU] 2 9 ?_;intro X00;simp only [pickOps];repeat (go_big_quiet_step (fail))
 refine wpQuiet_nil (fun X0=>?_);clear X00;refine yaf rfl zQ (fun X2=>?_);simp only [List.drop_succ_cons,List.drop_zero];go_wp2_with fail;refine (HK.o _).mono ?_;rintro e w2 ⟨rfl,own2,m2,h2,h2m⟩;have P2:=(Mod.pt (Mod.refl _ _) _).trans m2;have M2:=zH (M1.o.trans (P2.mono (S:=acT t B) (fun x (hx:x=_∨x=_)=>by unfold acT;omega)));have H2:=zH (show AcIn ⟨own2,w2⟩ t B b k ((W.memW m').withA { W.a with at_:=1,f:=some F' }) p bm bs bt bp bsp bh cm from H1.o.found HP.o P2 HFP.o HSM.o h2 h2m HFN.o);have R2:=zH (R1.o.keep P2 zo);have Q2:=zH (Q1.o.keep P2 zo);have HF2:=zH h2;clear P2 m2 h2 h2m HK M1 H1 R1 Q1 HFN;clear a0 a1 a2 a3 a4 a5 a6 a7 a8 a9 a10 a11 a12 a13 a14 a15 a16 a17 a18 al;clear c0 c1 c2 c3 c4 c5 c6 c7 c8 c9 c10 c11 c12 cl;cases u
 · have HD:=zH (show R=((W.memW m').withA { W.a with at_:=1,f:=some F' }).no by rw [←HR.o];rfl);obtain ⟨r0,r1,r2,r3,r4,rl⟩:=R2.o.k5;have rf0:=R2.o.liv 0;have rf1:=R2.o.liv 1;have rf2:=R2.o.liv 2;have rf3:=R2.o.liv 3;have rf4:=R2.o.liv 4;go_wp2_with fail;obtain ⟨Mf,mf,Rf⟩:=yae M2.o R2.o (Nat.le_succ _) (0) (0) (0) (false) (0) (0);generalize ((((((w2).setCell ⟨g.w.heap.size+1,0,none⟩ (zI z6 (0))).setCell ⟨g.w.heap.size+1,1,none⟩ (zI z6 (0))).setCell ⟨g.w.heap.size+1,2,none⟩ (zI z6 (0))).setCell ⟨g.w.heap.size+1,3,none⟩ (zb (false))).setCell ⟨g.w.heap.size+1,4,none⟩ (zc z4 (0) (0)))=wf at *;obtain ⟨f0,f1,f2,f3,f4,fl⟩:=Rf.k5;refine bodyPost_ret (v:=.tuple #[.agg #[zI z6 (0),zI z6 (0),zI z6 (0),zb (false),zc z4 (0) (0)],zb false]) (by simp [results,Tryz.results76,go_sem,f0,f1,f2,f3,f4]) rfl ?_;exact Does.of ⟨own2,wf⟩ rfl (by rw [HD.o];rfl) Mf (by rw [HD.o];exact (H2.o.keep mf zo z9 z9).at_)
 have HE:=zH (show Calls prog 143 #[zp (some ⟨bf,0,none⟩)] w2 (fun e w'=>e=.returned (zI z6 F'.e)∧w2=w') from yhK ⟨own2,w2⟩ (t+2) bf (F'.withC cf) HF2.o);obtain ⟨a0,a1,a2,a3,a4,a5,a6,a7,a8,a9,a10,a11,a12,a13,a14,a15,a16,a17,a18,al⟩:=H2.o.a.blk.k19;rw [HFP.o] at a12;go_wp2_with fail;refine HE.o.mono ?_;rintro e w' ⟨rfl,rfl⟩;by_cases he:F'.e=0
 case neg=>
  have HD:=zH (show R=((W.memW m').withA { W.a with at_:=1,f:=some F' }).fails F'.e by rw [←HR.o];unfold AcW.found;simp only [Bool.true_eq_false,if_false];rw [if_pos he]);have hz:(F'.e !=0)=true:=by simp [he]
  clear he HE;obtain ⟨r,hr⟩: ∃r,((W.memW m').withA { W.a with at_:=1,f:=some F' }).a.res LVal.zero F'.e=r:=⟨_,rfl⟩;have HRr:=zH hr;have HFL:=zH (show Calls prog 85 #[zp (some ⟨b,0,none⟩),zI z6 F'.e] w2 (Does (.tuple #[.agg #[zI z6 r.op,zI z6 r.own,zI z6 r.e,zb r.v.ref,zc z4 r.v.z.1 r.v.z.2],zb true]) ⟨own2,w2⟩ (acO t) (fun g'=>AcAt g' t b _ p)) from ya6 ⟨own2,w2⟩ t b _ p F'.e r hPt H2.o.a HNX.o hr);clear hr;go_wp2_with fail;refine HFL.o.mono ?_;rintro e w3 ⟨rfl,own3,m3,h3⟩;have M3:=zH (M2.o.trans (m3.mono (S:=acT t B) (fun x hx=>yay hx)));have H3:=zH (H2.o.own HP.o m3 h3);have R3:=zH (R2.o.keep m3 (fun h=>by unfold acO at h;omega));clear M2 H2 R2 m3 h3 HFL;clear a0 a1 a2 a3 a4 a5 a6 a7 a8 a9 a10 a11 a12 a13 a14 a15 a16 a17 a18 al;obtain ⟨r0,r1,r2,r3,r4,rl⟩:=R3.o.k5;have rf0:=R3.o.liv 0;have rf1:=R3.o.liv 1;have rf2:=R3.o.liv 2;have rf3:=R3.o.liv 3;have rf4:=R3.o.liv 4;go_wp2_with fail;obtain ⟨Mf,mf,Rf⟩:=yae M3.o R3.o (Nat.le_succ _) (r.op) (r.own) (r.e) (r.v.ref) (r.v.z.1) (r.v.z.2)
  generalize ((((((w3).setCell ⟨g.w.heap.size+1,0,none⟩ (zI z6 (r.op))).setCell ⟨g.w.heap.size+1,1,none⟩ (zI z6 (r.own))).setCell ⟨g.w.heap.size+1,2,none⟩ (zI z6 (r.e))).setCell ⟨g.w.heap.size+1,3,none⟩ (zb (r.v.ref))).setCell ⟨g.w.heap.size+1,4,none⟩ (zc z4 (r.v.z.1) (r.v.z.2)))=wf at *;obtain ⟨f0,f1,f2,f3,f4,fl⟩:=Rf.k5;refine bodyPost_ret (v:=.tuple #[.agg #[zI z6 (r.op),zI z6 (r.own),zI z6 (r.e),zb (r.v.ref),zc z4 (r.v.z.1) (r.v.z.2)],zb true]) (by simp [results,Tryz.results76,go_sem,f0,f1,f2,f3,f4]) rfl ?_;exact Does.of ⟨own3,wf⟩ rfl (by rw [HD.o, ←HRr.o];rfl) Mf (by rw [HD.o];exact (H3.o.keep mf zo z9 z9).at_)
 have hz:(F'.e !=0)=false:=by simp [he]
 obtain ⟨ad,had⟩: ∃q,F'.at_=q:=⟨_,rfl⟩;obtain ⟨rf,hrf⟩: ∃q,(decide (0≤F'.at_)&&F'.ref)=q:=⟨_,rfl⟩;have HA:=zH (fun X=>(show Calls prog 144 #[zp (some ⟨bf,0,none⟩)] (w2.patch X) (Gives (zI z6 ad) (w2.patch X)) from yau (by have h:=ylu ((⟨own2,w2⟩:GW).pt X) (t+2) bf (F'.withC cf) (HF2.o.keep (Mod.pt (Mod.refl (fun _=>False) _) _) id id);rw [show (F'.withC cf).at_=ad from had] at h;exact h)));have HRF:=zH (fun X=>(show Calls prog 145 #[zp (some ⟨bf,0,none⟩)] (w2.patch X) (Gives (zb rf) (w2.patch X)) from yau (by have h:=ykP ((⟨own2,w2⟩:GW).pt X) (t+2) bf (F'.withC cf) (HF2.o.keep (Mod.pt (Mod.refl (fun _=>False) _) _) id id);rw [show (decide (0≤(F'.withC cf).at_)&&(F'.withC cf).ref)=rf from hrf] at h;exact h)));obtain ⟨f0,f1,f2,f3,f4,f5,f6,f7,f8,f9,f10,f11,f12,f13,f14,f15,f16,f17,f18,fl⟩:=H2.o.a.blk.k19;have ff13:=H2.o.a.blk.liv 13;have ff14:=H2.o.a.blk.liv 14;have ff11:=H2.o.a.blk.liv 11;clear f0 f1 f2 f3 f4 f5 f6 f7 f8 f9 f10 f11 f12 f13 f14 f15 f16 f17 f18 fl;go_upto_region 7 with fail
 clear HE hz;refine yat [1,2] [zT,zU,zU,zT,zT,zT,zT,zT,zT,zT,zT,zT,zT,zT,zT] 15 11 ?_;intro X00;simp only [pickOps,movesAct,moveOf,List.getElem?_toArray,List.getElem?_cons_zero,List.getElem?_cons_succ];(try go_simp);repeat (go_big_quiet_step (first|(go_at_call 144;exact Calls.added (HA.o _))|(go_at_call 145;exact Calls.added (HRF.o _))))
 refine wpQuiet_nil (fun X0 K Q' hK=>?_);clear X00;(try go_simp);(try go_simp);refine hK _ _ ?_;clear hK K Q';refine yag 16 (fun K Q' hK=>?_);(try go_simp);refine hK _ _ ?_;clear hK K Q';refine yag 17 (fun K Q' hK=>?_);(try go_simp);refine hK _ _ ?_;clear hK K Q';refine yag 18 (fun K Q' hK=>?_);(try go_simp);refine hK _ _ ?_;clear hK K Q';refine yag 19 (fun K Q' hK=>?_);(try go_simp);refine hK _ _ ?_;clear hK K Q';refine yag 20 (fun K Q' hK=>?_);(try go_simp);refine hK _ _ ?_;clear hK K Q';refine yag 21 (fun K Q' hK=>?_);(try go_simp);refine hK _ _ ?_;clear hK K Q';refine yag 22 (fun K Q' hK=>?_);(try go_simp);refine hK _ _ ?_;clear hK K Q';refine yag 23 (fun K Q' hK=>?_);(try go_simp);refine hK _ _ ?_;clear hK K Q';refine yag 24 (fun K Q' hK=>?_);(try go_simp);refine hK _ _ ?_;clear hK K Q';refine yag 25 (fun K Q' hK=>?_);(try go_simp);refine hK _ _ ?_;clear hK K Q';refine yag 26 (fun K Q' hK=>?_);(try go_simp);refine hK _ _ ?_;clear hK K Q';refine wpAny_done zQ ?_ _
 have m3:Mod (fun x=>x=t) (⟨own2,w2⟩:GW) ⟨own2,((w2.setCell ⟨b,13,none⟩ (zI z6 ad)).setCell ⟨b,14,none⟩ (zb rf)).setCell ⟨b,11,none⟩ (zI z6 2)⟩:=Mod.st (Mod.st (Mod.st (Mod.refl _ _) H2.o.a.blk.own) H2.o.a.blk.own) H2.o.a.blk.own;have h3:=((H2.o.set HP.o 13 (zI z6 ad) { W.a with at_:=1,f:=some F',addr:=ad } rfl ⟨rfl,rfl,rfl,rfl,rfl,rfl⟩).set HP.o 14 (zb rf) { W.a with at_:=1,f:=some F',addr:=ad,ref:=rf } rfl ⟨rfl,rfl,rfl,rfl,rfl,rfl⟩).set HP.o 11 (zI z6 2) { W.a with at_:=2,f:=some F',addr:=ad,ref:=rf } rfl ⟨rfl,rfl,rfl,rfl,rfl,rfl⟩;obtain ⟨own3,m4⟩: ∃ownZ,Mod (fun _=>False) (⟨own2,((w2.setCell ⟨b,13,none⟩ (zI z6 ad)).setCell ⟨b,14,none⟩ (zb rf)).setCell ⟨b,11,none⟩ (zI z6 2)⟩:GW) ⟨ownZ,(((w2.setCell ⟨b,13,none⟩ (zI z6 ad)).setCell ⟨b,14,none⟩ (zb rf)).setCell ⟨b,11,none⟩ (zI z6 2)).patch X0⟩:=⟨_,Mod.pt (g:=⟨own2,((w2.setCell ⟨b,13,none⟩ (zI z6 ad)).setCell ⟨b,14,none⟩ (zb rf)).setCell ⟨b,11,none⟩ (zI z6 2)⟩) (Mod.refl _ _) _⟩;have H3:=zH (show AcIn ⟨own3,_⟩ t B b k ((W.memW m').withA { W.a with at_:=2,f:=some F',addr:=ad,ref:=rf }) p bm bs bt bp bsp bh cm from h3.keep0 m4)
 have M3:=zH ((M2.o.trans (m3.mono (S:=acT t B) (fun x hx=>yaG hx))).trans (m4.mono (S:=acT t B) zG));have Q3:=zH ((Q2.o.keep m3 zo).keep m4 id);have R3:=zH ((R2.o.keep m3 zo).keep m4 id);generalize (((w2.setCell ⟨b,13,none⟩ (zI z6 ad)).setCell ⟨b,14,none⟩ (zb rf)).setCell ⟨b,11,none⟩ (zI z6 2)).patch X0=w3 at *;clear m3 h3 m4 M2 H2 Q2 R2 HA HRF HF2 ff13 ff14 ff11;clear a0 a1 a2 a3 a4 a5 a6 a7 a8 a9 a10 a11 a12 a13 a14 a15 a16 a17 a18 al
 have HD:=zH (show R=(if ok=3∨ok=5 then ((W.memW m').withA { W.a with at_:=2,f:=some F',addr:=ad,ref:=rf }).no else if (W.a.loc ob).ref≠rf then ((W.memW m').withA { W.a with at_:=2,f:=some F',addr:=ad,ref:=rf }).fails 4 else ((W.memW m').withA (AcS.chooses { W.a with at_:=2,f:=some F',addr:=ad,ref:=rf } ⟨ok,oa,ob,oc,on,x,y⟩)).no) by
  rw [←HR.o];unfold AcW.found;simp only [Bool.true_eq_false,if_false,he,ne_eq,not_true_eq_false];rw [hrf,had];rfl)
 clear he had hrf HR;obtain ⟨x0,x1,x2,x3,x4,x5,xl⟩:=Q3.o.k6;by_cases h3:ok=3
 · have HD2:=zH (show R=((W.memW m').withA { W.a with at_:=2,f:=some F',addr:=ad,ref:=rf }).no by rw [HD.o,if_pos (Or.inl h3)]);have hz:(ok==3)=true:=beq_iff_eq.2 h3;clear h3;obtain ⟨r0,r1,r2,r3,r4,rl⟩:=R3.o.k5;have rf0:=R3.o.liv 0;have rf1:=R3.o.liv 1;have rf2:=R3.o.liv 2;have rf3:=R3.o.liv 3;have rf4:=R3.o.liv 4;go_wp2_with fail;obtain ⟨Mf,mf,Rf⟩:=yae M3.o R3.o (Nat.le_succ _) (0) (0) (0) (false) (0) (0);generalize ((((((w3).setCell ⟨g.w.heap.size+1,0,none⟩ (zI z6 (0))).setCell ⟨g.w.heap.size+1,1,none⟩ (zI z6 (0))).setCell ⟨g.w.heap.size+1,2,none⟩ (zI z6 (0))).setCell ⟨g.w.heap.size+1,3,none⟩ (zb (false))).setCell ⟨g.w.heap.size+1,4,none⟩ (zc z4 (0) (0)))=wf at *;obtain ⟨f0,f1,f2,f3,f4,fl⟩:=Rf.k5;refine bodyPost_ret (v:=.tuple #[.agg #[zI z6 (0),zI z6 (0),zI z6 (0),zb (false),zc z4 (0) (0)],zb false]) (by simp [results,Tryz.results76,go_sem,f0,f1,f2,f3,f4]) rfl ?_;exact Does.of ⟨own3,wf⟩ rfl (by rw [HD2.o];rfl) Mf (by rw [HD2.o];exact (H3.o.keep mf zo z9 z9).at_)
 have hz3:(ok==3)=false:=beq_eq_false_iff_ne.2 h3;by_cases h5:ok=5
 · have HD2:=zH (show R=((W.memW m').withA { W.a with at_:=2,f:=some F',addr:=ad,ref:=rf }).no by rw [HD.o,if_pos (Or.inr h5)]);have hz:(ok==5)=true:=beq_iff_eq.2 h5;clear h5 h3;obtain ⟨r0,r1,r2,r3,r4,rl⟩:=R3.o.k5;have rf0:=R3.o.liv 0;have rf1:=R3.o.liv 1;have rf2:=R3.o.liv 2;have rf3:=R3.o.liv 3;have rf4:=R3.o.liv 4;go_wp2_with fail;obtain ⟨Mf,mf,Rf⟩:=yae M3.o R3.o (Nat.le_succ _) (0) (0) (0) (false) (0) (0);generalize ((((((w3).setCell ⟨g.w.heap.size+1,0,none⟩ (zI z6 (0))).setCell ⟨g.w.heap.size+1,1,none⟩ (zI z6 (0))).setCell ⟨g.w.heap.size+1,2,none⟩ (zI z6 (0))).setCell ⟨g.w.heap.size+1,3,none⟩ (zb (false))).setCell ⟨g.w.heap.size+1,4,none⟩ (zc z4 (0) (0)))=wf at *;obtain ⟨f0,f1,f2,f3,f4,fl⟩:=Rf.k5;refine bodyPost_ret (v:=.tuple #[.agg #[zI z6 (0),zI z6 (0),zI z6 (0),zb (false),zc z4 (0) (0)],zb false]) (by simp [results,Tryz.results76,go_sem,f0,f1,f2,f3,f4]) rfl ?_;exact Does.of ⟨own3,wf⟩ rfl (by rw [HD2.o];rfl) Mf (by rw [HD2.o];exact (H3.o.keep mf zo z9 z9).at_)
 have hz5:(ok==5)=false:=beq_eq_false_iff_ne.2 h5;have HD3:=zH (show R=(if (W.a.loc ob).ref≠rf then ((W.memW m').withA { W.a with at_:=2,f:=some F',addr:=ad,ref:=rf }).fails 4 else ((W.memW m').withA (AcS.chooses { W.a with at_:=2,f:=some F',addr:=ad,ref:=rf } ⟨ok,oa,ob,oc,on,x,y⟩)).no) by rw [HD.o,if_neg zo]);clear h3 h5 HD;obtain ⟨lk,hlk,hlk2⟩: ∃i:Nat,ob=i∧i<W.a.locals.length:=⟨ob.toNat,zo,zo⟩;obtain ⟨q,hA,hq, -,k0, -, -⟩:=H3.o.a.r.local_ (k:=lk) hlk2;have k0':w3.cell? ⟨q,lk*2,none⟩=some (zb (W.a.loc lk).ref):=k0;simp only at hq;clear k0;have HOB:=zH hob;rw [hlk] at HD3 hob x2;have HLK:=zH hlk;clear hlk;obtain ⟨a0,a1,a2,a3,a4,a5,a6,a7,a8,a9,a10,a11,a12,a13,a14,a15,a16,a17,a18,al⟩:=H3.o.a.blk.k19;have a2':w3.cell? ⟨b,2,none⟩=some (.slice (some ⟨q,0,none⟩) W.a.locals.length p.locC):=by rw [←hA];exact a2
 have a14':w3.cell? ⟨b,14,none⟩=some (zb rf):=a14;clear a2 a14 hA;generalize (W.a.loc lk).ref=vr at *;cases vr
 · cases rf
   · go_upto_region 10 with fail
     refine yab [zT,zT,zT,zT,zT,zT,zT,zT,zT,zT,zT,zT,zT,zT,zT] 0 15 ?_;intro X00;simp only [pickOps];repeat (go_big_quiet_step (fail))
     refine wpQuiet_nil (fun X0=>?_);clear X00;refine yaa zQ (fun X0'=>?_) _;(try go_simp);obtain ⟨own4,m4⟩: ∃ownZ,Mod (fun _=>False) (⟨own3,w3⟩:GW) ⟨ownZ,w3.patch ⟨X0.blocks++X0'.blocks,X0'.drawn⟩⟩:=⟨_,Mod.pt (g:=⟨own3,w3⟩) (Mod.refl _ _) _⟩;have M4:=zH (M3.o.trans (m4.mono (S:=acT t B) zG));have H4:=zH (show AcIn ⟨own4,_⟩ t B b k ((W.memW m').withA { W.a with at_:=2,f:=some F',addr:=ad,ref:=false }) p bm bs bt bp bsp bh cm from H3.o.keep0 m4);have Q4:=zH (Q3.o.keep m4 id);have R4:=zH (R3.o.keep m4 id);generalize w3.patch ⟨X0.blocks++X0'.blocks,X0'.drawn⟩=w4 at *;clear m4 M3 H3 Q3 R3 k0' a0 a1 a2' a3 a4 a5 a6 a7 a8 a9 a10 a11 a12 a13 a14' a15 a16 a17 a18 al hq;clear x0 x1 x2 x3 x4 x5 xl;have HD:=zH (show R=((W.memW m').withA (AcS.chooses { W.a with at_:=2,f:=some F',addr:=ad,ref:=false } ⟨ok,oa,lk,oc,on,x,y⟩)).no by rw [HD3.o];rfl);have HC:=zH (show Calls prog 140 #[zp (some ⟨b,0,none⟩),.agg #[zI z6 ok,zI z6 oa,zI z6 lk,zI z6 oc,zI z6 on,zc z4 x y]] w4 (Does (.tuple #[]) ⟨own4,w4⟩ (acO t) (fun g'=>AcAt g' t b _ p)) from yb1 (g:=⟨own4,w4⟩) hPt H4.o.a ok oa lk oc on x y hob);clear HD3
     obtain ⟨x0,x1,x2,x3,x4,x5,xl⟩:=Q4.o.k6;rw [HLK.o] at x2;go_wp2_with fail;refine HC.o.mono ?_;rintro e w5 ⟨rfl,own5,m5,h5⟩;have M5:=zH (M4.o.trans (m5.mono (S:=acT t B) (fun x hx=>yay hx)));have H5:=zH (H4.o.own HP.o m5 h5);have R5:=zH (R4.o.keep m5 (fun h=>by unfold acO at h;omega));clear M4 H4 R4 m5 h5 HC;clear x0 x1 x2 x3 x4 x5 xl;obtain ⟨r0,r1,r2,r3,r4,rl⟩:=R5.o.k5;have rf0:=R5.o.liv 0;have rf1:=R5.o.liv 1;have rf2:=R5.o.liv 2;have rf3:=R5.o.liv 3;have rf4:=R5.o.liv 4;go_wp2_with fail;obtain ⟨Mf,mf,Rf⟩:=yae M5.o R5.o (Nat.le_succ _) (0) (0) (0) (false) (0) (0);generalize ((((((w5).setCell ⟨g.w.heap.size+1,0,none⟩ (zI z6 (0))).setCell ⟨g.w.heap.size+1,1,none⟩ (zI z6 (0))).setCell ⟨g.w.heap.size+1,2,none⟩ (zI z6 (0))).setCell ⟨g.w.heap.size+1,3,none⟩ (zb (false))).setCell ⟨g.w.heap.size+1,4,none⟩ (zc z4 (0) (0)))=wf at *;obtain ⟨f0,f1,f2,f3,f4,fl⟩:=Rf.k5;refine bodyPost_ret (v:=.tuple #[.agg #[zI z6 (0),zI z6 (0),zI z6 (0),zb (false),zc z4 (0) (0)],zb false]) (by simp [results,Tryz.results76,go_sem,f0,f1,f2,f3,f4]) rfl ?_
     exact Does.of ⟨own5,wf⟩ rfl (by rw [HD.o];rfl) Mf (by rw [HD.o];exact (H5.o.keep mf zo z9 z9).at_)
   · go_upto_region 10 with fail
     refine yab [zT,zT,zT,zT,zT,zT,zT,zT,zT,zT,zT,zT,zT,zT,zT] 0 15 ?_;intro X00;simp only [pickOps];repeat (go_big_quiet_step (fail))
     refine wpQuiet_nil (fun X0=>?_);clear X00;refine yaa zQ (fun X0'=>?_) _;(try go_simp);obtain ⟨own4,m4⟩: ∃ownZ,Mod (fun _=>False) (⟨own3,w3⟩:GW) ⟨ownZ,w3.patch ⟨X0.blocks++X0'.blocks,X0'.drawn⟩⟩:=⟨_,Mod.pt (g:=⟨own3,w3⟩) (Mod.refl _ _) _⟩;have M4:=zH (M3.o.trans (m4.mono (S:=acT t B) zG));have H4:=zH (show AcIn ⟨own4,_⟩ t B b k ((W.memW m').withA { W.a with at_:=2,f:=some F',addr:=ad,ref:=true }) p bm bs bt bp bsp bh cm from H3.o.keep0 m4);have Q4:=zH (Q3.o.keep m4 id);have R4:=zH (R3.o.keep m4 id);generalize w3.patch ⟨X0.blocks++X0'.blocks,X0'.drawn⟩=w4 at *;clear m4 M3 H3 Q3 R3 k0' a0 a1 a2' a3 a4 a5 a6 a7 a8 a9 a10 a11 a12 a13 a14' a15 a16 a17 a18 al hq;clear x0 x1 x2 x3 x4 x5 xl;have HD:=zH (show R=((W.memW m').withA { W.a with at_:=2,f:=some F',addr:=ad,ref:=true }).fails 4 by rw [HD3.o];rfl);clear HD3;obtain ⟨r,hr⟩: ∃r,((W.memW m').withA { W.a with at_:=2,f:=some F',addr:=ad,ref:=true }).a.res LVal.zero 4=r:=⟨_,rfl⟩;have HRr:=zH hr
     have HFL:=zH (show Calls prog 85 #[zp (some ⟨b,0,none⟩),zI z6 4] w4 (Does (.tuple #[.agg #[zI z6 r.op,zI z6 r.own,zI z6 r.e,zb r.v.ref,zc z4 r.v.z.1 r.v.z.2],zb true]) ⟨own4,w4⟩ (acO t) (fun g'=>AcAt g' t b _ p)) from ya6 ⟨own4,w4⟩ t b _ p 4 r hPt H4.o.a HNX.o hr);clear hr;go_wp2_with fail;refine HFL.o.mono ?_;rintro e w5 ⟨rfl,own5,m5,h5⟩;have M5:=zH (M4.o.trans (m5.mono (S:=acT t B) (fun x hx=>yay hx)));have H5:=zH (H4.o.own HP.o m5 h5);have R5:=zH (R4.o.keep m5 (fun h=>by unfold acO at h;omega));clear M4 H4 R4 m5 h5 HFL;obtain ⟨r0,r1,r2,r3,r4,rl⟩:=R5.o.k5;have rf0:=R5.o.liv 0;have rf1:=R5.o.liv 1;have rf2:=R5.o.liv 2;have rf3:=R5.o.liv 3;have rf4:=R5.o.liv 4;go_wp2_with fail;obtain ⟨Mf,mf,Rf⟩:=yae M5.o R5.o (Nat.le_succ _) (r.op) (r.own) (r.e) (r.v.ref) (r.v.z.1) (r.v.z.2);generalize ((((((w5).setCell ⟨g.w.heap.size+1,0,none⟩ (zI z6 (r.op))).setCell ⟨g.w.heap.size+1,1,none⟩ (zI z6 (r.own))).setCell ⟨g.w.heap.size+1,2,none⟩ (zI z6 (r.e))).setCell ⟨g.w.heap.size+1,3,none⟩ (zb (r.v.ref))).setCell ⟨g.w.heap.size+1,4,none⟩ (zc z4 (r.v.z.1) (r.v.z.2)))=wf at *
     obtain ⟨f0,f1,f2,f3,f4,fl⟩:=Rf.k5;refine bodyPost_ret (v:=.tuple #[.agg #[zI z6 (r.op),zI z6 (r.own),zI z6 (r.e),zb (r.v.ref),zc z4 (r.v.z.1) (r.v.z.2)],zb true]) (by simp [results,Tryz.results76,go_sem,f0,f1,f2,f3,f4]) rfl ?_;exact Does.of ⟨own5,wf⟩ rfl (by rw [HD.o, ←HRr.o];rfl) Mf (by rw [HD.o];exact (H5.o.keep mf zo z9 z9).at_)
 · cases rf
   · go_upto_region 10 with fail
     refine yab [zT,zT,zT,zT,zT,zT,zT,zT,zT,zT,zT,zT,zT,zT,zT] 0 15 ?_;intro X00;simp only [pickOps];repeat (go_big_quiet_step (fail))
     refine wpQuiet_nil (fun X0=>?_);clear X00;refine yaa zQ (fun X0'=>?_) _;(try go_simp);obtain ⟨own4,m4⟩: ∃ownZ,Mod (fun _=>False) (⟨own3,w3⟩:GW) ⟨ownZ,w3.patch ⟨X0.blocks++X0'.blocks,X0'.drawn⟩⟩:=⟨_,Mod.pt (g:=⟨own3,w3⟩) (Mod.refl _ _) _⟩;have M4:=zH (M3.o.trans (m4.mono (S:=acT t B) zG));have H4:=zH (show AcIn ⟨own4,_⟩ t B b k ((W.memW m').withA { W.a with at_:=2,f:=some F',addr:=ad,ref:=false }) p bm bs bt bp bsp bh cm from H3.o.keep0 m4);have Q4:=zH (Q3.o.keep m4 id);have R4:=zH (R3.o.keep m4 id);generalize w3.patch ⟨X0.blocks++X0'.blocks,X0'.drawn⟩=w4 at *;clear m4 M3 H3 Q3 R3 k0' a0 a1 a2' a3 a4 a5 a6 a7 a8 a9 a10 a11 a12 a13 a14' a15 a16 a17 a18 al hq;clear x0 x1 x2 x3 x4 x5 xl;have HD:=zH (show R=((W.memW m').withA { W.a with at_:=2,f:=some F',addr:=ad,ref:=false }).fails 4 by rw [HD3.o];rfl);clear HD3;obtain ⟨r,hr⟩: ∃r,((W.memW m').withA { W.a with at_:=2,f:=some F',addr:=ad,ref:=false }).a.res LVal.zero 4=r:=⟨_,rfl⟩;have HRr:=zH hr
     have HFL:=zH (show Calls prog 85 #[zp (some ⟨b,0,none⟩),zI z6 4] w4 (Does (.tuple #[.agg #[zI z6 r.op,zI z6 r.own,zI z6 r.e,zb r.v.ref,zc z4 r.v.z.1 r.v.z.2],zb true]) ⟨own4,w4⟩ (acO t) (fun g'=>AcAt g' t b _ p)) from ya6 ⟨own4,w4⟩ t b _ p 4 r hPt H4.o.a HNX.o hr);clear hr;go_wp2_with fail;refine HFL.o.mono ?_;rintro e w5 ⟨rfl,own5,m5,h5⟩;have M5:=zH (M4.o.trans (m5.mono (S:=acT t B) (fun x hx=>yay hx)));have H5:=zH (H4.o.own HP.o m5 h5);have R5:=zH (R4.o.keep m5 (fun h=>by unfold acO at h;omega));clear M4 H4 R4 m5 h5 HFL;obtain ⟨r0,r1,r2,r3,r4,rl⟩:=R5.o.k5;have rf0:=R5.o.liv 0;have rf1:=R5.o.liv 1;have rf2:=R5.o.liv 2;have rf3:=R5.o.liv 3;have rf4:=R5.o.liv 4;go_wp2_with fail;obtain ⟨Mf,mf,Rf⟩:=yae M5.o R5.o (Nat.le_succ _) (r.op) (r.own) (r.e) (r.v.ref) (r.v.z.1) (r.v.z.2);generalize ((((((w5).setCell ⟨g.w.heap.size+1,0,none⟩ (zI z6 (r.op))).setCell ⟨g.w.heap.size+1,1,none⟩ (zI z6 (r.own))).setCell ⟨g.w.heap.size+1,2,none⟩ (zI z6 (r.e))).setCell ⟨g.w.heap.size+1,3,none⟩ (zb (r.v.ref))).setCell ⟨g.w.heap.size+1,4,none⟩ (zc z4 (r.v.z.1) (r.v.z.2)))=wf at *
     obtain ⟨f0,f1,f2,f3,f4,fl⟩:=Rf.k5;refine bodyPost_ret (v:=.tuple #[.agg #[zI z6 (r.op),zI z6 (r.own),zI z6 (r.e),zb (r.v.ref),zc z4 (r.v.z.1) (r.v.z.2)],zb true]) (by simp [results,Tryz.results76,go_sem,f0,f1,f2,f3,f4]) rfl ?_;exact Does.of ⟨own5,wf⟩ rfl (by rw [HD.o, ←HRr.o];rfl) Mf (by rw [HD.o];exact (H5.o.keep mf zo z9 z9).at_)
   · go_upto_region 10 with fail
     refine yab [zT,zT,zT,zT,zT,zT,zT,zT,zT,zT,zT,zT,zT,zT,zT] 0 15 ?_;intro X00;simp only [pickOps];repeat (go_big_quiet_step (fail))
     refine wpQuiet_nil (fun X0=>?_);clear X00;refine yaa zQ (fun X0'=>?_) _;(try go_simp);obtain ⟨own4,m4⟩: ∃ownZ,Mod (fun _=>False) (⟨own3,w3⟩:GW) ⟨ownZ,w3.patch ⟨X0.blocks++X0'.blocks,X0'.drawn⟩⟩:=⟨_,Mod.pt (g:=⟨own3,w3⟩) (Mod.refl _ _) _⟩;have M4:=zH (M3.o.trans (m4.mono (S:=acT t B) zG));have H4:=zH (show AcIn ⟨own4,_⟩ t B b k ((W.memW m').withA { W.a with at_:=2,f:=some F',addr:=ad,ref:=true }) p bm bs bt bp bsp bh cm from H3.o.keep0 m4);have Q4:=zH (Q3.o.keep m4 id);have R4:=zH (R3.o.keep m4 id);generalize w3.patch ⟨X0.blocks++X0'.blocks,X0'.drawn⟩=w4 at *;clear m4 M3 H3 Q3 R3 k0' a0 a1 a2' a3 a4 a5 a6 a7 a8 a9 a10 a11 a12 a13 a14' a15 a16 a17 a18 al hq;clear x0 x1 x2 x3 x4 x5 xl;have HD:=zH (show R=((W.memW m').withA (AcS.chooses { W.a with at_:=2,f:=some F',addr:=ad,ref:=true } ⟨ok,oa,lk,oc,on,x,y⟩)).no by rw [HD3.o];rfl);have HC:=zH (show Calls prog 140 #[zp (some ⟨b,0,none⟩),.agg #[zI z6 ok,zI z6 oa,zI z6 lk,zI z6 oc,zI z6 on,zc z4 x y]] w4 (Does (.tuple #[]) ⟨own4,w4⟩ (acO t) (fun g'=>AcAt g' t b _ p)) from yb1 (g:=⟨own4,w4⟩) hPt H4.o.a ok oa lk oc on x y hob);clear HD3
     obtain ⟨x0,x1,x2,x3,x4,x5,xl⟩:=Q4.o.k6;rw [HLK.o] at x2;go_wp2_with fail;refine HC.o.mono ?_;rintro e w5 ⟨rfl,own5,m5,h5⟩;have M5:=zH (M4.o.trans (m5.mono (S:=acT t B) (fun x hx=>yay hx)));have H5:=zH (H4.o.own HP.o m5 h5);have R5:=zH (R4.o.keep m5 (fun h=>by unfold acO at h;omega));clear M4 H4 R4 m5 h5 HC;clear x0 x1 x2 x3 x4 x5 xl;obtain ⟨r0,r1,r2,r3,r4,rl⟩:=R5.o.k5;have rf0:=R5.o.liv 0;have rf1:=R5.o.liv 1;have rf2:=R5.o.liv 2;have rf3:=R5.o.liv 3;have rf4:=R5.o.liv 4;go_wp2_with fail;obtain ⟨Mf,mf,Rf⟩:=yae M5.o R5.o (Nat.le_succ _) (0) (0) (0) (false) (0) (0);generalize ((((((w5).setCell ⟨g.w.heap.size+1,0,none⟩ (zI z6 (0))).setCell ⟨g.w.heap.size+1,1,none⟩ (zI z6 (0))).setCell ⟨g.w.heap.size+1,2,none⟩ (zI z6 (0))).setCell ⟨g.w.heap.size+1,3,none⟩ (zb (false))).setCell ⟨g.w.heap.size+1,4,none⟩ (zc z4 (0) (0)))=wf at *;obtain ⟨f0,f1,f2,f3,f4,fl⟩:=Rf.k5;refine bodyPost_ret (v:=.tuple #[.agg #[zI z6 (0),zI z6 (0),zI z6 (0),zb (false),zc z4 (0) (0)],zb false]) (by simp [results,Tryz.results76,go_sem,f0,f1,f2,f3,f4]) rfl ?_
     exact Does.of ⟨own5,wf⟩ rfl (by rw [HD.o];rfl) Mf (by rw [HD.o];exact (H5.o.keep mf zo z9 z9).at_)
end
end Go.Proofs.YtdhjjpnajjingaaGreat
namespace Go
section
variable {P:Program} {a:Act} {w:World} {Q:Exit→Act→World→Prop}
theorem yeq {c r0 r1:Code} (l0 l1:Nat) (h0:findLabel c l0=some r0) (h1:findLabel c l1=some r1) (first:c.wp P (Exit.via P Q [(l0,r0),(l1,r1)]) a w):(Code.scope c).wp P Q a w:=
 ybf [(l0,r0),(l1,r1)] (by
  intro p hp;simp only [List.mem_cons,List.not_mem_nil,or_false] at hp;rcases hp with rfl|rfl
  · exact h0
  · exact h1) first
end
end Go
namespace Go.Proofs.YtdhjjpnajjingaaGreat
open Go Go.RowKit
section
variable {g:GW} {t b B k:Nat} {W:AcW} {p:AcP} {bm bs bt bp bsp bh:Nat} {cm:Cnf}
theorem ydz [TbId] (P:AcApart t B) (hmc:0≤W.K.mem.count∧W.K.mem.count≤1099511627776) (hnx:0≤W.a.next∧W.a.next≤1099511627776) (h4:W.a.at_=6) (hin:inB W.a.addr W.K.mem.l.length=true) (H:AcIn g t B b k W p bm bs bt bp bsp bh cm):
 Calls prog 82 #[zp (some ⟨b,0,none⟩),zp (some ⟨k,0,none⟩)] g.w (Does (resV W.storesWrite.1) g (acT t B) (fun g'=>AcWAt g' t B b k W.storesWrite.2)):=by
 obtain ⟨z1,hz1⟩: ∃z,W.a.w.1=z:=⟨_,rfl⟩;obtain ⟨z2,hz2⟩: ∃z,W.a.w.2=z:=⟨_,rfl⟩;have hz:W.a.w=(z1,z2):=by rw [←hz1, ←hz2]
 have HD:=zH (show W.storesWrite=(W.memW (W.K.mem.tick.lay W.a.addr (z1,z2))).doneR LVal.zero 0 by unfold AcW.storesWrite;rw [hz]);have HH:=zH H;have HP:=zH P;have hPt:=P.ht;have hPb:=P.hb;go_enter func82,ntmps82;go_wp2_with fail;refine yeq 2 4 rfl rfl ?_;go_upto_region 1 with fail
 obtain ⟨own0,M0,R0⟩:=yam g 40 resZ;unfold resZ at M0 R0;generalize (g.w.alloc (.cells #[zI z6 0,zI z6 0,zI z6 0,zb false,zc z4 0 0] 40))=w0 at *;have M0':=zH M0;have R0':=zH R0;clear M0 R0;have H0:=zH (HH.o.keep0 M0'.o);have HK:=zH (fun X=>yeN ((⟨own0,w0⟩:GW).pt X) (B+62) bm W.a.addr z1 z2 W.K.mem (H0.o.pt X).c.mem hmc);rw [hin] at HK;simp only [if_true] at HK;obtain ⟨a0,a1,a2,a3,a4,a5,a6,a7,a8,a9,a10,a11,a12,a13,a14,a15,a16,a17,a18,al⟩:=H0.o.a.blk.k19;obtain ⟨c0,c1,c2,c3,c4,c5,c6,c7,c8,c9,c10,c11,c12,cl⟩:=H0.o.c.blk.k13;rw [h4] at a11;rw [hz1,hz2] at a16;clear H hin hmc hz hz1 hz2 h4;go_wp2_with fail;go_step3
 refine yaX ?_;go_wp2_with fail;refine yab [zT,zT,zT,zT,zT,zT,zT,zT,zT,zT,zT,zT,zT,zT,zU,zU] 2 14 ?_;intro X00;simp only [pickOps];repeat (go_big_quiet_step (fail))
 refine wpQuiet_nil (fun X0=>?_);clear X00;refine yaf rfl zQ (fun X2=>?_);simp only [List.drop_succ_cons,List.drop_zero];go_wp2_with fail;refine (HK.o _).mono ?_;rintro e w1 ⟨rfl,own1,m1,h1⟩;have P1:=(Mod.pt (Mod.refl _ _) _).trans m1;have M1:=zH ((M0'.o.mono (S:=acT t B) zG).trans (P1.mono (S:=acT t B) (fun x hx=>yd2 hx)));have H1:=zH (H0.o.mem HP.o P1 h1);have R1:=zH (R0'.o.keep P1 zo);clear P1 m1 h1 HK H0 M0' R0';clear a0 a1 a2 a3 a4 a5 a6 a7 a8 a9 a10 a11 a12 a13 a14 a15 a16 a17 a18 al;clear c0 c1 c2 c3 c4 c5 c6 c7 c8 c9 c10 c11 c12 cl;obtain ⟨r,hr⟩: ∃r,(W.memW (W.K.mem.tick.lay W.a.addr (z1,z2))).a.res LVal.zero 0=r:=⟨_,rfl⟩;have HRr:=zH hr;have HDN:=zH (show Calls prog 81 #[zp (some ⟨b,0,none⟩),.agg #[zb false,zc z4 0 0],zI z6 0] w1 (Does (.tuple #[.agg #[zI z6 r.op,zI z6 r.own,zI z6 r.e,zb r.v.ref,zc z4 r.v.z.1 r.v.z.2],zb true]) ⟨own1,w1⟩ (acO t) (fun g'=>AcAt g' t b _ p)) from ybT ⟨own1,w1⟩ t b _ p LVal.zero 0 r hPt H1.o.a hnx hr);clear hr;go_wp2_with fail;refine HDN.o.mono ?_;rintro e w2 ⟨rfl,own2,m2,h2⟩;have M2:=zH (M1.o.trans (m2.mono (S:=acT t B) (fun x hx=>yay hx)))
 have H2:=zH (H1.o.own HP.o m2 h2);have R2:=zH (R1.o.keep m2 (fun h=>by unfold acO at h;omega));clear M1 H1 R1 m2 h2 HDN;obtain ⟨r0,r1,r2,r3,r4,rl⟩:=R2.o.k5;have rf0:=R2.o.liv 0;have rf1:=R2.o.liv 1;have rf2:=R2.o.liv 2;have rf3:=R2.o.liv 3;have rf4:=R2.o.liv 4;go_wp2_with fail;rw [Exit.via_ret];obtain ⟨Mf,mf,Rf⟩:=yae M2.o R2.o (Nat.le_refl _) (r.op) (r.own) (r.e) (r.v.ref) (r.v.z.1) (r.v.z.2);generalize ((((((w2).setCell ⟨g.w.heap.size,0,none⟩ (zI z6 (r.op))).setCell ⟨g.w.heap.size,1,none⟩ (zI z6 (r.own))).setCell ⟨g.w.heap.size,2,none⟩ (zI z6 (r.e))).setCell ⟨g.w.heap.size,3,none⟩ (zb (r.v.ref))).setCell ⟨g.w.heap.size,4,none⟩ (zc z4 (r.v.z.1) (r.v.z.2)))=wf at *;obtain ⟨f0,f1,f2,f3,f4,fl⟩:=Rf.k5;refine bodyPost_ret (v:=.tuple #[.agg #[zI z6 (r.op),zI z6 (r.own),zI z6 (r.e),zb (r.v.ref),zc z4 (r.v.z.1) (r.v.z.2)],zb true]) (by simp [results,Tryz.results82,go_sem,f0,f1,f2,f3,f4]) rfl ?_;exact Does.of ⟨own2,wf⟩ rfl (by rw [HD.o, ←HRr.o];rfl) Mf (by rw [HD.o];exact (H2.o.keep mf zo z9 z9).at_)
end
end Go.Proofs.YtdhjjpnajjingaaGreat
namespace Go.Proofs.YtdhjjpnajjingaaGreat
open Go Go.RowKit
theorem yac {a b:World} (h:Ext a b) {k o:Nat} (hk:k<a.heap.size):b.cell? ⟨k,o,none⟩=a.cell? ⟨k,o,none⟩:=by
 obtain ⟨X,rfl⟩:=h;exact World.cell?_patch _ _ _ _ hk
theorem yal (w:World) s (p:Nat):(w.iter s p).heap.size=w.heap.size+1:=by
 unfold World.iter;simp
theorem ylS (w:World):Calls prog 193 #[zI z6 1] w (Gives (.tuple #[.string ⟨#[110,101,119]⟩,.string ⟨#[97,107]⟩]) w):=by
 go_enter func193,ntmps193;go_wp2
 go_quiet (fail)
 go_wp2
 go_ret2;exact Gives.mk rfl zF
theorem yeO (c:Cnf) (a b d n:Int) (x y:Nat) (w:World) (hc:c.Ok w) (h0:c.check=0) (ha:0≤a∧a<c.locals) (refs:List Bool) (hS:c.shapeAt b=some (false,refs)) (sz sp:Int) (hz:Shp.size ⟨false,none,0,refs⟩ 0=sz) (hp:Shp.spine ⟨false,none,0,refs⟩ n=sp) (hz0:0≤sz) (hz1:sz≤c.frags) (hp1:sp≤c.spine):
 Calls prog 133 #[c.val,.agg #[zI z6 1,zI z6 a,zI z6 b,zI z6 d,zI z6 n,zc z4 x y]] w (Gives (zI z6 0) w):=by
 have HC:=zH (fun w' (he:Ext w w')=>yaw c w' (hc.ext he));have H0:=zH h0;have HS:=zH (fun w' (he:Ext w w')=>yaA c b w' (hc.ext he));have HQ:=zH hS;have HZ:=zH hz;have HP:=zH hp;clear hS hz hp;obtain ⟨ha0,ha1⟩:=ha;clear h0 hc;unfold Cnf.val at HC HS ⊢;go_enter func133,ntmps133;go_wp2_with fail;refine (ylS _).mono ?_;rintro e w1 ⟨rfl,X1,rfl⟩;go_wp2_with fail;refine (HC.o _ zF).mono ?_;rw [H0.o];rintro e w1 ⟨rfl,X2,rfl⟩;obtain ⟨w2,hW⟩: ∃w2,(((w.alloc (.cells #[zI z6 c.frags,zI z6 c.spine,zI z6 c.globals,zI z6 c.threads,zI z6 c.locals,zI z6 c.cache,zI z6 c.stack,zI z6 c.low,.slice c.A c.shapes.length c.cap] 34)).alloc (.cells #[zI z6 1,zI z6 a,zI z6 b,zI z6 d,zI z6 n,zc z4 x y] 26)).patch X1).patch X2=w2:=⟨_,rfl⟩;rw [hW];have g0:w2.cell? ⟨w.heap.size,0,none⟩=some (zI z6 c.frags):=by rw [←hW];clear hW;go_simp
 have g1:w2.cell? ⟨w.heap.size,1,none⟩=some (zI z6 c.spine):=by rw [←hW];clear hW;go_simp
 have g2:w2.cell? ⟨w.heap.size,2,none⟩=some (zI z6 c.globals):=by rw [←hW];clear hW;go_simp
 have g3:w2.cell? ⟨w.heap.size,3,none⟩=some (zI z6 c.threads):=by rw [←hW];clear hW;go_simp
 have g4:w2.cell? ⟨w.heap.size,4,none⟩=some (zI z6 c.locals):=by rw [←hW];clear hW;go_simp
 have g5:w2.cell? ⟨w.heap.size,5,none⟩=some (zI z6 c.cache):=by rw [←hW];clear hW;go_simp
 have g6:w2.cell? ⟨w.heap.size,6,none⟩=some (zI z6 c.stack):=by rw [←hW];clear hW;go_simp
 have g7:w2.cell? ⟨w.heap.size,7,none⟩=some (zI z6 c.low):=by rw [←hW];clear hW;go_simp
 have g8:w2.cell? ⟨w.heap.size,8,none⟩=some (.slice c.A c.shapes.length c.cap):=by rw [←hW];clear hW;go_simp
 have k0:w2.cell? ⟨w.heap.size+1,0,none⟩=some (zI z6 1):=by rw [←hW];clear hW;go_simp
 have k1:w2.cell? ⟨w.heap.size+1,1,none⟩=some (zI z6 a):=by rw [←hW];clear hW;go_simp
 have k2:w2.cell? ⟨w.heap.size+1,2,none⟩=some (zI z6 b):=by rw [←hW];clear hW;go_simp
 have k3:w2.cell? ⟨w.heap.size+1,3,none⟩=some (zI z6 d):=by rw [←hW];clear hW;go_simp
 have k4:w2.cell? ⟨w.heap.size+1,4,none⟩=some (zI z6 n):=by rw [←hW];clear hW;go_simp
 have k5:w2.cell? ⟨w.heap.size+1,5,none⟩=some (zc z4 x y):=by rw [←hW];clear hW;go_simp
 have hs1:w.heap.size+1<w2.heap.size:=by rw [←hW];clear hW;go_simp
 have hs0:w.heap.size<w2.heap.size:=zo;have HEw:=zH (show Ext w w2 by rw [←hW];clear hW;exact zF);clear hW;have q0: ∀ty,(Instr.next (zp (some ⟨w2.heap.size,0,none⟩)) true ty).run prog (w2.iter ⟨#[97,107]⟩ 0)=.ok (.tuple #[zb true,zI z6 0,.int .i32 97]) (w2.iter ⟨#[97,107]⟩ 1):=fun ty=>run_next_ascii (P:=prog) w2 ⟨#[97,107]⟩ 0 ty zd zd;have q1: ∀ty,(Instr.next (zp (some ⟨w2.heap.size,0,none⟩)) true ty).run prog (w2.iter ⟨#[97,107]⟩ 1)=.ok (.tuple #[zb true,zI z6 1,.int .i32 107]) (w2.iter ⟨#[97,107]⟩ 2):=fun ty=>run_next_ascii (P:=prog) w2 ⟨#[97,107]⟩ 1 ty zd zd;have q2:=fun ty=>run_next_end (P:=prog) w2 ⟨#[97,107]⟩ 2 ty zd;have ig0: ∀pos,(w2.iter ⟨#[97,107]⟩ pos).cell? ⟨w.heap.size,0,none⟩=some (zI z6 c.frags):=fun pos=>by unfold World.iter;exact (World.cell?_alloc_lt _ _ _ (show _<w2.heap.size by first|exact hs1|exact hs0)).trans g0
 have ig1: ∀pos,(w2.iter ⟨#[97,107]⟩ pos).cell? ⟨w.heap.size,1,none⟩=some (zI z6 c.spine):=fun pos=>by unfold World.iter;exact (World.cell?_alloc_lt _ _ _ (show _<w2.heap.size by first|exact hs1|exact hs0)).trans g1
 have ig2: ∀pos,(w2.iter ⟨#[97,107]⟩ pos).cell? ⟨w.heap.size,2,none⟩=some (zI z6 c.globals):=fun pos=>by unfold World.iter;exact (World.cell?_alloc_lt _ _ _ (show _<w2.heap.size by first|exact hs1|exact hs0)).trans g2
 have ig3: ∀pos,(w2.iter ⟨#[97,107]⟩ pos).cell? ⟨w.heap.size,3,none⟩=some (zI z6 c.threads):=fun pos=>by unfold World.iter;exact (World.cell?_alloc_lt _ _ _ (show _<w2.heap.size by first|exact hs1|exact hs0)).trans g3
 have ig4: ∀pos,(w2.iter ⟨#[97,107]⟩ pos).cell? ⟨w.heap.size,4,none⟩=some (zI z6 c.locals):=fun pos=>by unfold World.iter;exact (World.cell?_alloc_lt _ _ _ (show _<w2.heap.size by first|exact hs1|exact hs0)).trans g4
 have ig5: ∀pos,(w2.iter ⟨#[97,107]⟩ pos).cell? ⟨w.heap.size,5,none⟩=some (zI z6 c.cache):=fun pos=>by unfold World.iter;exact (World.cell?_alloc_lt _ _ _ (show _<w2.heap.size by first|exact hs1|exact hs0)).trans g5
 have ig6: ∀pos,(w2.iter ⟨#[97,107]⟩ pos).cell? ⟨w.heap.size,6,none⟩=some (zI z6 c.stack):=fun pos=>by unfold World.iter;exact (World.cell?_alloc_lt _ _ _ (show _<w2.heap.size by first|exact hs1|exact hs0)).trans g6
 have ig7: ∀pos,(w2.iter ⟨#[97,107]⟩ pos).cell? ⟨w.heap.size,7,none⟩=some (zI z6 c.low):=fun pos=>by unfold World.iter;exact (World.cell?_alloc_lt _ _ _ (show _<w2.heap.size by first|exact hs1|exact hs0)).trans g7
 have ig8: ∀pos,(w2.iter ⟨#[97,107]⟩ pos).cell? ⟨w.heap.size,8,none⟩=some (.slice c.A c.shapes.length c.cap):=fun pos=>by unfold World.iter;exact (World.cell?_alloc_lt _ _ _ (show _<w2.heap.size by first|exact hs1|exact hs0)).trans g8
 have ik0: ∀pos,(w2.iter ⟨#[97,107]⟩ pos).cell? ⟨w.heap.size+1,0,none⟩=some (zI z6 1):=fun pos=>by unfold World.iter;exact (World.cell?_alloc_lt _ _ _ (show _<w2.heap.size by first|exact hs1|exact hs0)).trans k0
 have ik1: ∀pos,(w2.iter ⟨#[97,107]⟩ pos).cell? ⟨w.heap.size+1,1,none⟩=some (zI z6 a):=fun pos=>by unfold World.iter;exact (World.cell?_alloc_lt _ _ _ (show _<w2.heap.size by first|exact hs1|exact hs0)).trans k1
 have ik2: ∀pos,(w2.iter ⟨#[97,107]⟩ pos).cell? ⟨w.heap.size+1,2,none⟩=some (zI z6 b):=fun pos=>by unfold World.iter;exact (World.cell?_alloc_lt _ _ _ (show _<w2.heap.size by first|exact hs1|exact hs0)).trans k2
 have ik3: ∀pos,(w2.iter ⟨#[97,107]⟩ pos).cell? ⟨w.heap.size+1,3,none⟩=some (zI z6 d):=fun pos=>by unfold World.iter;exact (World.cell?_alloc_lt _ _ _ (show _<w2.heap.size by first|exact hs1|exact hs0)).trans k3
 have ik4: ∀pos,(w2.iter ⟨#[97,107]⟩ pos).cell? ⟨w.heap.size+1,4,none⟩=some (zI z6 n):=fun pos=>by unfold World.iter;exact (World.cell?_alloc_lt _ _ _ (show _<w2.heap.size by first|exact hs1|exact hs0)).trans k4
 have ik5: ∀pos,(w2.iter ⟨#[97,107]⟩ pos).cell? ⟨w.heap.size+1,5,none⟩=some (zc z4 x y):=fun pos=>by unfold World.iter;exact (World.cell?_alloc_lt _ _ _ (show _<w2.heap.size by first|exact hs1|exact hs0)).trans k5
 go_wp2_with fail;refine wp_loop_rounds 3 ?_;rw [rounds_succ];go_wp2
 rw [rounds_succ];go_wp2
 rw [rounds_succ];go_wp2_with fail;refine (HS.o _ (by unfold World.iter;exact HEw.o.alloc _)).mono ?_;rintro e w4 ⟨s',rfl,heq,hfr,hok,hE⟩;have HE4:=zH hE;rw [HQ.o,Option.getD_some] at heq;obtain ⟨arr',A',cap',refs'⟩:=s';simp only [Prod.mk.injEq] at heq;obtain ⟨rfl,rfl⟩:=heq;have mg0:w4.cell? ⟨w.heap.size,0,none⟩=some (zI z6 c.frags):=(yac HE4.o (by rw [yal];omega)).trans (ig0 _);have mg1:w4.cell? ⟨w.heap.size,1,none⟩=some (zI z6 c.spine):=(yac HE4.o (by rw [yal];omega)).trans (ig1 _);have mk0:w4.cell? ⟨w.heap.size+1,0,none⟩=some (zI z6 1):=(yac HE4.o (by rw [yal];omega)).trans (ik0 _);have mk1:w4.cell? ⟨w.heap.size+1,1,none⟩=some (zI z6 a):=(yac HE4.o (by rw [yal];omega)).trans (ik1 _);have mk2:w4.cell? ⟨w.heap.size+1,2,none⟩=some (zI z6 b):=(yac HE4.o (by rw [yal];omega)).trans (ik2 _);have mk3:w4.cell? ⟨w.heap.size+1,3,none⟩=some (zI z6 d):=(yac HE4.o (by rw [yal];omega)).trans (ik3 _);have mk4:w4.cell? ⟨w.heap.size+1,4,none⟩=some (zI z6 n):=(yac HE4.o (by rw [yal];omega)).trans (ik4 _)
 have mk5:w4.cell? ⟨w.heap.size+1,5,none⟩=some (zc z4 x y):=(yac HE4.o (by rw [yal];omega)).trans (ik5 _);have hm1:w.heap.size+1<w4.heap.size:=Nat.lt_of_lt_of_le (by rw [yal];omega) HE4.o.size;have hm0:w.heap.size<w4.heap.size:=zo;have HEE4:=zH (show Ext w w4 from (show Ext w _ by unfold World.iter;exact HEw.o.alloc _).trans HE4.o);clear hE hfr;have HF1:=zH (fun w' (he:Ext w4 w')=>yfX _ a b d n x y w' (hok.ext he));have HF2:=zH (fun w' (he:Ext w4 w')=>ybe _ n w' (hok.ext he));clear hok;rw [show Shp.size ⟨false,A',cap',refs'⟩ 0=sz from HZ.o] at HF1;rw [show Shp.spine ⟨false,A',cap',refs'⟩ n=sp from HP.o] at HF2;rw [HQ.o];unfold Shp.val at HF1 HF2 ⊢;have hd1:decide (c.frags<sz)=false:=decide_eq_false zo;have hd2:decide (c.spine<sp)=false:=decide_eq_false zo;have hd3:decide (sz<0)=false:=decide_eq_false zo;go_wp2_with (go_at_call 196;refine (HF1.o _ zF).mono ?_;rintro e w5 ⟨rfl,X5,rfl⟩);obtain ⟨w6,hW6⟩: ∃w6,((w4.alloc (.cells #[zb false,.slice A' refs'.length cap'] 94)).patch X5)=w6:=⟨_,rfl⟩;rw [hW6];have HE6:=zH (show Ext w4 w6 by rw [←hW6];clear hW6;exact zF)
 have ng0:w6.cell? ⟨w.heap.size,0,none⟩=some (zI z6 c.frags):=(yac HE6.o (by first|exact hm0|exact hm1)).trans mg0;have ng1:w6.cell? ⟨w.heap.size,1,none⟩=some (zI z6 c.spine):=(yac HE6.o (by first|exact hm0|exact hm1)).trans mg1;have nk0:w6.cell? ⟨w.heap.size+1,0,none⟩=some (zI z6 1):=(yac HE6.o (by first|exact hm0|exact hm1)).trans mk0;have nk1:w6.cell? ⟨w.heap.size+1,1,none⟩=some (zI z6 a):=(yac HE6.o (by first|exact hm0|exact hm1)).trans mk1;have nk2:w6.cell? ⟨w.heap.size+1,2,none⟩=some (zI z6 b):=(yac HE6.o (by first|exact hm0|exact hm1)).trans mk2;have nk3:w6.cell? ⟨w.heap.size+1,3,none⟩=some (zI z6 d):=(yac HE6.o (by first|exact hm0|exact hm1)).trans mk3;have nk4:w6.cell? ⟨w.heap.size+1,4,none⟩=some (zI z6 n):=(yac HE6.o (by first|exact hm0|exact hm1)).trans mk4;have nk5:w6.cell? ⟨w.heap.size+1,5,none⟩=some (zc z4 x y):=(yac HE6.o (by first|exact hm0|exact hm1)).trans mk5;have ns0:w6.cell? ⟨w4.heap.size,0,none⟩=some (zb false):=by rw [←hW6];clear hW6;go_simp
 have ns1:w6.cell? ⟨w4.heap.size,1,none⟩=some (.slice A' refs'.length cap'):=by rw [←hW6];clear hW6;go_simp
 have hn2:w4.heap.size<w6.heap.size:=by rw [←hW6];clear hW6;go_simp
 have hn1:w.heap.size+1<w6.heap.size:=zo;have hn0:w.heap.size<w6.heap.size:=zo;have HEE:=zH (show Ext w w6 from HEE4.o.trans HE6.o);clear hW6;refine yab [zT,zT,zT,zT,zT,zT,zT,zT,zT,zT,zT,zT,zT,zT,zT,zT] 0 16 ?_;intro X00;simp only [pickOps];repeat (go_big_quiet_step (first|(go_at_call 196;exact Calls.added (HF1.o _ (HE6.o.patch _)))|(go_at_call 197;exact Calls.added (HF2.o _ (HE6.o.patch _)))))
 refine wpQuiet_nil (fun X0=>?_);clear X00;refine yaa zQ (fun X0'=>?_) _;go_wp2_with fail;go_ret;exact Gives.mk rfl (HEE.o.trans zF)
theorem ylT (w:World):Calls prog 193 #[zI z6 2] w (Gives (.tuple #[.string ⟨#[97,114,114,97,121]⟩,.string ⟨#[97,107,110]⟩]) w):=by
 go_enter func193,ntmps193;go_wp2
 go_quiet (fail)
 go_wp2
 go_ret2;exact Gives.mk rfl zF
theorem yeP (c:Cnf) (a b d n:Int) (x y:Nat) (w:World) (hc:c.Ok w) (h0:c.check=0) (ha:0≤a∧a<c.locals) (refs:List Bool) (hS:c.shapeAt b=some (true,refs)) (sz sp:Int) (hz:Shp.size ⟨true,none,0,refs⟩ n=sz) (hp:Shp.spine ⟨true,none,0,refs⟩ n=sp) (hz0:0≤sz) (hz1:sz≤c.frags) (hp1:sp≤c.spine):
 Calls prog 133 #[c.val,.agg #[zI z6 2,zI z6 a,zI z6 b,zI z6 d,zI z6 n,zc z4 x y]] w (Gives (zI z6 0) w):=by
 have HC:=zH (fun w' (he:Ext w w')=>yaw c w' (hc.ext he));have H0:=zH h0;have HS:=zH (fun w' (he:Ext w w')=>yaA c b w' (hc.ext he));have HQ:=zH hS;have HZ:=zH hz;have HP:=zH hp;clear hS hz hp;obtain ⟨ha0,ha1⟩:=ha;clear h0 hc;unfold Cnf.val at HC HS ⊢;go_enter func133,ntmps133;go_wp2_with fail;refine (ylT _).mono ?_;rintro e w1 ⟨rfl,X1,rfl⟩;go_wp2_with fail;refine (HC.o _ zF).mono ?_;rw [H0.o];rintro e w1 ⟨rfl,X2,rfl⟩;obtain ⟨w2,hW⟩: ∃w2,(((w.alloc (.cells #[zI z6 c.frags,zI z6 c.spine,zI z6 c.globals,zI z6 c.threads,zI z6 c.locals,zI z6 c.cache,zI z6 c.stack,zI z6 c.low,.slice c.A c.shapes.length c.cap] 34)).alloc (.cells #[zI z6 2,zI z6 a,zI z6 b,zI z6 d,zI z6 n,zc z4 x y] 26)).patch X1).patch X2=w2:=⟨_,rfl⟩;rw [hW];have g0:w2.cell? ⟨w.heap.size,0,none⟩=some (zI z6 c.frags):=by rw [←hW];clear hW;go_simp
 have g1:w2.cell? ⟨w.heap.size,1,none⟩=some (zI z6 c.spine):=by rw [←hW];clear hW;go_simp
 have g2:w2.cell? ⟨w.heap.size,2,none⟩=some (zI z6 c.globals):=by rw [←hW];clear hW;go_simp
 have g3:w2.cell? ⟨w.heap.size,3,none⟩=some (zI z6 c.threads):=by rw [←hW];clear hW;go_simp
 have g4:w2.cell? ⟨w.heap.size,4,none⟩=some (zI z6 c.locals):=by rw [←hW];clear hW;go_simp
 have g5:w2.cell? ⟨w.heap.size,5,none⟩=some (zI z6 c.cache):=by rw [←hW];clear hW;go_simp
 have g6:w2.cell? ⟨w.heap.size,6,none⟩=some (zI z6 c.stack):=by rw [←hW];clear hW;go_simp
 have g7:w2.cell? ⟨w.heap.size,7,none⟩=some (zI z6 c.low):=by rw [←hW];clear hW;go_simp
 have g8:w2.cell? ⟨w.heap.size,8,none⟩=some (.slice c.A c.shapes.length c.cap):=by rw [←hW];clear hW;go_simp
 have k0:w2.cell? ⟨w.heap.size+1,0,none⟩=some (zI z6 2):=by rw [←hW];clear hW;go_simp
 have k1:w2.cell? ⟨w.heap.size+1,1,none⟩=some (zI z6 a):=by rw [←hW];clear hW;go_simp
 have k2:w2.cell? ⟨w.heap.size+1,2,none⟩=some (zI z6 b):=by rw [←hW];clear hW;go_simp
 have k3:w2.cell? ⟨w.heap.size+1,3,none⟩=some (zI z6 d):=by rw [←hW];clear hW;go_simp
 have k4:w2.cell? ⟨w.heap.size+1,4,none⟩=some (zI z6 n):=by rw [←hW];clear hW;go_simp
 have k5:w2.cell? ⟨w.heap.size+1,5,none⟩=some (zc z4 x y):=by rw [←hW];clear hW;go_simp
 have hs1:w.heap.size+1<w2.heap.size:=by rw [←hW];clear hW;go_simp
 have hs0:w.heap.size<w2.heap.size:=zo;have HEw:=zH (show Ext w w2 by rw [←hW];clear hW;exact zF);clear hW;have q0: ∀ty,(Instr.next (zp (some ⟨w2.heap.size,0,none⟩)) true ty).run prog (w2.iter ⟨#[97,107,110]⟩ 0)=.ok (.tuple #[zb true,zI z6 0,.int .i32 97]) (w2.iter ⟨#[97,107,110]⟩ 1):=fun ty=>run_next_ascii (P:=prog) w2 ⟨#[97,107,110]⟩ 0 ty zd zd;have q1: ∀ty,(Instr.next (zp (some ⟨w2.heap.size,0,none⟩)) true ty).run prog (w2.iter ⟨#[97,107,110]⟩ 1)=.ok (.tuple #[zb true,zI z6 1,.int .i32 107]) (w2.iter ⟨#[97,107,110]⟩ 2):=fun ty=>run_next_ascii (P:=prog) w2 ⟨#[97,107,110]⟩ 1 ty zd zd;have q2: ∀ty,(Instr.next (zp (some ⟨w2.heap.size,0,none⟩)) true ty).run prog (w2.iter ⟨#[97,107,110]⟩ 2)=.ok (.tuple #[zb true,zI z6 2,.int .i32 110]) (w2.iter ⟨#[97,107,110]⟩ 3):=fun ty=>run_next_ascii (P:=prog) w2 ⟨#[97,107,110]⟩ 2 ty zd zd;have q3:=fun ty=>run_next_end (P:=prog) w2 ⟨#[97,107,110]⟩ 3 ty zd;have ig0: ∀pos,(w2.iter ⟨#[97,107,110]⟩ pos).cell? ⟨w.heap.size,0,none⟩=some (zI z6 c.frags):=fun pos=>by unfold World.iter;exact (World.cell?_alloc_lt _ _ _ (show _<w2.heap.size by first|exact hs1|exact hs0)).trans g0
 have ig1: ∀pos,(w2.iter ⟨#[97,107,110]⟩ pos).cell? ⟨w.heap.size,1,none⟩=some (zI z6 c.spine):=fun pos=>by unfold World.iter;exact (World.cell?_alloc_lt _ _ _ (show _<w2.heap.size by first|exact hs1|exact hs0)).trans g1
 have ig2: ∀pos,(w2.iter ⟨#[97,107,110]⟩ pos).cell? ⟨w.heap.size,2,none⟩=some (zI z6 c.globals):=fun pos=>by unfold World.iter;exact (World.cell?_alloc_lt _ _ _ (show _<w2.heap.size by first|exact hs1|exact hs0)).trans g2
 have ig3: ∀pos,(w2.iter ⟨#[97,107,110]⟩ pos).cell? ⟨w.heap.size,3,none⟩=some (zI z6 c.threads):=fun pos=>by unfold World.iter;exact (World.cell?_alloc_lt _ _ _ (show _<w2.heap.size by first|exact hs1|exact hs0)).trans g3
 have ig4: ∀pos,(w2.iter ⟨#[97,107,110]⟩ pos).cell? ⟨w.heap.size,4,none⟩=some (zI z6 c.locals):=fun pos=>by unfold World.iter;exact (World.cell?_alloc_lt _ _ _ (show _<w2.heap.size by first|exact hs1|exact hs0)).trans g4
 have ig5: ∀pos,(w2.iter ⟨#[97,107,110]⟩ pos).cell? ⟨w.heap.size,5,none⟩=some (zI z6 c.cache):=fun pos=>by unfold World.iter;exact (World.cell?_alloc_lt _ _ _ (show _<w2.heap.size by first|exact hs1|exact hs0)).trans g5
 have ig6: ∀pos,(w2.iter ⟨#[97,107,110]⟩ pos).cell? ⟨w.heap.size,6,none⟩=some (zI z6 c.stack):=fun pos=>by unfold World.iter;exact (World.cell?_alloc_lt _ _ _ (show _<w2.heap.size by first|exact hs1|exact hs0)).trans g6
 have ig7: ∀pos,(w2.iter ⟨#[97,107,110]⟩ pos).cell? ⟨w.heap.size,7,none⟩=some (zI z6 c.low):=fun pos=>by unfold World.iter;exact (World.cell?_alloc_lt _ _ _ (show _<w2.heap.size by first|exact hs1|exact hs0)).trans g7
 have ig8: ∀pos,(w2.iter ⟨#[97,107,110]⟩ pos).cell? ⟨w.heap.size,8,none⟩=some (.slice c.A c.shapes.length c.cap):=fun pos=>by unfold World.iter;exact (World.cell?_alloc_lt _ _ _ (show _<w2.heap.size by first|exact hs1|exact hs0)).trans g8
 have ik0: ∀pos,(w2.iter ⟨#[97,107,110]⟩ pos).cell? ⟨w.heap.size+1,0,none⟩=some (zI z6 2):=fun pos=>by unfold World.iter;exact (World.cell?_alloc_lt _ _ _ (show _<w2.heap.size by first|exact hs1|exact hs0)).trans k0
 have ik1: ∀pos,(w2.iter ⟨#[97,107,110]⟩ pos).cell? ⟨w.heap.size+1,1,none⟩=some (zI z6 a):=fun pos=>by unfold World.iter;exact (World.cell?_alloc_lt _ _ _ (show _<w2.heap.size by first|exact hs1|exact hs0)).trans k1
 have ik2: ∀pos,(w2.iter ⟨#[97,107,110]⟩ pos).cell? ⟨w.heap.size+1,2,none⟩=some (zI z6 b):=fun pos=>by unfold World.iter;exact (World.cell?_alloc_lt _ _ _ (show _<w2.heap.size by first|exact hs1|exact hs0)).trans k2
 have ik3: ∀pos,(w2.iter ⟨#[97,107,110]⟩ pos).cell? ⟨w.heap.size+1,3,none⟩=some (zI z6 d):=fun pos=>by unfold World.iter;exact (World.cell?_alloc_lt _ _ _ (show _<w2.heap.size by first|exact hs1|exact hs0)).trans k3
 have ik4: ∀pos,(w2.iter ⟨#[97,107,110]⟩ pos).cell? ⟨w.heap.size+1,4,none⟩=some (zI z6 n):=fun pos=>by unfold World.iter;exact (World.cell?_alloc_lt _ _ _ (show _<w2.heap.size by first|exact hs1|exact hs0)).trans k4
 have ik5: ∀pos,(w2.iter ⟨#[97,107,110]⟩ pos).cell? ⟨w.heap.size+1,5,none⟩=some (zc z4 x y):=fun pos=>by unfold World.iter;exact (World.cell?_alloc_lt _ _ _ (show _<w2.heap.size by first|exact hs1|exact hs0)).trans k5
 go_wp2_with fail;refine wp_loop_rounds 4 ?_;rw [rounds_succ];go_wp2
 rw [rounds_succ];go_wp2
 rw [rounds_succ];go_wp2
 rw [rounds_succ];go_wp2_with fail;refine (HS.o _ (by unfold World.iter;exact HEw.o.alloc _)).mono ?_;rintro e w4 ⟨s',rfl,heq,hfr,hok,hE⟩;have HE4:=zH hE;rw [HQ.o,Option.getD_some] at heq;obtain ⟨arr',A',cap',refs'⟩:=s';simp only [Prod.mk.injEq] at heq;obtain ⟨rfl,rfl⟩:=heq;have mg0:w4.cell? ⟨w.heap.size,0,none⟩=some (zI z6 c.frags):=(yac HE4.o (by rw [yal];omega)).trans (ig0 _);have mg1:w4.cell? ⟨w.heap.size,1,none⟩=some (zI z6 c.spine):=(yac HE4.o (by rw [yal];omega)).trans (ig1 _);have mk0:w4.cell? ⟨w.heap.size+1,0,none⟩=some (zI z6 2):=(yac HE4.o (by rw [yal];omega)).trans (ik0 _);have mk1:w4.cell? ⟨w.heap.size+1,1,none⟩=some (zI z6 a):=(yac HE4.o (by rw [yal];omega)).trans (ik1 _);have mk2:w4.cell? ⟨w.heap.size+1,2,none⟩=some (zI z6 b):=(yac HE4.o (by rw [yal];omega)).trans (ik2 _);have mk3:w4.cell? ⟨w.heap.size+1,3,none⟩=some (zI z6 d):=(yac HE4.o (by rw [yal];omega)).trans (ik3 _);have mk4:w4.cell? ⟨w.heap.size+1,4,none⟩=some (zI z6 n):=(yac HE4.o (by rw [yal];omega)).trans (ik4 _)
 have mk5:w4.cell? ⟨w.heap.size+1,5,none⟩=some (zc z4 x y):=(yac HE4.o (by rw [yal];omega)).trans (ik5 _);have hm1:w.heap.size+1<w4.heap.size:=Nat.lt_of_lt_of_le (by rw [yal];omega) HE4.o.size;have hm0:w.heap.size<w4.heap.size:=zo;have HEE4:=zH (show Ext w w4 from (show Ext w _ by unfold World.iter;exact HEw.o.alloc _).trans HE4.o);clear hE hfr;have HF1:=zH (fun w' (he:Ext w4 w')=>yfY _ a b d n x y w' (hok.ext he));have HF2:=zH (fun w' (he:Ext w4 w')=>ybe _ n w' (hok.ext he));clear hok;rw [show Shp.size ⟨true,A',cap',refs'⟩ n=sz from HZ.o] at HF1;rw [show Shp.spine ⟨true,A',cap',refs'⟩ n=sp from HP.o] at HF2;rw [HQ.o];unfold Shp.val at HF1 HF2 ⊢;have hd1:decide (c.frags<sz)=false:=decide_eq_false zo;have hd2:decide (c.spine<sp)=false:=decide_eq_false zo;have hd3:decide (sz<0)=false:=decide_eq_false zo;go_wp2_with (go_at_call 196;refine (HF1.o _ zF).mono ?_;rintro e w5 ⟨rfl,X5,rfl⟩);obtain ⟨w6,hW6⟩: ∃w6,((w4.alloc (.cells #[zb true,.slice A' refs'.length cap'] 94)).patch X5)=w6:=⟨_,rfl⟩;rw [hW6];have HE6:=zH (show Ext w4 w6 by rw [←hW6];clear hW6;exact zF)
 have ng0:w6.cell? ⟨w.heap.size,0,none⟩=some (zI z6 c.frags):=(yac HE6.o (by first|exact hm0|exact hm1)).trans mg0;have ng1:w6.cell? ⟨w.heap.size,1,none⟩=some (zI z6 c.spine):=(yac HE6.o (by first|exact hm0|exact hm1)).trans mg1;have nk0:w6.cell? ⟨w.heap.size+1,0,none⟩=some (zI z6 2):=(yac HE6.o (by first|exact hm0|exact hm1)).trans mk0;have nk1:w6.cell? ⟨w.heap.size+1,1,none⟩=some (zI z6 a):=(yac HE6.o (by first|exact hm0|exact hm1)).trans mk1;have nk2:w6.cell? ⟨w.heap.size+1,2,none⟩=some (zI z6 b):=(yac HE6.o (by first|exact hm0|exact hm1)).trans mk2;have nk3:w6.cell? ⟨w.heap.size+1,3,none⟩=some (zI z6 d):=(yac HE6.o (by first|exact hm0|exact hm1)).trans mk3;have nk4:w6.cell? ⟨w.heap.size+1,4,none⟩=some (zI z6 n):=(yac HE6.o (by first|exact hm0|exact hm1)).trans mk4;have nk5:w6.cell? ⟨w.heap.size+1,5,none⟩=some (zc z4 x y):=(yac HE6.o (by first|exact hm0|exact hm1)).trans mk5;have ns0:w6.cell? ⟨w4.heap.size,0,none⟩=some (zb true):=by rw [←hW6];clear hW6;go_simp
 have ns1:w6.cell? ⟨w4.heap.size,1,none⟩=some (.slice A' refs'.length cap'):=by rw [←hW6];clear hW6;go_simp
 have hn2:w4.heap.size<w6.heap.size:=by rw [←hW6];clear hW6;go_simp
 have hn1:w.heap.size+1<w6.heap.size:=zo;have hn0:w.heap.size<w6.heap.size:=zo;have HEE:=zH (show Ext w w6 from HEE4.o.trans HE6.o);clear hW6;refine yab [zT,zT,zT,zT,zT,zT,zT,zT,zT,zT,zT,zT,zT,zT,zT,zT] 0 16 ?_;intro X00;simp only [pickOps];repeat (go_big_quiet_step (first|(go_at_call 196;exact Calls.added (HF1.o _ (HE6.o.patch _)))|(go_at_call 197;exact Calls.added (HF2.o _ (HE6.o.patch _)))))
 refine wpQuiet_nil (fun X0=>?_);clear X00;refine yaa zQ (fun X0'=>?_) _;go_wp2_with fail;go_ret;exact Gives.mk rfl (HEE.o.trans zF)
theorem ylU (w:World):Calls prog 193 #[zI z6 4] w (Gives (.tuple #[.string ⟨#[115,116,111,114,101]⟩,.string ⟨#[97,110,98]⟩]) w):=by
 go_enter func193,ntmps193;go_wp2
 go_quiet (fail)
 go_wp2
 go_ret2;exact Gives.mk rfl zF
theorem yeQ (c:Cnf) (a b d n:Int) (x y:Nat) (w:World) (hc:c.Ok w) (h0:c.check=0) (ha:0≤a∧a<c.locals) (hb:0≤b∧b<c.locals):
 Calls prog 133 #[c.val,.agg #[zI z6 4,zI z6 a,zI z6 b,zI z6 d,zI z6 n,zc z4 x y]] w (Gives (zI z6 0) w):=by
 have HC:=zH (fun w' (he:Ext w w')=>yaw c w' (hc.ext he));have H0:=zH h0;obtain ⟨ha0,ha1⟩:=ha;obtain ⟨hb0,hb1⟩:=hb;clear h0 hc;unfold Cnf.val at HC ⊢;go_enter func133,ntmps133;go_wp2_with fail;refine (ylU _).mono ?_;rintro e w1 ⟨rfl,X1,rfl⟩;go_wp2_with fail;refine (HC.o _ zF).mono ?_;rw [H0.o];rintro e w1 ⟨rfl,X2,rfl⟩;obtain ⟨w2,hW⟩: ∃w2,(((w.alloc (.cells #[zI z6 c.frags,zI z6 c.spine,zI z6 c.globals,zI z6 c.threads,zI z6 c.locals,zI z6 c.cache,zI z6 c.stack,zI z6 c.low,.slice c.A c.shapes.length c.cap] 34)).alloc (.cells #[zI z6 4,zI z6 a,zI z6 b,zI z6 d,zI z6 n,zc z4 x y] 26)).patch X1).patch X2=w2:=⟨_,rfl⟩;rw [hW];have g2:w2.cell? ⟨w.heap.size,2,none⟩=some (zI z6 c.globals):=by rw [←hW];clear hW;go_simp
 have g4:w2.cell? ⟨w.heap.size,4,none⟩=some (zI z6 c.locals):=by rw [←hW];clear hW;go_simp
 have k0:w2.cell? ⟨w.heap.size+1,0,none⟩=some (zI z6 4):=by rw [←hW];clear hW;go_simp
 have k1:w2.cell? ⟨w.heap.size+1,1,none⟩=some (zI z6 a):=by rw [←hW];clear hW;go_simp
 have k2:w2.cell? ⟨w.heap.size+1,2,none⟩=some (zI z6 b):=by rw [←hW];clear hW;go_simp
 have k3:w2.cell? ⟨w.heap.size+1,3,none⟩=some (zI z6 d):=by rw [←hW];clear hW;go_simp
 have k4:w2.cell? ⟨w.heap.size+1,4,none⟩=some (zI z6 n):=by rw [←hW];clear hW;go_simp
 have hs1:w.heap.size+1<w2.heap.size:=by rw [←hW];clear hW;go_simp
 have hs0:w.heap.size<w2.heap.size:=zo;have HEw:=zH (show Ext w w2 by rw [←hW];clear hW;exact zF);clear hW;have q0: ∀ty,(Instr.next (zp (some ⟨w2.heap.size,0,none⟩)) true ty).run prog (w2.iter ⟨#[97,110,98]⟩ 0)=.ok (.tuple #[zb true,zI z6 0,.int .i32 97]) (w2.iter ⟨#[97,110,98]⟩ 1):=fun ty=>run_next_ascii (P:=prog) w2 ⟨#[97,110,98]⟩ 0 ty zd zd;have q1: ∀ty,(Instr.next (zp (some ⟨w2.heap.size,0,none⟩)) true ty).run prog (w2.iter ⟨#[97,110,98]⟩ 1)=.ok (.tuple #[zb true,zI z6 1,.int .i32 110]) (w2.iter ⟨#[97,110,98]⟩ 2):=fun ty=>run_next_ascii (P:=prog) w2 ⟨#[97,110,98]⟩ 1 ty zd zd;have q2: ∀ty,(Instr.next (zp (some ⟨w2.heap.size,0,none⟩)) true ty).run prog (w2.iter ⟨#[97,110,98]⟩ 2)=.ok (.tuple #[zb true,zI z6 2,.int .i32 98]) (w2.iter ⟨#[97,110,98]⟩ 3):=fun ty=>run_next_ascii (P:=prog) w2 ⟨#[97,110,98]⟩ 2 ty zd zd;have q3:=fun ty=>run_next_end (P:=prog) w2 ⟨#[97,110,98]⟩ 3 ty zd;have ik1: ∀pos,(w2.iter ⟨#[97,110,98]⟩ pos).cell? ⟨w.heap.size+1,1,none⟩=some (zI z6 a):=fun pos=>by unfold World.iter;exact (World.cell?_alloc_lt _ _ _ (show _<w2.heap.size by first|exact hs1|exact hs0)).trans k1
 have ik2: ∀pos,(w2.iter ⟨#[97,110,98]⟩ pos).cell? ⟨w.heap.size+1,2,none⟩=some (zI z6 b):=fun pos=>by unfold World.iter;exact (World.cell?_alloc_lt _ _ _ (show _<w2.heap.size by first|exact hs1|exact hs0)).trans k2
 have ik0: ∀pos,(w2.iter ⟨#[97,110,98]⟩ pos).cell? ⟨w.heap.size+1,0,none⟩=some (zI z6 4):=fun pos=>by unfold World.iter;exact (World.cell?_alloc_lt _ _ _ (show _<w2.heap.size by first|exact hs1|exact hs0)).trans k0
 have ig4: ∀pos,(w2.iter ⟨#[97,110,98]⟩ pos).cell? ⟨w.heap.size,4,none⟩=some (zI z6 c.locals):=fun pos=>by unfold World.iter;exact (World.cell?_alloc_lt _ _ _ (show _<w2.heap.size by first|exact hs1|exact hs0)).trans g4
 go_wp2_with fail;refine wp_loop_rounds 4 ?_;rw [rounds_succ];go_wp2
 rw [rounds_succ];go_wp2
 rw [rounds_succ];go_wp2
 rw [rounds_succ];go_wp2
 go_ret;exact Gives.mk rfl (by unfold World.iter;exact HEw.o.alloc _)
theorem ylV (w:World):Calls prog 193 #[zI z6 7] w (Gives (.tuple #[.string ⟨#[108,111,111,107]⟩,.string ⟨#[97,103]⟩]) w):=by
 go_enter func193,ntmps193;go_wp2
 go_quiet (fail)
 go_wp2
 go_ret2;exact Gives.mk rfl zF
theorem yjX (c:Cnf) (a b d n:Int) (x y:Nat) (w:World) (hc:c.Ok w) (h0:c.check=0) (ha:0≤a∧a<c.locals) (hn:0≤n∧n<c.globals):
 Calls prog 133 #[c.val,.agg #[zI z6 7,zI z6 a,zI z6 b,zI z6 d,zI z6 n,zc z4 x y]] w (Gives (zI z6 0) w):=by
 have HC:=zH (fun w' (he:Ext w w')=>yaw c w' (hc.ext he));have H0:=zH h0;obtain ⟨ha0,ha1⟩:=ha;obtain ⟨hn0,hn1⟩:=hn;clear h0 hc;unfold Cnf.val at HC ⊢;go_enter func133,ntmps133;go_wp2_with fail;refine (ylV _).mono ?_;rintro e w1 ⟨rfl,X1,rfl⟩;go_wp2_with fail;refine (HC.o _ zF).mono ?_;rw [H0.o];rintro e w1 ⟨rfl,X2,rfl⟩;obtain ⟨w2,hW⟩: ∃w2,(((w.alloc (.cells #[zI z6 c.frags,zI z6 c.spine,zI z6 c.globals,zI z6 c.threads,zI z6 c.locals,zI z6 c.cache,zI z6 c.stack,zI z6 c.low,.slice c.A c.shapes.length c.cap] 34)).alloc (.cells #[zI z6 7,zI z6 a,zI z6 b,zI z6 d,zI z6 n,zc z4 x y] 26)).patch X1).patch X2=w2:=⟨_,rfl⟩;rw [hW];have g2:w2.cell? ⟨w.heap.size,2,none⟩=some (zI z6 c.globals):=by rw [←hW];clear hW;go_simp
 have g4:w2.cell? ⟨w.heap.size,4,none⟩=some (zI z6 c.locals):=by rw [←hW];clear hW;go_simp
 have k0:w2.cell? ⟨w.heap.size+1,0,none⟩=some (zI z6 7):=by rw [←hW];clear hW;go_simp
 have k1:w2.cell? ⟨w.heap.size+1,1,none⟩=some (zI z6 a):=by rw [←hW];clear hW;go_simp
 have k2:w2.cell? ⟨w.heap.size+1,2,none⟩=some (zI z6 b):=by rw [←hW];clear hW;go_simp
 have k3:w2.cell? ⟨w.heap.size+1,3,none⟩=some (zI z6 d):=by rw [←hW];clear hW;go_simp
 have k4:w2.cell? ⟨w.heap.size+1,4,none⟩=some (zI z6 n):=by rw [←hW];clear hW;go_simp
 have hs1:w.heap.size+1<w2.heap.size:=by rw [←hW];clear hW;go_simp
 have hs0:w.heap.size<w2.heap.size:=zo;have HEw:=zH (show Ext w w2 by rw [←hW];clear hW;exact zF);clear hW;have q0: ∀ty,(Instr.next (zp (some ⟨w2.heap.size,0,none⟩)) true ty).run prog (w2.iter ⟨#[97,103]⟩ 0)=.ok (.tuple #[zb true,zI z6 0,.int .i32 97]) (w2.iter ⟨#[97,103]⟩ 1):=fun ty=>run_next_ascii (P:=prog) w2 ⟨#[97,103]⟩ 0 ty zd zd;have q1: ∀ty,(Instr.next (zp (some ⟨w2.heap.size,0,none⟩)) true ty).run prog (w2.iter ⟨#[97,103]⟩ 1)=.ok (.tuple #[zb true,zI z6 1,.int .i32 103]) (w2.iter ⟨#[97,103]⟩ 2):=fun ty=>run_next_ascii (P:=prog) w2 ⟨#[97,103]⟩ 1 ty zd zd;have q2:=fun ty=>run_next_end (P:=prog) w2 ⟨#[97,103]⟩ 2 ty zd;have ik1: ∀pos,(w2.iter ⟨#[97,103]⟩ pos).cell? ⟨w.heap.size+1,1,none⟩=some (zI z6 a):=fun pos=>by unfold World.iter;exact (World.cell?_alloc_lt _ _ _ (show _<w2.heap.size by first|exact hs1|exact hs0)).trans k1
 have ik4: ∀pos,(w2.iter ⟨#[97,103]⟩ pos).cell? ⟨w.heap.size+1,4,none⟩=some (zI z6 n):=fun pos=>by unfold World.iter;exact (World.cell?_alloc_lt _ _ _ (show _<w2.heap.size by first|exact hs1|exact hs0)).trans k4
 have ig2: ∀pos,(w2.iter ⟨#[97,103]⟩ pos).cell? ⟨w.heap.size,2,none⟩=some (zI z6 c.globals):=fun pos=>by unfold World.iter;exact (World.cell?_alloc_lt _ _ _ (show _<w2.heap.size by first|exact hs1|exact hs0)).trans g2
 have ik0: ∀pos,(w2.iter ⟨#[97,103]⟩ pos).cell? ⟨w.heap.size+1,0,none⟩=some (zI z6 7):=fun pos=>by unfold World.iter;exact (World.cell?_alloc_lt _ _ _ (show _<w2.heap.size by first|exact hs1|exact hs0)).trans k0
 have ig4: ∀pos,(w2.iter ⟨#[97,103]⟩ pos).cell? ⟨w.heap.size,4,none⟩=some (zI z6 c.locals):=fun pos=>by unfold World.iter;exact (World.cell?_alloc_lt _ _ _ (show _<w2.heap.size by first|exact hs1|exact hs0)).trans g4
 go_wp2_with fail;refine wp_loop_rounds 3 ?_;rw [rounds_succ];go_wp2
 rw [rounds_succ];go_wp2
 rw [rounds_succ];go_wp2
 go_ret;exact Gives.mk rfl (by unfold World.iter;exact HEw.o.alloc _)
theorem ylW (w:World):Calls prog 193 #[zI z6 8] w (Gives (.tuple #[.string ⟨#[115,101,116]⟩,.string ⟨#[103,98]⟩]) w):=by
 go_enter func193,ntmps193;go_wp2
 go_quiet (fail)
 go_wp2
 go_ret2;exact Gives.mk rfl zF
theorem yjY (c:Cnf) (a b d n:Int) (x y:Nat) (w:World) (hc:c.Ok w) (h0:c.check=0) (hb:0≤b∧b<c.locals) (hn:0≤n∧n<c.globals):
 Calls prog 133 #[c.val,.agg #[zI z6 8,zI z6 a,zI z6 b,zI z6 d,zI z6 n,zc z4 x y]] w (Gives (zI z6 0) w):=by
 have HC:=zH (fun w' (he:Ext w w')=>yaw c w' (hc.ext he));have H0:=zH h0;obtain ⟨hb0,hb1⟩:=hb;obtain ⟨hn0,hn1⟩:=hn;clear h0 hc;unfold Cnf.val at HC ⊢;go_enter func133,ntmps133;go_wp2_with fail;refine (ylW _).mono ?_;rintro e w1 ⟨rfl,X1,rfl⟩;go_wp2_with fail;refine (HC.o _ zF).mono ?_;rw [H0.o];rintro e w1 ⟨rfl,X2,rfl⟩;obtain ⟨w2,hW⟩: ∃w2,(((w.alloc (.cells #[zI z6 c.frags,zI z6 c.spine,zI z6 c.globals,zI z6 c.threads,zI z6 c.locals,zI z6 c.cache,zI z6 c.stack,zI z6 c.low,.slice c.A c.shapes.length c.cap] 34)).alloc (.cells #[zI z6 8,zI z6 a,zI z6 b,zI z6 d,zI z6 n,zc z4 x y] 26)).patch X1).patch X2=w2:=⟨_,rfl⟩;rw [hW];have g2:w2.cell? ⟨w.heap.size,2,none⟩=some (zI z6 c.globals):=by rw [←hW];clear hW;go_simp
 have g4:w2.cell? ⟨w.heap.size,4,none⟩=some (zI z6 c.locals):=by rw [←hW];clear hW;go_simp
 have k0:w2.cell? ⟨w.heap.size+1,0,none⟩=some (zI z6 8):=by rw [←hW];clear hW;go_simp
 have k1:w2.cell? ⟨w.heap.size+1,1,none⟩=some (zI z6 a):=by rw [←hW];clear hW;go_simp
 have k2:w2.cell? ⟨w.heap.size+1,2,none⟩=some (zI z6 b):=by rw [←hW];clear hW;go_simp
 have k3:w2.cell? ⟨w.heap.size+1,3,none⟩=some (zI z6 d):=by rw [←hW];clear hW;go_simp
 have k4:w2.cell? ⟨w.heap.size+1,4,none⟩=some (zI z6 n):=by rw [←hW];clear hW;go_simp
 have hs1:w.heap.size+1<w2.heap.size:=by rw [←hW];clear hW;go_simp
 have hs0:w.heap.size<w2.heap.size:=zo;have HEw:=zH (show Ext w w2 by rw [←hW];clear hW;exact zF);clear hW;have q0: ∀ty,(Instr.next (zp (some ⟨w2.heap.size,0,none⟩)) true ty).run prog (w2.iter ⟨#[103,98]⟩ 0)=.ok (.tuple #[zb true,zI z6 0,.int .i32 103]) (w2.iter ⟨#[103,98]⟩ 1):=fun ty=>run_next_ascii (P:=prog) w2 ⟨#[103,98]⟩ 0 ty zd zd;have q1: ∀ty,(Instr.next (zp (some ⟨w2.heap.size,0,none⟩)) true ty).run prog (w2.iter ⟨#[103,98]⟩ 1)=.ok (.tuple #[zb true,zI z6 1,.int .i32 98]) (w2.iter ⟨#[103,98]⟩ 2):=fun ty=>run_next_ascii (P:=prog) w2 ⟨#[103,98]⟩ 1 ty zd zd;have q2:=fun ty=>run_next_end (P:=prog) w2 ⟨#[103,98]⟩ 2 ty zd;have ik2: ∀pos,(w2.iter ⟨#[103,98]⟩ pos).cell? ⟨w.heap.size+1,2,none⟩=some (zI z6 b):=fun pos=>by unfold World.iter;exact (World.cell?_alloc_lt _ _ _ (show _<w2.heap.size by first|exact hs1|exact hs0)).trans k2
 have ik4: ∀pos,(w2.iter ⟨#[103,98]⟩ pos).cell? ⟨w.heap.size+1,4,none⟩=some (zI z6 n):=fun pos=>by unfold World.iter;exact (World.cell?_alloc_lt _ _ _ (show _<w2.heap.size by first|exact hs1|exact hs0)).trans k4
 have ig2: ∀pos,(w2.iter ⟨#[103,98]⟩ pos).cell? ⟨w.heap.size,2,none⟩=some (zI z6 c.globals):=fun pos=>by unfold World.iter;exact (World.cell?_alloc_lt _ _ _ (show _<w2.heap.size by first|exact hs1|exact hs0)).trans g2
 have ik0: ∀pos,(w2.iter ⟨#[103,98]⟩ pos).cell? ⟨w.heap.size+1,0,none⟩=some (zI z6 8):=fun pos=>by unfold World.iter;exact (World.cell?_alloc_lt _ _ _ (show _<w2.heap.size by first|exact hs1|exact hs0)).trans k0
 have ig4: ∀pos,(w2.iter ⟨#[103,98]⟩ pos).cell? ⟨w.heap.size,4,none⟩=some (zI z6 c.locals):=fun pos=>by unfold World.iter;exact (World.cell?_alloc_lt _ _ _ (show _<w2.heap.size by first|exact hs1|exact hs0)).trans g4
 go_wp2_with fail;refine wp_loop_rounds 3 ?_;rw [rounds_succ];go_wp2
 rw [rounds_succ];go_wp2
 rw [rounds_succ];go_wp2
 go_ret;exact Gives.mk rfl (by unfold World.iter;exact HEw.o.alloc _)
theorem ylq (w:World):Calls prog 193 #[zI z6 13] w (Gives (.tuple #[.string ⟨#[99,108,101,97,114]⟩,.string ⟨#[97]⟩]) w):=by
 go_enter func193,ntmps193;go_wp2
 go_quiet (fail)
 go_wp2
 go_ret2;exact Gives.mk rfl zF
theorem ydJ (c:Cnf) (a b d n:Int) (x y:Nat) (w:World) (hc:c.Ok w) (h0:c.check=0) (ha:0≤a∧a<c.locals):
 Calls prog 133 #[c.val,.agg #[zI z6 13,zI z6 a,zI z6 b,zI z6 d,zI z6 n,zc z4 x y]] w (Gives (zI z6 0) w):=by
 have HC:=zH (fun w' (he:Ext w w')=>yaw c w' (hc.ext he));have H0:=zH h0;obtain ⟨ha0,ha1⟩:=ha;clear h0 hc;unfold Cnf.val at HC ⊢;go_enter func133,ntmps133;go_wp2_with fail;refine (ylq _).mono ?_;rintro e w1 ⟨rfl,X1,rfl⟩;go_wp2_with fail;refine (HC.o _ zF).mono ?_;rw [H0.o];rintro e w1 ⟨rfl,X2,rfl⟩;obtain ⟨w2,hW⟩: ∃w2,(((w.alloc (.cells #[zI z6 c.frags,zI z6 c.spine,zI z6 c.globals,zI z6 c.threads,zI z6 c.locals,zI z6 c.cache,zI z6 c.stack,zI z6 c.low,.slice c.A c.shapes.length c.cap] 34)).alloc (.cells #[zI z6 13,zI z6 a,zI z6 b,zI z6 d,zI z6 n,zc z4 x y] 26)).patch X1).patch X2=w2:=⟨_,rfl⟩;rw [hW];have g2:w2.cell? ⟨w.heap.size,2,none⟩=some (zI z6 c.globals):=by rw [←hW];clear hW;go_simp
 have g4:w2.cell? ⟨w.heap.size,4,none⟩=some (zI z6 c.locals):=by rw [←hW];clear hW;go_simp
 have k0:w2.cell? ⟨w.heap.size+1,0,none⟩=some (zI z6 13):=by rw [←hW];clear hW;go_simp
 have k1:w2.cell? ⟨w.heap.size+1,1,none⟩=some (zI z6 a):=by rw [←hW];clear hW;go_simp
 have k2:w2.cell? ⟨w.heap.size+1,2,none⟩=some (zI z6 b):=by rw [←hW];clear hW;go_simp
 have k3:w2.cell? ⟨w.heap.size+1,3,none⟩=some (zI z6 d):=by rw [←hW];clear hW;go_simp
 have k4:w2.cell? ⟨w.heap.size+1,4,none⟩=some (zI z6 n):=by rw [←hW];clear hW;go_simp
 have hs1:w.heap.size+1<w2.heap.size:=by rw [←hW];clear hW;go_simp
 have hs0:w.heap.size<w2.heap.size:=zo;have HEw:=zH (show Ext w w2 by rw [←hW];clear hW;exact zF);clear hW;have q0: ∀ty,(Instr.next (zp (some ⟨w2.heap.size,0,none⟩)) true ty).run prog (w2.iter ⟨#[97]⟩ 0)=.ok (.tuple #[zb true,zI z6 0,.int .i32 97]) (w2.iter ⟨#[97]⟩ 1):=fun ty=>run_next_ascii (P:=prog) w2 ⟨#[97]⟩ 0 ty zd zd;have q1:=fun ty=>run_next_end (P:=prog) w2 ⟨#[97]⟩ 1 ty zd;have ik1: ∀pos,(w2.iter ⟨#[97]⟩ pos).cell? ⟨w.heap.size+1,1,none⟩=some (zI z6 a):=fun pos=>by unfold World.iter;exact (World.cell?_alloc_lt _ _ _ (show _<w2.heap.size by first|exact hs1|exact hs0)).trans k1
 have ik0: ∀pos,(w2.iter ⟨#[97]⟩ pos).cell? ⟨w.heap.size+1,0,none⟩=some (zI z6 13):=fun pos=>by unfold World.iter;exact (World.cell?_alloc_lt _ _ _ (show _<w2.heap.size by first|exact hs1|exact hs0)).trans k0
 have ig4: ∀pos,(w2.iter ⟨#[97]⟩ pos).cell? ⟨w.heap.size,4,none⟩=some (zI z6 c.locals):=fun pos=>by unfold World.iter;exact (World.cell?_alloc_lt _ _ _ (show _<w2.heap.size by first|exact hs1|exact hs0)).trans g4
 go_wp2_with fail;refine wp_loop_rounds 2 ?_;rw [rounds_succ];go_wp2
 rw [rounds_succ];go_wp2
 go_ret;exact Gives.mk rfl (by unfold World.iter;exact HEw.o.alloc _)
end Go.Proofs.YtdhjjpnajjingaaGreat
