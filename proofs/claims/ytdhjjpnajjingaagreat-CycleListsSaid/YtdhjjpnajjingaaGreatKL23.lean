import Derived.Test.YtdhjjpnajjingaaGreatKL22
set_option linter.unusedVariables false
set_option linter.unnecessarySimpa false
set_option linter.unusedSimpArgs false
open Bool renaming true→zT,false→zU
open Go.Value renaming int→zI
open Go.IntKind renaming i64→z6
set_option maxHeartbeats 8000000
set_option maxRecDepth 100000
open Go.Proofs.Tryz
open Go.Lib renaming hid→zH
open Go.Ext renaming alloc→zA,patch→zP,drew→zD,drewN→zN,more→zM,refl→zR,setCell→zS
open Nat renaming le_refl→zL,le_add_right→zK
namespace Go.Proofs.YtdhjjpnajjingaaGreat
open Go Go.RowKit
def AloneMade (c:Cnf) (l:List Opr) (w:World) (e:Ending) (w':World):Prop:=
 ∃w0 own' k y a,e=.returned (.tuple #[.pointer (some ⟨k,0,none⟩),.pointer (some ⟨y,0,none⟩),.pointer (some ⟨a,0,none⟩)])∧Ext w w0∧DuIs w0 ⟨own',w'⟩ a y k (aloneD c l)
theorem yij (c:Cnf) (Al:Option Addr) (cap:Nat) (l:List Opr) (w:World) (n:Nat) (h3:c.locals=3) (hck:c.check=0) (hc:c.Ok w) (hn:l.length=n) (hl:n≤1000000) (hcl:CellsAt w Al (l.flatMap Opr.cells)):
 Calls prog 8 #[c.val,.slice Al n cap] w (AloneMade c l w):=by
 subst hn;have HE0:=zH (show Ext w (w.alloc (.cells #[.int .i64 c.frags,.int .i64 c.spine,.int .i64 c.globals,.int .i64 c.threads,.int .i64 c.locals,.int .i64 c.cache,.int .i64 c.stack,.int .i64 c.low,.slice c.A c.shapes.length c.cap] 34)) from zE);have HB:=zH (show Blk ⟨fun _=>0,w.alloc (.cells #[.int .i64 c.frags,.int .i64 c.spine,.int .i64 c.globals,.int .i64 c.threads,.int .i64 c.locals,.int .i64 c.cache,.int .i64 c.stack,.int .i64 c.low,.slice c.A c.shapes.length c.cap] 34)⟩ 0 w.heap.size 34 [.int .i64 c.frags,.int .i64 c.spine,.int .i64 c.globals,.int .i64 c.threads,.int .i64 c.locals,.int .i64 c.cache,.int .i64 c.stack,.int .i64 c.low,.slice c.A c.shapes.length c.cap] from ⟨World.row_alloc_new _,rfl⟩);have HCL:=zH (hcl.ext HE0.out);have HOK:=zH (hc.ext HE0.out);have HL:=zH hl;have HCK:=zH hck;have HD:=zH (show aloneD c l=⟨CyS.fresh,none,none,AcS.fresh 0 3 l,CoreS.fresh c⟩ by unfold aloneD;rw [h3];rfl);unfold Cnf.val;rw [h3] at HE0 HB HCL HOK ⊢;clear hc hcl hl hck;go_enter func8,ntmps8;go_upto_region 1 with fail
 generalize w.alloc (.cells #[.int .i64 c.frags,.int .i64 c.spine,.int .i64 c.globals,.int .i64 c.threads,.int .i64 3,.int .i64 c.cache,.int .i64 c.stack,.int .i64 c.low,.slice c.A c.shapes.length c.cap] 34)=w0 at *;have HM:=zH (show Calls prog 33 #[c.val] w0 (CoreMade c 100 ⟨fun _=>0,w0⟩) from yfe c 100 ⟨fun _=>0,w0⟩ HOK.out zo (fun k _=>Or.inl (show 0<100 by omega)));unfold Cnf.val at HM;rw [h3] at HM;generalize w.heap.size=hs0 at *;obtain ⟨f0,f1,f2,f3,f4,f5,f6,f7,f8,fl⟩:=HB.out.k9;go_wp2_with fail;refine HM.out.mono ?_;rintro e w1 hh;unfold CoreMade at hh;rw [if_pos HCK.out] at hh;obtain ⟨own1,k,rfl,m1,h1⟩:=hh;clear HOK HM f0 f1 f2 f3 f4 f5 f6 f7 f8 fl;have M1:=zH m1;obtain ⟨bm,bs,bt,bp,bsp,bh,cm,h1⟩:=h1;have H1:=zH h1;have B1:=zH (HB.out.keep m1 id);have C1:=zH (HCL.out.ext m1.toExt);clear m1 h1 HB HCL;obtain ⟨f0,f1,f2,f3,f4,f5,f6,f7,f8,fl⟩:=B1.out.k9;go_wp2_with fail;go_cut [9,10] (fun s9 s10 wx=> ∃own3 y a p,s9=.pointer (some ⟨y,0,none⟩)∧s10=.pointer (some ⟨a,0,none⟩)∧Hid (Mod (fun _=>False) ⟨own1,w1⟩ ⟨own3,wx⟩)∧Hid (CyAt ⟨own3,wx⟩ 600 y CyS.fresh none none none none)∧Hid (AcAt ⟨own3,wx⟩ 500 a (AcS.fresh 0 3 l) p))
 case first=>
  refine yab [zU,zT,zT,zT,zU,zU,zU] 4 5 ?_;intro X00;simp only [pickOps];repeat (go_big_quiet_step (fail))
  refine wpQuiet_nil (fun X0=>?_);clear X00;refine yaj 0 _ zQ rfl rfl zd (fun X1 K Q' hK=>?_);go_simp;refine (yiw ((⟨own1,w1⟩:GW).pt _) 600).mono ?_;rintro e w2 ⟨own2,y,rfl,m2,h2⟩;have M2:=zH ((Mod.pt (Mod.refl (fun _=>False) (⟨own1,w1⟩:GW)) _).trans m2);have H2:=zH h2;clear m2 h2;have hE2:Ext w1 w2:=M2.out.toExt;refine hK _ _ hE2 ?_;clear hK K Q';refine yaj 4 _ zQ rfl rfl zd (fun X3 K Q' hK=>?_);go_simp;refine (yj6 0 Al cap l 500 zo ((⟨own2,w2⟩:GW).pt X3) (C1.out.ext (hE2.trans ⟨X3,rfl⟩)) HL.out).mono ?_;rintro e w3 ⟨own3,a,p,rfl,m3,h3'⟩;have P3:=(Mod.pt (Mod.refl (fun _=>False) (⟨own2,w2⟩:GW)) X3).trans m3;have M3:=zH (M2.out.trans P3);have Y3:=zH (H2.out.keep P3 (fun _=>False.elim));have A3:=zH h3';clear m3 h3' P3 H2 M2 hE2;have hE3:Ext w1 w3:=M3.out.toExt;refine hK _ _ hE3 ?_;clear hK K Q' hE3;refine yae rfl zQ (fun X2=>?_);simp only [List.drop_succ_cons,List.drop_zero];go_wp2_with fail;go_meet
  have mz:=Mod.pt (Mod.refl (fun _=>False) (⟨own3,w3⟩:GW)) X2;exact ⟨_,y,a,p,rfl,rfl,zH (M3.out.trans mz),zH (Y3.out.keep mz (fun _=>False.elim)),zH (A3.out.keep mz id (fun _=>False.elim))⟩
 case rest=>
  obtain ⟨own3,y,a,p,rfl,rfl,N3,Y3,A3⟩:=hcut;obtain ⟨w3,rfl⟩: ∃w3:World,w3=wc:=⟨_,rfl⟩;have M3:=zH (M1.out.trans N3.out);have H3:=zH (H1.out.keep N3.out (fun _=>False.elim));clear N3 M1 H1 B1 C1 f0 f1 f2 f3 f4 f5 f6 f7 f8 fl;obtain ⟨c0,c1,c2,c3,c4,c5,c6,c7,c8,c9,c10,c11,c12,cl⟩:=H3.out.blk.k13;obtain ⟨s0,s1,s2,sl⟩:=H3.out.sh.k3;have HT:=zH (fun w=>yaT bt w);go_wp2_with fail;refine (HT.out _).mono ?_;rintro e w4 ⟨rfl,hE⟩
  obtain ⟨own4,m4⟩: ∃ownZ,Mod (fun _=>False) (⟨own3,w3⟩:GW) ⟨ownZ,w4⟩:=by
   obtain ⟨X2,rfl⟩:=hE;exact ⟨((⟨own3,w3⟩:GW).pt X2).own,(show Mod (fun _=>False) (⟨own3,w3⟩:GW) ((⟨own3,w3⟩:GW).pt X2) from Mod.pt (Mod.refl _ _) _)⟩
  have M4:=zH (M3.out.trans m4);have H4:=zH (H3.out.keep m4 (fun _=>False.elim));have Y4:=zH (Y3.out.keep m4 (fun _=>False.elim));have A4:=zH (A3.out.keep m4 id (fun _=>False.elim));clear m4 hE M3 H3 Y3 A3 c0 c1 c2 c3 c4 c5 c6 c7 c8 c9 c10 c11 c12 cl s0 s1 s2 sl HT;obtain ⟨c0,c1,c2,c3,c4,c5,c6,c7,c8,c9,c10,c11,c12,cl⟩:=H4.out.blk.k13;go_wp2_with fail;refine bodyPost_ret (v:=.tuple #[.pointer (some ⟨k,0,none⟩),.pointer (some ⟨y,0,none⟩),.pointer (some ⟨a,0,none⟩)]) (by simp [results,Tryz.results8,go_sem]) rfl ?_;refine ⟨w0,own4,k,y,a,rfl,HE0.out,M4.out.mono (fun _=>False.elim),⟨⟨p,none,none,bm,bs,bt,bp,bsp,bh,cm,?_,?_,?_⟩⟩⟩
  · rw [HD.out];exact A4.out
  · rw [HD.out];exact H4.out
  · rw [HD.out];exact Y4.out
end Go.Proofs.YtdhjjpnajjingaaGreat
namespace Go
open Go.RowKit
theorem Blk.segs {g:GW} {t b:Nat} {T:TypeId} {vs:List Value} (h:Blk g t b T vs):Seg g t (some ⟨b,0,none⟩) vs:=
 ⟨CellsAt.mk h.lt (fun i v hi=>by rw [Nat.zero_add];exact h.cell hi),fun a ha _=>by injection ha with ha;rw [←ha];exact h.own⟩
end Go
namespace Go.Proofs.YtdhjjpnajjingaaGreat
open Go Go.RowKit
def fat40 (k:Nat):List Value:=(List.replicate k true++List.replicate (40-k) false).map Value.bool
theorem yhb {k:Nat} (h:k<40):(fat40 k).set k (.bool true)=fat40 (k+1):=by
 unfold fat40;rw [←yeh h,List.map_set]
def conf0:List Value:=[.int .i64 0,.int .i64 0,.int .i64 0,.int .i64 0,.int .i64 0,.int .i64 0,.int .i64 0,.int .i64 0,.slice none 0 0]
def ChainsMade (frags stack:Int) (w:World) (e:Ending) (w':World):Prop:= ∃A A1 A2,e=.returned (cChain frags stack A A1 A2).val∧Ext w w'∧(cChain frags stack A A1 A2).Ok w'
theorem yg1 (frags stack:Int) (w:World):Calls prog 9 #[.int .i64 frags,.int .i64 stack] w (ChainsMade frags stack w):=by
 obtain ⟨i0,hi,hz0,hz1,hz2⟩:=info_parts yde;have hmk:=fun w=>ybg (P:=prog) 69 4 i0 _ 1 1 Tryz.underlying69 hi hz0 hz1 hz2 40 zd zd w;simp only [Value.cells,yb8] at hmk;rw [show ((40:Nat):Int)=40 from rfl] at hmk;go_enter func9,ntmps9;go_upto_region 1 with fail
 obtain ⟨own0,m0,B0⟩: ∃own0,Mod (fun _=>False) ⟨fun _=>0,w⟩ ⟨own0,w.alloc (.cells #[.int .i64 0,.int .i64 0,.int .i64 0,.int .i64 0,.int .i64 0,.int .i64 0,.int .i64 0,.int .i64 0,.slice none 0 0] 34)⟩∧Blk ⟨own0,w.alloc (.cells #[.int .i64 0,.int .i64 0,.int .i64 0,.int .i64 0,.int .i64 0,.int .i64 0,.int .i64 0,.int .i64 0,.slice none 0 0] 34)⟩ 8 w.heap.size 34 conf0:=⟨_,Mod.ext (g:=⟨fun _=>0,w⟩) zE 8,Blk.new ⟨fun _=>0,w⟩ 8 34 conf0⟩;have M0:=zH m0;have B0':=zH B0;clear m0 B0;generalize w.alloc (.cells #[.int .i64 0,.int .i64 0,.int .i64 0,.int .i64 0,.int .i64 0,.int .i64 0,.int .i64 0,.int .i64 0,.slice none 0 0] 34)=w0 at *;go_upto_region 2 with fail
 obtain ⟨own1,m1,B1⟩:=yay ⟨own0,w0⟩ 4 (List.replicate 40 (Value.bool false));have M1:=zH (M0.out.trans m1);have C1:=zH (B0'.out.keep m1 id)
 have F1:=zH (show Blk ⟨own1,w0.alloc (.cells (List.replicate 40 (Value.bool false)).toArray 4)⟩ 9 w0.heap.size 4 (fat40 0) from by
  have e:fat40 0=List.replicate 40 (Value.bool false):=by unfold fat40;simp
  rw [e];exact B1)
 have HQ:=zH (show w.heap.size≤w0.heap.size from M0.out.size);clear m1 B1 M0 B0';rw [show (List.replicate 40 (Value.bool false)).toArray=#[Value.bool false,Value.bool false,Value.bool false,Value.bool false,Value.bool false,Value.bool false,Value.bool false,Value.bool false,Value.bool false,Value.bool false,Value.bool false,Value.bool false,Value.bool false,Value.bool false,Value.bool false,Value.bool false,Value.bool false,Value.bool false,Value.bool false,Value.bool false,Value.bool false,Value.bool false,Value.bool false,Value.bool false,Value.bool false,Value.bool false,Value.bool false,Value.bool false,Value.bool false,Value.bool false,Value.bool false,Value.bool false,Value.bool false,Value.bool false,Value.bool false,Value.bool false,Value.bool false,Value.bool false,Value.bool false,Value.bool false] from rfl] at M1 C1 F1
 generalize w0.alloc (.cells #[.bool false,.bool false,.bool false,.bool false,.bool false,.bool false,.bool false,.bool false,.bool false,.bool false,.bool false,.bool false,.bool false,.bool false,.bool false,.bool false,.bool false,.bool false,.bool false,.bool false,.bool false,.bool false,.bool false,.bool false,.bool false,.bool false,.bool false,.bool false,.bool false,.bool false,.bool false,.bool false,.bool false,.bool false,.bool false,.bool false,.bool false,.bool false,.bool false,.bool false] 4)=w1 at *;generalize w0.heap.size=q at *;go_wp2_with fail;go_loopw [6] (fun i wr=> ∃(k:Nat) (own:Nat→Nat),k≤40∧i=.int .i64 k∧Hid (Mod (fun _=>False) ⟨fun _=>0,w⟩ ⟨own,wr⟩)∧Hid (Blk ⟨own,wr⟩ 8 w.heap.size 34 conf0)∧Hid (Blk ⟨own,wr⟩ 9 q 4 (fat40 k))∧Hid (w.heap.size≤q)) (fun i _=>40-(intOf i).toNat)
 case atStart=>exact ⟨0,own1,Nat.zero_le _,rfl,M1,C1,F1,HQ⟩
 case round=>
  obtain ⟨k,own2,hk,rfl,M2,C2,F2,Q2⟩:=hrel;obtain ⟨w2,rfl⟩: ∃w2:World,w2=wr:=⟨_,rfl⟩;clear M1 C1 F1;by_cases hlt:k<40
  · have hlt':(k:Int)<40:=zo;have f0:=F2.out.cell (i:=k) (v:=.bool false) (by unfold fat40;rw [List.getElem?_map,List.getElem?_append_right (by simp),List.length_replicate,Nat.sub_self,List.getElem?_replicate,if_pos zo];rfl);have ff:=F2.out.live k;have fl:=F2.out.lt;simp only at f0 ff fl;go_wp2_with fail;go_roundw
    case rel=>exact ⟨k+1,own2,zo,by go_num,zH (Mod.stn M2.out Q2.out),zH (C2.out.setOther k _ (fun e=>C2.out.ne F2.out zd e.symm)),zH ((yhb hlt)▸F2.out.set k (.bool true)),Q2⟩
    case measure=>simp [intOf];omega
  · obtain rfl:k=40:=zo;clear hlt hk;obtain ⟨own3,m3,P3,S3⟩:=yaz ⟨own2,w2⟩ 4 94 [.bool true,.bool false] [.bool false,.slice (some ⟨w2.heap.size,0,none⟩) 2 2,.bool false,.slice (some ⟨q,0,none⟩) 40 40];have M3:=zH (M2.out.trans m3);have C3:=zH (C2.out.keep m3 id);have F3:=zH (F2.out.keep m3 id);have P3':=zH P3;have S3':=zH S3;clear m3 P3 S3 M2 C2 F2
    have HC:=zH (show CnfAt ⟨own3,_⟩ 9 (cChain frags stack (some ⟨w2.heap.size+1,0,none⟩) (some ⟨w2.heap.size,0,none⟩) (some ⟨q,0,none⟩)) from ⟨S3'.out.segs,fun s hs=>by
     simp only [cChain,List.mem_cons,List.not_mem_nil,or_false] at hs;rcases hs with rfl|rfl
     · exact ⟨P3'.out.segs,by simp,by simp⟩
     · refine ⟨?_,by simp,by simp⟩;have e:fat40 40=(List.replicate 40 true).map Value.bool:=by unfold fat40;simp
       simp only;rw [←e];exact F3.out.segs,by simp [cChain],by simp [cChain]⟩)
    have HO:=zH C3.out.own;have d0:=C3.out.live 0;have d1:=C3.out.live 1;have d2:=C3.out.live 2;have d3:=C3.out.live 3;have d4:=C3.out.live 4;have d5:=C3.out.live 5;have d6:=C3.out.live 6;have d7:=C3.out.live 7;have d8:=C3.out.live 8;have dl:=C3.out.lt;(try simp only at d0 d1 d2 d3 d4 d5 d6 d7 d8 dl);unfold conf0 at C3;obtain ⟨z0,z1,z2,z3,z4,z5,z6,z7,z8,zl⟩:=C3.out.k9;(try simp only at z0 z1 z2 z3 z4 z5 z6 z7 z8);go_wp2_with fail;refine bodyPost_ret (v:=(cChain frags stack (some ⟨w2.heap.size+1,0,none⟩) (some ⟨w2.heap.size,0,none⟩) (some ⟨q,0,none⟩)).val) (by unfold Cnf.val cChain;simp [results,Tryz.results9,go_sem,z0,z1,z2,z3,z4,z5,z6,z7,z8]) rfl ?_;refine ⟨_,_,_,rfl,?_,?_⟩
    · exact (show Mod (fun _=>False) ⟨fun _=>0,w⟩ ⟨own3,_⟩ from Mod.stn (Mod.stn (Mod.stn (Mod.stn (Mod.stn (Mod.stn (Mod.stn (Mod.stn (Mod.stn M3.out (Nat.le_refl _)) (Nat.le_refl _)) (Nat.le_refl _)) (Nat.le_refl _)) (Nat.le_refl _)) (Nat.le_refl _)) (Nat.le_refl _)) (Nat.le_refl _)) (Nat.le_refl _)).toExt
    · refine (HC.out.keep (S:=fun x=>x=8) (g':=⟨own3,_⟩) ?_ zo).ok;exact Mod.st (Mod.st (Mod.st (Mod.st (Mod.st (Mod.st (Mod.st (Mod.st (Mod.st Mod.self HO.out) HO.out) HO.out) HO.out) HO.out) HO.out) HO.out) HO.out) HO.out
def zN:Nat × Nat:=(0,4607182418800017408)
def zR (j:Nat):Nat × Nat:=zRef (j:Int)
def wordsB (k f:Nat):List (Nat × Nat):=if 200-k≤f then [zN,zN,if f=199 then zN else zR (f+1),(0,0),(0,0),(0,0),(0,0),(0,0)] else [(0,0),(0,0),(0,0),(0,0),(0,0),(0,0),(0,0),(0,0)]
def memB (k:Nat):List (Nat × Nat):=(List.range 200).flatMap (wordsB k)++[if k=0 then zN else zR (200-k)]
def tabB (k:Nat):List One:=List.replicate (200-k) One.zero++List.replicate k ⟨2,true,false⟩
def poolB (k:Nat):List Bool:=List.replicate (200-k) true++List.replicate k false
def coreB (k:Nat) (stack:Int) (A A1 A2:Option Addr):CoreS:=
 { CoreS.fresh (cChain 200 1 A A1 A2) with mem:=⟨memB k,((12*k:Nat):Int)⟩,hand:=⟨0,false,[0],((4*k+1:Nat):Int)⟩,pile:=⟨[],stack,false⟩,sp:={ SpaceS.fresh (cChain 200 1 A A1 A2) (TabS.fresh 200) with tab:=⟨tabB k⟩,count:=((2*k:Nat):Int),pool:=⟨poolB k⟩ } }
def acB (k:Nat) (rest:List Opr):AcS:=match k with
 |0=>{ AcS.fresh 0 3 (itsOps 0++rest) with phase:=1 }
 |k+1=>⟨0,itsOps (k+1)++rest,[⟨true,zR (199-k)⟩,⟨true,if k=0 then zN else zR (200-k)⟩,LVal.zero],1,0,false,((4*(k+1):Nat):Int),0,0,[],1,6,none,1600,true,(0,0),zR (199-k),[],[]⟩
def duB (k:Nat) (rest:List Opr) (stack:Int) (A A1 A2:Option Addr):DuW:=⟨CyS.fresh,none,none,acB k rest,coreB k stack A A1 A2⟩
theorem yb9 {α β:Type} {f:α→β} (hf: ∀a b,f a=f b→a=b): ∀l l':List α,l.map f=l'.map f→l=l'
 |[],[],_=>rfl
 |[],_::_,h=>by cases h
 |_::_,[],h=>by cases h
 |a::l,b::l',h=>by
  simp only [List.map_cons,List.cons.injEq] at h;rw [hf a b h.1,yb9 hf l l' h.2]
def valN (v:LVal):Bool × (Nat × Nat):=(v.ref,v.z)
def oneN (o:One):Nat × (Bool × Bool):=(o.state,(o.head,o.sense))
def stkN (s:StockS):List Int × Int:=(s.l,s.most)
def ac1 (a:AcS):=(a.t,(a.locals.map valN,(a.phase,(a.status,(a.sense,a.next)))))
def ac2 (a:AcS):=(a.pc,(a.seen,(a.grey,(a.own,(a.at_,a.f.isNone)))))
def ac3 (a:AcS):=(a.addr,(a.ref,(a.old,(a.w,(a.got,a.writes.isEmpty)))))
def co1 (K:CoreS):=(K.mem.count,(K.sp.tab.l.map oneN,(K.sp.stocks.map stkN,(K.sp.forced,(K.sp.count,K.sp.pool.l)))))
def co2 (K:CoreS):=(K.sp.coil.size,(K.sp.coil.cur,(K.sp.coil.u0,(K.sp.coil.u1,(K.sp.coil.kept,K.sp.line.isEmpty)))))
def co3 (K:CoreS):=(K.hand.status,(K.hand.sense,(K.hand.l,(K.hand.count,K.pile.l))))
def co4 (K:CoreS):=(K.pile.lost,(K.n,K.mem.l))
def acB_ (a b:AcS):Bool:=ac1 a==ac1 b&&(ac2 a==ac2 b&&ac3 a==ac3 b)
def coB_ (a b:CoreS):Bool:=co1 a==co1 b&&(co2 a==co2 b&&(co3 a==co3 b&&co4 a==co4 b))
theorem ymN {a b:AcS} (h:acB_ a b=true) (ho:a.ops=b.ops) (hf:b.f=none) (hw:b.writes=[]):a=b:=by
 obtain ⟨a1,a2,a3,a4,a5,a6,a7,a8,a9,a10,a11,a12,a13,a14,a15,a16,a17,a18,a19⟩:=a;obtain ⟨b1,b2,b3,b4,b5,b6,b7,b8,b9,b10,b11,b12,b13,b14,b15,b16,b17,b18,b19⟩:=b;simp only at ho hf hw;subst ho hf hw;simp only [acB_,ac1,ac2,ac3,Bool.and_eq_true,beq_iff_eq,Prod.mk.injEq] at h;obtain ⟨⟨h1,h2,h3,h4,h5,h6⟩,⟨h7,h8,h9,h10,h11,h12⟩,⟨h13,h14,h15,h16,h17,h18⟩⟩:=h;have e2:=yb9 (fun a b h=>by obtain ⟨x,y⟩:=a;obtain ⟨u,v⟩:=b;simp only [valN,Prod.mk.injEq] at h;rw [h.1,h.2]) _ _ h2;have e12:a13=none:=by simpa using h12
 have e18:a19=[]:=by simpa using h18
 subst h1 e2 h3 h4 h5 h6 h7 h8 h9 h10 h11 e12 h13 h14 h15 h16 h17 e18;rfl
theorem yk4 {a b:CoreS} (h:coB_ a b=true) (hc:a.c=b.c) (hs:a.sp.c=b.sp.c) (hm:a.pile.most=b.pile.most) (hl:b.sp.line=[]):a=b:=by
 obtain ⟨ac,⟨am1,am2⟩,⟨⟨at1⟩,as2,as3,as4,as5,⟨ap1⟩,⟨ak1,ak2,ak3,ak4,ak5⟩,al⟩,⟨ah1,ah2,ah3,ah4⟩,⟨aq1,aq2,aq3⟩,an⟩:=a;obtain ⟨bc,⟨bm1,bm2⟩,⟨⟨bt1⟩,bs2,bs3,bs4,bs5,⟨bp1⟩,⟨bk1,bk2,bk3,bk4,bk5⟩,bl⟩,⟨bh1,bh2,bh3,bh4⟩,⟨bq1,bq2,bq3⟩,bn⟩:=b;simp only at hc hs hm hl;subst hc hs hm hl;simp only [coB_,co1,co2,co3,co4,Bool.and_eq_true,beq_iff_eq,Prod.mk.injEq] at h;obtain ⟨⟨h1,h2,h3,h4,h5,h6⟩,⟨h7,h8,h9,h10,h11,h12⟩,⟨h13,h14,h15,h16,h17⟩,⟨h18,h19,h20⟩⟩:=h;have e2:=yb9 (fun a b h=>by obtain ⟨x,y,z⟩:=a;obtain ⟨u,v,w⟩:=b;simp only [oneN,Prod.mk.injEq] at h;rw [h.1,h.2.1,h.2.2]) _ _ h2;have e3:=yb9 (fun a b h=>by obtain ⟨x,y⟩:=a;obtain ⟨u,v⟩:=b;simp only [stkN,Prod.mk.injEq] at h;rw [h.1,h.2]) _ _ h3;have e12:al=[]:=by simpa using h12
 subst h1 e2 e3 h4 h5 h6 h7 h8 h9 h10 h11 e12 h13 h14 h15 h16 h17 h18 h19 h20;rfl
theorem yfD: ∀{f d:Nat} {D:DuW} {r:Nat × DuW},DuW.runA f d D=some r→r.2.y=D.y∧r.2.tr=D.tr∧r.2.h=D.h
 |0,d,D,r,h=>by unfold DuW.runA at h;injection h with h;subst h;exact ⟨rfl,rfl,rfl⟩
 |f+1,d,D,r,h=>by
  unfold DuW.runA at h;cases hs:D.stepAg with
  |none=>rw [hs] at h;cases h
  |some x=>
   rw [hs] at h;have h1:=yfD h;unfold DuW.stepAg at hs;cases hk:D.ac.stepK with
   |none=>rw [hk] at hs;cases hs
   |some y=>rw [hk] at hs;injection hs with hs;subst hs;exact h1
def itChk (k:Nat) (rest:List Opr) (s:Nat) (A A1 A2:Option Addr):=(DuW.runA 18 (4*k) (duB k (itOps++rest) (s+1:Nat) A A1 A2)).map fun x=>(x.1==4*(k+1)&&(acB_ x.2.a (acB (k+1) [])&&coB_ x.2.K (coreB (k+1) 0 none none none)),(x.2.a.ops,(x.2.K.c,(x.2.K.sp.c,x.2.K.pile.most))))
def itWant (k:Nat) (rest:List Opr) (s:Nat) (A A1 A2:Option Addr):Option (Bool × List Opr × Cnf × Cnf × Int):=some (true,(itsOps (k+1)++rest,(cChain 200 1 A A1 A2,(cChain 200 1 A A1 A2,((s+1:Nat):Int)))))
theorem ymt {k:Nat} (h:itChk k=itWant k) (rest:List Opr) (s:Nat) (A A1 A2:Option Addr):DuW.runA 18 (4*k) (duB k (itOps++rest) (s+1:Nat) A A1 A2)=some (4*(k+1),duB (k+1) rest (s+1:Nat) A A1 A2):=by
 have h1:=congrFun (congrFun (congrFun (congrFun (congrFun h rest) s) A) A1) A2;unfold itChk itWant at h1;cases hr:DuW.runA 18 (4*k) (duB k (itOps++rest) (s+1:Nat) A A1 A2) with
 |none=>rw [hr] at h1;cases h1
 |some x=>
  rw [hr] at h1;simp only [Option.map_some,Option.some.injEq,Prod.mk.injEq,Bool.and_eq_true,beq_iff_eq] at h1;obtain ⟨⟨t1,t2,t3⟩,h2,h3,h4,h5⟩:=h1;obtain ⟨y1,y2,y3⟩:=yfD hr;obtain ⟨d,D⟩:=x;obtain ⟨Dy,Dtr,Dh,Da,DK⟩:=D;simp only at t1 t2 t3 h2 h3 h4 h5 y1 y2 y3;have ea:Da=acB (k+1) rest:=ymN t2 h2 rfl rfl;have eK:DK=coreB (k+1) (s+1:Nat) A A1 A2:=yk4 t3 h3 h4 h5 rfl;subst ea eK t1 y1 y2 y3;rfl
def Fits (pk:Int→Option (Nat × Nat)) (l:List (Nat × Nat)):Prop:= ∀a,pk a=if inB a l.length then some (l.getD a.toNat (0,0)) else none
theorem Fits.peek {pk:Int→Option (Nat × Nat)} {m:MemS} (h:Fits pk m.l) (a:Int):pk a=if inB a m.l.length then some (m.peek a) else none:=by
 rw [h a];unfold MemS.peek;split<;>rfl
def rdK (pk:Int→Option (Nat × Nat)) (S:TraceS) (frag k:Int):Option (Nat × Nat):=if S.okAt frag k then pk (frag*8+k) else none
theorem ybJ {pk:Int→Option (Nat × Nat)} {m:MemS} (h:Fits pk m.l) (S:TraceS) (frag k:Int):rdK pk S frag k=S.rd m frag k:=by
 unfold rdK TraceS.rd;rw [h.peek];cases S.okAt frag k
 · rfl
 · simp
namespace TrW
def headK (pk:Int→Option (Nat × Nat)) (w:TrW):TrW × Bool:=match rdK pk w.s w.s.head 1 with
 |none=>({ w with m:=w.s.rdM w.m w.s.head 1 },false)
 |some v=>({ w with m:=w.s.rdM w.m w.s.head 1,s:=(w.s.first v).1 },(w.s.first v).2)
def fieldK (pk:Int→Option (Nat × Nat)) (w:TrW):TrW × Bool:=match rdK pk w.s w.s.frag (w.s.words.headD 0) with
 |none=>({ w with m:=w.s.rdM w.m w.s.frag (w.s.words.headD 0) },false)
 |some v=>if wIs v=false then ({ w with m:=w.s.rdM w.m w.s.frag (w.s.words.headD 0) },false)
  else if (wIndex v).isSome then ({ w with m:=w.s.rdM w.m w.s.frag (w.s.words.headD 0),s:={ w.s with words:=w.s.words.tail,next:=(wIndex v).getD 0,pc:=2 } },true)
  else ({ w with m:=w.s.rdM w.m w.s.frag (w.s.words.headD 0),s:=TraceS.gone { w.s with words:=w.s.words.tail,next:=0 } },true)
def linkK (pk:Int→Option (Nat × Nat)) (w:TrW):TrW × Bool:=match rdK pk w.s w.s.frag 0 with
 |none=>({ w with m:=w.s.rdM w.m w.s.frag 0 },false)
 |some v=>match wIndex v with
  |none=>({ w with m:=w.s.rdM w.m w.s.frag 0 },false)
  |some i=>if i<w.s.c.frags then ({ w with m:=w.s.rdM w.m w.s.frag 0,s:={ w.s with frag:=i,pc:=4,j:=w.s.j+1 } },true) else ({ w with m:=w.s.rdM w.m w.s.frag 0 },false)
def lengthK (pk:Int→Option (Nat × Nat)) (w:TrW):TrW × Bool:=match rdK pk w.s w.s.head 2 with
 |none=>({ w with m:=w.s.rdM w.m w.s.head 2 },false)
 |some v=>match wInt v with
  |none=>({ w with m:=w.s.rdM w.m w.s.head 2,s:={ w.s with n:=0 } },false)
  |some n=>if n<0∨512<n then ({ w with m:=w.s.rdM w.m w.s.head 2,s:={ w.s with n:=n } },false) else ({ w with m:=w.s.rdM w.m w.s.head 2,s:={ w.s with n:=n,pc:=if n=0 then 9 else 6 } },true)
def modeK (pk:Int→Option (Nat × Nat)) (w:TrW):TrW × Bool:=match rdK pk w.s w.s.head 3 with
 |none=>({ w with m:=w.s.rdM w.m w.s.head 3 },false)
 |some v=>match wInt v with
  |none=>({ w with m:=w.s.rdM w.m w.s.head 3,s:={ w.s with mode:=0 } },false)
  |some n=>if n<0∨2<n∨decide (n=0)≠decide (sData w.s.n≤4) then ({ w with m:=w.s.rdM w.m w.s.head 3,s:={ w.s with mode:=n } },false)
   else ({ w with m:=w.s.rdM w.m w.s.head 3,s:={ w.s with mode:=n,pc:=if n=0 then 8 else 7 } },true)
def baseK (pk:Int→Option (Nat × Nat)) (w:TrW):TrW × Bool:=match rdK pk w.s w.s.head 4 with
 |none=>({ w with m:=w.s.rdM w.m w.s.head 4 },false)
 |some v=>if w.s.mode=1 then (match wInt v with
  |none=>({ w with m:=w.s.rdM w.m w.s.head 4,s:={ w.s with base:=0 } },false)
  |some a=>if a<0∨cWords w.s.c≤a then ({ w with m:=w.s.rdM w.m w.s.head 4,s:={ w.s with base:=a } },false) else ({ w with m:=w.s.rdM w.m w.s.head 4,s:={ w.s with base:=a,pc:=8 } },true))
  else (match wIndex v with
   |none=>({ w with m:=w.s.rdM w.m w.s.head 4,s:={ w.s with base:=0 } },false)
   |some i=>if w.s.c.frags<i+sData w.s.n then ({ w with m:=w.s.rdM w.m w.s.head 4,s:={ w.s with base:=i } },false) else ({ w with m:=w.s.rdM w.m w.s.head 4,s:={ w.s with base:=i,frag:=i+w.s.j,pc:=4 } },true))
def slotRdK (pk:Int→Option (Nat × Nat)) (w:TrW):Option (Nat × Nat):=if w.s.mode=0 then rdK pk w.s w.s.head (4+w.s.j) else pk (w.s.base+2+w.s.j)
def slotK (pk:Int→Option (Nat × Nat)) (w:TrW):TrW × Bool:=match slotRdK pk w with
 |none=>({ w with m:=w.slotM },false)
 |some v=>({ w with m:=w.slotM,s:={ w.s with frag:=(wIndex v).getD 0,pc:=4 } },(wIndex v).isSome&&decide ((wIndex v).getD 0<w.s.c.frags))
def doesK (pk:Int→Option (Nat × Nat)) (w:TrW):TrW × Bool:=
 if w.s.pc=0 then w.headK pk
 else if 5≤w.s.pc then (if w.s.pc=6 then w.modeK pk else if w.s.pc=7 then w.baseK pk else if w.s.pc=8 then w.slotK pk else w.lengthK pk)
 else if w.s.pc=2 then w.grey else if w.s.pc=3 then w.linkK pk else if w.s.pc=4 then w.part else w.fieldK pk
theorem ykq {pk:Int→Option (Nat × Nat)} {w:TrW} (h:Fits pk w.m.l):w.headK pk=w.head:=by
 unfold headK head;rw [ybJ h];rfl
theorem yiD {pk:Int→Option (Nat × Nat)} {w:TrW} (h:Fits pk w.m.l):w.fieldK pk=w.field:=by
 unfold fieldK field;rw [ybJ h];rfl
theorem ykx {pk:Int→Option (Nat × Nat)} {w:TrW} (h:Fits pk w.m.l):w.linkK pk=w.link:=by
 unfold linkK link;rw [ybJ h];rfl
theorem yhv {pk:Int→Option (Nat × Nat)} {w:TrW} (h:Fits pk w.m.l):w.lengthK pk=w.length:=by
 unfold lengthK length;rw [ybJ h];rfl
theorem ykB {pk:Int→Option (Nat × Nat)} {w:TrW} (h:Fits pk w.m.l):w.modeK pk=w.mode:=by
 unfold modeK mode;rw [ybJ h];rfl
theorem yj9 {pk:Int→Option (Nat × Nat)} {w:TrW} (h:Fits pk w.m.l):w.baseK pk=w.base:=by
 unfold baseK base;rw [ybJ h];rfl
theorem ykS {pk:Int→Option (Nat × Nat)} {w:TrW} (h:Fits pk w.m.l):w.slotK pk=w.slot:=by
 unfold slotK slot slotRdK slotRd;rw [ybJ h,h.peek];rfl
theorem ykh {pk:Int→Option (Nat × Nat)} {w:TrW} (h:Fits pk w.m.l):w.doesK pk=w.does:=by
 unfold doesK does;rw [ykq h,yiD h,ykx h,yhv h,ykB h,yj9 h,ykS h]
def stepK (pk:Int→Option (Nat × Nat)) (w:TrW):TrW:=if w.s.pc=9 then w else if (w.ticked.doesK pk).2 then (w.ticked.doesK pk).1 else (w.ticked.doesK pk).1.ended
theorem stepK_eq {pk:Int→Option (Nat × Nat)} {w:TrW} (h:Fits pk w.m.l):w.stepK pk=w.step:=by
 unfold stepK step;rw [ykh (w:=w.ticked) h]
end TrW
namespace CyW
def tracedOf (W:CyW) (w:TrW):CyW:=if w.s.pc==9 then { W.trPut w with y:={ W.y with e:=w.s.e } } else W.trPut w
def marksTraceOf (W:CyW) (w:TrW):CyW:=if w.s.pc==9 then (if W.y.rescan then ((W.tracedOf w).atY 0).follows else (W.tracedOf w).atY 0) else W.tracedOf w
def rootsGK (pk:Int→Option (Nat × Nat)) (W:CyW):Option CyW:=
 if W.y.at_=3 then some W.rootsGrey
 else if W.K.c.globals≤W.y.i∨W.y.at_=1 then some W.rootsPoll
 else if W.y.at_=0∧0≤W.y.i∧W.K.c.check=0 then (match pk (W.y.i+cAhead W.K.c 3) with
  |none=>none
  |some v=>(match wIndex v with
   |none=>some W.rootsNone
   |some h=>some (W.rootsSeen h))) else none
def marksGK (pk:Int→Option (Nat × Nat)) (W:CyW):Option CyW:=
 if W.y.at_=4 then (match W.tr with
  |none=>none
  |some S=>if cOk S.steps then some (W.marksTraceOf ((W.trW S).stepK pk)) else none)
 else W.marksG
def okN:Int→Bool
 |.ofNat k=>Nat.ble k 1099511627776
 |.negSucc _=>false
theorem ymx (n:Int):cOk n=okN n:=by
 cases n with
 |ofNat k=>
  unfold cOk okN;rw [Bool.eq_iff_iff,decide_eq_true_eq,Nat.ble_eq];constructor
  · intro h;have:=h.2;simp only [Int.ofNat_eq_natCast] at this;omega
  · intro h;simp only [Int.ofNat_eq_natCast];omega
 |negSucc k=>
  unfold cOk okN;rw [Bool.eq_iff_iff,decide_eq_true_eq];constructor
  · intro h;have:=h.1;omega
  · intro h;cases h
def bdK (W:CyW):Bool:=okN W.y.i&&(okN W.y.started&&(okN W.y.finished&&(okN W.y.freed&&(okN W.y.moved&&(okN W.y.steps&&(okN W.K.hand.count&&(okN W.K.sp.count&&(okN W.K.mem.count&&okN W.K.n))))))))
theorem yio (W:CyW):W.bdB=W.bdK:=by unfold bdB bdK;simp only [ymx]
def stageGK (pk:Int→Option (Nat × Nat)) (W:CyW):Option CyW:=if W.y.stage=9 then some W.sweepsY else if W.y.stage=4 then W.rootsGK pk else if W.y.stage=5 then W.marksGK pk else W.stageO
def stepGK (pk:Int→Option (Nat × Nat)) (W:CyW):Option CyW:=
 if (W.bdK&&(W.tick1.bdK&&W.y.e==0))=false then none
 else if W.y.stage=0 then some W.tick1.idles
 else W.tick1.stageGK pk
theorem yfI (W:CyW):W.tick1.K=W.K:=by unfold tick1;split<;>rfl
theorem stepGK_of {pk:Int→Option (Nat × Nat)} {W V:CyW} (h:Fits pk W.K.mem.l) (hV:W.stepGK pk=some V):W.stepG=some V:=by
 unfold stepGK at hV;unfold stepG;rw [←yio, ←yio] at hV;split at hV
 · cases hV
 rename_i hb
 rw [if_neg hb];split at hV
 · rename_i h0
   rw [if_pos h0];exact hV
 · rename_i h0
   rw [if_neg h0];have h1:Fits pk W.tick1.K.mem.l:=by rw [yfI];exact h
   generalize W.tick1=U at *;unfold stageGK at hV;unfold stageG;by_cases s9:U.y.stage=9
   · rw [if_pos s9] at hV;rw [if_neg zo,if_neg zo];unfold stageO;rw [if_neg zo,if_neg zo,if_neg zo,if_neg zo,if_neg zo,if_neg zo,if_neg zo,if_neg zo,if_pos s9];exact hV
   rw [if_neg s9] at hV;split at hV
   · rename_i s4
     rw [if_pos s4];unfold rootsGK at hV;unfold rootsG;split at hV
     · rename_i a3
       rw [if_pos a3];exact hV
     · rename_i a3
       rw [if_neg a3];split at hV
       · rename_i hp
         rw [if_pos hp];exact hV
       · rename_i hp
         rw [if_neg hp];split at hV
         · rename_i hc
           rw [h1.peek] at hV;cases hin:inB (U.y.i+cAhead U.K.c 3) U.K.mem.l.length
           · rw [hin] at hV;cases hV
           · rw [hin] at hV;rw [if_pos ⟨hc.1,hc.2.1,hc.2.2,rfl⟩];exact hV
         · cases hV
   · rename_i s4
     rw [if_neg s4];split at hV
     · rename_i s5
       rw [if_pos s5];unfold marksGK at hV;split at hV
       · rename_i a4
         unfold marksG;rw [if_neg zo,if_pos a4];cases hS:U.tr with
         |none=>rw [hS] at hV;cases hV
         |some S=>
          rw [hS] at hV;simp only at hV ⊢;rw [TrW.stepK_eq (w:=U.trW S) h1] at hV;exact hV
       · exact hV
     · rename_i s5
       rw [if_neg s5];exact hV
theorem ycj (W:CyW) (S:TraceS):(W.traced S).K.mem.l=W.K.mem.l:=by
 have h:=(ydH (W.trW S)).2.2.2.1;unfold traced;split<;>exact h
theorem yc2 (W:CyW):W.follows.K.mem.l=W.K.mem.l:=by unfold follows;split<;>rfl
theorem yeY (W:CyW):W.rootsPoll.K.mem.l=W.K.mem.l:=by
 have h:W.rootsV.K.mem.l=W.K.mem.l:=by unfold rootsV;split<;>rfl
 unfold rootsPoll;split
 · exact h
 · exact h
theorem ydX (W:CyW) (S:TraceS):(W.marksTrace S).K.mem.l=W.K.mem.l:=by
 unfold marksTrace;split
 · split
   · rw [yc2];exact ycj W S
   · exact ycj W S
 · exact ycj W S
theorem yh2 {W V:CyW} (h4:W.y.stage≠4) (h5:W.y.stage≠5) (h:W.stageO=some V):V.K.mem.l=W.K.mem.l:=by
 unfold stageO at h;rw [if_neg h4,if_neg h5] at h;by_cases s1:W.y.stage=1
 · rw [if_pos s1] at h;injection h with h;rw [←h];unfold starts;split<;>rfl
 rw [if_neg s1] at h;by_cases s2:W.y.stage=2
 · rw [if_pos s2] at h;injection h with h;rw [←h];unfold hands;split<;>first|rfl|(split<;>rfl)
 rw [if_neg s2] at h;by_cases s3:W.y.stage=3
 · rw [if_pos s3] at h;injection h with h;rw [←h];unfold hands;split<;>first|rfl|(split<;>rfl)
 rw [if_neg s3] at h;by_cases s6:W.y.stage=6
 · rw [if_pos s6] at h;injection h with h;rw [←h];unfold turns;split<;>first|rfl|(split<;>first|rfl|(split<;>rfl))
 rw [if_neg s6] at h;by_cases s7:W.y.stage=7
 · rw [if_pos s7] at h;unfold haulsO at h;split at h
   · split at h
     · injection h with h;rw [←h];rfl
     · cases h
   · split at h
     · injection h with h;rw [←h];rfl
     · cases h
 rw [if_neg s7] at h;by_cases s8:W.y.stage=8
 · rw [if_pos s8] at h;split at h
   · injection h with h;rw [←h];unfold settles;split<;>first|rfl|(split<;>rfl)
   · cases h
 rw [if_neg s8] at h;by_cases s9:W.y.stage=9
 · rw [if_pos s9] at h;injection h with h;rw [←h];unfold sweepsY;split<;>rfl
 rw [if_neg s9] at h;by_cases s10:W.y.stage=10
 · rw [if_pos s10] at h;split at h
   · injection h with h;rw [←h];unfold serves;split<;>first|rfl|(simp only;split<;>rfl)
   · cases h
 rw [if_neg s10] at h;cases h
theorem stepG_mem {W V:CyW} (h:W.stepG=some V):V.K.mem.l=W.K.mem.l:=by
 have tk:W.tick1.K.mem.l=W.K.mem.l:=by rw [yfI]
 unfold stepG at h;split at h
 · cases h
 by_cases s0:W.y.stage=0
 · rw [if_pos s0] at h;injection h with h;rw [←h, ←tk];unfold idles;split<;>rfl
 rw [if_neg s0] at h;rw [←tk];generalize W.tick1=U at *;unfold stageG at h;by_cases s4:U.y.stage=4
 · rw [if_pos s4] at h;unfold rootsG at h;split at h
   · injection h with h;rw [←h];rfl
   · split at h
     · injection h with h;rw [←h];exact yeY U
     · split at h
       · split at h
         · injection h with h;rw [←h];rfl
         · injection h with h;rw [←h];rfl
       · cases h
 rw [if_neg s4] at h;by_cases s5:U.y.stage=5
 · rw [if_pos s5] at h;unfold marksG at h;split at h
   · split at h
     · split at h
       · injection h with h;rw [←h];rfl
       · cases h
     · injection h with h;rw [←h];rfl
   · split at h
     · split at h
       · cases h
       · split at h
         · injection h with h;rw [←h];exact ydX U _
         · cases h
     · split at h
       · split at h
         · injection h with h;rw [←h];rfl
         · injection h with h;rw [←h];rfl
       · split at h
         · split at h
           · injection h with h;rw [←h];unfold marksScan;split
             · rfl
             · exact yc2 _
           · cases h
         · cases h
 rw [if_neg s5] at h;exact yh2 s4 s5 h
end CyW
namespace AcW
theorem yep (W:AcW):W.looks.K.mem=W.K.mem:=by unfold looks;split<;>rfl
theorem yfR (W:AcW):W.answers.K.mem=W.K.mem:=by unfold answers;split<;>rfl
theorem ygY (W:AcW):W.border.K.mem=W.K.mem:=by
 unfold border;split
 · split
   · exact yep W
   · split<;>exact yep W
 · split
   · split<;>exact yfR W
   · split
     · rfl
     · split<;>rfl
theorem stepL_mem {W:AcW} {r:AcR} (h:W.stepL=some r) (h1:W.a.phase=1):r.2.K.mem=W.K.mem:=by
 unfold stepL at h;split at h
 case isFalse=>cases h
 unfold step at h;split at h
 · cases h
 rw [if_neg (show¬W.a.phase=0 by omega)] at h;(try rw [if_pos h1] at h);split at h
 · injection h with h;rw [←h];exact ygY W
 · cases h
end AcW
namespace DuW
def roundK (pk:Int→Option (Nat × Nat)) (D:DuW):Option DuW:=match D.cy.stepGK pk with
 |none=>none
 |some V=>(D.putC V).answerG
def aroundK (pk:Int→Option (Nat × Nat)):Nat→Int→DuW→Option DuW
 |0,_,D=>some D
 |f+1,n,D=>if D.y.finished !=n then some D else match D.roundK pk with
  |none=>none
  |some E=>aroundK pk f n E
theorem yfQ {D E:DuW} (h:D.answerG=some E):E.K.mem=D.K.mem:=by
 rcases answerG_cases h with ⟨h1, -,h2⟩|⟨-,rfl⟩
 · rcases h2 with ⟨-,rfl⟩|⟨-,x,hx,rfl⟩
   · rfl
   · exact AcW.stepL_mem hx h1
 · rfl
theorem aroundK_of {pk:Int→Option (Nat × Nat)}: ∀{f:Nat} {n:Int} {D r:DuW},Fits pk D.K.mem.l→aroundK pk f n D=some r→aroundGo f n D=some r∧Fits pk r.K.mem.l
 |0,n,D,r,h,hr=>by unfold aroundK at hr;injection hr with hr;subst hr;exact ⟨rfl,h⟩
 |f+1,n,D,r,h,hr=>by
  unfold aroundK at hr;unfold aroundGo;split at hr
  · rename_i hn
    rw [if_pos hn];injection hr with hr;subst hr;exact ⟨rfl,h⟩
  · rename_i hn
    rw [if_neg hn];unfold roundK at hr;unfold roundG stepCg;cases hs:D.cy.stepGK pk with
    |none=>rw [hs] at hr;cases hr
    |some V=>
     rw [hs] at hr;have hg:=CyW.stepGK_of (W:=D.cy) h hs;rw [hg];simp only at hr ⊢;cases ha:(D.putC V).answerG with
     |none=>rw [ha] at hr;cases hr
     |some E=>
      rw [ha] at hr;have e1:E.K.mem.l=D.K.mem.l:=by rw [yfQ ha];exact CyW.stepG_mem hg
      exact aroundK_of (by rw [e1];exact h) hr
end DuW
theorem yek {α β:Type} {g:α→List β} (hg: ∀a,(g a).length=8): ∀(l:List α) (i w:Nat),w<8→(l.flatMap g)[i*8+w]?=(l[i]?).bind fun a=>(g a)[w]?
 |[],i,w,hw=>by simp
 |a::l,0,w,hw=>by
  rw [List.flatMap_cons,List.getElem?_append_left (by rw [hg];omega)];simp
 |a::l,i+1,w,hw=>by
  rw [List.flatMap_cons,List.getElem?_append_right (by rw [hg];omega),hg,show (i+1)*8+w-8=i*8+w by omega,yek hg l i w hw];simp
theorem ybm {α β:Type} {g:α→List β} (hg: ∀a,(g a).length=8): ∀(l:List α),(l.flatMap g).length=8*l.length
 |[]=>rfl
 |a::l=>by rw [List.flatMap_cons,List.length_append,hg,ybm hg l,List.length_cons];omega
theorem ya8 (n f:Nat):(wordsB n f).length=8:=by unfold wordsB;split<;>rfl
def memG (n:Nat) (g:Nat × Nat):List (Nat × Nat):=(List.range 200).flatMap (wordsB n)++[g]
def pkB (n:Nat) (g:Nat × Nat) (a:Int):Option (Nat × Nat):=if inB a 1601 then some (if a.toNat=1600 then g else (wordsB n (a.toNat/8)).getD (a.toNat%8) (0,0)) else none
theorem yej (n:Nat) (g:Nat × Nat):Fits (pkB n g) (memG n g):=by
 intro a
 have hl:(memG n g).length=1601:=by
  unfold memG;rw [List.length_append,ybm (ya8 n),List.length_range];rfl
 unfold pkB;rw [hl];cases hin:inB a 1601
 · rfl
 · obtain ⟨k,rfl,hk⟩:=yam hin;simp only [Int.toNat_natCast,if_true];congr 1
   unfold memG;by_cases h16:k=1600
   · subst h16;rw [if_pos rfl,List.getD_eq_getElem?_getD,List.getElem?_append_right (by rw [ybm (ya8 n),List.length_range];omega),ybm (ya8 n),List.length_range];rfl
   · rw [if_neg h16,List.getD_eq_getElem?_getD,List.getD_eq_getElem?_getD,List.getElem?_append_left (by rw [ybm (ya8 n),List.length_range];omega)];have e:=yek (ya8 n) (List.range 200) (k/8) (k%8) zo;rw [show k/8*8+k%8=k by omega,List.getElem?_range zo] at e;rw [e];rfl
def its':Nat→List Opr
 |0=>[]
 |n+1=>itOps++its' n
theorem yfr: ∀n,its' n++itOps=itOps++its' n
 |0=>by simp [its']
 |n+1=>by show (itOps++its' n)++itOps=itOps++(itOps++its' n);rw [List.append_assoc,yfr n]
theorem yi3: ∀n,itsOps n=its' n
 |0=>rfl
 |n+1=>by show itsOps n++itOps=itOps++its' n;rw [yi3 n,yfr]
def Its:Prop:= ∀k,k<60→itChk k=itWant k
theorem ycF (H:Its) {n:Nat} (hn:n≤60) (s:Nat) (A A1 A2:Option Addr) (f:Nat): ∀j,j≤n→DuW.builds (f+18*j) (4*n+2) (4*(n-j)) (duB (n-j) (its' j++tlOps) (s+1:Nat) A A1 A2)=DuW.builds f (4*n+2) (4*n) (duB n tlOps (s+1:Nat) A A1 A2)
 |0,_=>rfl
 |j+1,hj=>by
  obtain ⟨k,hk⟩: ∃k,n-(j+1)=k:=⟨_,rfl⟩;have hk1:n-j=k+1:=zo;have h1:=ymt (H k zo) (its' j++tlOps) s A A1 A2;rw [hk,show f+18*(j+1)=(f+18*j)+18 by omega,show its' (j+1)++tlOps=itOps++(its' j++tlOps) from List.append_assoc _ _ _];rw [DuW.builds_run h1 zo];have h2:=ycF H hn s A A1 A2 f j zo;rw [hk1] at h2;exact h2
theorem yga:(fun rest (s:Nat) A A1 A2=>DuW.runA 1 0 (listD (itsOps 0++rest) (s+1:Nat) A A1 A2))=fun rest s A A1 A2=>some (0,duB 0 rest (s+1:Nat) A A1 A2):=zQ
def tailEnd (n:Nat) (F:DuW):Bool:=F.a.phase==4&&(F.y.finished==1&&(F.K.mem.l==memG n zN&&(AcW.cntOk F.K.sp.count&&(match DuW.aroundK (pkB n zN) 60000 1 F.force with
 |none=>false
 |some G=>G.y.finished==2&&(G.y.e==0&&(G.K.sp.tab.cnt 2==0&&(G.y.freed==(n:Int)&&G.K.sp.pool.free==200)))))))
def tailMid (n:Nat) (D:DuW):Bool:=D.K.mem.l==memG n (zR (200-n))&&(AcW.cntOk D.K.sp.count&&(match DuW.aroundK (pkB n (zR (200-n))) 60000 0 D.force with
 |none=>false
 |some E=>(E.y.finished==1&&(E.y.e==0&&(E.K.sp.tab.cnt 2==n&&E.y.freed==0)))&&(match DuW.leavesGo 100 E with
  |none=>false
  |some F=>tailEnd n F)))
def tailOk (n:Nat) (st:Int) (A A1 A2:Option Addr):Bool:=match DuW.runA 3 (4*n) (duB n tlOps st A A1 A2) with
 |none=>false
 |some (d,D3)=>d==4*n+1&&(match D3.stepAg with
  |none=>false
  |some x=>x.1.2&&tailMid n x.2)
structure ListRun (n:Nat) (D0 D E F G:DuW):Prop where
 b:DuW.builds (18*n+5) (4*n+2) 0 D0=some (4*n+2,D)
 c1:0≤D.K.sp.count∧D.K.sp.count≤1099511627776
 f0:D.y.finished=0
 a1:DuW.aroundGo 60000 0 D.force=some E
 e1:E.y.finished=1∧E.y.e=0∧E.K.sp.tab.cnt 2=n∧E.y.freed=0
 l:DuW.leavesGo 100 E=some F
 p:F.a.phase=4
 f1:F.y.finished=1
 c2:0≤F.K.sp.count∧F.K.sp.count≤1099511627776
 a2:DuW.aroundGo 60000 1 F.force=some G
 e2:G.y.finished=2∧G.y.e=0∧G.K.sp.tab.cnt 2=0∧G.y.freed=(n:Int)∧G.K.sp.pool.free=200
theorem ykz (H:Its) {n:Nat} (hn:n≤60) {s:Nat} {A A1 A2:Option Addr} (h:tailOk n (s+1:Nat) A A1 A2=true): ∃D E F G,ListRun n (listD (opsList n) (s+1:Nat) A A1 A2) D E F G:=by
 unfold tailOk at h;cases h3:DuW.runA 3 (4*n) (duB n tlOps (s+1:Nat) A A1 A2) with
 |none=>rw [h3] at h;cases h
 |some q=>
  obtain ⟨d,D3⟩:=q;rw [h3] at h;simp only [Bool.and_eq_true,beq_iff_eq] at h;obtain ⟨rfl,h⟩:=h;cases hx:D3.stepAg with
  |none=>rw [hx] at h;cases h
  |some x=>
   rw [hx] at h;simp only [Bool.and_eq_true] at h;obtain ⟨hx2,h⟩:=h;obtain ⟨⟨xr,xb⟩,D⟩:=x;simp only at hx2 h;subst hx2;have hD3:=yfD h3
   have hy:D.y=CyS.fresh:=by
    have h9:=hD3.1;unfold DuW.stepAg at hx;cases hk:D3.ac.stepK with
    |none=>rw [hk] at hx;cases hx
    |some y=>rw [hk] at hx;injection hx with hx;injection hx with hx1 hx2;rw [←hx2];exact h9
   have hb:DuW.builds (18*n+5) (4*n+2) 0 (listD (opsList n) (s+1:Nat) A A1 A2)=some (4*n+2,D):=by
    have h0:=congrFun (congrFun (congrFun (congrFun (congrFun yga (its' n++tlOps)) s) A) A1) A2;rw [show itsOps 0++(its' n++tlOps)=opsList n from by unfold opsList;rw [yi3 n];rfl] at h0;rw [show 18*n+5=(0+1+3+18*n)+1 by omega,DuW.builds_run h0 zo];have h1:=ycF H hn s A A1 A2 (0+1+3) n (Nat.le_refl _);rw [Nat.sub_self] at h1;rw [show 4*0=0 from rfl] at h1;rw [h1,DuW.builds_run h3 zo,DuW.builds_succ,if_neg zo,hx];exact DuW.builds_end _ _
   unfold tailMid at h;simp only [Bool.and_eq_true,beq_iff_eq] at h;obtain ⟨hm1,hc1,h⟩:=h;cases hE:DuW.aroundK (pkB n (zR (200-n))) 60000 0 D.force with
   |none=>rw [hE] at h;cases h
   |some E=>
    rw [hE] at h;simp only [Bool.and_eq_true,beq_iff_eq] at h;obtain ⟨⟨e1,e2,e3,e4⟩,h⟩:=h;cases hF:DuW.leavesGo 100 E with
    |none=>rw [hF] at h;cases h
    |some F=>
     rw [hF] at h;unfold tailEnd at h;simp only [Bool.and_eq_true,beq_iff_eq] at h;obtain ⟨p4,f1,hm2,hc2,h⟩:=h;cases hG:DuW.aroundK (pkB n zN) 60000 1 F.force with
     |none=>rw [hG] at h;cases h
     |some G=>
      rw [hG] at h;simp only [Bool.and_eq_true,beq_iff_eq] at h;exact ⟨D,E,F,G,hb,of_decide_eq_true hc1,by rw [hy];rfl,(DuW.aroundK_of (by show Fits _ D.K.mem.l;rw [hm1];exact yej _ _) hE).1,⟨e1,e2,e3,e4⟩,hF,p4,f1,of_decide_eq_true hc2,(DuW.aroundK_of (by show Fits _ F.K.mem.l;rw [hm2];exact yej _ _) hG).1,h⟩
end Go.Proofs.YtdhjjpnajjingaaGreat
