import Derived.Test.YtdhjjpnajjingaaGreatKQ13
set_option linter.unusedVariables false
set_option linter.unnecessarySimpa false
set_option linter.unusedSimpArgs false
open Bool renaming true→zT,false→zU
open Go.Value renaming int→zI
open Go.IntKind renaming i64→z6
set_option maxHeartbeats 8000000
set_option maxRecDepth 100000
open Go.Proofs.Tryz
open Go.Lib renaming hid→zH
open Go.Ext renaming alloc→zA,patch→zP,drew→zD,drewN→zN,more→zM,refl→zR,setCell→zS
open Nat renaming le_refl→zL,le_add_right→zK
namespace Go
open Go.RowKit
theorem yau (l:List Opr) (k j:Nat) (o:Opr) (v:Value) (h:l[k]?=some o) (hv:o.cells[j]?=some v):(l.flatMap Opr.cells)[k*6+j]?=some v:=by
 induction l generalizing k with
 |nil=>simp at h
 |cons x l ih=>
  have hx:x.cells.length=6:=rfl;cases k with
  |zero=>
   simp at h;subst h;rw [Nat.zero_mul,Nat.zero_add,List.flatMap_cons,List.getElem?_append_left (by have:=(List.getElem?_eq_some_iff.1 hv).1;exact this)];exact hv
  |succ k=>
   rw [List.flatMap_cons,List.getElem?_append_right zo,hx,show (k+1)*6+j-6=k*6+j from zo];exact ih k (by simpa using h)
end Go
namespace Go.Proofs.YtdhjjpnajjingaaGreat
open Go Go.RowKit
section
variable {g:GW} {t b B k:Nat} {W:AcW} {p:AcP} {bm bs bt bp bsp bh:Nat} {cm:Cnf}
theorem ydW [TbId] (P:AcApart t B) (hd:W.BdW) (hck:W.K.c.check=0) (hl:(W.a.locals.length:Int)=W.K.c.locals) (H:AcIn g t B b k W p bm bs bt bp bsp bh cm) (ok oa ob oc on:Int) (x y:Nat) (hk:AcW.kindR ⟨ok,oa,ob,oc,on,x,y⟩=true) (r:AcR) (h:W.starts ⟨ok,oa,ob,oc,on,x,y⟩=some r):
 Calls prog 75 #[.pointer (some ⟨b,0,none⟩),.pointer (some ⟨k,0,none⟩),.agg #[.int .i64 ok,.int .i64 oa,.int .i64 ob,.int .i64 oc,.int .i64 on,.complex .f64 x y]] g.w (Does (resV r.1) g (acT t B) (fun g'=>AcWAt g' t B b k r.2)):=by
 have hk':ok=1:=by
  unfold AcW.kindR at hk;simpa only [beq_iff_eq] using hk
 have ho:opOk W.K.c ⟨ok,oa,ob,oc,on,x,y⟩=true:=by
  cases ho:opOk W.K.c ⟨ok,oa,ob,oc,on,x,y⟩
  · unfold AcW.starts at h;rw [if_pos ho] at h;cases h
  · rfl
 unfold AcW.starts at h;rw [if_neg (by rw [ho];simp)] at h;obtain rfl:=hk'
 · rw [if_neg (show¬(W.a.operandsE ⟨1,oa,ob,oc,on,x,y⟩≠0) from fun h=>h rfl)] at h;exact ycG P hd.next H hck oa ob oc on x y ho hd.sp hd.line r h
theorem ydY [TbId] (P:AcApart t B) (hd:W.BdW) (hck:W.K.c.check=0) (hl:(W.a.locals.length:Int)=W.K.c.locals) (hl2:W.a.locals.length≤1000) (hop:W.a.next<W.a.ops.length) (hw:W.okW=true) (H:AcIn g t B b k W p bm bs bt bp bsp bh cm) (r:AcR) (h:W.within=some r):
 Calls prog 41 #[.pointer (some ⟨b,0,none⟩),.pointer (some ⟨k,0,none⟩)] g.w (Does (resV r.1) g (acT t B) (fun g'=>AcWAt g' t B b k r.2)):=by
 have HH:=zH H;have HP:=zH P;have hPt:=P.ht;have hPb:=P.hb;have hPa:=P.apart;obtain ⟨i,hi⟩: ∃i:Nat,W.a.next=i:=⟨W.a.next.toNat,by have:=hd.next;omega⟩;have hil:i<W.a.ops.length:=zo;obtain ⟨o,ho⟩: ∃o,W.a.op=o:=⟨_,rfl⟩
 have hoi:W.a.ops[i]?=some o:=by
  rw [←ho];unfold AcS.op;rw [hi,Int.toNat_natCast,List.getD_eq_getElem?_getD,List.getElem?_eq_getElem hil];rfl
 obtain ⟨ok,oa,ob,oc,on,x,y⟩:=o;go_enter func41,ntmps41;go_upto_region 1 with fail
 obtain ⟨own0,m0,R0⟩:=yaI g 40 resZ;unfold resZ at m0 R0;generalize (g.w.alloc (.cells #[.int .i64 0,.int .i64 0,.int .i64 0,.bool false,.complex .f64 0 0] 40))=w0 at *;have H0:=zH (HH.out.keep0 m0);have M0:=zH (m0.mono (S:=acT t B) (fun _=>False.elim));have R0':=zH R0;clear m0 R0;obtain ⟨q,oo,hA,hq,hcell⟩:=H0.out.a.r.ops.cells.cases (by have:=yau W.a.ops i 0 ⟨ok,oa,ob,oc,on,x,y⟩ _ hoi rfl;have:=(List.getElem?_eq_some_iff.1 this).1;omega);have k0:=hcell (i*6+0) _ (yau W.a.ops i 0 ⟨ok,oa,ob,oc,on,x,y⟩ _ hoi rfl);have k1:=hcell (i*6+1) _ (yau W.a.ops i 1 ⟨ok,oa,ob,oc,on,x,y⟩ _ hoi rfl);have k2:=hcell (i*6+2) _ (yau W.a.ops i 2 ⟨ok,oa,ob,oc,on,x,y⟩ _ hoi rfl);have k3:=hcell (i*6+3) _ (yau W.a.ops i 3 ⟨ok,oa,ob,oc,on,x,y⟩ _ hoi rfl);have k4:=hcell (i*6+4) _ (yau W.a.ops i 4 ⟨ok,oa,ob,oc,on,x,y⟩ _ hoi rfl);have k5:=hcell (i*6+5) _ (yau W.a.ops i 5 ⟨ok,oa,ob,oc,on,x,y⟩ _ hoi rfl);simp only [←Nat.add_assoc,Nat.add_zero] at k0 k1 k2 k3 k4 k5 hq;clear hcell hoi;obtain ⟨a0,a1,a2,a3,a4,a5,a6,a7,a8,a9,a10,a11,a12,a13,a14,a15,a16,a17,a18,al⟩:=H0.out.a.blk.k19;rw [hA] at a1;rw [hi] at a6;clear hA H;generalize W.a.ops.length=nl at *
 refine yab [zT,zT,zT,zT,zT,zT,zT,zT,zT,zT,zU,zU] 2 11 ?_;intro X00;simp only [pickOps];repeat (go_big_quiet_step (fail))
 refine wpQuiet_nil (fun X0=>?_);clear X00;refine yae 10 _ zQ rfl rfl zd (fun X1 K Q' hK=>?_);go_simp;refine hK _ _ ?_ ?_
 · exact zE
 clear hK K Q';refine yad rfl zQ (fun X2=>?_);simp only [List.drop_succ_cons,List.drop_zero];go_upto_region 2 with fail
 obtain ⟨own1,m1,N1,hN⟩:=ydP own0 w0 ⟨X0.blocks++X1.blocks,X1.drawn⟩ X2 26 [.int .i64 ok,.int .i64 oa,.int .i64 ob,.int .i64 oc,.int .i64 on,.complex .f64 x y];have M1:=zH (M0.out.trans (m1.mono (S:=acT t B) (fun _=>False.elim)));have H1:=zH (H0.out.keep0 m1);have R1:=zH (R0'.out.keep m1 id);clear k0 k1 k2 k3 k4 k5 hq a0 a1 a2 a3 a4 a5 a6 a7 a8 a9 a10 a11 a12 a13 a14 a15 a16 a17 a18 al m1 M0 H0 R0' hN;generalize ((w0.patch ⟨X0.blocks++X1.blocks,X1.drawn⟩).alloc (.cells #[.int .i64 ok,.int .i64 oa,.int .i64 ob,.int .i64 oc,.int .i64 on,.complex .f64 x y] 26)).patch X2=w1 at *;generalize (w0.patch ⟨X0.blocks++X1.blocks,X1.drawn⟩).heap.size=qn at *;clear X0 X1 X2;obtain ⟨x0,x1,x2,x3,x4,x5,xl⟩:=N1.k6;clear N1;unfold AcW.okW at hw;rw [ho] at hw;simp only [Bool.and_eq_true,Bool.or_eq_true,bne_iff_ne,ne_eq] at hw;obtain ⟨hwk,hw9,hw1,hw2,hw8,hw7⟩:=hw;obtain ⟨⟨rr,rb⟩,rW⟩:=r;unfold AcW.within at h;rw [ho] at h;have hnx:=hd.next;by_cases h0:W.a.at_=0
 · rw [if_pos h0] at h;have HCL:=zH (show Calls prog 75 #[.pointer (some ⟨b,0,none⟩),.pointer (some ⟨k,0,none⟩),.agg #[.int .i64 ok,.int .i64 oa,.int .i64 ob,.int .i64 oc,.int .i64 on,.complex .f64 x y]] w1 (Does (.tuple #[.agg #[.int .i64 rr.op,.int .i64 rr.own,.int .i64 rr.e,.bool rr.v.ref,.complex .f64 rr.v.z.1 rr.v.z.2],.bool rb]) ⟨own1,w1⟩ (acT t B) (fun g'=>AcWAt g' t B b k rW)) from ydW (g:=⟨own1,w1⟩) P hd hck hl H1.out ok oa ob oc on x y hwk ((rr,rb),rW) h);obtain ⟨a0,a1,a2,a3,a4,a5,a6,a7,a8,a9,a10,a11,a12,a13,a14,a15,a16,a17,a18,al⟩:=H1.out.a.blk.k19;rw [h0] at a11;clear h hw1 hw2 hw7 hw8 hw9 h0;go_wp2_with fail;refine HCL.out.mono ?_;rintro e w7 ⟨rfl,own7,m7,h7⟩;have M7:=zH (M1.out.trans m7);have H7:=zH h7;have R7:=zH (R1.out.keep m7 (fun h=>by unfold acT at h;omega));clear M1 H1 R1 m7 h7 HCL;obtain ⟨r0,r1,r2,r3,r4,rl⟩:=R7.out.k5;have rf0:=R7.out.liv 0;have rf1:=R7.out.liv 1;have rf2:=R7.out.liv 2;have rf3:=R7.out.liv 3;have rf4:=R7.out.liv 4;go_wp2_with fail;obtain ⟨Mf,mf,Rf⟩:=yaf M7.out R7.out (Nat.le_refl _) (rr.op) (rr.own) (rr.e) (rr.v.ref) (rr.v.z.1) (rr.v.z.2)
   generalize ((((((w7).setCell ⟨g.w.heap.size,0,none⟩ (zI z6 (rr.op))).setCell ⟨g.w.heap.size,1,none⟩ (zI z6 (rr.own))).setCell ⟨g.w.heap.size,2,none⟩ (zI z6 (rr.e))).setCell ⟨g.w.heap.size,3,none⟩ (.bool (rr.v.ref))).setCell ⟨g.w.heap.size,4,none⟩ (.complex .f64 (rr.v.z.1) (rr.v.z.2)))=wf at *;obtain ⟨f0,f1,f2,f3,f4,fl⟩:=Rf.k5;refine bodyPost_ret (v:=.tuple #[.agg #[.int .i64 (rr.op),.int .i64 (rr.own),.int .i64 (rr.e),.bool (rr.v.ref),.complex .f64 (rr.v.z.1) (rr.v.z.2)],.bool rb]) (by simp [results,Tryz.results41,go_sem,f0,f1,f2,f3,f4]) rfl ?_;obtain ⟨p5,bm5,bs5,bt5,bp5,bsp5,bh5,cm5,h8⟩:=H7.out;exact Does.of ⟨own7,wf⟩ rfl rfl Mf ((h8.keep mf zo (fun x (hx:x=9)=>by omega) (fun x (hx:x=9)=>by omega)).at_)
 rw [if_neg h0] at h;by_cases h7:W.a.at_=7
 · rw [if_pos h7] at h;have hwr:=hw7.resolve_left (fun hh=>hh h7);unfold AcW.wrOk at hwr;split at hwr
   case h_2=>cases hwr
   case h_1 av cx cy l hwe=>
    rw [hwe] at h;simp only at h;split at h
    case isFalse=>cases h
    case isTrue hin=>
     injection h with h;have HCL:=zH (show Calls prog 78 #[.pointer (some ⟨b,0,none⟩),.pointer (some ⟨k,0,none⟩)] w1 (Does (.tuple #[.agg #[.int .i64 rr.op,.int .i64 rr.own,.int .i64 rr.e,.bool rr.v.ref,.complex .f64 rr.v.z.1 rr.v.z.2],.bool rb]) ⟨own1,w1⟩ (acT t B) (fun g'=>AcWAt g' t B b k rW)) from (by have h9:=yeR (g:=⟨own1,w1⟩) P hd.mem H1.out av cx cy l hwe hin;rw [h] at h9;exact h9));obtain ⟨a0,a1,a2,a3,a4,a5,a6,a7,a8,a9,a10,a11,a12,a13,a14,a15,a16,a17,a18,al⟩:=H1.out.a.blk.k19;rw [h7] at a11;clear h hw1 hw2 hw7 hw8 hw9 h0 h7;go_wp2_with fail;refine HCL.out.mono ?_;rintro e w7 ⟨rfl,own7,m7,h7⟩;have M7:=zH (M1.out.trans m7);have H7:=zH h7;have R7:=zH (R1.out.keep m7 (fun h=>by unfold acT at h;omega));clear M1 H1 R1 m7 h7 HCL;obtain ⟨r0,r1,r2,r3,r4,rl⟩:=R7.out.k5;have rf0:=R7.out.liv 0;have rf1:=R7.out.liv 1;have rf2:=R7.out.liv 2;have rf3:=R7.out.liv 3;have rf4:=R7.out.liv 4;go_wp2_with fail;obtain ⟨Mf,mf,Rf⟩:=yaf M7.out R7.out (Nat.le_refl _) (rr.op) (rr.own) (rr.e) (rr.v.ref) (rr.v.z.1) (rr.v.z.2)
     generalize ((((((w7).setCell ⟨g.w.heap.size,0,none⟩ (zI z6 (rr.op))).setCell ⟨g.w.heap.size,1,none⟩ (zI z6 (rr.own))).setCell ⟨g.w.heap.size,2,none⟩ (zI z6 (rr.e))).setCell ⟨g.w.heap.size,3,none⟩ (.bool (rr.v.ref))).setCell ⟨g.w.heap.size,4,none⟩ (.complex .f64 (rr.v.z.1) (rr.v.z.2)))=wf at *;obtain ⟨f0,f1,f2,f3,f4,fl⟩:=Rf.k5;refine bodyPost_ret (v:=.tuple #[.agg #[.int .i64 (rr.op),.int .i64 (rr.own),.int .i64 (rr.e),.bool (rr.v.ref),.complex .f64 (rr.v.z.1) (rr.v.z.2)],.bool rb]) (by simp [results,Tryz.results41,go_sem,f0,f1,f2,f3,f4]) rfl ?_;obtain ⟨p5,bm5,bs5,bt5,bp5,bsp5,bh5,cm5,h8⟩:=H7.out;exact Does.of ⟨own7,wf⟩ rfl rfl Mf ((h8.keep mf zo (fun x (hx:x=9)=>by omega) (fun x (hx:x=9)=>by omega)).at_)
 rw [if_neg h7] at h;by_cases h8:W.a.at_=8
 · rw [if_pos h8] at h;have hoa:=yfg (hw8.resolve_left (fun hh=>hh h8));split at h
   case isFalse=>cases h
   case isTrue hc=>
    obtain ⟨hg,hst,hb0,hb1⟩:=hc;obtain ⟨gi,gl,hgl⟩:=List.exists_cons_of_ne_nil hg;rw [hgl] at hst hb0 hb1;simp only [List.headD_cons] at hst hb0 hb1;injection h with h;have HCL:=zH (show Calls prog 79 #[.pointer (some ⟨b,0,none⟩),.pointer (some ⟨k,0,none⟩),.agg #[.int .i64 ok,.int .i64 oa,.int .i64 ob,.int .i64 oc,.int .i64 on,.complex .f64 x y]] w1 (Does (.tuple #[.agg #[.int .i64 rr.op,.int .i64 rr.own,.int .i64 rr.e,.bool rr.v.ref,.complex .f64 rr.v.z.1 rr.v.z.2],.bool rb]) ⟨own1,w1⟩ (acT t B) (fun g'=>AcWAt g' t B b k rW)) from (by have h9:=yeO (g:=⟨own1,w1⟩) P hd.sp hd.next H1.out ok oa ob oc on x y zo gi gl hgl hst ⟨hb0,hb1⟩;rw [h] at h9;exact h9));obtain ⟨a0,a1,a2,a3,a4,a5,a6,a7,a8,a9,a10,a11,a12,a13,a14,a15,a16,a17,a18,al⟩:=H1.out.a.blk.k19;rw [h8] at a11;clear h hw1 hw2 hw7 hw8 hw9 h0 h7 h8;go_wp2_with fail;refine HCL.out.mono ?_;rintro e w7 ⟨rfl,own7,m7,h7⟩;have M7:=zH (M1.out.trans m7);have H7:=zH h7;have R7:=zH (R1.out.keep m7 (fun h=>by unfold acT at h;omega));clear M1 H1 R1 m7 h7 HCL;obtain ⟨r0,r1,r2,r3,r4,rl⟩:=R7.out.k5;have rf0:=R7.out.liv 0;have rf1:=R7.out.liv 1;have rf2:=R7.out.liv 2;have rf3:=R7.out.liv 3;have rf4:=R7.out.liv 4;go_wp2_with fail
    obtain ⟨Mf,mf,Rf⟩:=yaf M7.out R7.out (Nat.le_refl _) (rr.op) (rr.own) (rr.e) (rr.v.ref) (rr.v.z.1) (rr.v.z.2);generalize ((((((w7).setCell ⟨g.w.heap.size,0,none⟩ (zI z6 (rr.op))).setCell ⟨g.w.heap.size,1,none⟩ (zI z6 (rr.own))).setCell ⟨g.w.heap.size,2,none⟩ (zI z6 (rr.e))).setCell ⟨g.w.heap.size,3,none⟩ (.bool (rr.v.ref))).setCell ⟨g.w.heap.size,4,none⟩ (.complex .f64 (rr.v.z.1) (rr.v.z.2)))=wf at *;obtain ⟨f0,f1,f2,f3,f4,fl⟩:=Rf.k5;refine bodyPost_ret (v:=.tuple #[.agg #[.int .i64 (rr.op),.int .i64 (rr.own),.int .i64 (rr.e),.bool (rr.v.ref),.complex .f64 (rr.v.z.1) (rr.v.z.2)],.bool rb]) (by simp [results,Tryz.results41,go_sem,f0,f1,f2,f3,f4]) rfl ?_;obtain ⟨p5,bm5,bs5,bt5,bp5,bsp5,bh5,cm5,h8⟩:=H7.out;exact Does.of ⟨own7,wf⟩ rfl rfl Mf ((h8.keep mf zo (fun x (hx:x=9)=>by omega) (fun x (hx:x=9)=>by omega)).at_)
 rw [if_neg h8] at h;cases h
end
end Go.Proofs.YtdhjjpnajjingaaGreat
namespace Go.Proofs.YtdhjjpnajjingaaGreat
open Go Go.RowKit
section
variable {g:GW} {t b B k:Nat} {W:AcW}
theorem ydX [TbId] (P:AcApart t B) (H:AcWAt g t B b k W) (hol:W.a.ops.length≤1000000) (r:AcR) (h:W.stepL=some r):
 Calls prog 10 #[.pointer (some ⟨b,0,none⟩),.pointer (some ⟨k,0,none⟩)] g.w (Does (resV r.1) g (acT t B) (fun g'=>AcWAt g' t B b k r.2)):=by
 unfold AcW.stepL at h;cases hR:W.okL
 · rw [hR] at h;cases h
 rw [hR,if_pos rfl] at h;unfold AcW.okL at hR;simp only [Bool.and_eq_true,Bool.or_eq_true,bne_iff_ne,ne_eq,decide_eq_true_eq,beq_iff_eq] at hR;obtain ⟨h3,hw,hl2,hck⟩:=hR;unfold AcW.step at h;cases hbd:W.bdB
 · rw [hbd,if_pos rfl] at h;cases h
 rw [if_neg (by rw [hbd];simp)] at h;have hd:=bdB_of hbd;obtain ⟨p,bm,bs,bt,bp,bsp,bh,cm,H⟩:=H;have HH:=zH H;have HP:=zH P;have hPt:=P.ht;have hPb:=P.hb;have hPa:=P.apart;go_enter func10,ntmps10;go_upto_region 1 with fail
 obtain ⟨own0,M0,R0⟩:=yaI g 40 resZ;unfold resZ at M0 R0;generalize (g.w.alloc (.cells #[.int .i64 0,.int .i64 0,.int .i64 0,.bool false,.complex .f64 0 0] 40))=w0 at *;have M0':=zH M0;have R0':=zH R0;clear M0 R0;have H0:=zH (HH.out.keep0 M0'.out);have M0:=zH (M0'.out.mono (S:=acT t B) (fun _=>False.elim));obtain ⟨a0,a1,a2,a3,a4,a5,a6,a7,a8,a9,a10,a11,a12,a13,a14,a15,a16,a17,a18,al⟩:=H0.out.a.blk.k19;clear H M0';by_cases h0:W.a.phase=0
 · rw [if_pos h0] at h;injection h with h;have HJ:=zH (fun X=>yfc ((⟨own0,w0⟩:GW).pt X) (B+63) bh W.a.t W.K.hand (H0.out.pt X).c.hand hd.hand);obtain ⟨c0,c1,c2,c3,c4,c5,c6,c7,c8,c9,c10,c11,c12,cl⟩:=H0.out.c.blk.k13;rw [h0] at a3;cases hj:W.K.hand.mayJoin W.a.t
   · have HD:=zH (show W.joins={ a:={ W.a with phase:=4 },K:={ W.K with hand:=W.K.hand.join W.a.t } } by unfold AcW.joins;rw [hj];rfl);rw [show W.K.hand.joined W.a.t=.tuple #[.int .i64 0,.bool false,.bool false] by unfold HandS.joined;rw [hj];rfl] at HJ;clear hj h0 h3 hw;go_upto_region 3 with fail
     refine yaQ [] [zT,zT,zT,zT,zT,zT,zT,zT] 8 7 ?_;intro X00;simp only [pickOps,movesAct,moveOf,List.getElem?_toArray,List.getElem?_cons_zero,List.getElem?_cons_succ];(try go_simp);repeat (go_big_quiet_step (fail))
     refine wpQuiet_nil (fun X0 K Q' hK=>?_);clear X00;(try go_simp);refine (HJ.out _).mono ?_;rintro e w1 ⟨rfl,own1,m1,h1⟩;have P1:=(Mod.pt (Mod.refl _ _) _).trans m1;have M1:=zH (M0.out.trans (P1.mono (S:=acT t B) (fun x hx=>yaM hx)));have H1:=zH (H0.out.hand HP.out P1 h1);have R1:=zH (R0'.out.keep P1 zo);clear P1 m1 h1 HJ H0 M0 R0';clear a0 a1 a2 a3 a4 a5 a6 a7 a8 a9 a10 a11 a12 a13 a14 a15 a16 a17 a18 al;clear c0 c1 c2 c3 c4 c5 c6 c7 c8 c9 c10 c11 c12 cl;obtain ⟨a0,a1,a2,a3,a4,a5,a6,a7,a8,a9,a10,a11,a12,a13,a14,a15,a16,a17,a18,al⟩:=H1.out.a.blk.k19;have af3:=H1.out.a.blk.liv 3;(try go_simp);refine hK _ _ ?_;clear hK K Q';refine yah (v:=.tuple #[.int .i64 0,.bool false,.bool false]) 9 ?_;(try go_simp);refine yah (v:=.int .i64 0) 10 ?_;(try go_simp);refine yah (v:=.bool false) 11 ?_;(try go_simp);refine yah (v:=.bool false) 12 ?_;(try go_simp);refine yam 13 (fun K Q' hK=>?_);(try go_simp);refine hK _ _ ?_;clear hK K Q';refine yam 14 (fun K Q' hK=>?_);(try go_simp);refine hK _ _ ?_;clear hK K Q';refine yam 15 (fun K Q' hK=>?_);(try go_simp);refine hK _ _ ?_;clear hK K Q';refine wpAny_done zQ ?_ _
     have H2:=zH (H1.out.set HP.out 3 (zI z6 4) { W.a with phase:=4 } rfl ⟨rfl,rfl,rfl,rfl,rfl,rfl⟩);have m2:Mod (fun x=>x=t) (⟨own1,w1⟩:GW) ⟨own1,w1.setCell ⟨b,3,none⟩ (zI z6 4)⟩:=Mod.st (Mod.refl _ _) H1.out.a.blk.own;have M2:=zH (M1.out.trans (m2.mono (S:=acT t B) (fun x hx=>yb1 hx)));have R2:=zH (R1.out.keep m2 zo);go_upto_region 16 with fail
     generalize w1.setCell ⟨b,3,none⟩ (zI z6 4)=w2 at *;clear m2 M1 H1 R1;obtain ⟨r0,r1,r2,r3,r4,rl⟩:=R2.out.k5;have rf0:=R2.out.liv 0;have rf1:=R2.out.liv 1;have rf2:=R2.out.liv 2;have rf3:=R2.out.liv 3;have rf4:=R2.out.liv 4;go_wp2_with fail;obtain ⟨Mf,mf,Rf⟩:=yaf M2.out R2.out (Nat.le_refl _) (0) (0) (0) (false) (0) (0);generalize ((((((w2).setCell ⟨g.w.heap.size,0,none⟩ (zI z6 (0))).setCell ⟨g.w.heap.size,1,none⟩ (zI z6 (0))).setCell ⟨g.w.heap.size,2,none⟩ (zI z6 (0))).setCell ⟨g.w.heap.size,3,none⟩ (.bool (false))).setCell ⟨g.w.heap.size,4,none⟩ (.complex .f64 (0) (0)))=wf at *;obtain ⟨f0,f1,f2,f3,f4,fl⟩:=Rf.k5;refine bodyPost_ret (v:=.tuple #[.agg #[.int .i64 (0),.int .i64 (0),.int .i64 (0),.bool (false),.complex .f64 (0) (0)],.bool false]) (by simp [results,Tryz.results10,go_sem,f0,f1,f2,f3,f4]) rfl ?_;exact Does.of ⟨own1,wf⟩ rfl (by rw [←h];rfl) Mf (by rw [←h,show W.joins.no.2=W.joins from rfl,HD.out];exact (H2.out.keep mf zo (fun x (hx:x=9)=>by omega) (fun x (hx:x=9)=>by omega)).at_)
   · have HD:=zH (show W.joins={ a:={ W.a with status:=W.K.hand.status,sense:=W.K.hand.sense,phase:=1,pc:=0 },K:={ W.K with hand:=W.K.hand.join W.a.t } } by unfold AcW.joins;rw [hj];rfl);rw [show W.K.hand.joined W.a.t=.tuple #[.int .i64 W.K.hand.status,.bool W.K.hand.sense,.bool true] by unfold HandS.joined;rw [hj];rfl] at HJ;generalize W.K.hand.status=st at *;generalize W.K.hand.sense=se at *;clear hj h0 h3 hw;go_upto_region 3 with fail
     refine yaQ [] [zT,zT,zT,zT,zT,zT,zT,zT] 8 7 ?_;intro X00;simp only [pickOps,movesAct,moveOf,List.getElem?_toArray,List.getElem?_cons_zero,List.getElem?_cons_succ];(try go_simp);repeat (go_big_quiet_step (fail))
     refine wpQuiet_nil (fun X0 K Q' hK=>?_);clear X00;(try go_simp);refine (HJ.out _).mono ?_;rintro e w1 ⟨rfl,own1,m1,h1⟩;have P1:=(Mod.pt (Mod.refl _ _) _).trans m1;have M1:=zH (M0.out.trans (P1.mono (S:=acT t B) (fun x hx=>yaM hx)));have H1:=zH (H0.out.hand HP.out P1 h1);have R1:=zH (R0'.out.keep P1 zo);clear P1 m1 h1 HJ H0 M0 R0';clear a0 a1 a2 a3 a4 a5 a6 a7 a8 a9 a10 a11 a12 a13 a14 a15 a16 a17 a18 al;clear c0 c1 c2 c3 c4 c5 c6 c7 c8 c9 c10 c11 c12 cl;obtain ⟨a0,a1,a2,a3,a4,a5,a6,a7,a8,a9,a10,a11,a12,a13,a14,a15,a16,a17,a18,al⟩:=H1.out.a.blk.k19;have af3:=H1.out.a.blk.liv 3;have af4:=H1.out.a.blk.liv 4;have af5:=H1.out.a.blk.liv 5;have af7:=H1.out.a.blk.liv 7;(try go_simp);refine hK _ _ ?_;clear hK K Q';refine yah (v:=.tuple #[.int .i64 st,.bool se,.bool true]) 9 ?_;(try go_simp);refine yah (v:=.int .i64 st) 10 ?_;(try go_simp);refine yah (v:=.bool se) 11 ?_;(try go_simp);refine yah (v:=.bool true) 12 ?_;(try go_simp);refine yam 13 (fun K Q' hK=>?_);(try go_simp);refine hK _ _ ?_;clear hK K Q';refine yam 14 (fun K Q' hK=>?_);(try go_simp);refine hK _ _ ?_;clear hK K Q';refine yam 15 (fun K Q' hK=>?_);(try go_simp);refine hK _ _ ?_;clear hK K Q'
     refine wpAny_done zQ ?_ _;have H2:=zH ((((H1.out.set HP.out 4 (zI z6 st) { W.a with status:=st } rfl ⟨rfl,rfl,rfl,rfl,rfl,rfl⟩).set HP.out 5 (.bool se) { W.a with status:=st,sense:=se } rfl ⟨rfl,rfl,rfl,rfl,rfl,rfl⟩).set HP.out 3 (zI z6 1) { W.a with status:=st,sense:=se,phase:=1 } rfl ⟨rfl,rfl,rfl,rfl,rfl,rfl⟩).set HP.out 7 (zI z6 0) { W.a with status:=st,sense:=se,phase:=1,pc:=0 } rfl ⟨rfl,rfl,rfl,rfl,rfl,rfl⟩);have m2:Mod (fun x=>x=t) (⟨own1,w1⟩:GW) ⟨own1,(((w1.setCell ⟨b,4,none⟩ (zI z6 st)).setCell ⟨b,5,none⟩ (.bool se)).setCell ⟨b,3,none⟩ (zI z6 1)).setCell ⟨b,7,none⟩ (zI z6 0)⟩:=Mod.st (Mod.st (Mod.st (Mod.st (Mod.refl _ _) H1.out.a.blk.own) H1.out.a.blk.own) H1.out.a.blk.own) H1.out.a.blk.own;have M2:=zH (M1.out.trans (m2.mono (S:=acT t B) (fun x hx=>yb1 hx)));have R2:=zH (R1.out.keep m2 zo);go_upto_region 16 with fail
     generalize (((w1.setCell ⟨b,4,none⟩ (zI z6 st)).setCell ⟨b,5,none⟩ (.bool se)).setCell ⟨b,3,none⟩ (zI z6 1)).setCell ⟨b,7,none⟩ (zI z6 0)=w2 at *;clear m2 M1 H1 R1;obtain ⟨r0,r1,r2,r3,r4,rl⟩:=R2.out.k5;have rf0:=R2.out.liv 0;have rf1:=R2.out.liv 1;have rf2:=R2.out.liv 2;have rf3:=R2.out.liv 3;have rf4:=R2.out.liv 4;go_wp2_with fail;obtain ⟨Mf,mf,Rf⟩:=yaf M2.out R2.out (Nat.le_refl _) (0) (0) (0) (false) (0) (0);generalize ((((((w2).setCell ⟨g.w.heap.size,0,none⟩ (zI z6 (0))).setCell ⟨g.w.heap.size,1,none⟩ (zI z6 (0))).setCell ⟨g.w.heap.size,2,none⟩ (zI z6 (0))).setCell ⟨g.w.heap.size,3,none⟩ (.bool (false))).setCell ⟨g.w.heap.size,4,none⟩ (.complex .f64 (0) (0)))=wf at *;obtain ⟨f0,f1,f2,f3,f4,fl⟩:=Rf.k5;refine bodyPost_ret (v:=.tuple #[.agg #[.int .i64 (0),.int .i64 (0),.int .i64 (0),.bool (false),.complex .f64 (0) (0)],.bool false]) (by simp [results,Tryz.results10,go_sem,f0,f1,f2,f3,f4]) rfl ?_;exact Does.of ⟨own1,wf⟩ rfl (by rw [←h];rfl) Mf (by rw [←h,show W.joins.no.2=W.joins from rfl,HD.out];exact (H2.out.keep mf zo (fun x (hx:x=9)=>by omega) (fun x (hx:x=9)=>by omega)).at_)
 rw [if_neg h0] at h;by_cases h1:W.a.phase=1
 · rw [if_pos h1] at h;split at h
   case isFalse=>cases h
   case isTrue hg=>
    injection h with h;have HB:=zH (ydV (g:=⟨own0,w0⟩) P hbd hg hl2 hol H0.out.at_);rw [h1] at a3;clear h0 h1 h3 hw hg hbd;go_wp2_with fail;refine HB.out.mono ?_;rintro e w1 ⟨rfl,own1,m1,h1⟩;obtain ⟨p1,bm1,bs1,bt1,bp1,bsp1,bh1,cm1,h1⟩:=h1;have M1:=zH (M0.out.trans m1);have H1:=zH h1;have R1:=zH (R0'.out.keep m1 (fun h=>by unfold acT at h;omega));clear m1 h1 HB H0 M0 R0';clear a0 a1 a2 a3 a4 a5 a6 a7 a8 a9 a10 a11 a12 a13 a14 a15 a16 a17 a18 al;obtain ⟨r0,r1,r2,r3,r4,rl⟩:=R1.out.k5;have rf0:=R1.out.liv 0;have rf1:=R1.out.liv 1;have rf2:=R1.out.liv 2;have rf3:=R1.out.liv 3;have rf4:=R1.out.liv 4;go_wp2_with fail;obtain ⟨Mf,mf,Rf⟩:=yaf M1.out R1.out (Nat.le_refl _) (0) (0) (0) (false) (0) (0);generalize ((((((w1).setCell ⟨g.w.heap.size,0,none⟩ (zI z6 (0))).setCell ⟨g.w.heap.size,1,none⟩ (zI z6 (0))).setCell ⟨g.w.heap.size,2,none⟩ (zI z6 (0))).setCell ⟨g.w.heap.size,3,none⟩ (.bool (false))).setCell ⟨g.w.heap.size,4,none⟩ (.complex .f64 (0) (0)))=wf at *;obtain ⟨f0,f1,f2,f3,f4,fl⟩:=Rf.k5
    refine bodyPost_ret (v:=.tuple #[.agg #[.int .i64 (0),.int .i64 (0),.int .i64 (0),.bool (false),.complex .f64 (0) (0)],.bool false]) (by simp [results,Tryz.results10,go_sem,f0,f1,f2,f3,f4]) rfl ?_;exact Does.of ⟨own1,wf⟩ rfl (by rw [←h];rfl) Mf (by rw [←h];exact (H1.out.keep mf zo (fun x (hx:x=9)=>by omega) (fun x (hx:x=9)=>by omega)).at_)
 rw [if_neg h1] at h;by_cases h2:W.a.phase=2
 · rw [if_pos h2] at h;split at h
   case isFalse=>cases h
   case isTrue hg=>
    rw [Bool.and_eq_true] at hg;obtain ⟨hg1,hg2⟩:=hg;have hop:W.a.next<W.a.ops.length:=of_decide_eq_true hg1;have hlo:(W.a.locals.length:Int)=W.K.c.locals:=of_decide_eq_true hg2;have hwk:=hw.resolve_left (fun hh=>hh h2);have eo:=IntWalk.i64_in (W.a.own+1) (by have:=hd.own;omega);have H1:=zH (show AcIn ⟨own0,w0.setCell ⟨b,10,none⟩ (zI z6 (W.a.own+1))⟩ t B b k W.up p bm bs bt bp bsp bh cm from H0.out.set HP.out 10 (zI z6 (W.a.own+1)) { W.a with own:=W.a.own+1 } rfl ⟨rfl,rfl,rfl,rfl,rfl,rfl⟩);have m1:Mod (fun x=>x=t) (⟨own0,w0⟩:GW) ⟨own0,w0.setCell ⟨b,10,none⟩ (zI z6 (W.a.own+1))⟩:=Mod.st (Mod.refl _ _) H0.out.a.blk.own;have M1:=zH (M0.out.trans (m1.mono (S:=acT t B) (fun x hx=>yb1 hx)));have R1:=zH (R0'.out.keep m1 zo);have af10:=H0.out.a.blk.live 10;rw [h2] at a3;clear m1 h0 h1 h3 hw hg1 hg2 hbd h2;obtain ⟨hd1,hd2⟩:=hd.own;go_upto_region 12 with fail
    generalize w0.setCell ⟨b,10,none⟩ (zI z6 (W.a.own+1))=w1 at *;clear M0 H0 R0' eo af10;clear a0 a1 a2 a3 a4 a5 a6 a7 a8 a9 a10 a11 a12 a13 a14 a15 a16 a17 a18 al;obtain ⟨⟨rr,rb⟩,rW⟩:=r;have HWI:=zH (show Calls prog 41 #[.pointer (some ⟨b,0,none⟩),.pointer (some ⟨k,0,none⟩)] w1 (Does (.tuple #[.agg #[.int .i64 rr.op,.int .i64 rr.own,.int .i64 rr.e,.bool rr.v.ref,.complex .f64 rr.v.z.1 rr.v.z.2],.bool rb]) ⟨own0,w1⟩ (acT t B) (fun g'=>AcWAt g' t B b k rW)) from ydY (g:=⟨own0,w1⟩) (W:=W.up) P ⟨hd.next,hd.hand,hd.sp,hd.mem,hd.n,hd.line⟩ hck hlo hl2 hop hwk H1.out ((rr,rb),rW) h);clear h;go_wp2_with fail;refine HWI.out.mono ?_;rintro e w7 ⟨rfl,own7,m7,h7⟩;have M7:=zH (M1.out.trans m7);have H7:=zH h7;have R7:=zH (R1.out.keep m7 (fun h=>by unfold acT at h;omega));clear M1 H1 R1 m7 h7 HWI;obtain ⟨r0,r1,r2,r3,r4,rl⟩:=R7.out.k5;have rf0:=R7.out.liv 0;have rf1:=R7.out.liv 1;have rf2:=R7.out.liv 2;have rf3:=R7.out.liv 3;have rf4:=R7.out.liv 4;go_wp2_with fail;obtain ⟨Mf,mf,Rf⟩:=yaf M7.out R7.out (Nat.le_refl _) (rr.op) (rr.own) (rr.e) (rr.v.ref) (rr.v.z.1) (rr.v.z.2)
    generalize ((((((w7).setCell ⟨g.w.heap.size,0,none⟩ (zI z6 (rr.op))).setCell ⟨g.w.heap.size,1,none⟩ (zI z6 (rr.own))).setCell ⟨g.w.heap.size,2,none⟩ (zI z6 (rr.e))).setCell ⟨g.w.heap.size,3,none⟩ (.bool (rr.v.ref))).setCell ⟨g.w.heap.size,4,none⟩ (.complex .f64 (rr.v.z.1) (rr.v.z.2)))=wf at *;obtain ⟨f0,f1,f2,f3,f4,fl⟩:=Rf.k5;refine bodyPost_ret (v:=.tuple #[.agg #[.int .i64 (rr.op),.int .i64 (rr.own),.int .i64 (rr.e),.bool (rr.v.ref),.complex .f64 (rr.v.z.1) (rr.v.z.2)],.bool rb]) (by simp [results,Tryz.results10,go_sem,f0,f1,f2,f3,f4]) rfl ?_;obtain ⟨p5,bm5,bs5,bt5,bp5,bsp5,bh5,cm5,h8⟩:=H7.out;exact Does.of ⟨own7,wf⟩ rfl rfl Mf ((h8.keep mf zo (fun x (hx:x=9)=>by omega) (fun x (hx:x=9)=>by omega)).at_)
 rw [if_neg h2,if_neg h3] at h;by_cases h4:W.a.phase=4
 · rw [if_pos h4] at h;injection h with h;rw [h4] at a3;clear h0 h1 h2 h3 hw;go_upto_region 16 with fail
   clear a0 a1 a2 a3 a4 a5 a6 a7 a8 a9 a10 a11 a12 a13 a14 a15 a16 a17 a18 al;have M1:=M0;have R1:=R0';have H1:=H0;clear M0 R0' H0;generalize w0=w1 at *;obtain ⟨r0,r1,r2,r3,r4,rl⟩:=R1.out.k5;have rf0:=R1.out.liv 0;have rf1:=R1.out.liv 1;have rf2:=R1.out.liv 2;have rf3:=R1.out.liv 3;have rf4:=R1.out.liv 4;go_wp2_with fail;obtain ⟨Mf,mf,Rf⟩:=yaf M1.out R1.out (Nat.le_refl _) (0) (0) (0) (false) (0) (0);generalize ((((((w1).setCell ⟨g.w.heap.size,0,none⟩ (zI z6 (0))).setCell ⟨g.w.heap.size,1,none⟩ (zI z6 (0))).setCell ⟨g.w.heap.size,2,none⟩ (zI z6 (0))).setCell ⟨g.w.heap.size,3,none⟩ (.bool (false))).setCell ⟨g.w.heap.size,4,none⟩ (.complex .f64 (0) (0)))=wf at *;obtain ⟨f0,f1,f2,f3,f4,fl⟩:=Rf.k5;refine bodyPost_ret (v:=.tuple #[.agg #[.int .i64 (0),.int .i64 (0),.int .i64 (0),.bool (false),.complex .f64 (0) (0)],.bool false]) (by simp [results,Tryz.results10,go_sem,f0,f1,f2,f3,f4]) rfl ?_;exact Does.of ⟨own0,wf⟩ rfl (by rw [←h];rfl) Mf (by rw [←h];exact (H1.out.keep mf zo (fun x (hx:x=9)=>by omega) (fun x (hx:x=9)=>by omega)).at_)
 rw [if_neg h4] at h;cases h
end
end Go.Proofs.YtdhjjpnajjingaaGreat
namespace Go.Proofs.YtdhjjpnajjingaaGreat
open Go Go.RowKit
theorem TraceS.Ok.withC {S:TraceS} (h:S.Ok) {c:Cnf} (hs:c.Same S.c):(S.withC c).Ok:=
 ⟨h.pc,h.rng,fun h0 h9=>⟨by show c.check=0;rw [hs.check];exact (h.chk h0 h9).1,(h.chk h0 h9).2⟩,h.wd,h.j3,h.md⟩
section
variable {g g':GW} {B b bm bs bt bp bsp bh:Nat} {K:CoreS} {cm:Cnf}
end
section
variable {g:GW} {t B b k:Nat} {W:CyW}
variable {tp hp:Option Addr} {bm bs bt bp bsp bh:Nat} {cm:Cnf}
end
end Go.Proofs.YtdhjjpnajjingaaGreat
namespace Go.Proofs.YtdhjjpnajjingaaGreat
open Go Go.RowKit
section
variable {g:GW} {t B b k:Nat} {W:CyW}
end
end Go.Proofs.YtdhjjpnajjingaaGreat
namespace Go.Proofs.YtdhjjpnajjingaaGreat
open Go Go.RowKit
section
variable {g:GW} {t B b k:Nat} {W:CyW}
theorem CyW.tick1_tr (W:CyW):W.tick1.tr=W.tr:=by unfold CyW.tick1;split<;>rfl
theorem ye4 (A:CyApart t B) (V:CyW) (h:W.stepG=some V) (hok:W.TrOk) (H:CyWAt g t B b k W):Calls prog 19 #[.pointer (some ⟨b,0,none⟩),.pointer (some ⟨k,0,none⟩)] g.w (Does (.tuple #[]) g (cyT t B) (fun g'=>CyWAt g' t B b k V)):=by
 unfold CyW.stepG at h;split at h
 · cases h
 rename_i hb
 simp only [Bool.not_eq_false,Bool.and_eq_true,beq_iff_eq] at hb;obtain ⟨hb1,hb2,he⟩:=hb;by_cases s0:W.y.stage=0
 · rw [if_pos s0] at h;injection h with h;subst h;exact ybh A (CyW.bdB_of hb1) he s0 H
 · rw [if_neg s0] at h;cases h
end
namespace CyW
theorem ygE (W:CyW):W.idles.tr=W.tr:=by unfold idles;split<;>rfl
theorem stepG_ok {W V:CyW} (h:W.stepG=some V) (hok:W.TrOk):V.TrOk:=by
 have same:V.tr=W.tr→V.TrOk:=fun e S hS=>hok S (by rw [←e];exact hS);unfold stepG at h;split at h
 · cases h
 by_cases s0:W.y.stage=0
 · rw [if_pos s0] at h;injection h with h;exact same (by rw [←h,ygE,tick1_tr])
 rw [if_neg s0] at h;cases h
end CyW
end Go.Proofs.YtdhjjpnajjingaaGreat
namespace Go.Proofs.YtdhjjpnajjingaaGreat
open Go Go.RowKit
section
variable {w0:World} {g:GW} {b c k:Nat} {D:DuW}
end
structure DuW.Fit (D:DuW):Prop where
 ops:D.a.ops.length≤1000000
 tr:D.cy.TrOk
theorem DuW.Fit.stepA {D:DuW} (h:D.Fit) {x:AcR} (hx:D.ac.stepL=some x):(D.putA x.2).Fit:=⟨by show x.2.a.ops.length≤_;rw [AcW.stepL_ops hx];exact h.ops,h.tr⟩
theorem DuW.Fit.stepC {D:DuW} (h:D.Fit) {V:CyW} (hV:D.cy.stepG=some V):(D.putC V).Fit:=⟨h.ops,CyW.stepG_ok hV h.tr⟩
theorem DuW.Fit.tick {D:DuW} (h:D.Fit):D.tick.Fit:=⟨h.ops,h.tr⟩
end Go.Proofs.YtdhjjpnajjingaaGreat
namespace Go.Proofs.YtdhjjpnajjingaaGreat
open Go Go.RowKit
section
variable {w0:World} {g:GW} {hb b c k:Nat} {st:Int} {D:DuW}
theorem ygu (h:DuAt g b c k D) (hol:D.a.ops.length≤1000000) (x:AcR) (hx:D.ac.stepL=some x):Calls prog 10 #[.pointer (some ⟨b,0,none⟩),.pointer (some ⟨k,0,none⟩)] g.w (Does (resV x.1) g duT (fun g'=>DuAt g' b c k (D.putA x.2))):=by
 obtain ⟨p,tp,hp,bm,bs,bt,bp,bsp,bh,cm,h1,h2,h3⟩:=h.ex;letI:TbId:=⟨⟨bt⟩⟩
 refine (ydX yh1 (AcIn.at_ (show AcIn g 500 100 b k D.ac p bm bs bt bp bsp bh cm from ⟨h1,h2,rfl⟩)) hol x hx).mono ?_;rintro e w' ⟨rfl,own',m',h'⟩;have h4:=h3.keep m' (fun x hx=>by unfold acT at hx;omega);obtain ⟨p',bm',bs',bt',bp',bsp',bh',cm',h'⟩:=h';exact ⟨rfl,own',m'.mono (fun x hx=>Or.inl hx),⟨⟨p',tp,hp,bm',bs',bt',bp',bsp',bh',cm',h'.a,h'.c,h4⟩⟩⟩
theorem ygv (h:DuAt g b c k D) (hok:D.cy.TrOk) (V:CyW) (hV:D.cy.stepG=some V):Calls prog 19 #[.pointer (some ⟨c,0,none⟩),.pointer (some ⟨k,0,none⟩)] g.w (Does (.tuple #[]) g duT (fun g'=>DuAt g' b c k (D.putC V))):=by
 obtain ⟨p,tp,hp,bm,bs,bt,bp,bsp,bh,cm,h1,h2,h3⟩:=h.ex;refine (ye4 yeT V hV hok (show CyWAt g 600 100 c k D.cy from ⟨tp,hp,bm,bs,bt,bp,bsp,bh,cm,⟨h3,h2⟩⟩)).mono ?_;rintro e w' ⟨rfl,own',m',h'⟩;have h4:=h1.keep m' (by unfold cyT;omega) (fun x hx=>by unfold cyT at hx;omega);obtain ⟨tp',hp',bm',bs',bt',bp',bsp',bh',cm',h'⟩:=h';exact ⟨rfl,own',m'.mono (fun x hx=>Or.inr hx),⟨⟨p,tp',hp',bm',bs',bt',bp',bsp',bh',cm',h4,h'.c,h'.y⟩⟩⟩
theorem ygC (h:HpIs w0 g hb st b c k D) (hst:0≤st∧st≤1000000) (fit:D.Fit) (x:AcR) (hx:D.ac.stepL=some x):
 Calls prog 26 #[.pointer (some ⟨hb,0,none⟩),.int .i64 1] g.w (Does (tickV 1 x.1.2 x.1.1) g hpT (fun g'=>HpIs w0 g' hb (st+1) b c k (D.putA x.2)∧(D.putA x.2).Fit)):=by
 obtain ⟨lv,h2⟩:=h.h;refine (yeg h2 hst x.1.1 x.1.2 (fun g1 h1=>ygu h1 fit.ops x hx)).mono ?_;rintro e w' ⟨rfl,own',m',h'⟩;exact ⟨rfl,own',m',⟨⟨h.m.trans m',_,h'⟩,fit.stepA hx⟩⟩
theorem ygD (h:HpIs w0 g hb st b c k D) (hst:0≤st∧st≤1000000) (fit:D.Fit) (V:CyW) (hV:D.cy.stepG=some V):
 Calls prog 26 #[.pointer (some ⟨hb,0,none⟩),.int .i64 0] g.w (Does (tickV 0 false ⟨0,0,0,LVal.zero⟩) g hpT (fun g'=>HpIs w0 g' hb (st+1) b c k (D.putC V)∧(D.putC V).Fit)):=by
 obtain ⟨lv,h2⟩:=h.h;refine (yef h2 hst (fun g1 h1=>ygv h1 fit.tr V hV)).mono ?_;rintro e w' ⟨rfl,own',m',h'⟩;exact ⟨rfl,own',m',⟨⟨h.m.trans m',_,h'⟩,fit.stepC hV⟩⟩
theorem HpIs.keep {g':GW} (h:HpIs w0 g hb st b c k D) (m:Mod (fun _=>False) g g'):HpIs w0 g' hb st b c k D:=by
 obtain ⟨lv,h2⟩:=h.h;exact ⟨h.m.trans (m.mono (fun _=>False.elim)),lv,h2.keepS m (fun x hx=>hx.elim)⟩
theorem HpIs.fin (h:HpIs w0 g hb st b c k D):Ext w0 g.w:=(h.m.nothing (fun j _ (hj:hpT 0)=>by simp only [hpT,duT,acT,cyT] at hj;omega)).toExt
end
end Go.Proofs.YtdhjjpnajjingaaGreat
namespace Go.Proofs.YtdhjjpnajjingaaGreat
open Go Go.RowKit
structure HpNo (g:GW) (h:Nat) (st:Int) (c k:Nat) (W:CyW):Prop where
 blk:Blk g 90 h 86 [.pointer (some ⟨k,0,none⟩),.pointer (some ⟨c,0,none⟩),.slice none 0 0,.int .i64 st]
 cy:CyWAt g 600 100 c k W
def HeapNone (c:Cnf) (w:World) (e:Ending) (w':World):Prop:=
 ∃w0 own' h y k,e=.returned (.tuple #[.pointer (some ⟨h,0,none⟩),.int .i64 0])∧Ext w w0∧Mod hpT ⟨fun _=>0,w0⟩ ⟨own',w'⟩∧HpNo ⟨own',w'⟩ h 0 y k ⟨CyS.fresh,none,none,CoreS.fresh c⟩
theorem yfe (c:Cnf) (w:World) (h3:c.locals=1) (hth:0≤c.threads) (hck:c.check=0) (hc:c.Ok w):
 Calls prog 24 #[c.val,.slice none 0 0] w (HeapNone c w):=by
 have HE0:=zH (show Ext w (w.alloc (.cells #[.int .i64 c.frags,.int .i64 c.spine,.int .i64 c.globals,.int .i64 c.threads,.int .i64 c.locals,.int .i64 c.cache,.int .i64 c.stack,.int .i64 c.low,.slice c.A c.shapes.length c.cap] 34)) from zE);have HB:=zH (show Blk ⟨fun _=>0,w.alloc (.cells #[.int .i64 c.frags,.int .i64 c.spine,.int .i64 c.globals,.int .i64 c.threads,.int .i64 c.locals,.int .i64 c.cache,.int .i64 c.stack,.int .i64 c.low,.slice c.A c.shapes.length c.cap] 34)⟩ 0 w.heap.size 34 [.int .i64 c.frags,.int .i64 c.spine,.int .i64 c.globals,.int .i64 c.threads,.int .i64 c.locals,.int .i64 c.cache,.int .i64 c.stack,.int .i64 c.low,.slice c.A c.shapes.length c.cap] from ⟨World.row_alloc_new _,rfl⟩);have HOK:=zH (hc.ext HE0.out);have HCK:=zH hck;have dT:decide (c.threads<0)=false:=decide_eq_false zo;unfold Cnf.val;rw [h3] at HE0 HB HOK ⊢;clear hc hck hth;go_enter func24,ntmps24;go_upto_region 1 with fail
 generalize w.alloc (.cells #[.int .i64 c.frags,.int .i64 c.spine,.int .i64 c.globals,.int .i64 c.threads,.int .i64 1,.int .i64 c.cache,.int .i64 c.stack,.int .i64 c.low,.slice c.A c.shapes.length c.cap] 34)=w0 at *;have HM:=zH (show Calls prog 33 #[c.val] w0 (CoreMade c 100 ⟨fun _=>0,w0⟩) from ycL c 100 ⟨fun _=>0,w0⟩ HOK.out zo (fun k _=>Or.inl (show 0<100 by omega)));unfold Cnf.val at HM;rw [h3] at HM;generalize w.heap.size=hs0 at *;obtain ⟨f0,f1,f2,f3,f4,f5,f6,f7,f8,fl⟩:=HB.out.k9;go_wp2_with fail;refine HM.out.mono ?_;rintro e w1 hh;unfold CoreMade at hh;rw [if_pos HCK.out] at hh;obtain ⟨own1,k,rfl,m1,h1⟩:=hh;clear HOK HM f0 f1 f2 f3 f4 f5 f6 f7 f8 fl;obtain ⟨bm,bs,bt,bp,bsp,bh,cm,h1⟩:=h1;have M1:=zH m1;have H1:=zH h1;have B1:=zH (HB.out.keep m1 id);clear m1 h1 HB;obtain ⟨f0,f1,f2,f3,f4,f5,f6,f7,f8,fl⟩:=B1.out.k9;go_wp2_with fail;refine (ye3 ⟨own1,w1⟩ 600).mono ?_;rintro e w2 ⟨own2,y,rfl,m2,h2⟩;have M2:=zH (M1.out.trans m2);have H2:=zH (H1.out.keep m2 (fun _=>False.elim));have Y2:=zH h2;have B2:=zH (B1.out.keep m2 id);clear m2 h2 M1 H1 B1 f0 f1 f2 f3 f4 f5 f6 f7 f8 fl;obtain ⟨f0,f1,f2,f3,f4,f5,f6,f7,f8,fl⟩:=B2.out.k9;go_wp2_with fail
 obtain ⟨own3,w3,hw3,m3,b3⟩: ∃own3 w3,w3=w2.alloc (.cells #[.pointer (some ⟨k,0,none⟩),.pointer (some ⟨y,0,none⟩),.slice none 0 0,.int .i64 0] 86)∧Mod (fun _=>False) (⟨own2,w2⟩:GW) ⟨own3,w3⟩∧Blk ⟨own3,w3⟩ 90 w2.heap.size 86 [.pointer (some ⟨k,0,none⟩),.pointer (some ⟨y,0,none⟩),.slice none 0 0,.int .i64 0]:=⟨_,_,rfl,Mod.ext (T:=fun _=>False) (g:=⟨own2,w2⟩) (show Ext w2 (w2.alloc (.cells #[.pointer (some ⟨k,0,none⟩),.pointer (some ⟨y,0,none⟩),.slice none 0 0,.int .i64 0] 86)) from zE) 90,Blk.new ⟨own2,w2⟩ 90 86 _⟩;rw [←hw3];have M3:=zH (M2.out.trans m3);have H3:=zH (H2.out.keep m3 (fun _=>False.elim));have Y3:=zH (Y2.out.keep m3 (fun _=>False.elim));have P3:=zH b3;clear m3 b3 hw3 M2 H2 Y2 B2 f0 f1 f2 f3 f4 f5 f6 f7 f8 fl;go_loopw [31] (fun i wr=>i=.int .i64 0∧wr=w3) (fun i _=>0)
 case atStart=>exact ⟨rfl,rfl⟩
 case round=>
  obtain ⟨rfl,rfl⟩:=hrel;go_wp2_with fail;refine bodyPost_ret (v:=.tuple #[.pointer (some ⟨w2.heap.size,0,none⟩),.int .i64 0]) (by simp [results,Tryz.results24,go_sem]) rfl ?_;exact ⟨w0,own3,w2.heap.size,y,k,rfl,HE0.out,M3.out.mono (fun _=>False.elim),P3.out,none,none,bm,bs,bt,bp,bsp,bh,cm,⟨Y3.out,H3.out⟩⟩
section
variable {g:GW} {hb c k:Nat} {st:Int} {W E:CyW}
theorem ybi {S:Nat→Prop} {g':GW} (h:CyWAt g 600 100 c k W) (m:Mod S g g') (hs: ∀x,S x→0<x∧x<100):CyWAt g' 600 100 c k W:=by
 obtain ⟨tp,hp,bm,bs,bt,bp,bsp,bh,cm,h1,h2⟩:=h;exact ⟨tp,hp,bm,bs,bt,bp,bsp,bh,cm,h1.keep m (fun x hx=>by have:=hs x hx;omega),h2.keep m (fun x hx=>by have:=hs x hx;omega)⟩
theorem HpNo.keepS {S:Nat→Prop} {g':GW} (h:HpNo g hb st c k W) (m:Mod S g g') (hs: ∀x,S x→x=9):HpNo g' hb st c k W:=
 ⟨h.blk.keep m (fun hx=>by have:=hs 90 hx;omega),ybi h.cy m (fun x hx=>by have:=hs x hx;omega)⟩
theorem HpNo.tick (h:HpNo g hb st c k W) (s:Int):HpNo ⟨g.own,g.w.setCell ⟨hb,3,none⟩ (zI z6 s)⟩ hb s c k W∧Mod (fun x=>x=90) g ⟨g.own,g.w.setCell ⟨hb,3,none⟩ (zI z6 s)⟩:=by
 have m:Mod (fun x=>x=90) g ⟨g.own,g.w.setCell ⟨hb,3,none⟩ (zI z6 s)⟩:=Mod.set h.blk.own;exact ⟨⟨h.blk.set 3 _,ybi h.cy m (fun x hx=>by omega)⟩,m⟩
theorem HpNo.put {g':GW} (h:HpNo g hb st c k W) (m:Mod (cyT 600 100) g g') (d:CyWAt g' 600 100 c k E):HpNo g' hb st c k E:=
 ⟨h.blk.keep m (fun hx=>by unfold cyT at hx;omega),d⟩
theorem ydm (h:HpNo g hb st c k W) (hst:0≤st∧st≤1000000) (hY: ∀g1,CyWAt g1 600 100 c k W→Calls prog 19 #[.pointer (some ⟨c,0,none⟩),.pointer (some ⟨k,0,none⟩)] g1.w (Does (.tuple #[]) g1 (cyT 600 100) (fun g'=>CyWAt g' 600 100 c k E))):
 Calls prog 26 #[.pointer (some ⟨hb,0,none⟩),.int .i64 0] g.w (Does (tickV 0 false ⟨0,0,0,LVal.zero⟩) g hpT (fun g'=>HpNo g' hb (st+1) c k E)):=by
 have HH:=zH h;have HYY:=zH hY;clear h hY;obtain ⟨p0,p1,p2,p3,pl⟩:=HH.out.blk.k4;go_enter func26,ntmps26;go_upto_region 2 with fail
 obtain ⟨own0,m0,t0,x0⟩:=yat g 78 78 (tickL 0 false ⟨0,0,0,LVal.zero⟩) (tickL 0 false ⟨0,0,0,LVal.zero⟩);unfold tickL at m0 t0 x0;change Mod _ _ ⟨own0,(g.w.alloc (.cells #[.int .i64 0,.bool false,.int .i64 0,.int .i64 0,.int .i64 0,.bool false,.complex .f64 0 0] 78)).alloc (.cells #[.int .i64 0,.bool false,.int .i64 0,.int .i64 0,.int .i64 0,.bool false,.complex .f64 0 0] 78)⟩ at m0;change Blk ⟨own0,(g.w.alloc (.cells #[.int .i64 0,.bool false,.int .i64 0,.int .i64 0,.int .i64 0,.bool false,.complex .f64 0 0] 78)).alloc (.cells #[.int .i64 0,.bool false,.int .i64 0,.int .i64 0,.int .i64 0,.bool false,.complex .f64 0 0] 78)⟩ _ _ _ _ at t0;change Blk ⟨own0,(g.w.alloc (.cells #[.int .i64 0,.bool false,.int .i64 0,.int .i64 0,.int .i64 0,.bool false,.complex .f64 0 0] 78)).alloc (.cells #[.int .i64 0,.bool false,.int .i64 0,.int .i64 0,.int .i64 0,.bool false,.complex .f64 0 0] 78)⟩ _ _ _ _ at x0;have M0:=zH m0;have T0:=zH t0;have X0:=zH x0;have H0:=zH (HH.out.keepS m0 (fun x hx=>hx.elim));clear m0 t0 x0 p0 p1 p2 p3 pl
 generalize hw0:(g.w.alloc (.cells #[.int .i64 0,.bool false,.int .i64 0,.int .i64 0,.int .i64 0,.bool false,.complex .f64 0 0] 78)).alloc (.cells #[.int .i64 0,.bool false,.int .i64 0,.int .i64 0,.int .i64 0,.bool false,.complex .f64 0 0] 78)=w0 at *;clear hw0;obtain ⟨p0,p1,p2,p3,pl⟩:=H0.out.blk.k4;have pf3:=H0.out.blk.liv 3;go_upto_region 6 with fail
 have ht:=H0.out.tick (st+1);have m1:Mod (fun x=>x=90) (⟨own0,w0⟩:GW) ⟨own0,w0.setCell ⟨hb,3,none⟩ (zI z6 (st+1))⟩:=ht.2;have H1:=zH (show HpNo ⟨own0,w0.setCell ⟨hb,3,none⟩ (zI z6 (st+1))⟩ hb (st+1) c k W from ht.1);have T1:=zH (T0.out.keep m1 (show¬(9:Nat)=90 by decide));have X1:=zH (X0.out.keep m1 (show¬(9:Nat)=90 by decide));have M1:=zH ((M0.out.mono (S:=hpT) (fun _=>False.elim)).trans (m1.mono (fun x hx=>Or.inr (Or.inl hx))));clear ht m1 p0 p1 p2 p3 pf3 pl H0 T0 X0 M0;generalize w0.setCell ⟨hb,3,none⟩ (zI z6 (st+1))=w1 at *;obtain ⟨p0,p1,p2,p3,pl⟩:=H1.out.blk.k4;refine yaQ [] [zT,zT,zT,zT,zT,zT,zT,zT,zT] 9 0 ?_;intro X00;simp only [pickOps,movesAct,moveOf,List.getElem?_toArray,List.getElem?_cons_zero,List.getElem?_cons_succ];(try go_simp);repeat (go_big_quiet_step (fail))
 refine wpQuiet_nil (fun X0 K Q' hK=>?_);clear X00;(try go_simp);refine (HYY.out ((⟨own0,w1⟩:GW).pt _) (ybi H1.out.cy (Mod.pt (Mod.refl (fun _=>False) _) _) (fun x hx=>hx.elim))).mono ?_;rintro e w2 ⟨rfl,own2,m2,d2⟩;have P2:=(Mod.pt (Mod.refl _ (⟨own0,w1⟩:GW)) _).trans m2;have H2:=zH (H1.out.put P2 d2);have T2:=zH (T1.out.keep P2 (fun hx=>by unfold cyT at hx;omega));have X2:=zH (X1.out.keep P2 (fun hx=>by unfold cyT at hx;omega));have M2:=zH (M1.out.trans (P2.mono (S:=hpT) (fun x hx=>Or.inl (Or.inr hx))));clear P2 m2 d2 H1 T1 X1 M1 p0 p1 p2 p3 pl HYY;(try go_simp);refine hK _ _ ?_;clear hK K Q';refine wpAny_done zQ ?_ _;obtain ⟨t0,t1,t2,t3,t4,t5,t6,tl⟩:=T2.out.k7;have tf0:=T2.out.liv 0;have tf1:=T2.out.liv 1;have tf2:=T2.out.liv 2;have tf3:=T2.out.liv 3;have tf4:=T2.out.liv 4;have tf5:=T2.out.liv 5;have tf6:=T2.out.liv 6;obtain ⟨x0,x1,x2,x3,x4,x5,x6,xl⟩:=X2.out.k7;go_wp2_with fail;obtain ⟨Mf,mf,Rf⟩:=ya3 M2.out T2.out (Nat.le_refl _) (0) (false) (0) (0) (0) (LVal.zero.ref) (LVal.zero.z.1) (LVal.zero.z.2)
 generalize ((((((w2.setCell ⟨g.w.heap.size,0,none⟩ (zI z6 (0))).setCell ⟨g.w.heap.size,1,none⟩ (.bool (false))).setCell ⟨g.w.heap.size,2,none⟩ (zI z6 (0))).setCell ⟨g.w.heap.size,3,none⟩ (zI z6 (0))).setCell ⟨g.w.heap.size,4,none⟩ (zI z6 (0))).setCell ⟨g.w.heap.size,5,none⟩ (.bool (LVal.zero.ref))).setCell ⟨g.w.heap.size,6,none⟩ (.complex .f64 (LVal.zero.z.1) (LVal.zero.z.2))=wf at *;obtain ⟨f0,f1,f2,f3,f4,f5,f6,fl⟩:=Rf.k7;refine bodyPost_ret (v:=.agg #[.int .i64 (0),.bool (false),.int .i64 (0),.int .i64 (0),.int .i64 (0),.bool (LVal.zero.ref),.complex .f64 (LVal.zero.z.1) (LVal.zero.z.2)]) (by simp [results,Tryz.results26,go_sem,f0,f1,f2,f3,f4,f5,f6]) rfl ?_;exact Does.of ⟨own2,wf⟩ rfl rfl Mf (H2.out.keepS mf (fun x hx=>hx))
end
end Go.Proofs.YtdhjjpnajjingaaGreat
namespace Go.Proofs.YtdhjjpnajjingaaGreat
open Go Go.RowKit
theorem ydv (g:GW) (t b bt bp:Nat) (n:Int) (h:Blk g t b 57 [.pointer (some ⟨bt,0,none⟩),.pointer (some ⟨bp,0,none⟩),.int .i64 n]):
 Calls prog 185 #[.pointer (some ⟨b,0,none⟩)] g.w (fun e w'=>e=.returned (zI z6 n)∧g.w=w'):=by
 have c2:=h.cell (i:=2) rfl;clear h;go_enter func185,ntmps185;go_wp2_with fail;go_ret;exact ⟨rfl,rfl⟩
def CoreS.count (K:CoreS):Int:=K.mem.count+K.n+K.sp.count+K.hand.count
theorem yd4 (g:GW) (B b:Nat) (K:CoreS) (h:CoreAt g B b K) (h1:0≤K.mem.count∧K.mem.count≤1099511627776) (h2:0≤K.n∧K.n≤1099511627776) (h3:0≤K.sp.count∧K.sp.count≤1099511627776) (h4:0≤K.hand.count∧K.hand.count≤1099511627776):
 Calls prog 110 #[.pointer (some ⟨b,0,none⟩)] g.w (Gives (zI z6 (CoreS.count K)) g.w):=by
 obtain ⟨bm,bs,bt,bp,bsp,bh,cm,h⟩:=h;obtain ⟨_,_⟩:=h1;obtain ⟨_,_⟩:=h2;obtain ⟨_,_⟩:=h3;obtain ⟨_,_⟩:=h4;have H:=zH h;have HV:=zH (show CoreS.count K=K.mem.count+K.n+K.sp.count+K.hand.count from rfl);have HM:=zH (fun X=>yao (yfw (g.pt X) (B+62) bm K.mem (H.out.mem.pt X)));have HS:=zH (fun X=>yao (ydv (g.pt X) (B+60) bs bt bp K.n (H.out.sh.pt X)));have HP:=zH (fun X=>yao (ydy (g.pt X) B bsp bt K.sp (H.out.sp.keep (Mod.pt (Mod.refl (fun _=>False) _) X) (fun x hx=>hx.elim))));have HH:=zH (fun X=>yao (yeb (g.pt X) (B+63) bh K.hand (H.out.hand.keep (Mod.pt (Mod.refl (fun _=>False) _) X) id)));obtain ⟨a0,a1,a2,a3,a4,a5,a6,a7,a8,a9,a10,a11,a12,al⟩:=h.blk.k13;clear h;generalize CoreS.count K=v at *;generalize K.mem.count=x1 at *;generalize K.n=x2 at *;generalize K.sp.count=x3 at *;generalize K.hand.count=x4 at *;go_enter func110,ntmps110;go_wp2_with fail;refine yab [zT,zT,zT,zT,zT,zT,zT,zT,zT,zT,zT,zT,zT,zT,zT,zT,zT,zT,zT,zT,zT,zT,zT,zT] 0 24 ?_;intro X00;simp only [pickOps]
 repeat (go_big_quiet_step (first|(go_at_call 184;exact Calls.added (HM.out _))|(go_at_call 185;exact Calls.added (HS.out _))|(go_at_call 186;exact Calls.added (HP.out _))|(go_at_call 187;exact Calls.added (HH.out _))))
 refine wpQuiet_nil (fun X0=>?_);clear X00;refine yaa zQ (fun X0'=>?_) _;go_wp2_with fail;go_ret;exact Gives.int (by rw [HV.out]) zE
section
variable {g:GW} {hb c k:Nat} {st:Int} {W E:CyW}
theorem ybG (h:HpNo g hb st c k W):Calls prog 56 #[.pointer (some ⟨hb,0,none⟩)] g.w (fun e w'=>e=.returned (zI z6 st)∧g.w=w'):=by
 obtain ⟨a0,a1,a2,a3,al⟩:=h.blk.k4;clear h;go_enter func56,ntmps56;go_wp2_with fail;go_ret;exact ⟨rfl,rfl⟩
theorem yca (h:HpNo g hb st c k W) (h1:W.K.mem.count=0) (h2:W.K.n=0) (h3:W.K.sp.count=0) (h4:W.K.hand.count=0):Calls prog 57 #[.pointer (some ⟨hb,0,none⟩)] g.w (Gives (zI z6 0) g.w):=by
 obtain ⟨tp,hp,bm,bs,bt,bp,bsp,bh,cm,hy,hk⟩:=h.cy
 have HC:=zH (show Calls prog 110 #[.pointer (some ⟨k,0,none⟩)] g.w (Gives (zI z6 0) g.w) from by
  have h:=yd4 g 100 k W.K ⟨bm,bs,bt,bp,bsp,bh,cm,hk⟩ (by rw [h1];decide) (by rw [h2];decide) (by rw [h3];decide) (by rw [h4];decide);rw [show CoreS.count W.K=0 by unfold CoreS.count;rw [h1,h2,h3,h4];rfl] at h;exact h)
 obtain ⟨a0,a1,a2,a3,al⟩:=h.blk.k4;clear h hy hk h1 h2 h3 h4;go_enter func57,ntmps57;go_wp2_with fail;refine HC.out.mono ?_;rintro e w1 ⟨rfl,hX⟩;have HX:=zH (show Ext g.w w1 from hX);clear hX;go_wp2_with fail;go_ret;exact Gives.mk rfl HX.out
theorem ycw (h:HpNo g hb st c k W):Calls prog 26 #[.pointer (some ⟨hb,0,none⟩),.int .i64 1] g.w (Does (tickV 1 false ⟨0,0,0,LVal.zero⟩) g hpT (fun g'=>HpNo g' hb st c k W)):=by
 have HH:=zH h;clear h;obtain ⟨p0,p1,p2,p3,pl⟩:=HH.out.blk.k4;go_enter func26,ntmps26;go_upto_region 3 with fail
 obtain ⟨own2,m0,t0,x0⟩:=yat g 78 78 (tickL 0 false ⟨0,0,0,LVal.zero⟩) (tickL 1 false ⟨0,0,0,LVal.zero⟩);unfold tickL at m0 t0 x0;change Mod _ _ ⟨own2,(g.w.alloc (.cells #[.int .i64 0,.bool false,.int .i64 0,.int .i64 0,.int .i64 0,.bool false,.complex .f64 0 0] 78)).alloc (.cells #[.int .i64 1,.bool false,.int .i64 0,.int .i64 0,.int .i64 0,.bool false,.complex .f64 0 0] 78)⟩ at m0;change Blk ⟨own2,(g.w.alloc (.cells #[.int .i64 0,.bool false,.int .i64 0,.int .i64 0,.int .i64 0,.bool false,.complex .f64 0 0] 78)).alloc (.cells #[.int .i64 1,.bool false,.int .i64 0,.int .i64 0,.int .i64 0,.bool false,.complex .f64 0 0] 78)⟩ _ _ _ _ at t0;change Blk ⟨own2,(g.w.alloc (.cells #[.int .i64 0,.bool false,.int .i64 0,.int .i64 0,.int .i64 0,.bool false,.complex .f64 0 0] 78)).alloc (.cells #[.int .i64 1,.bool false,.int .i64 0,.int .i64 0,.int .i64 0,.bool false,.complex .f64 0 0] 78)⟩ _ _ _ _ at x0;have M0:=zH (m0.mono (S:=hpT) (fun _=>False.elim));have T0:=zH t0;have X0:=zH x0;have H0:=zH (HH.out.keepS m0 (fun x hx=>hx.elim));clear m0 t0 x0 p0 p1 p2 p3 pl
 generalize hw0:(g.w.alloc (.cells #[.int .i64 0,.bool false,.int .i64 0,.int .i64 0,.int .i64 0,.bool false,.complex .f64 0 0] 78)).alloc (.cells #[.int .i64 1,.bool false,.int .i64 0,.int .i64 0,.int .i64 0,.bool false,.complex .f64 0 0] 78)=w0 at *;clear hw0;obtain ⟨t0,t1,t2,t3,t4,t5,t6,tl⟩:=T0.out.k7;have tf0:=T0.out.liv 0;have tf1:=T0.out.liv 1;have tf2:=T0.out.liv 2;have tf3:=T0.out.liv 3;have tf4:=T0.out.liv 4;have tf5:=T0.out.liv 5;have tf6:=T0.out.liv 6;obtain ⟨x0,x1,x2,x3,x4,x5,x6,xl⟩:=X0.out.k7;go_wp2_with fail;obtain ⟨Mf,mf,Rf⟩:=ya3 M0.out T0.out (Nat.le_refl _) (1) (false) (0) (0) (0) (LVal.zero.ref) (LVal.zero.z.1) (LVal.zero.z.2);generalize ((((((w0.setCell ⟨g.w.heap.size,0,none⟩ (zI z6 (1))).setCell ⟨g.w.heap.size,1,none⟩ (.bool (false))).setCell ⟨g.w.heap.size,2,none⟩ (zI z6 (0))).setCell ⟨g.w.heap.size,3,none⟩ (zI z6 (0))).setCell ⟨g.w.heap.size,4,none⟩ (zI z6 (0))).setCell ⟨g.w.heap.size,5,none⟩ (.bool (LVal.zero.ref))).setCell ⟨g.w.heap.size,6,none⟩ (.complex .f64 (LVal.zero.z.1) (LVal.zero.z.2))=wf at *;obtain ⟨f0,f1,f2,f3,f4,f5,f6,fl⟩:=Rf.k7
 refine bodyPost_ret (v:=.agg #[.int .i64 (1),.bool (false),.int .i64 (0),.int .i64 (0),.int .i64 (0),.bool (LVal.zero.ref),.complex .f64 (LVal.zero.z.1) (LVal.zero.z.2)]) (by simp [results,Tryz.results26,go_sem,f0,f1,f2,f3,f4,f5,f6]) rfl ?_;exact Does.of ⟨own2,wf⟩ rfl rfl Mf (H0.out.keepS mf (fun x hx=>hx))
end
theorem ydC (x0 x2 x3 x4:Int) (x1 x5:Bool) (x6 x7:Nat) (w:World):(Instr.field 78 (.agg #[.int .i64 x0,.bool x1,.int .i64 x2,.int .i64 x3,.int .i64 x4,.bool x5,.complex .f64 x6 x7]) 0).run prog w=.ok (zI z6 x0) w:=zQ
theorem ydh (w:World):Calls prog 23 #[] w (Gives (.bool true) w):=by
 have q1:=World.row_alloc_new w (o:=.cells #[.bool false,.slice none 0 0] 94)
 have hok:(c23 (some ⟨w.heap.size,0,none⟩)).Ok (w.alloc (.cells #[.bool false,.slice none 0 0] 94)):=
  ⟨CellsAt.mk (Array.getElem?_eq_some_iff.1 q1).1 (fun i v hi=>by rw [Nat.zero_add];exact ya4 (l:=[.bool false,.slice none 0 0]) q1 hi),fun s hs=>by rw [List.mem_singleton.1 hs];exact ⟨CellsAt.nil _ _,by simp,by simp⟩,Nat.le_refl _,(show 1≤140737488355328 by decide)⟩
 have HE:=zH (show Ext w (w.alloc (.cells #[.bool false,.slice none 0 0] 94)) from zE);have HM:=zH (yfe (c23 (some ⟨w.heap.size,0,none⟩)) _ rfl (show (0:Int)≤1 by decide) (yeY _) hok);unfold Cnf.val at HM;clear q1 hok;go_enter func23,ntmps23;go_wp2_with fail;refine HM.out.mono ?_;rintro e w1 ⟨w0,own1,h,y,k,rfl,hE,m1,h1⟩;generalize (some ⟨w.heap.size,0,none⟩:Option Addr)=A at *;have E0:=zH (HE.out.trans hE);have M1:=zH m1;have H1:=zH h1;have HS:=zH (ycw h1);clear hE m1 h1 HE HM;go_wp2_with fail;refine HS.out.mono ?_;rintro e w2 ⟨rfl,own2,m2,h2⟩;have M2:=zH (M1.out.trans m2);have H2:=zH h2;clear m2 h2 M1 H1 HS;unfold tickV tickL;go_upto_region 5 with fail
 obtain ⟨own3,m3,t3⟩:=yaI ⟨own2,w2⟩ 78 [.int .i64 1,.bool false,.int .i64 0,.int .i64 0,.int .i64 0,.bool LVal.zero.ref,.complex .f64 LVal.zero.z.1 LVal.zero.z.2];change Mod _ _ ⟨own3,w2.alloc (.cells #[.int .i64 1,.bool false,.int .i64 0,.int .i64 0,.int .i64 0,.bool LVal.zero.ref,.complex .f64 LVal.zero.z.1 LVal.zero.z.2] 78)⟩ at m3;change Blk ⟨own3,w2.alloc (.cells #[.int .i64 1,.bool false,.int .i64 0,.int .i64 0,.int .i64 0,.bool LVal.zero.ref,.complex .f64 LVal.zero.z.1 LVal.zero.z.2] 78)⟩ 9 w2.heap.size _ _ at t3;have M3:=zH (M2.out.trans (m3.mono (S:=hpT) (fun _=>False.elim)));have H3:=zH (H2.out.keepS m3 (fun x hx=>hx.elim));have T3:=zH t3;clear m3 t3 M2 H2;generalize hw3:w2.alloc (.cells #[.int .i64 1,.bool false,.int .i64 0,.int .i64 0,.int .i64 0,.bool LVal.zero.ref,.complex .f64 LVal.zero.z.1 LVal.zero.z.2] 78)=w3 at *;clear hw3;generalize w2.heap.size=tb at *;have HST:=zH (ybG H3.out);have HAC:=zH (yca H3.out rfl rfl rfl rfl);obtain ⟨t0,t1,t2,t3,t4,t5,t6,tl⟩:=T3.out.k7;go_wp2_with fail;refine HST.out.mono ?_;rintro e w' ⟨rfl,rfl⟩;clear HST;go_wp2_with fail;refine HAC.out.mono ?_;rintro e w4 ⟨rfl,hX⟩
 obtain ⟨own4,m4⟩:=Mod.ofExt (show Ext w3 w4 from hX) own3;have M4:=zH (M3.out.trans (m4.mono (S:=hpT) (fun _=>False.elim)));have H4:=zH (H3.out.keepS m4 (fun x hx=>hx.elim));clear hX m4 M3 H3 T3 HAC t0 t1 t2 t3 t4 t5 t6 tl;have HSP:=zH (ydm (E:=CyW.idles (CyW.tick1 ⟨CyS.fresh,none,none,CoreS.fresh (c23 A)⟩)) H4.out zd (fun g1 h1=>ybh yeT (CyW.bdB_of rfl) rfl rfl h1));go_wp2_with fail;refine HSP.out.mono ?_;rintro e w5 ⟨rfl,own5,m5,h5⟩;have M5:=zH (M4.out.trans m5);have HST:=zH (ybG h5);clear m5 h5 M4 H4 HSP;have htf:=ydC 0 0 0 0 false LVal.zero.ref LVal.zero.z.1 LVal.zero.z.2;unfold tickV tickL;go_wp2_with fail;refine HST.out.mono ?_;rintro e w' ⟨rfl,rfl⟩;go_wp2_with fail;go_ret;exact Gives.mk rfl (E0.out.trans (M5.out.nothing (fun j _ (hj:hpT 0)=>by simp only [hpT,duT,acT,cyT] at hj;omega)).toExt)
end Go.Proofs.YtdhjjpnajjingaaGreat
namespace Go.Proofs.YtdhjjpnajjingaaGreat
open Go Go.RowKit
theorem ycT (n:Int):bits .and .i64 n 1=n%2:=by
 have h7:(BitVec.ofInt 64 1).toNat=2 ^ 1-1:=zd
 have key:(BitVec.ofInt 64 n&&& BitVec.ofInt 64 1).toNat=(n%((2 ^ 64:Nat):Int)).toNat%2 ^ 1:=by
  rw [BitVec.toNat_and,BitVec.toNat_ofInt,h7,Nat.and_two_pow_sub_one_eq_mod]
 show IntKind.i64.wrap ((BitVec.ofInt 64 n&&& BitVec.ofInt 64 1).toNat:Nat)=n%2;rw [key,IntKind.wrap_i64];omega
theorem yey (l:List Opr): ∀u∈l.flatMap Opr.cells,u.oneCell'=true:=by
 intro u hu;obtain ⟨o, -,ho⟩:=List.mem_flatMap.1 hu;simp only [Opr.cells,List.mem_cons,List.not_mem_nil,or_false] at ho;rcases ho with rfl|rfl|rfl|rfl|rfl|rfl<;>rfl
theorem yd2 (A A0 A1 A2:Option Addr):(cTwo 60 0 A A0 A1 A2).check=0:=by rfl
theorem yez {n:Nat} (h:n≤40) (A A0 A1 A2:Option Addr):(quietD n A A0 A1 A2).Fit:=⟨(by show (quietOps n).length≤_;rw [yaO];omega),fun S hS=>by cases hS⟩
structure QIn (made j:Nat) (D:DuW) (r:Nat × DuW) (p:Nat):Prop where
 q:DuW.qOk made D=true
 m:made≤j
 f:D.Fit
 r:DuW.qRun (p-j) j made D=some r
theorem QIn.done {made:Nat} {D:DuW} {r:Nat × DuW} {p j:Nat} (h:QIn made j D r p):D.y.started=0∧D.y.finished=0∧D.y.freed=0∧D.y.stage=0∧Ent.wait D.K.sp.line=0∧D.K.sp.tab.cnt 1=0∧made≤D.K.sp.tab.cnt 2∧D.K.sp.tab.cnt 2≤made+1:=DuW.qOk_started h.q
theorem QIn.even {made j p:Nat} {D:DuW} {r:Nat × DuW} (h:QIn made j D r p) (hj:j<p) (he:j%2=0): ∃V,D.cy.stepG=some V∧QIn made (j+1) (D.putC V) r p:=by
 have hr:=h.r;obtain ⟨f,hf⟩: ∃f,p-j=f+1:=⟨p-j-1,zo⟩;rw [hf] at hr;obtain ⟨q,h1,h2,h3⟩:=DuW.qRun_step hr;unfold DuW.qStep at h1;rw [if_neg zo] at h1;cases hV:D.cy.stepG with
 |none=>rw [hV] at h1;cases h1
 |some V=>
  rw [hV] at h1;injection h1 with h1;subst h1;exact ⟨V,rfl,h2,by have:=h.m;omega,h.f.stepC hV,by rw [show p-(j+1)=f by omega];exact h3⟩
theorem QIn.odd {made j p:Nat} {D:DuW} {r:Nat × DuW} (h:QIn made j D r p) (hj:j<p) (he:j%2=1): ∃x,D.ac.stepL=some x∧((x.1.2=false∧QIn made (j+1) (D.putA x.2) r p)∨(x.1.2=true∧x.1.1.e=0∧x.1.1.own=10∧QIn (made+1) (j+1) (D.putA x.2) r p)):=by
 have hr:=h.r;obtain ⟨f,hf⟩: ∃f,p-j=f+1:=⟨p-j-1,zo⟩;rw [hf] at hr;obtain ⟨q,h1,h2,h3⟩:=DuW.qRun_step hr;unfold DuW.qStep at h1;rw [if_pos he] at h1;cases hV:D.ac.stepL with
 |none=>rw [hV] at h1;cases h1
 |some x=>
  rw [hV] at h1;simp only at h1;refine ⟨x,rfl,?_⟩;cases hb:x.1.2
  · rw [hb] at h1;simp only [Bool.false_eq_true,if_false] at h1;injection h1 with h1;subst h1;exact Or.inl ⟨rfl,h2,by have:=h.m;omega,h.f.stepA hV,by rw [show p-(j+1)=f by omega];exact h3⟩
  · rw [hb] at h1;simp only [if_true] at h1;split at h1
    case isFalse=>cases h1
    case isTrue hc=>
     injection h1 with h1;subst h1;rw [Bool.and_eq_true,beq_iff_eq,beq_iff_eq] at hc;exact Or.inr ⟨rfl,hc.1,hc.2,h2,by have:=h.m;omega,h.f.stepA hV,by rw [show p-(j+1)=f by omega];exact h3⟩
theorem QIn.cycles {w0:World} {g:GW} {hb a c k:Nat} {st:Int} {made j p:Nat} {D:DuW} {r:Nat × DuW} (h:QIn made j D r p) (hp:HpIs w0 g hb st a c k D):Calls prog 27 #[.agg #[.pointer (some ⟨c,0,none⟩)]] g.w (Gives (.tuple #[.int .i64 0,.int .i64 0]) g.w):=by
 obtain ⟨lv,h2⟩:=hp.h;have h1:=ydl h2.du;rw [h.done.1,h.done.2.1] at h1;exact h1
theorem QIn.waits {w0:World} {g:GW} {hb a c k:Nat} {st:Int} {made j p:Nat} {D:DuW} {r:Nat × DuW} (h:QIn made j D r p) (hp:HpIs w0 g hb st a c k D):Calls prog 29 #[.pointer (some ⟨hb,0,none⟩)] g.w (Gives (zI z6 0) g.w):=by
 obtain ⟨lv,h2⟩:=hp.h;have h1:=yeh h2;rw [show ((Ent.wait D.K.sp.line:Nat):Int)=0 from by rw [h.done.2.2.2.2.1];rfl] at h1;exact h1
theorem QIn.counts {w0:World} {g:GW} {hb a c k:Nat} {st:Int} {made j p:Nat} {D:DuW} {r:Nat × DuW} (h:QIn made j D r p) (hp:HpIs w0 g hb st a c k D): ∃q u:Int,(made:Int)≤u∧u≤(made:Int)+1∧Calls prog 28 #[.pointer (some ⟨hb,0,none⟩)] g.w (Gives (.tuple #[.int .i64 q,.int .i64 0,.int .i64 u]) g.w):=by
 obtain ⟨lv,h2⟩:=hp.h;have h1:=ycS h2;obtain ⟨-, -, -, -, -,d5,d6,d7⟩:=h.done;rw [show ((D.K.sp.tab.cnt 1:Nat):Int)=0 from by rw [d5];rfl] at h1;exact ⟨_,_,zo,zo,h1⟩
theorem QIn.freed {w0:World} {g:GW} {hb a c k:Nat} {st:Int} {made j p:Nat} {D:DuW} {r:Nat × DuW} (h:QIn made j D r p) (hp:HpIs w0 g hb st a c k D):Calls prog 30 #[.agg #[.pointer (some ⟨c,0,none⟩)]] g.w (Gives (zI z6 0) g.w):=by
 obtain ⟨lv,h2⟩:=hp.h;have h1:=yed h2.du;rw [h.done.2.2.1] at h1;exact h1
theorem QIn.stage {w0:World} {g:GW} {hb a c k:Nat} {st:Int} {made j p:Nat} {D:DuW} {r:Nat × DuW} (h:QIn made j D r p) (hp:HpIs w0 g hb st a c k D):Calls prog 31 #[.agg #[.pointer (some ⟨c,0,none⟩)]] g.w (Gives (zI z6 0) g.w):=by
 obtain ⟨lv,h2⟩:=hp.h;have h1:=yee h2.du;rw [h.done.2.2.2.1] at h1;exact h1
theorem HpIs.ext {w0:World} {own:Nat→Nat} {w w':World} {hb a c k:Nat} {st:Int} {D:DuW} (h:HpIs w0 ⟨own,w⟩ hb st a c k D) (he:Ext w w'): ∃own',HpIs w0 ⟨own',w'⟩ hb st a c k D:=by
 obtain ⟨own',m⟩:=Mod.ofExt he own;exact ⟨own',h.keep m⟩
theorem yeA (H: ∀n:Nat,n≤40→quietChk n=fun _ _ _ _=>true) (n p:Int) (w:World):Calls prog 5 #[.int .i64 n,.int .i64 p] w (Gives (.bool true) w):=by
 have HF:=zH (fun w=>ydh w);have HALL:=zH H;clear H;go_enter func5,ntmps5;go_wp2_with fail;refine (HF.out _).mono ?_;rintro e w1 ⟨rfl,hX⟩;have E1:=zH (show Ext w w1 from hX);clear hX;by_cases hn1:n<0
 · have d0:decide (n<0)=true:=decide_eq_true hn1;clear hn1;go_wp2_with fail;refine (HF.out _).mono ?_;rintro e w9 ⟨rfl,hX⟩;have E9:=zH (show Ext w1 w9 from hX);clear hX;go_wp2_with fail;go_ret;exact Gives.bool rfl (E1.out.trans E9.out)
 have d0:decide (n<0)=false:=decide_eq_false hn1;by_cases hn2:40<n
 · have d1:decide (40<n)=true:=decide_eq_true hn2;clear hn1 hn2;go_wp2_with fail;refine (HF.out _).mono ?_;rintro e w9 ⟨rfl,hX⟩;have E9:=zH (show Ext w1 w9 from hX);clear hX;go_wp2_with fail;go_ret;exact Gives.bool rfl (E1.out.trans E9.out)
 have d1:decide (40<n)=false:=decide_eq_false hn2;by_cases hs1:p<0
 · have d2:decide (p<0)=true:=decide_eq_true hs1;clear hn1 hn2 hs1;go_wp2_with fail;refine (HF.out _).mono ?_;rintro e w9 ⟨rfl,hX⟩;have E9:=zH (show Ext w1 w9 from hX);clear hX;go_wp2_with fail;go_ret;exact Gives.bool rfl (E1.out.trans E9.out)
 have d2:decide (p<0)=false:=decide_eq_false hs1;by_cases hs2:3000<p
 · have d3:decide (3000<p)=true:=decide_eq_true hs2;clear hn1 hn2 hs1 hs2;go_wp2_with fail;refine (HF.out _).mono ?_;rintro e w9 ⟨rfl,hX⟩;have E9:=zH (show Ext w1 w9 from hX);clear hX;go_wp2_with fail;go_ret;exact Gives.bool rfl (E1.out.trans E9.out)
 have d3:decide (3000<p)=false:=decide_eq_false hs2;obtain ⟨m,rfl⟩:=Int.eq_ofNat_of_zero_le (show 0≤n by omega);obtain ⟨s,rfl⟩:=Int.eq_ofNat_of_zero_le (show 0≤p by omega);have hm:m≤40:=zo;have hs:s≤3000:=zo;clear hn1 hn2 hs1 hs2;obtain ⟨i0,hi,hz0,hz1,hz2⟩:=info_parts yfi;go_wp2_with fail;clear d0 d1 d2 d3;go_loopw [5,6] (fun v i wr=> ∃k:Nat,k≤m∧i=.int .i64 k∧Hid (wr.ownsRow w1.heap.size 26 6 v k ((quietOps k).flatMap Opr.cells))∧Hid (Ext w1 wr)) (fun _ i _=>m-(intOf i).toNat)
 case atStart=>exact ⟨0,Nat.zero_le _,rfl,zH (World.ownsRow_nil _ _ _ _),zH (Ext.refl _)⟩
 case round=>
  obtain ⟨k,hk,rfl,HR,HE⟩:=hrel;obtain ⟨Av,cv,rfl⟩:=yag HR.out;by_cases hlt:k<m
  · have hlt':(k:Int)<(m:Int):=zo;have hsz:=HE.out.size;have hmd:(k:Int).tmod 3=(k:Int)%3:=Int.tmod_eq_emod_of_nonneg zo;go_wp2_with (at_builtin;refine wpList_append_own _ rfl _ _ 23 rfl w1.heap.size 26 i0 (.agg #[.int .i64 0,.int .i64 0,.int .i64 0,.int .i64 0,.int .i64 0,.complex .f64 0 0]) 6 56 Tryz.underlying23 hi hz0 hz1 hz2 rfl zd _ _ _ rfl (HR.out.alloc _) ⟨wr.heap.size,0,none⟩ 1 1 (([⟨1,(k:Int)%3,0,0,0,0,0⟩]:List Opr).flatMap Opr.cells) rfl rfl (ybU _ (([⟨1,(k:Int)%3,0,0,0,0,0⟩]:List Opr).flatMap Opr.cells) 26) (yey _) (by unfold maxLen;omega) zo (by rw [World.size_alloc];omega) ?_;intro v' w2 hown' hgrow _);have HE2:=zH (yaB (w:=w1) (HE.out.alloc _) hgrow (fun j hj=>(HR.out.lt j hj).1));have HN':=zH hown';clear hown' hgrow;go_roundw
    case rel=>exact ⟨k+1,zo,by go_num,zH (by rw [show quietOps (k+1)=quietOps k++[⟨1,(k:Int)%3,0,0,0,0,0⟩] from rfl,List.flatMap_append];exact HN'.out),HE2⟩
    case measure=>simp [intOf];omega
  · obtain rfl:k=m:=zo;clear hk hlt;have hsz:=HE.out.size;have HL:=zH (show CellsAt wr Av ((quietOps k).flatMap Opr.cells) from yaD HR.out);have E2:=zH (E1.out.trans HE.out);obtain ⟨w2,rfl⟩: ∃w2:World,w2=wr:=⟨_,rfl⟩;have HT:=zH (yhZ 60 0 w2);have HQN:=zH hm;have HSN:=zH hs;clear HR HE hsz E1;go_wp2_with fail;refine HT.out.mono ?_;rintro e w3 ⟨A,A0,A1,A2,rfl,hE,hOK⟩;have hA3:Ext w3 (w3.alloc (.cells #[.slice Av k cv] 23)):=zE;have HNW:=zH (yff (cTwo 60 0 A A0 A1 A2) w3.heap.size Av cv (quietOps k) (w3.alloc (.cells #[.slice Av k cv] 23)) k rfl (show (1:Int)≤2 by decide) (yd2 A A0 A1 A2) (hOK.ext hA3) (yaO k) zo ((HL.out.ext hE).ext hA3) (by rw [World.cell?,heap_alloc_new];rfl) (by rw [World.size_alloc];omega));have E4:=zH ((E2.out.trans hE).trans hA3);obtain ⟨hq0,hqr⟩:=yfO (HALL.out k hm) A A0 A1 A2 s hs;obtain ⟨r,hr⟩:=Option.isSome_iff_exists.1 hqr;have QI0:=zH (show QIn 0 0 (quietD k A A0 A1 A2) r s from ⟨hq0,Nat.le_refl _,yez hm A A0 A1 A2,hr⟩);clear hE hOK HT HL hq0 hqr hr E2 hA3;generalize (cTwo 60 0 A A0 A1 A2).val=cvv at *;go_wp2_with fail;refine HNW.out.mono ?_;rintro e w5 ⟨w0,own5,hb,a,y,kk,rfl,hE0,hD0⟩
    have E5:=zH (E4.out.trans hE0);have S5:=zH (show HpIs w0 ⟨own5,w5⟩ hb ((0:Nat):Int) a y kk (quietD k A A0 A1 A2) from hD0);generalize quietD k A A0 A1 A2=D0 at *;clear hE0 hD0 HNW E4 HALL;go_wp2_with fail;go_loopw [9,10,11,12,13,14,15,16] (fun d i x1 x2 x3 x4 x5 x6 wr=> ∃(j q:Nat) (own:Nat→Nat) (X:DuW),j≤s∧d=.int .i64 q∧i=.int .i64 j∧Hid (HpIs w0 ⟨own,wr⟩ hb j a y kk X)∧Hid (QIn q j X r s)) (fun _ i _ _ _ _ _ _ _=>s-(intOf i).toNat)
    case atStart=>exact ⟨0,0,own5,D0,Nat.zero_le _,rfl,rfl,S5,QI0⟩
    case round=>
     clear S5 QI0;obtain ⟨j,q,own6,X,hj,rfl,rfl,S6,QI6⟩:=hrel;obtain ⟨w6,rfl⟩: ∃w6:World,w6=wr:=⟨_,rfl⟩;have hsb:=HSN.out;by_cases hlt:j<s
     · have hlt':(j:Int)<(s:Int):=zo;have hqj:=QI6.out.m;rcases Nat.mod_two_eq_zero_or_one j with he|he
       · obtain ⟨V,hV,qi⟩:=QI6.out.even hlt he;have QI:=zH qi;have hand:bits .and .i64 (j:Int) 1=0:=by rw [ycT];omega
         have HS:=zH (show Calls prog 26 #[.pointer (some ⟨hb,0,none⟩),.int .i64 0] w6 (Does (.agg #[.int .i64 0,.bool false,.int .i64 0,.int .i64 0,.int .i64 0,.bool false,.complex .f64 0 0]) ⟨own6,w6⟩ hpT (fun g'=>HpIs w0 g' hb ((j:Int)+1) a y kk (X.putC V)∧(X.putC V).Fit)) from ygD S6.out ⟨zo,zo⟩ QI6.out.f V hV);clear qi hV QI6 S6 he;generalize DuW.putC X V=Y at *;go_wp2_with fail;refine HS.out.mono ?_;rintro e w7 ⟨rfl,own7,m7,s7, -⟩;have S7:=zH (show HpIs w0 ⟨own7,w7⟩ hb ((j+1:Nat):Int) a y kk Y from s7);clear m7 s7 HS hand;go_upto_region 18 with fail
         obtain ⟨own8,m8,t8⟩:=yaI ⟨own7,w7⟩ 78 [.int .i64 0,.bool false,.int .i64 0,.int .i64 0,.int .i64 0,.bool false,.complex .f64 0 0];have m8':Mod (fun _=>False) (⟨own7,w7⟩:GW) ⟨own8,w7.alloc (.cells #[.int .i64 0,.bool false,.int .i64 0,.int .i64 0,.int .i64 0,.bool false,.complex .f64 0 0] 78)⟩:=m8;have t8':Blk ⟨own8,w7.alloc (.cells #[.int .i64 0,.bool false,.int .i64 0,.int .i64 0,.int .i64 0,.bool false,.complex .f64 0 0] 78)⟩ 9 w7.heap.size 78 [.int .i64 0,.bool false,.int .i64 0,.int .i64 0,.int .i64 0,.bool false,.complex .f64 0 0]:=t8;have S8:=zH (S7.out.keep m8');have T8:=zH t8';clear m8 t8 m8' t8' S7;generalize w7.alloc (.cells #[.int .i64 0,.bool false,.int .i64 0,.int .i64 0,.int .i64 0,.bool false,.complex .f64 0 0] 78)=w8 at *;generalize w7.heap.size=tb at *;obtain ⟨t0,t1,t2,t3,t4,t5,t6,tl⟩:=T8.out.k7;obtain ⟨lv20,hh20⟩:=S8.out.h;obtain ⟨b0,b1,b2,b3,bl⟩:=hh20.blk.k4;clear hh20;have HC1:=zH (QI.out.cycles S8.out);go_wp2_with fail;refine HC1.out.mono ?_;rintro e w21 ⟨rfl,hX⟩;obtain ⟨own21,s21⟩:=S8.out.ext (show Ext w8 w21 from hX);have S21:=zH s21;clear hX s21 S8 HC1 b0 b1 b2 b3 bl;obtain ⟨qq,u,hu1,hu2,hcn⟩:=QI.out.counts S21.out;have HC2:=zH hcn;clear hcn
         go_wp2_with fail;refine HC2.out.mono ?_;rintro e w22 ⟨rfl,hX⟩;obtain ⟨own22,s22⟩:=S21.out.ext (show Ext w21 w22 from hX);have S22:=zH s22;clear hX s22 S21 HC2;have HC3:=zH (QI.out.waits S22.out);have g1:decide (u<(q:Int))=false:=decide_eq_false zo;have g2:decide ((q:Int)+1<u)=false:=decide_eq_false zo;have hmb:=QI.out.m;go_wp2_with fail;refine HC3.out.mono ?_;rintro e w23 ⟨rfl,hX⟩;obtain ⟨own23,s23⟩:=S22.out.ext (show Ext w22 w23 from hX);have S23:=zH s23;clear hX s23 S22 HC3;go_wp2_with fail;go_roundw
         case rel=>exact ⟨j+1,q,own23,Y,zo,by go_num,by go_num,S23,QI⟩
         case measure=>simp [intOf];omega
       · obtain ⟨x,hx,hcs⟩:=QI6.out.odd hlt he;have hand:bits .and .i64 (j:Int) 1=1:=by rw [ycT];omega
         have HS0:=zH (ygC S6.out ⟨zo,zo⟩ QI6.out.f x hx);obtain ⟨⟨⟨ro,rw_,re,⟨rf,rz1,rz2⟩⟩,xb⟩,xW⟩:=x;have HS:=zH (show Calls prog 26 #[.pointer (some ⟨hb,0,none⟩),.int .i64 1] w6 (Does (.agg #[.int .i64 1,.bool xb,.int .i64 ro,.int .i64 rw_,.int .i64 re,.bool rf,.complex .f64 rz1 rz2]) ⟨own6,w6⟩ hpT (fun g'=>HpIs w0 g' hb ((j:Int)+1) a y kk (X.putA xW)∧(X.putA xW).Fit)) from HS0.out);simp only at hcs;clear hx QI6 S6 he HS0;generalize DuW.putA X xW=Y at *;go_wp2_with fail;refine HS.out.mono ?_;rintro e w7 ⟨rfl,own7,m7,s7, -⟩;have S7:=zH (show HpIs w0 ⟨own7,w7⟩ hb ((j+1:Nat):Int) a y kk Y from s7);clear m7 s7 HS hand;rcases hcs with ⟨rfl,qi⟩|⟨rfl,rfl,rfl,qi⟩
         · have QI:=zH qi;clear qi;go_upto_region 18 with fail
           obtain ⟨own8,m8,t8⟩:=yaI ⟨own7,w7⟩ 78 [.int .i64 1,.bool false,.int .i64 ro,.int .i64 rw_,.int .i64 re,.bool rf,.complex .f64 rz1 rz2];have m8':Mod (fun _=>False) (⟨own7,w7⟩:GW) ⟨own8,w7.alloc (.cells #[.int .i64 1,.bool false,.int .i64 ro,.int .i64 rw_,.int .i64 re,.bool rf,.complex .f64 rz1 rz2] 78)⟩:=m8;have t8':Blk ⟨own8,w7.alloc (.cells #[.int .i64 1,.bool false,.int .i64 ro,.int .i64 rw_,.int .i64 re,.bool rf,.complex .f64 rz1 rz2] 78)⟩ 9 w7.heap.size 78 [.int .i64 1,.bool false,.int .i64 ro,.int .i64 rw_,.int .i64 re,.bool rf,.complex .f64 rz1 rz2]:=t8;have S8:=zH (S7.out.keep m8');have T8:=zH t8';clear m8 t8 m8' t8' S7;generalize w7.alloc (.cells #[.int .i64 1,.bool false,.int .i64 ro,.int .i64 rw_,.int .i64 re,.bool rf,.complex .f64 rz1 rz2] 78)=w8 at *;generalize w7.heap.size=tb at *;obtain ⟨t0,t1,t2,t3,t4,t5,t6,tl⟩:=T8.out.k7;obtain ⟨lv20,hh20⟩:=S8.out.h;obtain ⟨b0,b1,b2,b3,bl⟩:=hh20.blk.k4;clear hh20;have HC1:=zH (QI.out.cycles S8.out);go_wp2_with fail;refine HC1.out.mono ?_;rintro e w21 ⟨rfl,hX⟩;obtain ⟨own21,s21⟩:=S8.out.ext (show Ext w8 w21 from hX);have S21:=zH s21;clear hX s21 S8 HC1 b0 b1 b2 b3 bl;obtain ⟨qq,u,hu1,hu2,hcn⟩:=QI.out.counts S21.out
           have HC2:=zH hcn;clear hcn;go_wp2_with fail;refine HC2.out.mono ?_;rintro e w22 ⟨rfl,hX⟩;obtain ⟨own22,s22⟩:=S21.out.ext (show Ext w21 w22 from hX);have S22:=zH s22;clear hX s22 S21 HC2;have HC3:=zH (QI.out.waits S22.out);have g1:decide (u<(q:Int))=false:=decide_eq_false zo;have g2:decide ((q:Int)+1<u)=false:=decide_eq_false zo;have hmb:=QI.out.m;go_wp2_with fail;refine HC3.out.mono ?_;rintro e w23 ⟨rfl,hX⟩;obtain ⟨own23,s23⟩:=S22.out.ext (show Ext w22 w23 from hX);have S23:=zH s23;clear hX s23 S22 HC3;go_wp2_with fail;go_roundw
           case rel=>exact ⟨j+1,q,own23,Y,zo,by go_num,by go_num,S23,QI⟩
           case measure=>simp [intOf];omega
         · have QI:=zH qi;clear qi;go_upto_region 18 with fail
           obtain ⟨own8,m8,t8⟩:=yaI ⟨own7,w7⟩ 78 [.int .i64 1,.bool true,.int .i64 ro,.int .i64 10,.int .i64 0,.bool rf,.complex .f64 rz1 rz2];have m8':Mod (fun _=>False) (⟨own7,w7⟩:GW) ⟨own8,w7.alloc (.cells #[.int .i64 1,.bool true,.int .i64 ro,.int .i64 10,.int .i64 0,.bool rf,.complex .f64 rz1 rz2] 78)⟩:=m8;have t8':Blk ⟨own8,w7.alloc (.cells #[.int .i64 1,.bool true,.int .i64 ro,.int .i64 10,.int .i64 0,.bool rf,.complex .f64 rz1 rz2] 78)⟩ 9 w7.heap.size 78 [.int .i64 1,.bool true,.int .i64 ro,.int .i64 10,.int .i64 0,.bool rf,.complex .f64 rz1 rz2]:=t8;have S8:=zH (S7.out.keep m8');have T8:=zH t8';clear m8 t8 m8' t8' S7;generalize w7.alloc (.cells #[.int .i64 1,.bool true,.int .i64 ro,.int .i64 10,.int .i64 0,.bool rf,.complex .f64 rz1 rz2] 78)=w8 at *;generalize w7.heap.size=tb at *;obtain ⟨t0,t1,t2,t3,t4,t5,t6,tl⟩:=T8.out.k7;go_upto_region 22 with fail
           obtain ⟨lv20,hh20⟩:=S8.out.h;obtain ⟨b0,b1,b2,b3,bl⟩:=hh20.blk.k4;clear hh20;have HC1:=zH (QI.out.cycles S8.out);go_wp2_with fail;refine HC1.out.mono ?_;rintro e w21 ⟨rfl,hX⟩;obtain ⟨own21,s21⟩:=S8.out.ext (show Ext w8 w21 from hX);have S21:=zH s21;clear hX s21 S8 HC1 b0 b1 b2 b3 bl;obtain ⟨qq,u,hu1,hu2,hcn⟩:=QI.out.counts S21.out;have HC2:=zH hcn;clear hcn;go_wp2_with fail;refine HC2.out.mono ?_;rintro e w22 ⟨rfl,hX⟩;obtain ⟨own22,s22⟩:=S21.out.ext (show Ext w21 w22 from hX);have S22:=zH s22;clear hX s22 S21 HC2;have HC3:=zH (QI.out.waits S22.out);have g1:decide (u<((q:Int)+1))=false:=decide_eq_false zo;have g2:decide (((q:Int)+1)+1<u)=false:=decide_eq_false zo;have hmb:=QI.out.m;go_wp2_with fail;refine HC3.out.mono ?_;rintro e w23 ⟨rfl,hX⟩;obtain ⟨own23,s23⟩:=S22.out.ext (show Ext w22 w23 from hX);have S23:=zH s23;clear hX s23 S22 HC3;go_wp2_with fail;go_roundw
           case rel=>exact ⟨j+1,q+1,own23,Y,zo,by go_num,by go_num,S23,QI⟩
           case measure=>simp [intOf];omega
     · obtain rfl:j=s:=zo;have QI:=QI6;clear QI6 hlt hj;go_wp2_with fail;refine (HF.out _).mono ?_;rintro e w7 ⟨rfl,hX⟩;obtain ⟨own7,s7⟩:=S6.out.ext (show Ext w6 w7 from hX);have S7:=zH s7;have HFR:=zH (QI.out.freed s7);obtain ⟨lv20,hh20⟩:=s7.h;obtain ⟨b0,b1,b2,b3,bl⟩:=hh20.blk.k4;clear hX s7 S6 hh20;go_wp2_with fail;refine HFR.out.mono ?_;rintro e w8 ⟨rfl,hX⟩;obtain ⟨own8,s8⟩:=S7.out.ext (show Ext w7 w8 from hX);have S8:=zH s8;have HSG:=zH (QI.out.stage s8);clear b0 b1 b2 b3 bl;obtain ⟨lv21,hh21⟩:=s8.h;obtain ⟨b0,b1,b2,b3,bl⟩:=hh21.blk.k4;clear hX s8 S7 hh21 HFR;go_wp2_with fail;refine HSG.out.mono ?_;rintro e w9 ⟨rfl,hX⟩;have E9:=zH ((E5.out.trans S8.out.fin).trans (show Ext w8 w9 from hX));clear hX;go_wp2_with fail;go_ret;exact Gives.bool rfl E9.out
end Go.Proofs.YtdhjjpnajjingaaGreat
