import Derived.Test.YtdhjjpnajjingaaGreatKL21
set_option linter.unusedVariables false
set_option linter.unnecessarySimpa false
set_option linter.unusedSimpArgs false
open Bool renaming true→zT,false→zU
open Go.Value renaming int→zI
open Go.IntKind renaming i64→z6
set_option maxHeartbeats 8000000
set_option maxRecDepth 100000
open Go.Proofs.Tryz
open Go.Lib renaming hid→zH
open Go.Ext renaming alloc→zA,patch→zP,drew→zD,drewN→zN,more→zM,refl→zR,setCell→zS
open Nat renaming le_refl→zL,le_add_right→zK
namespace Go.Proofs.YtdhjjpnajjingaaGreat
open Go Go.RowKit
section
variable {g:GW} {t b B k:Nat} {W:AcW}
theorem ygR [TbId] (P:AcApart t B) (H:AcWAt g t B b k W) (hol:W.a.ops.length≤1000000) (r:AcR) (h:W.stepL=some r):
 Calls prog 10 #[.pointer (some ⟨b,0,none⟩),.pointer (some ⟨k,0,none⟩)] g.w (Does (resV r.1) g (acT t B) (fun g'=>AcWAt g' t B b k r.2)):=by
 unfold AcW.stepL at h;cases hR:W.okL
 · rw [hR] at h;cases h
 rw [hR,if_pos rfl] at h;unfold AcW.okL at hR;simp only [Bool.and_eq_true,Bool.or_eq_true,bne_iff_ne,ne_eq,decide_eq_true_eq,beq_iff_eq] at hR;obtain ⟨h3,hw,hl2,hck⟩:=hR;unfold AcW.step at h;cases hbd:W.bdB
 · rw [hbd,if_pos rfl] at h;cases h
 rw [if_neg (by rw [hbd];simp)] at h;have hd:=bdB_of hbd;obtain ⟨p,bm,bs,bt,bp,bsp,bh,cm,H⟩:=H;have HH:=zH H;have HP:=zH P;have hPt:=P.ht;have hPb:=P.hb;have hPa:=P.apart;go_enter func10,ntmps10;go_upto_region 1 with fail
 obtain ⟨own0,M0,R0⟩:=yay g 40 resZ;unfold resZ at M0 R0;generalize (g.w.alloc (.cells #[.int .i64 0,.int .i64 0,.int .i64 0,.bool false,.complex .f64 0 0] 40))=w0 at *;have M0':=zH M0;have R0':=zH R0;clear M0 R0;have H0:=zH (HH.out.keep0 M0'.out);have M0:=zH (M0'.out.mono (S:=acT t B) (fun _=>False.elim));obtain ⟨a0,a1,a2,a3,a4,a5,a6,a7,a8,a9,a10,a11,a12,a13,a14,a15,a16,a17,a18,al⟩:=H0.out.a.blk.k19;clear H M0';by_cases h0:W.a.phase=0
 · rw [if_pos h0] at h;injection h with h;have HJ:=zH (fun X=>yiN ((⟨own0,w0⟩:GW).pt X) (B+63) bh W.a.t W.K.hand (H0.out.pt X).c.hand hd.hand);obtain ⟨c0,c1,c2,c3,c4,c5,c6,c7,c8,c9,c10,c11,c12,cl⟩:=H0.out.c.blk.k13;rw [h0] at a3;cases hj:W.K.hand.mayJoin W.a.t
   · have HD:=zH (show W.joins={ a:={ W.a with phase:=4 },K:={ W.K with hand:=W.K.hand.join W.a.t } } by unfold AcW.joins;rw [hj];rfl);rw [show W.K.hand.joined W.a.t=.tuple #[.int .i64 0,.bool false,.bool false] by unfold HandS.joined;rw [hj];rfl] at HJ;clear hj h0 h3 hw;go_upto_region 3 with fail
     refine yau [] [zT,zT,zT,zT,zT,zT,zT,zT] 8 7 ?_;intro X00;simp only [pickOps,movesAct,moveOf,List.getElem?_toArray,List.getElem?_cons_zero,List.getElem?_cons_succ];(try go_simp);repeat (go_big_quiet_step (fail))
     refine wpQuiet_nil (fun X0 K Q' hK=>?_);clear X00;(try go_simp);refine (HJ.out _).mono ?_;rintro e w1 ⟨rfl,own1,m1,h1⟩;have P1:=(Mod.pt (Mod.refl _ _) _).trans m1;have M1:=zH (M0.out.trans (P1.mono (S:=acT t B) (fun x hx=>ybz hx)));have H1:=zH (H0.out.hand HP.out P1 h1);have R1:=zH (R0'.out.keep P1 zo);clear P1 m1 h1 HJ H0 M0 R0';clear a0 a1 a2 a3 a4 a5 a6 a7 a8 a9 a10 a11 a12 a13 a14 a15 a16 a17 a18 al;clear c0 c1 c2 c3 c4 c5 c6 c7 c8 c9 c10 c11 c12 cl;obtain ⟨a0,a1,a2,a3,a4,a5,a6,a7,a8,a9,a10,a11,a12,a13,a14,a15,a16,a17,a18,al⟩:=H1.out.a.blk.k19;have af3:=H1.out.a.blk.liv 3;(try go_simp);refine hK _ _ ?_;clear hK K Q';refine yac (v:=.tuple #[.int .i64 0,.bool false,.bool false]) 9 ?_;(try go_simp);refine yac (v:=.int .i64 0) 10 ?_;(try go_simp);refine yac (v:=.bool false) 11 ?_;(try go_simp);refine yac (v:=.bool false) 12 ?_;(try go_simp);refine yag 13 (fun K Q' hK=>?_);(try go_simp);refine hK _ _ ?_;clear hK K Q';refine yag 14 (fun K Q' hK=>?_);(try go_simp);refine hK _ _ ?_;clear hK K Q';refine yag 15 (fun K Q' hK=>?_);(try go_simp);refine hK _ _ ?_;clear hK K Q';refine wpAny_done zQ ?_ _
     have H2:=zH (H1.out.set HP.out 3 (zI z6 4) { W.a with phase:=4 } rfl ⟨rfl,rfl,rfl,rfl,rfl,rfl⟩);have m2:Mod (fun x=>x=t) (⟨own1,w1⟩:GW) ⟨own1,w1.setCell ⟨b,3,none⟩ (zI z6 4)⟩:=Mod.st (Mod.refl _ _) H1.out.a.blk.own;have M2:=zH (M1.out.trans (m2.mono (S:=acT t B) (fun x hx=>ybi hx)));have R2:=zH (R1.out.keep m2 zo);go_upto_region 16 with fail
     generalize w1.setCell ⟨b,3,none⟩ (zI z6 4)=w2 at *;clear m2 M1 H1 R1;obtain ⟨r0,r1,r2,r3,r4,rl⟩:=R2.out.k5;have rf0:=R2.out.liv 0;have rf1:=R2.out.liv 1;have rf2:=R2.out.liv 2;have rf3:=R2.out.liv 3;have rf4:=R2.out.liv 4;go_wp2_with fail;obtain ⟨Mf,mf,Rf⟩:=yaf M2.out R2.out (Nat.le_refl _) (0) (0) (0) (false) (0) (0);generalize ((((((w2).setCell ⟨g.w.heap.size,0,none⟩ (zI z6 (0))).setCell ⟨g.w.heap.size,1,none⟩ (zI z6 (0))).setCell ⟨g.w.heap.size,2,none⟩ (zI z6 (0))).setCell ⟨g.w.heap.size,3,none⟩ (.bool (false))).setCell ⟨g.w.heap.size,4,none⟩ (.complex .f64 (0) (0)))=wf at *;obtain ⟨f0,f1,f2,f3,f4,fl⟩:=Rf.k5;refine bodyPost_ret (v:=.tuple #[.agg #[.int .i64 (0),.int .i64 (0),.int .i64 (0),.bool (false),.complex .f64 (0) (0)],.bool false]) (by simp [results,Tryz.results10,go_sem,f0,f1,f2,f3,f4]) rfl ?_;exact Does.of ⟨own1,wf⟩ rfl (by rw [←h];rfl) Mf (by rw [←h,show W.joins.no.2=W.joins from rfl,HD.out];exact (H2.out.keep mf zo (fun x (hx:x=9)=>by omega) (fun x (hx:x=9)=>by omega)).at_)
   · have HD:=zH (show W.joins={ a:={ W.a with status:=W.K.hand.status,sense:=W.K.hand.sense,phase:=1,pc:=0 },K:={ W.K with hand:=W.K.hand.join W.a.t } } by unfold AcW.joins;rw [hj];rfl);rw [show W.K.hand.joined W.a.t=.tuple #[.int .i64 W.K.hand.status,.bool W.K.hand.sense,.bool true] by unfold HandS.joined;rw [hj];rfl] at HJ;generalize W.K.hand.status=st at *;generalize W.K.hand.sense=se at *;clear hj h0 h3 hw;go_upto_region 3 with fail
     refine yau [] [zT,zT,zT,zT,zT,zT,zT,zT] 8 7 ?_;intro X00;simp only [pickOps,movesAct,moveOf,List.getElem?_toArray,List.getElem?_cons_zero,List.getElem?_cons_succ];(try go_simp);repeat (go_big_quiet_step (fail))
     refine wpQuiet_nil (fun X0 K Q' hK=>?_);clear X00;(try go_simp);refine (HJ.out _).mono ?_;rintro e w1 ⟨rfl,own1,m1,h1⟩;have P1:=(Mod.pt (Mod.refl _ _) _).trans m1;have M1:=zH (M0.out.trans (P1.mono (S:=acT t B) (fun x hx=>ybz hx)));have H1:=zH (H0.out.hand HP.out P1 h1);have R1:=zH (R0'.out.keep P1 zo);clear P1 m1 h1 HJ H0 M0 R0';clear a0 a1 a2 a3 a4 a5 a6 a7 a8 a9 a10 a11 a12 a13 a14 a15 a16 a17 a18 al;clear c0 c1 c2 c3 c4 c5 c6 c7 c8 c9 c10 c11 c12 cl;obtain ⟨a0,a1,a2,a3,a4,a5,a6,a7,a8,a9,a10,a11,a12,a13,a14,a15,a16,a17,a18,al⟩:=H1.out.a.blk.k19;have af3:=H1.out.a.blk.liv 3;have af4:=H1.out.a.blk.liv 4;have af5:=H1.out.a.blk.liv 5;have af7:=H1.out.a.blk.liv 7;(try go_simp);refine hK _ _ ?_;clear hK K Q';refine yac (v:=.tuple #[.int .i64 st,.bool se,.bool true]) 9 ?_;(try go_simp);refine yac (v:=.int .i64 st) 10 ?_;(try go_simp);refine yac (v:=.bool se) 11 ?_;(try go_simp);refine yac (v:=.bool true) 12 ?_;(try go_simp);refine yag 13 (fun K Q' hK=>?_);(try go_simp);refine hK _ _ ?_;clear hK K Q';refine yag 14 (fun K Q' hK=>?_);(try go_simp);refine hK _ _ ?_;clear hK K Q';refine yag 15 (fun K Q' hK=>?_);(try go_simp);refine hK _ _ ?_;clear hK K Q'
     refine wpAny_done zQ ?_ _;have H2:=zH ((((H1.out.set HP.out 4 (zI z6 st) { W.a with status:=st } rfl ⟨rfl,rfl,rfl,rfl,rfl,rfl⟩).set HP.out 5 (.bool se) { W.a with status:=st,sense:=se } rfl ⟨rfl,rfl,rfl,rfl,rfl,rfl⟩).set HP.out 3 (zI z6 1) { W.a with status:=st,sense:=se,phase:=1 } rfl ⟨rfl,rfl,rfl,rfl,rfl,rfl⟩).set HP.out 7 (zI z6 0) { W.a with status:=st,sense:=se,phase:=1,pc:=0 } rfl ⟨rfl,rfl,rfl,rfl,rfl,rfl⟩);have m2:Mod (fun x=>x=t) (⟨own1,w1⟩:GW) ⟨own1,(((w1.setCell ⟨b,4,none⟩ (zI z6 st)).setCell ⟨b,5,none⟩ (.bool se)).setCell ⟨b,3,none⟩ (zI z6 1)).setCell ⟨b,7,none⟩ (zI z6 0)⟩:=Mod.st (Mod.st (Mod.st (Mod.st (Mod.refl _ _) H1.out.a.blk.own) H1.out.a.blk.own) H1.out.a.blk.own) H1.out.a.blk.own;have M2:=zH (M1.out.trans (m2.mono (S:=acT t B) (fun x hx=>ybi hx)));have R2:=zH (R1.out.keep m2 zo);go_upto_region 16 with fail
     generalize (((w1.setCell ⟨b,4,none⟩ (zI z6 st)).setCell ⟨b,5,none⟩ (.bool se)).setCell ⟨b,3,none⟩ (zI z6 1)).setCell ⟨b,7,none⟩ (zI z6 0)=w2 at *;clear m2 M1 H1 R1;obtain ⟨r0,r1,r2,r3,r4,rl⟩:=R2.out.k5;have rf0:=R2.out.liv 0;have rf1:=R2.out.liv 1;have rf2:=R2.out.liv 2;have rf3:=R2.out.liv 3;have rf4:=R2.out.liv 4;go_wp2_with fail;obtain ⟨Mf,mf,Rf⟩:=yaf M2.out R2.out (Nat.le_refl _) (0) (0) (0) (false) (0) (0);generalize ((((((w2).setCell ⟨g.w.heap.size,0,none⟩ (zI z6 (0))).setCell ⟨g.w.heap.size,1,none⟩ (zI z6 (0))).setCell ⟨g.w.heap.size,2,none⟩ (zI z6 (0))).setCell ⟨g.w.heap.size,3,none⟩ (.bool (false))).setCell ⟨g.w.heap.size,4,none⟩ (.complex .f64 (0) (0)))=wf at *;obtain ⟨f0,f1,f2,f3,f4,fl⟩:=Rf.k5;refine bodyPost_ret (v:=.tuple #[.agg #[.int .i64 (0),.int .i64 (0),.int .i64 (0),.bool (false),.complex .f64 (0) (0)],.bool false]) (by simp [results,Tryz.results10,go_sem,f0,f1,f2,f3,f4]) rfl ?_;exact Does.of ⟨own1,wf⟩ rfl (by rw [←h];rfl) Mf (by rw [←h,show W.joins.no.2=W.joins from rfl,HD.out];exact (H2.out.keep mf zo (fun x (hx:x=9)=>by omega) (fun x (hx:x=9)=>by omega)).at_)
 rw [if_neg h0] at h;by_cases h1:W.a.phase=1
 · rw [if_pos h1] at h;split at h
   case isFalse=>cases h
   case isTrue hg=>
    injection h with h;have HB:=zH (ygN (g:=⟨own0,w0⟩) P hbd hg hl2 hol H0.out.at_);rw [h1] at a3;clear h0 h1 h3 hw hg hbd;go_wp2_with fail;refine HB.out.mono ?_;rintro e w1 ⟨rfl,own1,m1,h1⟩;obtain ⟨p1,bm1,bs1,bt1,bp1,bsp1,bh1,cm1,h1⟩:=h1;have M1:=zH (M0.out.trans m1);have H1:=zH h1;have R1:=zH (R0'.out.keep m1 (fun h=>by unfold acT at h;omega));clear m1 h1 HB H0 M0 R0';clear a0 a1 a2 a3 a4 a5 a6 a7 a8 a9 a10 a11 a12 a13 a14 a15 a16 a17 a18 al;obtain ⟨r0,r1,r2,r3,r4,rl⟩:=R1.out.k5;have rf0:=R1.out.liv 0;have rf1:=R1.out.liv 1;have rf2:=R1.out.liv 2;have rf3:=R1.out.liv 3;have rf4:=R1.out.liv 4;go_wp2_with fail;obtain ⟨Mf,mf,Rf⟩:=yaf M1.out R1.out (Nat.le_refl _) (0) (0) (0) (false) (0) (0);generalize ((((((w1).setCell ⟨g.w.heap.size,0,none⟩ (zI z6 (0))).setCell ⟨g.w.heap.size,1,none⟩ (zI z6 (0))).setCell ⟨g.w.heap.size,2,none⟩ (zI z6 (0))).setCell ⟨g.w.heap.size,3,none⟩ (.bool (false))).setCell ⟨g.w.heap.size,4,none⟩ (.complex .f64 (0) (0)))=wf at *;obtain ⟨f0,f1,f2,f3,f4,fl⟩:=Rf.k5
    refine bodyPost_ret (v:=.tuple #[.agg #[.int .i64 (0),.int .i64 (0),.int .i64 (0),.bool (false),.complex .f64 (0) (0)],.bool false]) (by simp [results,Tryz.results10,go_sem,f0,f1,f2,f3,f4]) rfl ?_;exact Does.of ⟨own1,wf⟩ rfl (by rw [←h];rfl) Mf (by rw [←h];exact (H1.out.keep mf zo (fun x (hx:x=9)=>by omega) (fun x (hx:x=9)=>by omega)).at_)
 rw [if_neg h1] at h;by_cases h2:W.a.phase=2
 · rw [if_pos h2] at h;split at h
   case isFalse=>cases h
   case isTrue hg=>
    rw [Bool.and_eq_true] at hg;obtain ⟨hg1,hg2⟩:=hg;have hop:W.a.next<W.a.ops.length:=of_decide_eq_true hg1;have hlo:(W.a.locals.length:Int)=W.K.c.locals:=of_decide_eq_true hg2;have hwk:=hw.resolve_left (fun hh=>hh h2);have eo:=IntWalk.i64_in (W.a.own+1) (by have:=hd.own;omega);have H1:=zH (show AcIn ⟨own0,w0.setCell ⟨b,10,none⟩ (zI z6 (W.a.own+1))⟩ t B b k W.up p bm bs bt bp bsp bh cm from H0.out.set HP.out 10 (zI z6 (W.a.own+1)) { W.a with own:=W.a.own+1 } rfl ⟨rfl,rfl,rfl,rfl,rfl,rfl⟩);have m1:Mod (fun x=>x=t) (⟨own0,w0⟩:GW) ⟨own0,w0.setCell ⟨b,10,none⟩ (zI z6 (W.a.own+1))⟩:=Mod.st (Mod.refl _ _) H0.out.a.blk.own;have M1:=zH (M0.out.trans (m1.mono (S:=acT t B) (fun x hx=>ybi hx)));have R1:=zH (R0'.out.keep m1 zo);have af10:=H0.out.a.blk.live 10;rw [h2] at a3;clear m1 h0 h1 h3 hw hg1 hg2 hbd h2;obtain ⟨hd1,hd2⟩:=hd.own;go_upto_region 12 with fail
    generalize w0.setCell ⟨b,10,none⟩ (zI z6 (W.a.own+1))=w1 at *;clear M0 H0 R0' eo af10;clear a0 a1 a2 a3 a4 a5 a6 a7 a8 a9 a10 a11 a12 a13 a14 a15 a16 a17 a18 al;obtain ⟨⟨rr,rb⟩,rW⟩:=r;have HWI:=zH (show Calls prog 41 #[.pointer (some ⟨b,0,none⟩),.pointer (some ⟨k,0,none⟩)] w1 (Does (.tuple #[.agg #[.int .i64 rr.op,.int .i64 rr.own,.int .i64 rr.e,.bool rr.v.ref,.complex .f64 rr.v.z.1 rr.v.z.2],.bool rb]) ⟨own0,w1⟩ (acT t B) (fun g'=>AcWAt g' t B b k rW)) from ygS (g:=⟨own0,w1⟩) (W:=W.up) P ⟨hd.next,hd.hand,hd.sp,hd.mem,hd.n,hd.line⟩ hck hlo hl2 hop hwk H1.out ((rr,rb),rW) h);clear h;go_wp2_with fail;refine HWI.out.mono ?_;rintro e w7 ⟨rfl,own7,m7,h7⟩;have M7:=zH (M1.out.trans m7);have H7:=zH h7;have R7:=zH (R1.out.keep m7 (fun h=>by unfold acT at h;omega));clear M1 H1 R1 m7 h7 HWI;obtain ⟨r0,r1,r2,r3,r4,rl⟩:=R7.out.k5;have rf0:=R7.out.liv 0;have rf1:=R7.out.liv 1;have rf2:=R7.out.liv 2;have rf3:=R7.out.liv 3;have rf4:=R7.out.liv 4;go_wp2_with fail;obtain ⟨Mf,mf,Rf⟩:=yaf M7.out R7.out (Nat.le_refl _) (rr.op) (rr.own) (rr.e) (rr.v.ref) (rr.v.z.1) (rr.v.z.2)
    generalize ((((((w7).setCell ⟨g.w.heap.size,0,none⟩ (zI z6 (rr.op))).setCell ⟨g.w.heap.size,1,none⟩ (zI z6 (rr.own))).setCell ⟨g.w.heap.size,2,none⟩ (zI z6 (rr.e))).setCell ⟨g.w.heap.size,3,none⟩ (.bool (rr.v.ref))).setCell ⟨g.w.heap.size,4,none⟩ (.complex .f64 (rr.v.z.1) (rr.v.z.2)))=wf at *;obtain ⟨f0,f1,f2,f3,f4,fl⟩:=Rf.k5;refine bodyPost_ret (v:=.tuple #[.agg #[.int .i64 (rr.op),.int .i64 (rr.own),.int .i64 (rr.e),.bool (rr.v.ref),.complex .f64 (rr.v.z.1) (rr.v.z.2)],.bool rb]) (by simp [results,Tryz.results10,go_sem,f0,f1,f2,f3,f4]) rfl ?_;obtain ⟨p5,bm5,bs5,bt5,bp5,bsp5,bh5,cm5,h8⟩:=H7.out;exact Does.of ⟨own7,wf⟩ rfl rfl Mf ((h8.keep mf zo (fun x (hx:x=9)=>by omega) (fun x (hx:x=9)=>by omega)).at_)
 rw [if_neg h2,if_neg h3] at h;by_cases h4:W.a.phase=4
 · rw [if_pos h4] at h;injection h with h;rw [h4] at a3;clear h0 h1 h2 h3 hw;go_upto_region 16 with fail
   clear a0 a1 a2 a3 a4 a5 a6 a7 a8 a9 a10 a11 a12 a13 a14 a15 a16 a17 a18 al;have M1:=M0;have R1:=R0';have H1:=H0;clear M0 R0' H0;generalize w0=w1 at *;obtain ⟨r0,r1,r2,r3,r4,rl⟩:=R1.out.k5;have rf0:=R1.out.liv 0;have rf1:=R1.out.liv 1;have rf2:=R1.out.liv 2;have rf3:=R1.out.liv 3;have rf4:=R1.out.liv 4;go_wp2_with fail;obtain ⟨Mf,mf,Rf⟩:=yaf M1.out R1.out (Nat.le_refl _) (0) (0) (0) (false) (0) (0);generalize ((((((w1).setCell ⟨g.w.heap.size,0,none⟩ (zI z6 (0))).setCell ⟨g.w.heap.size,1,none⟩ (zI z6 (0))).setCell ⟨g.w.heap.size,2,none⟩ (zI z6 (0))).setCell ⟨g.w.heap.size,3,none⟩ (.bool (false))).setCell ⟨g.w.heap.size,4,none⟩ (.complex .f64 (0) (0)))=wf at *;obtain ⟨f0,f1,f2,f3,f4,fl⟩:=Rf.k5;refine bodyPost_ret (v:=.tuple #[.agg #[.int .i64 (0),.int .i64 (0),.int .i64 (0),.bool (false),.complex .f64 (0) (0)],.bool false]) (by simp [results,Tryz.results10,go_sem,f0,f1,f2,f3,f4]) rfl ?_;exact Does.of ⟨own0,wf⟩ rfl (by rw [←h];rfl) Mf (by rw [←h];exact (H1.out.keep mf zo (fun x (hx:x=9)=>by omega) (fun x (hx:x=9)=>by omega)).at_)
 rw [if_neg h4] at h;cases h
end
end Go.Proofs.YtdhjjpnajjingaaGreat
namespace Go.Proofs.YtdhjjpnajjingaaGreat
open Go Go.RowKit
theorem TraceS.Ok.withC {S:TraceS} (h:S.Ok) {c:Cnf} (hs:c.Same S.c):(S.withC c).Ok:=
 ⟨h.pc,h.rng,fun h0 h9=>⟨by show c.check=0;rw [hs.check];exact (h.chk h0 h9).1,(h.chk h0 h9).2⟩,h.wd,h.j3,h.md⟩
section
variable {g g':GW} {B b bm bs bt bp bsp bh:Nat} {K:CoreS} {cm:Cnf}
theorem SpaceAt.putTab2 {S:SpaceS} (h:SpaceAt g B b bt S) {T:TabS} {U:Nat→Prop} (m:Mod U g g') (hU: ∀x,U x→x=B+50∨x<B∨B+60≤x) (ht:TabAt g' (B+50) bt T):SpaceAt g' B b bt { S with tab:=T }:=by
 obtain ⟨bp,bk,bl,A,cs,cm,bs,h⟩:=h;have q: ∀k,k<50→ ¬U (B+k):=fun k hk hx=>by have:=hU _ hx;omega
 exact ⟨bp,bk,bl,A,cs,cm,bs,⟨h.blk.keep m (q 0 zo),h.row.keep m (q 0 zo),ht,h.pool.keep m (q 1 zo),h.coil.keep m (q 2 zo),h.line.keep m (q 3 zo) (q 4 zo),h.cnf.keep m (q 5 zo),h.same,h.blen,fun j x s hx hs=>(h.stock j x s hx hs).keep m (by
  have h1:j<S.stocks.length:=(List.getElem?_eq_some_iff.1 hs).1;have:=h.few;rw [Nat.add_assoc];exact q (10+j) zo),h.check,h.few⟩⟩
theorem CoreIn.putTr (h:CoreIn g B b K bm bs bt bp bsp bh cm) {M:MemS} {T:TabS} {p:PileS} {n:Int} {U:Nat→Prop} (m:Mod U g g') (hU: ∀x,U x→x=B+62∨x=B+60∨x=B+50∨x=B+61∨x<B∨B+70≤x) (hm:MemAt g' (B+62) bm M) (hs:ShdAt g' (B+60) bs bt (B+50) bp (B+61) T p n):CoreIn g' B b { K with mem:=M,sp:={ K.sp with tab:=T },pile:=p,n:=n } bm bs bt bp bsp bh cm:=by
 have q: ∀k,k<70→k≠62→k≠60→k≠50→k≠61→ ¬U (B+k):=fun k hk h1 h2 h3 h4 hx=>by have:=hU _ hx;omega
 exact ⟨h.blk.keep m (q 64 zo zo zo zo zo),hm,hs.blk,hs.pile,h.sp.putTab2 m (fun x hx=>by have:=hU _ hx;omega) hs.tab,h.hand.keep m (q 63 zo zo zo zo zo),h.cnf.keep m (q 65 zo zo zo zo zo),h.same⟩
end
section
variable {g:GW} {t B b k:Nat} {W:CyW}
theorem ykW (A:CyApart t B):TrApart (t+1) (B+62) (B+60) (B+50) (B+61):=⟨by have:=A.apart;omega⟩
theorem CyIn.putT {tp hp:Option Addr} {bm bs bt bp bsp bh bx:Nat} {cm ch:Cnf} {S:TraceS} (H:CyIn g t B b k W tp hp bm bs bt bp bsp bh cm) (A:CyApart t B) (hS:TraceAt g (t+1) bx { S with c:=ch }) (hs:ch.Same S.c):CyIn ⟨g.own,g.w.setCell ⟨b,5,none⟩ (.pointer (some ⟨bx,0,none⟩))⟩ t B b k { W with tr:=some S } (some ⟨bx,0,none⟩) hp bm bs bt bp bsp bh cm:=by
 have m:Mod (fun x=>x=t) g ⟨g.own,g.w.setCell ⟨b,5,none⟩ (.pointer (some ⟨bx,0,none⟩))⟩:=Mod.set H.y.blk.own;refine ⟨⟨H.y.blk.set 5 _,fun S' hS'=>?_,H.y.hn,fun S hS=>?_⟩,H.c.keep m (fun x (hx:x=_)=>by have:=A.apart;omega)⟩
 · injection hS' with hS';subst hS';exact ⟨bx,ch,rfl,hs,hS.keep m zo zo⟩
 · obtain ⟨bt,cm,h1,h2,h3⟩:=H.y.hl S hS;exact ⟨bt,cm,h1,h2,h3.keep m zo zo⟩
theorem yeM (A:CyApart t B) (hd:W.Bd) (h3:W.y.at_=3) (H:CyWAt g t B b k W):Calls prog 48 #[.pointer (some ⟨b,0,none⟩),.pointer (some ⟨k,0,none⟩)] g.w (Does (.tuple #[]) g (cyT t B) (fun g'=>CyWAt g' t B b k W.rootsGrey)):=by
 obtain ⟨tp,hp0,bm,bs,bt,bp,bsp,bh,cm,H⟩:=H;have HH:=zH H;have HD:=zH hd;have HN:=zH (fun X=>ycg (g.pt X) (B+60) bs bt (B+50) bp (B+61) W.K.sp.tab W.K.pile W.K.n W.y.head W.y.sense (H.pt X).c.shd hd.n zo zo zo);obtain ⟨a0,a1,a2,a3,a4,a5,a6,a7,a8,a9,a10,a11,a12,a13,al⟩:=H.y.blk.k14;have af1:=H.y.blk.liv 1;obtain ⟨c0,c1,c2,c3,c4,c5,c6,c7,c8,c9,c10,c11,c12,cl⟩:=H.c.blk.k13;rw [h3] at a1;clear H hd h3;go_enter func48,ntmps48;go_wp2_with fail;refine yaU 0 1 rfl rfl ?_;go_wp2_with fail;refine yab [zT,zT,zT,zT,zT,zT,zT,zT,zT,zT,zT,zT,zU] 1 12 ?_;intro X00;simp only [pickOps];repeat (go_big_quiet_step (fail))
 refine wpQuiet_nil (fun X0=>?_);clear X00;refine yae rfl zQ (fun X2=>?_);simp only [List.drop_succ_cons,List.drop_zero];go_wp2_with fail;refine (HN.out _).mono ?_;rintro e w1 ⟨rfl,own1,m1,h1⟩;have P1:=(Mod.pt (Mod.refl _ _) _).trans m1;have M1:=zH (P1.mono (S:=cyT t B) (fun x hx=>Or.inr zo));have H1:=zH (show CyIn ⟨own1,w1⟩ t B b k { W with K:={ W.K with sp:={ W.K.sp with tab:=W.K.sp.tab.grey W.y.head W.y.sense },pile:=W.K.pile.grey W.K.sp.tab W.y.head W.y.sense,n:=W.K.n+1 } } tp hp0 bm bs bt bp bsp bh cm from ⟨HH.out.y.keep P1 (fun x hx=>by have:=A.apart;omega),HH.out.c.putShd P1 h1⟩);clear a0 a1 a2 a3 a4 a5 a6 a7 a8 a9 a10 a11 a12 a13 af1 al c0 c1 c2 c3 c4 c5 c6 c7 c8 c9 c10 c11 c12 cl;clear P1 m1 h1 HN;have H2:=zH ((H1.out.set A 1 (zI z6 0) { W.y with at_:=0 } rfl).set A 2 (zI z6 (W.y.i+1)) { W.y with at_:=0,i:=W.y.i+1 } rfl);have M2:=zH (show Mod (cyT t B) g ⟨own1,(w1.setCell ⟨b,1,none⟩ (zI z6 0)).setCell ⟨b,2,none⟩ (zI z6 (W.y.i+1))⟩ from Mod.st (Mod.st M1.out H1.out.modY) H1.out.modY);obtain ⟨a0,a1,a2,a3,a4,a5,a6,a7,a8,a9,a10,a11,a12,a13,al⟩:=H1.out.y.blk.k14;have af1:=H1.out.y.blk.liv 1;have af2:=H1.out.y.blk.liv 2;obtain ⟨hi0,hi1⟩:=HD.out.i;go_wp2_with fail
 go_step3
 refine yat ?_;go_wp2_with fail;rw [Exit.via_ret];exact bodyPost_ret (results_none rfl _ _ _) rfl (Does.of ⟨own1,(w1.setCell ⟨b,1,none⟩ (zI z6 0)).setCell ⟨b,2,none⟩ (zI z6 (W.y.i+1))⟩ rfl rfl M2.out H2.out.at_)
theorem yeP (A:CyApart t B) (hd:W.Bd) (h0:W.y.at_=0) (hi:0≤W.y.i∧W.y.i<W.K.c.globals) (hck:W.K.c.check=0) (hin:inB (W.y.i+cAhead W.K.c 3) W.K.mem.l.length=true) {hd1:Int} (hw:wIndex (W.K.mem.peek (W.y.i+cAhead W.K.c 3))=some hd1) (H:CyWAt g t B b k W):Calls prog 48 #[.pointer (some ⟨b,0,none⟩),.pointer (some ⟨k,0,none⟩)] g.w (Does (.tuple #[]) g (cyT t B) (fun g'=>CyWAt g' t B b k (W.rootsSeen hd1))):=by
 obtain ⟨tp,hp0,bm,bs,bt,bp,bsp,bh,cm,H⟩:=H;have HH:=zH H;have HD:=zH hd;have hckm:cm.check=0:=by rw [H.c.same.check];exact hck
 have hah:cAhead cm 3=cAhead W.K.c 3:=by
  unfold cAhead;rw [hckm,hck,H.c.same.frags,H.c.same.spine,H.c.same.globals]
 have HGL:=zH (fun (g':GW) (hc:CnfAt g' (B+65) cm)=>show Calls prog 66 #[cm.val,.int .i64 W.y.i] g'.w (Gives (.tuple #[.int .i64 (W.y.i+cAhead W.K.c 3),.int .i64 0]) g'.w) from by
  have h1:=ya5 cm W.y.i g'.w hc.ok;rw [ydq hckm (by rw [H.c.same.globals];exact hi),hah] at h1;exact h1)
 unfold Cnf.val at HGL;have d1:decide (cm.globals≤W.y.i)=false:=decide_eq_false (by rw [H.c.same.globals];omega);obtain ⟨hi0,hi1⟩:=hd.i;have HIN:=zH hin;have HW:=zH hw;obtain ⟨a0,a1,a2,a3,a4,a5,a6,a7,a8,a9,a10,a11,a12,a13,al⟩:=H.y.blk.k14;have af1:=H.y.blk.liv 1;obtain ⟨c0,c1,c2,c3,c4,c5,c6,c7,c8,c9,c10,c11,c12,cl⟩:=H.c.blk.k13;rw [h0] at a1;clear H hd h0 hi hck hckm hah hin hw;generalize W.y.i+cAhead W.K.c 3=ad at *;go_enter func48,ntmps48;go_wp2_with fail;refine yaU 0 1 rfl rfl ?_;go_wp2_with fail;refine yab [zT,zT,zT,zT,zT,zT,zT,zT,zT,zT,zT,zT,zT,zT,zT,zT,zT] 0 17 ?_;intro X00;simp only [pickOps];repeat (go_big_quiet_step (fail))
 refine wpQuiet_nil (fun X0=>?_);clear X00;refine yaa zQ (fun X0'=>?_) _;(try go_simp);obtain ⟨own1,m1⟩: ∃own1,Mod (fun _=>False) g ⟨own1,g.w.patch ⟨X0.blocks++X0'.blocks,X0'.drawn⟩⟩:=⟨_,Mod.pt (Mod.refl _ _) _⟩;generalize g.w.patch ⟨X0.blocks++X0'.blocks,X0'.drawn⟩=w1 at *;have H1:=zH (HH.out.keep m1 (fun _=>False.elim) (fun _=>False.elim));have M1:=zH (m1.mono (S:=cyT t B) (fun _=>False.elim));clear a0 a1 a2 a3 a4 a5 a6 a7 a8 a9 a10 a11 a12 a13 af1 al c0 c1 c2 c3 c4 c5 c6 c7 c8 c9 c10 c11 c12 cl;clear m1;have HG2:=zH (fun X=>HGL.out (GW.pt ⟨own1,w1⟩ X) (H1.out.pt X).c.cnf);obtain ⟨a0,a1,a2,a3,a4,a5,a6,a7,a8,a9,a10,a11,a12,a13,al⟩:=H1.out.y.blk.k14;have af3:=H1.out.y.blk.liv 3;obtain ⟨c0,c1,c2,c3,c4,c5,c6,c7,c8,c9,c10,c11,c12,cl⟩:=H1.out.c.blk.k13;go_wp2_with fail;refine yau [0] [zU,zT,zT,zT,zT,zT,zT,zT,zT] 9 7 ?_;intro X00;simp only [pickOps,movesAct,moveOf,List.getElem?_toArray,List.getElem?_cons_zero,List.getElem?_cons_succ];(try go_simp);repeat (go_big_quiet_step (fail))
 refine wpQuiet_nil (fun X0 K Q' hK=>?_);clear X00;(try go_simp);refine (HG2.out _).mono ?_;rintro e w2 ⟨rfl,hE2⟩;obtain ⟨own2,m2⟩: ∃own2,Mod (fun _=>False) ⟨own1,w1⟩ ⟨own2,w2⟩:=⟨_,Mod.ext (g:=⟨own1,w1⟩) (show Ext w1 w2 from (show Ext w1 (w1.patch X0) from ⟨X0,rfl⟩).trans hE2) 0⟩;have H2:=zH (H1.out.keep m2 (fun _=>False.elim) (fun _=>False.elim));have M2:=zH (M1.out.trans (m2.mono (S:=cyT t B) (fun _=>False.elim)));clear m2 hE2 a0 a1 a2 a3 a4 a5 a6 a7 a8 a9 a10 a11 a12 a13 af3 al c0 c1 c2 c3 c4 c5 c6 c7 c8 c9 c10 c11 c12 cl H1 M1 HGL HG2;obtain ⟨a0,a1,a2,a3,a4,a5,a6,a7,a8,a9,a10,a11,a12,a13,al⟩:=H2.out.y.blk.k14;have af3:=H2.out.y.blk.liv 3;(try go_simp);refine hK _ _ ?_;clear hK K Q';refine yac (v:=.tuple #[.int .i64 ad,.int .i64 0]) 10 ?_;(try go_simp);refine yac (v:=.int .i64 ad) 11 ?_;(try go_simp);refine yac (v:=.int .i64 0) 12 ?_;(try go_simp);refine yac (v:=.pointer (some ⟨b,0,none⟩)) 13 ?_;(try go_simp);refine yac (v:=.pointer (some ⟨b,3,none⟩)) 14 ?_;(try go_simp);refine yag 15 (fun K Q' hK=>?_);(try go_simp);refine hK _ _ ?_;clear hK K Q';refine yac (v:=.int .i64 0) 16 ?_;(try go_simp);refine wpAny_done zQ ?_ _
 have H3:=zH (H2.out.set A 3 (zI z6 ad) { W.y with head:=ad } rfl);have M3:=zH (show Mod (cyT t B) g ⟨own2,w2.setCell ⟨b,3,none⟩ (zI z6 ad)⟩ from Mod.st M2.out H2.out.modY);generalize w2.setCell ⟨b,3,none⟩ (zI z6 ad)=w3 at *;clear a0 a1 a2 a3 a4 a5 a6 a7 a8 a9 a10 a11 a12 a13 af3 al H2 M2;have HRD:=zH (fun X=>ybe (GW.pt ⟨own2,w3⟩ X) (B+62) bm ad W.K.mem (H3.out.pt X).c.mem HD.out.mem);rw [HIN.out] at HRD;obtain ⟨a0,a1,a2,a3,a4,a5,a6,a7,a8,a9,a10,a11,a12,a13,al⟩:=H3.out.y.blk.k14;obtain ⟨c0,c1,c2,c3,c4,c5,c6,c7,c8,c9,c10,c11,c12,cl⟩:=H3.out.c.blk.k13;go_wp2_with fail;refine yaB [zT,zT,zT,zT,zT,zT,zT,zT] 8 [zU,zU,zU,zU,zU,zU,zU,zU,zU,zT,zT,zT,zT,zT] ?_;intro X00;simp only [pickOps];repeat (go_big_quiet_step (fail))
 refine wpQuiet_nil ?_;intro X0 K Q' hK;clear X00;(try go_simp);refine (HRD.out _).mono ?_;rintro e w4 ⟨rfl,own4,m4,r4⟩;have P4:=(Mod.pt (Mod.refl (fun x=>x=B+62) ⟨own2,w3⟩) _).trans m4;have H4:=zH (show CyIn ⟨own4,w4⟩ t B b k { W with y:={ W.y with head:=ad },K:={ W.K with mem:=W.K.mem.tick } } tp hp0 bm bs bt bp bsp bh cm from ⟨H3.out.y.keep P4 (fun x (hx:x=_)=>by have:=A.apart;omega),H3.out.c.putMem P4 r4⟩);have M4:=zH (M3.out.trans (P4.mono (S:=cyT t B) (fun x (hx:x=B+62)=>Or.inr zo)));clear P4 m4 r4 a0 a1 a2 a3 a4 a5 a6 a7 a8 a9 a10 a11 a12 a13 al c0 c1 c2 c3 c4 c5 c6 c7 c8 c9 c10 c11 c12 cl H3 M3;(try go_simp);refine hK _ _ (fun X00=>?_);clear hK K Q';(try simp only [pickOps]);repeat (go_big_quiet_step (fail))
 refine wpQuiet_nil (fun X2=>?_);clear X00;obtain ⟨own5,m5⟩: ∃own5,Mod (fun _=>False) ⟨own4,w4⟩ ⟨own5,w4.patch X2⟩:=⟨_,Mod.pt (Mod.refl _ _) X2⟩;have H5:=zH (H4.out.keep m5 (fun _=>False.elim) (fun _=>False.elim));have M5:=zH (M4.out.trans (m5.mono (S:=cyT t B) (fun _=>False.elim)));generalize w4.patch X2=w5 at *;clear m5 H4 M4;have HIX:=zH (fun w'=>yao (W.K.mem.peek ad) w');rw [HW.out] at HIX;generalize W.K.mem.peek ad=pq at *;obtain ⟨p,q⟩:=pq;(try simp only);go_wp2_with fail;refine (HIX.out _).mono ?_;rintro e w6 ⟨rfl,hE6⟩;obtain ⟨own6,m6⟩: ∃own6,Mod (fun _=>False) ⟨own5,w5⟩ ⟨own6,w6⟩:=⟨_,Mod.ext (g:=⟨own5,w5⟩) (show Ext w5 w6 from hE6) 0⟩;have H6:=zH (H5.out.keep m6 (fun _=>False.elim) (fun _=>False.elim));have M6:=zH (M5.out.trans (m6.mono (S:=cyT t B) (fun _=>False.elim)));clear m6 hE6 H5 M5;unfold optV;have H7:=zH ((H6.out.set A 3 (zI z6 hd1) { W.y with head:=hd1 } rfl).set A 1 (zI z6 3) { W.y with head:=hd1,at_:=3 } rfl);have M7:=zH (show Mod (cyT t B) g ⟨own6,(w6.setCell ⟨b,3,none⟩ (zI z6 hd1)).setCell ⟨b,1,none⟩ (zI z6 3)⟩ from Mod.st (Mod.st M6.out H6.out.modY) H6.out.modY);obtain ⟨a0,a1,a2,a3,a4,a5,a6,a7,a8,a9,a10,a11,a12,a13,al⟩:=H6.out.y.blk.k14
 have af1:=H6.out.y.blk.liv 1;have af3:=H6.out.y.blk.liv 3;go_wp2_with fail;rw [Exit.via_ret];exact bodyPost_ret (results_none rfl _ _ _) rfl (Does.of ⟨own6,(w6.setCell ⟨b,3,none⟩ (zI z6 hd1)).setCell ⟨b,1,none⟩ (zI z6 3)⟩ rfl rfl M7.out H7.out.at_)
variable {tp hp:Option Addr} {bm bs bt bp bsp bh:Nat} {cm:Cnf}
theorem CyIn.traced {g':GW} {S:TraceS} {U:Nat→Prop} {bx:Nat} {ch:Cnf} (H:CyIn g t B b k W (some ⟨bx,0,none⟩) hp bm bs bt bp bsp bh cm) (w:TrW) (m:Mod (trT (t+1) (B+62) (B+60) (B+50) (B+61)) g g') (A:CyApart t B) (hs:ch.Same w.s.c) (h:TrAt g' (t+1) (B+62) (B+60) (B+50) (B+61) bx bm bs bt bp (w.withC ch)):CyIn g' t B b k (W.trPut w) (some ⟨bx,0,none⟩) hp bm bs bt bp bsp bh cm:=by
 have hA:=A.apart;refine ⟨⟨H.y.blk.keep m (by unfold trT;omega),fun S' hS'=>?_,H.y.hn,fun S hS=>?_⟩,H.c.putTr m (fun x hx=>by unfold trT at hx;omega) h.mem h.shd⟩
 · injection hS' with hS';subst hS';exact ⟨bx,ch,rfl,hs,h.tr⟩
 · obtain ⟨bt,cm,h1,h2,h3⟩:=H.y.hl S hS;exact ⟨bt,cm,h1,h2,h3.keep m (by unfold trT;omega) (by unfold trT;omega)⟩
theorem yiz {S:TraceS} (A:CyApart t B) (hd:W.Bd) (hS:W.tr=some S) (hok:S.Ok) (hs:0≤S.steps∧S.steps≤1099511627776) (H:CyIn g t B b k W tp hp bm bs bt bp bsp bh cm):Calls prog 94 #[.pointer (some ⟨b,0,none⟩),.pointer (some ⟨k,0,none⟩)] g.w (Does (.bool (W.tracedB S)) g (cyT t B) (fun g'=>CyIn g' t B b k (W.traced S) tp hp bm bs bt bp bsp bh cm)):=by
 obtain ⟨bx,ch,rfl,hsm,htr⟩:=H.y.tr S hS;have HH:=zH H;have HSM:=zH hsm;have HC:=zH (show (W.trW S).step.s.c=S.c from (ydH (W.trW S)).1)
 have HST:=zH (fun X=>show Calls prog 167 #[.pointer (some ⟨bx,0,none⟩),.pointer (some ⟨bm,0,none⟩),.pointer (some ⟨bs,0,none⟩)] (g.pt X).w (Does (.bool (W.tracedB S)) (g.pt X) (trT (t+1) (B+62) (B+60) (B+50) (B+61)) (fun g'=>TrAt g' (t+1) (B+62) (B+60) (B+50) (B+61) bx bm bs bt bp ((W.trW S).step.withC ch))) from by
  have h1:=yh7 (g.pt X) (ykW A) ((W.trW S).withC ch) ⟨htr.keep (Mod.pt (Mod.refl (fun _=>False) _) X) id id,(H.pt X).c.mem,(H.pt X).c.shd⟩ (hok.withC hsm) hs hd.mem hd.n;rw [TrW.step_same (w:=W.trW S) hsm] at h1;exact h1)
 have HTR:=zH (fun (w':World) (own':Nat→Nat) (h:TraceAt ⟨own',w'⟩ (t+1) bx ((W.trW S).step.withC ch).s)=>ygs ⟨own',w'⟩ (t+1) bx _ h);have HB:=zH (show W.traced S=if W.tracedB S then { W.trPut (W.trW S).step with y:={ W.y with e:=(W.trW S).step.s.e } } else W.trPut (W.trW S).step from rfl);obtain ⟨a0,a1,a2,a3,a4,a5,a6,a7,a8,a9,a10,a11,a12,a13,al⟩:=H.y.blk.k14;have af1:=H.y.blk.liv 1;obtain ⟨c0,c1,c2,c3,c4,c5,c6,c7,c8,c9,c10,c11,c12,cl⟩:=H.c.blk.k13;clear H hd hS hok hs hsm htr;generalize W.traced S=V at *;generalize W.tracedB S=bb at *;generalize (W.trW S).step=w at *;go_enter func94,ntmps94;go_wp2_with fail;refine yab [zT,zT,zT,zT,zT,zT,zT,zT,zT,zT,zT,zT,zU,zU] 2 12 ?_;intro X00;simp only [pickOps];repeat (go_big_quiet_step (fail))
 refine wpQuiet_nil (fun X0=>?_);clear X00;refine yae rfl zQ (fun X2=>?_);simp only [List.drop_succ_cons,List.drop_zero];go_wp2_with fail;refine (HST.out _).mono ?_;rintro e w1 ⟨rfl,own1,m1,h1⟩;have P1:=(Mod.pt (Mod.refl _ _) _).trans m1;have M1:=zH (P1.mono (S:=cyT t B) (fun x hx=>by have:=A.apart;unfold trT at hx;unfold cyT;omega));have H1:=zH (HH.out.traced (S:=S) (U:=fun _=>False) w P1 A (by rw [HC.out];exact HSM.out) h1);have HE:=zH (HTR.out w1 own1 h1.tr);clear a0 a1 a2 a3 a4 a5 a6 a7 a8 a9 a10 a11 a12 a13 af1 al c0 c1 c2 c3 c4 c5 c6 c7 c8 c9 c10 c11 c12 cl;clear P1 m1 h1 HST HTR;cases bb
 · have HV:=zH (show V=W.trPut w from HB.out);go_wp2_with fail;go_ret;exact Does.of ⟨own1,w1⟩ rfl rfl M1.out (by rw [HV.out];exact H1.out)
 · have HV:=zH (show V={ W.trPut w with y:={ W.y with e:=w.s.e } } from HB.out);have HE2:=zH (show Calls prog 168 #[.pointer (some ⟨bx,0,none⟩)] w1 (fun e w'=>e=.returned (zI z6 w.s.e)∧w1=w') from HE.out);have H2:=zH (H1.out.set A 13 (zI z6 w.s.e) { W.y with e:=w.s.e } rfl);have M2:=zH (show Mod (cyT t B) g ⟨own1,w1.setCell ⟨b,13,none⟩ (zI z6 w.s.e)⟩ from Mod.st M1.out H1.out.modY);clear HE;obtain ⟨a0,a1,a2,a3,a4,a5,a6,a7,a8,a9,a10,a11,a12,a13,al⟩:=H1.out.y.blk.k14;have af13:=H1.out.y.blk.liv 13;go_wp2_with fail;refine HE2.out.mono ?_;rintro e w2 ⟨rfl,rfl⟩;go_wp2_with fail;go_ret;exact Does.of ⟨own1,w1.setCell ⟨b,13,none⟩ (zI z6 w.s.e)⟩ rfl rfl M2.out (by rw [HV.out];exact H2.out)
theorem yds (A:CyApart t B) (hi:0≤W.y.i∧W.y.i≤1099511627776) (H:CyIn g t B b k W tp hp bm bs bt bp bsp bh cm):Calls prog 95 #[.pointer (some ⟨b,0,none⟩),.pointer (some ⟨k,0,none⟩)] g.w (Does (.tuple #[]) g (cyT t B) (fun g'=>CyIn g' t B b k W.follows tp hp bm bs bt bp bsp bh cm)):=by
 have H2:=zH ((H.set A 1 (zI z6 6) { W.y with at_:=6 } rfl).set A 2 (zI z6 (W.y.i+1)) { W.y with at_:=6,i:=W.y.i+1 } rfl);have M2:=zH (show Mod (cyT t B) g ⟨g.own,(g.w.setCell ⟨b,1,none⟩ (zI z6 6)).setCell ⟨b,2,none⟩ (zI z6 (W.y.i+1))⟩ from Mod.st (Mod.st Mod.self H.modY) H.modY);have hfr:=H.c.same.frags;obtain ⟨hi0,hi1⟩:=hi;obtain ⟨a0,a1,a2,a3,a4,a5,a6,a7,a8,a9,a10,a11,a12,a13,al⟩:=H.y.blk.k14;have af1:=H.y.blk.liv 1;have af2:=H.y.blk.liv 2;clear H;go_enter func95,ntmps95;go_upto_region 2 with fail
 generalize (g.w.setCell ⟨b,1,none⟩ (zI z6 6)).setCell ⟨b,2,none⟩ (zI z6 (W.y.i+1))=w2 at *;clear a0 a1 a2 a3 a4 a5 a6 a7 a8 a9 a10 a11 a12 a13 af1 af2 al;obtain ⟨a0,a1,a2,a3,a4,a5,a6,a7,a8,a9,a10,a11,a12,a13,al⟩:=H2.out.y.blk.k14;have af1:=H2.out.y.blk.liv 1;have af2:=H2.out.y.blk.liv 2;obtain ⟨c0,c1,c2,c3,c4,c5,c6,c7,c8,c9,c10,c11,c12,cl⟩:=H2.out.c.blk.k13;by_cases hq:W.y.i+1=cm.frags
 · have HV:=zH (show W.follows={ W with y:={ W.y with at_:=0,i:=0 } } from if_pos (by rw [←hfr];exact hq));have hz:(W.y.i+1==cm.frags)=true:=beq_iff_eq.2 hq;clear hq hfr;refine yab [zT,zT,zT,zT,zT,zT,zT,zT,zT,zT] 0 10 ?_;intro X00;simp only [pickOps];repeat (go_big_quiet_step (fail))
   refine wpQuiet_nil (fun X0=>?_);clear X00;refine yaa zQ (fun X0'=>?_) _;(try go_simp);obtain ⟨own3,m3⟩: ∃own3,Mod (fun _=>False) ⟨g.own,w2⟩ ⟨own3,w2.patch ⟨X0.blocks++X0'.blocks,X0'.drawn⟩⟩:=⟨_,Mod.pt (Mod.refl _ _) _⟩;generalize w2.patch ⟨X0.blocks++X0'.blocks,X0'.drawn⟩=w3 at *;have H3:=zH (H2.out.keep m3 (fun _=>False.elim) (fun _=>False.elim));have M3:=zH (M2.out.trans (m3.mono (S:=cyT t B) (fun _=>False.elim)));clear a0 a1 a2 a3 a4 a5 a6 a7 a8 a9 a10 a11 a12 a13 af1 af2 al c0 c1 c2 c3 c4 c5 c6 c7 c8 c9 c10 c11 c12 cl m3 H2 M2;have H4:=zH ((H3.out.set A 1 (zI z6 0) { W.y with at_:=0,i:=W.y.i+1 } rfl).set A 2 (zI z6 0) { W.y with at_:=0,i:=0 } rfl);obtain ⟨a0,a1,a2,a3,a4,a5,a6,a7,a8,a9,a10,a11,a12,a13,al⟩:=H3.out.y.blk.k14;have af1:=H3.out.y.blk.liv 1;have af2:=H3.out.y.blk.liv 2;go_wp2_with fail;exact bodyPost_end (results_none rfl _ _ _) rfl (Does.of ⟨own3,(w3.setCell ⟨b,1,none⟩ (zI z6 0)).setCell ⟨b,2,none⟩ (zI z6 0)⟩ rfl rfl (Mod.st (Mod.st M3.out H3.out.modY) H3.out.modY) (by rw [HV.out];exact H4.out))
 · have HV:=zH (show W.follows={ W with y:={ W.y with at_:=6,i:=W.y.i+1 } } from if_neg (by rw [←hfr];exact hq));have hz:(W.y.i+1==cm.frags)=false:=beq_eq_false_iff_ne.2 hq;clear hq hfr;refine yab [zT,zT,zT,zT,zT,zT,zT,zT,zT,zT] 0 10 ?_;intro X00;simp only [pickOps];repeat (go_big_quiet_step (fail))
   refine wpQuiet_nil (fun X0=>?_);clear X00;refine yaa zQ (fun X0'=>?_) _;(try go_simp);go_wp2_with fail;refine bodyPost_end (results_none rfl _ _ _) rfl (Does.ext ⟨g.own,w2⟩ zE rfl M2.out (fun g2 m=>?_));rw [HV.out];exact H2.out.keep m (fun _=>False.elim) (fun _=>False.elim)
end
end Go.Proofs.YtdhjjpnajjingaaGreat
namespace Go.Proofs.YtdhjjpnajjingaaGreat
open Go Go.RowKit
theorem Cnf.shapes_few {c:Cnf} (h:c.check=0):c.shapes.length≤1000000:=by
 have h9:=(Cnf.check_zero h).2.2.1;unfold within at h9;simp only [decide_eq_true_eq] at h9;omega
section
variable {g:GW} {t B b k:Nat} {W:CyW}
theorem yeJ (A:CyApart t B) (hd:W.Bd) (h5:W.y.at_=5) (hp:W.K.pile.lost=true) (H:CyWAt g t B b k W):Calls prog 49 #[.pointer (some ⟨b,0,none⟩),.pointer (some ⟨k,0,none⟩)] g.w (Does (.tuple #[]) g (cyT t B) (fun g'=>CyWAt g' t B b k W.marksLost)):=by
 obtain ⟨tp,hp0,bm,bs,bt,bp,bsp,bh,cm,H⟩:=H;have HH:=zH H;have HN:=zH (ydD g (B+60) bs bt (B+50) bp (B+61) W.K.sp.tab W.K.pile W.K.n H.c.shd hd.n zo zo zo);rw [hp] at HN;obtain ⟨a0,a1,a2,a3,a4,a5,a6,a7,a8,a9,a10,a11,a12,a13,al⟩:=H.y.blk.k14;have af1:=H.y.blk.liv 1;obtain ⟨c0,c1,c2,c3,c4,c5,c6,c7,c8,c9,c10,c11,c12,cl⟩:=H.c.blk.k13;rw [h5] at a1;clear H hd h5;go_enter func49,ntmps49;go_wp2_with fail;refine yaV 0 1 2 rfl rfl rfl ?_;go_wp2_with fail;go_step3
 refine ybh (yat ?_);go_wp2_with fail;refine HN.out.mono ?_;rintro e w1 ⟨rfl,own1,m1,h1⟩;have M1:=zH (m1.mono (S:=cyT t B) (fun x hx=>Or.inr zo));have H1:=zH (show CyIn ⟨own1,w1⟩ t B b k { W with K:={ W.K with pile:=W.K.pile.found,n:=W.K.n+1 } } tp hp0 bm bs bt bp bsp bh cm from ⟨HH.out.y.keep m1 (fun x hx=>by have:=A.apart;omega),HH.out.c.putShd (m1.mono (fun x hx=>by omega)) h1⟩);clear a0 a1 a2 a3 a4 a5 a6 a7 a8 a9 a10 a11 a12 a13 af1 al c0 c1 c2 c3 c4 c5 c6 c7 c8 c9 c10 c11 c12 cl;clear m1 h1 HN;have H2:=zH ((H1.out.set A 1 (zI z6 6) { W.y with at_:=6 } rfl).set A 2 (zI z6 0) { W.y with at_:=6,i:=0 } rfl);obtain ⟨a0,a1,a2,a3,a4,a5,a6,a7,a8,a9,a10,a11,a12,a13,al⟩:=H1.out.y.blk.k14;have af1:=H1.out.y.blk.liv 1;have af2:=H1.out.y.blk.liv 2;go_wp2_with fail;rw [Exit.via_ret];exact bodyPost_ret (results_none rfl _ _ _) rfl (Does.of ⟨own1,(w1.setCell ⟨b,1,none⟩ (zI z6 6)).setCell ⟨b,2,none⟩ (zI z6 0)⟩ rfl rfl (Mod.st (Mod.st M1.out H1.out.modY) H1.out.modY) H2.out.at_)
theorem ydS {S:TraceS} (A:CyApart t B) (hd:W.Bd) (h4:W.y.at_=4) (hS:W.tr=some S) (hok:S.Ok) (hs:0≤S.steps∧S.steps≤1099511627776) (H:CyWAt g t B b k W):Calls prog 49 #[.pointer (some ⟨b,0,none⟩),.pointer (some ⟨k,0,none⟩)] g.w (Does (.tuple #[]) g (cyT t B) (fun g'=>CyWAt g' t B b k (W.marksTrace S))):=by
 obtain ⟨tp,hp0,bm,bs,bt,bp,bsp,bh,cm,H⟩:=H;have HT:=zH (yiz A hd hS hok hs H);have HR:=zH (show (W.traced S).y.rescan=W.y.rescan∧(W.traced S).y.i=W.y.i from by unfold CyW.traced;split<;>exact ⟨rfl,rfl⟩);have HB:=zH (show W.marksTrace S=if W.tracedB S then (if W.y.rescan then ((W.traced S).atY 0).follows else (W.traced S).atY 0) else W.traced S from rfl);have HD:=zH hd.i;obtain ⟨a0,a1,a2,a3,a4,a5,a6,a7,a8,a9,a10,a11,a12,a13,al⟩:=H.y.blk.k14;have af1:=H.y.blk.liv 1;obtain ⟨c0,c1,c2,c3,c4,c5,c6,c7,c8,c9,c10,c11,c12,cl⟩:=H.c.blk.k13;rw [h4] at a1;clear H hd h4 hS hok hs;generalize W.marksTrace S=U at *;generalize W.traced S=V at *;generalize W.tracedB S=bb at *;go_enter func49,ntmps49;go_wp2_with fail;refine yaV 0 1 2 rfl rfl rfl ?_;go_wp2_with fail;go_step3
 refine yat ?_;go_wp2_with fail;refine HT.out.mono ?_;rintro e w1 ⟨rfl,own1,m1,h1⟩;have M1:=zH m1;have H1:=zH h1;clear a0 a1 a2 a3 a4 a5 a6 a7 a8 a9 a10 a11 a12 a13 af1 al c0 c1 c2 c3 c4 c5 c6 c7 c8 c9 c10 c11 c12 cl;clear m1 h1 HT;cases bb
 · have HV:=zH (show U=V from HB.out);go_wp2_with fail;rw [Exit.via_ret];exact bodyPost_ret (results_none rfl _ _ _) rfl (Does.of ⟨own1,w1⟩ rfl rfl M1.out (by rw [HV.out];exact H1.out.at_))
 · have H2:=zH (show CyIn ⟨own1,w1.setCell ⟨b,1,none⟩ (zI z6 0)⟩ t B b k (V.atY 0) tp hp0 bm bs bt bp bsp bh cm from H1.out.set A 1 (zI z6 0) { V.y with at_:=0 } rfl);have M2:=zH (show Mod (cyT t B) g ⟨own1,w1.setCell ⟨b,1,none⟩ (zI z6 0)⟩ from Mod.st M1.out H1.out.modY);obtain ⟨a0,a1,a2,a3,a4,a5,a6,a7,a8,a9,a10,a11,a12,a13,al⟩:=H1.out.y.blk.k14;have af1:=H1.out.y.blk.liv 1;rw [HR.out.1] at a4;cases hr:W.y.rescan
   · rw [hr] at a4;have HV:=zH (show U=V.atY 0 from by rw [HB.out,hr];rfl);clear hr;go_wp2_with fail;rw [Exit.via_ret];exact bodyPost_ret (results_none rfl _ _ _) rfl (Does.of ⟨own1,w1.setCell ⟨b,1,none⟩ (zI z6 0)⟩ rfl rfl M2.out (by rw [HV.out];exact H2.out.at_))
   · rw [hr] at a4;have HV:=zH (show U=(V.atY 0).follows from by rw [HB.out,hr];rfl);clear hr;have HF:=zH (yds A (show 0≤(V.atY 0).y.i∧(V.atY 0).y.i≤1099511627776 from by rw [show (V.atY 0).y.i=W.y.i from HR.out.2];exact HD.out) H2.out);go_wp2_with fail;refine HF.out.mono ?_;rintro e w3 ⟨rfl,own3,m3,h3⟩;have M3:=zH (M2.out.trans m3);have H3:=zH h3;clear m3 h3;go_wp2_with fail;rw [Exit.via_ret];exact bodyPost_ret (results_none rfl _ _ _) rfl (Does.of ⟨own3,w3⟩ rfl rfl M3.out (by rw [HV.out];exact H3.out.at_))
theorem yeK (A:CyApart t B) (hd:W.Bd) (h0:W.y.at_=0) (hp:W.K.pile.some_=true) (hck:W.K.c.check=0) (H:CyWAt g t B b k W):Calls prog 49 #[.pointer (some ⟨b,0,none⟩),.pointer (some ⟨k,0,none⟩)] g.w (Does (.tuple #[]) g (cyT t B) (fun g'=>CyWAt g' t B b k W.marksNext)):=by
 obtain ⟨tp,hp0,bm,bs,bt,bp,bsp,bh,cm,H⟩:=H;have HH:=zH H;have HMX:=zH (Cnf.shapes_few (show cm.check=0 by rw [H.c.same.check];exact hck));have HN:=zH (ydE g (B+60) bs bt (B+50) bp (B+61) W.K.sp.tab W.K.pile W.K.n H.c.shd hd.n zo zo zo);rw [hp] at HN;obtain ⟨a0,a1,a2,a3,a4,a5,a6,a7,a8,a9,a10,a11,a12,a13,al⟩:=H.y.blk.k14;have af1:=H.y.blk.liv 1;obtain ⟨c0,c1,c2,c3,c4,c5,c6,c7,c8,c9,c10,c11,c12,cl⟩:=H.c.blk.k13;rw [h0] at a1;clear H hd h0 hp hck;go_enter func49,ntmps49;go_wp2_with fail;go_step3
 go_wp2_with fail;refine HN.out.mono ?_;rintro e w1 ⟨rfl,own1,m1,h1⟩;have M1:=zH (m1.mono (S:=cyT t B) (fun x hx=>Or.inr zo));have H1:=zH (show CyIn ⟨own1,w1⟩ t B b k { W with K:={ W.K with pile:=W.K.pile.pop,n:=W.K.n+1 } } tp hp0 bm bs bt bp bsp bh cm from ⟨HH.out.y.keep m1 (fun x hx=>by have:=A.apart;omega),HH.out.c.putShd (m1.mono (fun x hx=>by omega)) h1⟩);clear a0 a1 a2 a3 a4 a5 a6 a7 a8 a9 a10 a11 a12 a13 af1 al c0 c1 c2 c3 c4 c5 c6 c7 c8 c9 c10 c11 c12 cl;clear m1 h1 HN;have H2:=zH (((H1.out.set A 3 (zI z6 W.K.pile.top) { W.y with head:=W.K.pile.top } rfl).set A 1 (zI z6 5) { W.y with head:=W.K.pile.top,at_:=5 } rfl).set A 4 (.bool false) { W.y with head:=W.K.pile.top,at_:=5,rescan:=false } rfl);have M2:=zH (show Mod (cyT t B) g ⟨own1,((w1.setCell ⟨b,3,none⟩ (zI z6 W.K.pile.top)).setCell ⟨b,1,none⟩ (zI z6 5)).setCell ⟨b,4,none⟩ (.bool false)⟩ from Mod.st (Mod.st (Mod.st M1.out H1.out.modY) H1.out.modY) H1.out.modY);obtain ⟨a0,a1,a2,a3,a4,a5,a6,a7,a8,a9,a10,a11,a12,a13,al⟩:=H1.out.y.blk.k14;have af1:=H1.out.y.blk.liv 1;have af3:=H1.out.y.blk.liv 3;have af4:=H1.out.y.blk.liv 4;go_upto_region 8 with fail
 generalize ((w1.setCell ⟨b,3,none⟩ (zI z6 W.K.pile.top)).setCell ⟨b,1,none⟩ (zI z6 5)).setCell ⟨b,4,none⟩ (.bool false)=w2 at *;clear a0 a1 a2 a3 a4 a5 a6 a7 a8 a9 a10 a11 a12 a13 af1 af3 af4 al;have HNW:=zH (fun X=>yeB cm W.K.pile.top W.y.sense (t+1) (GW.pt ⟨own1,w2⟩ X) (H2.out.pt X).c.cnf.ok HMX.out);unfold Cnf.val at HNW;obtain ⟨a0,a1,a2,a3,a4,a5,a6,a7,a8,a9,a10,a11,a12,a13,al⟩:=H2.out.y.blk.k14;have af5:=H2.out.y.blk.liv 5;have af1:=H2.out.y.blk.liv 1;obtain ⟨c0,c1,c2,c3,c4,c5,c6,c7,c8,c9,c10,c11,c12,cl⟩:=H2.out.c.blk.k13;refine yau [0,1] [zU,zU,zT,zT,zT,zT,zT,zT,zT,zT,zT,zT,zT,zT] 14 6 ?_;intro X00;simp only [pickOps,movesAct,moveOf,List.getElem?_toArray,List.getElem?_cons_zero,List.getElem?_cons_succ];(try go_simp);repeat (go_big_quiet_step (fail))
 refine wpQuiet_nil (fun X0 K Q' hK=>?_);clear X00;(try go_simp);refine (HNW.out _).mono ?_;rintro e w3 ⟨own3,bx,ch,rfl,m3,ht3,hs3⟩;have P3:=(Mod.pt (Mod.refl (fun _=>False) ⟨own1,w2⟩) _).trans m3;have H3:=zH (H2.out.keep P3 (fun _=>False.elim) (fun _=>False.elim));have M3:=zH (M2.out.trans (P3.mono (S:=cyT t B) (fun _=>False.elim)));have HT3:=zH ht3;have HS3:=zH hs3;clear P3 m3 ht3 hs3 a0 a1 a2 a3 a4 a5 a6 a7 a8 a9 a10 a11 a12 a13 af1 af5 al c0 c1 c2 c3 c4 c5 c6 c7 c8 c9 c10 c11 c12 cl H2 M2 HNW;obtain ⟨a0,a1,a2,a3,a4,a5,a6,a7,a8,a9,a10,a11,a12,a13,al⟩:=H3.out.y.blk.k14;have af5:=H3.out.y.blk.liv 5;have af1:=H3.out.y.blk.liv 1;(try go_simp);refine hK _ _ ?_;clear hK K Q';refine yac (v:=.pointer (some ⟨b,0,none⟩)) 15 ?_;(try go_simp);refine yac (v:=.pointer (some ⟨b,5,none⟩)) 16 ?_;(try go_simp);refine yag 17 (fun K Q' hK=>?_);(try go_simp);refine hK _ _ ?_;clear hK K Q';refine yac (v:=.pointer (some ⟨b,0,none⟩)) 18 ?_;(try go_simp);refine yac (v:=.pointer (some ⟨b,1,none⟩)) 19 ?_;(try go_simp);refine yag 20 (fun K Q' hK=>?_);(try go_simp);refine hK _ _ ?_;clear hK K Q';refine wpAny_done zQ ?_ _
 have H4:=zH (show CyIn ⟨own3,(w3.setCell ⟨b,5,none⟩ (.pointer (some ⟨bx,0,none⟩))).setCell ⟨b,1,none⟩ (zI z6 4)⟩ t B b k W.marksNext (some ⟨bx,0,none⟩) hp0 bm bs bt bp bsp bh cm from (H3.out.putT (S:=TraceS.fresh W.K.c W.K.pile.top W.y.sense) A HT3.out (ya6 HS3.out H3.out.c.same)).set A 1 (zI z6 4) { W.y with head:=W.K.pile.top,at_:=4,rescan:=false } rfl);have M4:=zH (show Mod (cyT t B) g ⟨own3,(w3.setCell ⟨b,5,none⟩ (.pointer (some ⟨bx,0,none⟩))).setCell ⟨b,1,none⟩ (zI z6 4)⟩ from Mod.st (Mod.st M3.out H3.out.modY) H3.out.modY);go_wp2_with fail;(try rw [Exit.noGoto_ret]);exact bodyPost_ret (results_none rfl _ _ _) rfl (Does.of ⟨own3,(w3.setCell ⟨b,5,none⟩ (.pointer (some ⟨bx,0,none⟩))).setCell ⟨b,1,none⟩ (zI z6 4)⟩ rfl rfl M4.out H4.out.at_)
theorem yeL (A:CyApart t B) (hd:W.Bd) (h6:W.y.at_=6) (hck:W.K.c.check=0) (H:CyWAt g t B b k W):Calls prog 49 #[.pointer (some ⟨b,0,none⟩),.pointer (some ⟨k,0,none⟩)] g.w (Does (.tuple #[]) g (cyT t B) (fun g'=>CyWAt g' t B b k W.marksScan)):=by
 obtain ⟨tp,hp0,bm,bs,bt,bp,bsp,bh,cm,H⟩:=H;have HH:=zH H;have HMX:=zH (Cnf.shapes_few (show cm.check=0 by rw [H.c.same.check];exact hck));have HN:=zH (fun X=>ygi (g.pt X) (B+60) bs bt (B+50) bp W.K.sp.tab W.K.n W.y.i W.y.sense ⟨(H.pt X).c.shd.blk,(H.pt X).c.shd.tab⟩ hd.n zo);have HB:=zH (show W.marksScan=if W.scanB then W.marksSeen else CyW.follows { W with K:={ W.K with n:=W.K.n+1 } } from rfl);have HD:=zH hd.i;rw [show (W.K.sp.tab.head W.y.i&&W.K.sp.tab.black W.y.i W.y.sense)=W.scanB from rfl] at HN;obtain ⟨a0,a1,a2,a3,a4,a5,a6,a7,a8,a9,a10,a11,a12,a13,al⟩:=H.y.blk.k14;have af1:=H.y.blk.liv 1;obtain ⟨c0,c1,c2,c3,c4,c5,c6,c7,c8,c9,c10,c11,c12,cl⟩:=H.c.blk.k13;rw [h6] at a1;clear H hd h6 hck;generalize W.marksScan=U at *;generalize W.scanB=bb at *;go_enter func49,ntmps49;go_wp2_with fail;refine yaV 0 1 2 rfl rfl rfl ?_;go_wp2_with fail;go_step3
 refine ybh (ybh (yat ?_));go_wp2_with fail;refine yab [zT,zT,zT,zT,zT,zT,zT,zT,zT,zT,zT,zT,zU] 1 12 ?_;intro X00;simp only [pickOps];repeat (go_big_quiet_step (fail))
 refine wpQuiet_nil (fun X0=>?_);clear X00;refine yae rfl zQ (fun X2=>?_);simp only [List.drop_succ_cons,List.drop_zero];go_wp2_with fail;refine (HN.out _).mono ?_;rintro e w1 ⟨rfl,own1,m1,h1⟩;have P1:=(Mod.pt (Mod.refl _ _) _).trans m1;have M1:=zH (P1.mono (S:=cyT t B) (fun x hx=>Or.inr zo));have H1:=zH (show CyIn ⟨own1,w1⟩ t B b k { W with K:={ W.K with n:=W.K.n+1 } } tp hp0 bm bs bt bp bsp bh cm from ⟨HH.out.y.keep P1 (fun x hx=>by have:=A.apart;omega),HH.out.c.putShd (P1.mono (fun x hx=>by omega)) ⟨h1.blk,h1.tab,HH.out.c.pile.keep P1 zo⟩⟩);clear a0 a1 a2 a3 a4 a5 a6 a7 a8 a9 a10 a11 a12 a13 af1 al c0 c1 c2 c3 c4 c5 c6 c7 c8 c9 c10 c11 c12 cl;clear P1 m1 h1 HN;cases bb
 · have HV:=zH (show U=CyW.follows { W with K:={ W.K with n:=W.K.n+1 } } from HB.out);have HF:=zH (yds (W:={ W with K:={ W.K with n:=W.K.n+1 } }) A HD.out H1.out);go_wp2_with fail;refine HF.out.mono ?_;rintro e w3 ⟨rfl,own3,m3,h3⟩;have M3:=zH (M1.out.trans m3);have H3:=zH h3;clear m3 h3;go_wp2_with fail;(try rw [Exit.via_normal]);exact bodyPost_end (results_none rfl _ _ _) rfl (Does.of ⟨own3,w3⟩ rfl rfl M3.out (by rw [HV.out];exact H3.out.at_))
 · have HV:=zH (show U=W.marksSeen from HB.out);go_upto_region 17 with fail
   have HNW:=zH (fun X=>yeB cm W.y.i W.y.sense (t+1) (GW.pt ⟨own1,w1⟩ X) (H1.out.pt X).c.cnf.ok HMX.out);unfold Cnf.val at HNW;obtain ⟨a0,a1,a2,a3,a4,a5,a6,a7,a8,a9,a10,a11,a12,a13,al⟩:=H1.out.y.blk.k14;have af5:=H1.out.y.blk.liv 5;have af1:=H1.out.y.blk.liv 1;have af4:=H1.out.y.blk.liv 4;obtain ⟨c0,c1,c2,c3,c4,c5,c6,c7,c8,c9,c10,c11,c12,cl⟩:=H1.out.c.blk.k13;refine yau [0,1,2] [zU,zU,zU,zT,zT,zT,zT,zT,zT,zT,zT,zT,zT,zT,zT] 15 9 ?_;intro X00;simp only [pickOps,movesAct,moveOf,List.getElem?_toArray,List.getElem?_cons_zero,List.getElem?_cons_succ];(try go_simp);repeat (go_big_quiet_step (fail))
   refine wpQuiet_nil (fun X0 K Q' hK=>?_);clear X00;(try go_simp);refine (HNW.out _).mono ?_;rintro e w3 ⟨own3,bx,ch,rfl,m3,ht3,hs3⟩;have P3:=(Mod.pt (Mod.refl (fun _=>False) ⟨own1,w1⟩) _).trans m3;have H3:=zH (H1.out.keep P3 (fun _=>False.elim) (fun _=>False.elim));have M3:=zH (M1.out.trans (P3.mono (S:=cyT t B) (fun _=>False.elim)));have HT3:=zH ht3;have HS3:=zH hs3;clear P3 m3 ht3 hs3 a0 a1 a2 a3 a4 a5 a6 a7 a8 a9 a10 a11 a12 a13 af1 af4 af5 al c0 c1 c2 c3 c4 c5 c6 c7 c8 c9 c10 c11 c12 cl H1 M1 HNW;obtain ⟨a0,a1,a2,a3,a4,a5,a6,a7,a8,a9,a10,a11,a12,a13,al⟩:=H3.out.y.blk.k14;have af5:=H3.out.y.blk.liv 5;have af1:=H3.out.y.blk.liv 1;have af4:=H3.out.y.blk.liv 4;(try go_simp);refine hK _ _ ?_;clear hK K Q';refine yac (v:=.pointer (some ⟨b,0,none⟩)) 16 ?_;(try go_simp);refine yac (v:=.pointer (some ⟨b,5,none⟩)) 17 ?_;(try go_simp);refine yag 18 (fun K Q' hK=>?_);(try go_simp);refine hK _ _ ?_;clear hK K Q';refine yac (v:=.pointer (some ⟨b,0,none⟩)) 19 ?_;(try go_simp);refine yac (v:=.pointer (some ⟨b,1,none⟩)) 20 ?_;(try go_simp);refine yag 21 (fun K Q' hK=>?_);(try go_simp);refine hK _ _ ?_;clear hK K Q';refine yac (v:=.pointer (some ⟨b,0,none⟩)) 22 ?_
   (try go_simp);refine yac (v:=.pointer (some ⟨b,4,none⟩)) 23 ?_;(try go_simp);refine yag 24 (fun K Q' hK=>?_);(try go_simp);refine hK _ _ ?_;clear hK K Q';refine wpAny_done zQ ?_ _;have H4:=zH (show CyIn ⟨own3,((w3.setCell ⟨b,5,none⟩ (.pointer (some ⟨bx,0,none⟩))).setCell ⟨b,1,none⟩ (zI z6 4)).setCell ⟨b,4,none⟩ (.bool true)⟩ t B b k W.marksSeen (some ⟨bx,0,none⟩) hp0 bm bs bt bp bsp bh cm from ((H3.out.putT (S:=TraceS.fresh W.K.c W.y.i W.y.sense) A HT3.out (ya6 HS3.out H3.out.c.same)).set A 1 (zI z6 4) { W.y with at_:=4 } rfl).set A 4 (.bool true) { W.y with at_:=4,rescan:=true } rfl);have M4:=zH (show Mod (cyT t B) g ⟨own3,((w3.setCell ⟨b,5,none⟩ (.pointer (some ⟨bx,0,none⟩))).setCell ⟨b,1,none⟩ (zI z6 4)).setCell ⟨b,4,none⟩ (.bool true)⟩ from Mod.st (Mod.st (Mod.st M3.out H3.out.modY) H3.out.modY) H3.out.modY);go_wp2_with fail;rw [Exit.via_ret];exact bodyPost_ret (results_none rfl _ _ _) rfl (Does.of ⟨own3,((w3.setCell ⟨b,5,none⟩ (.pointer (some ⟨bx,0,none⟩))).setCell ⟨b,1,none⟩ (zI z6 4)).setCell ⟨b,4,none⟩ (.bool true)⟩ rfl rfl M4.out (by rw [HV.out];exact H4.out.at_))
end
end Go.Proofs.YtdhjjpnajjingaaGreat
namespace Go.Proofs.YtdhjjpnajjingaaGreat
open Go Go.RowKit
section
variable {g:GW} {t B b k:Nat} {W:CyW}
theorem yfU (V:CyW) (hd:W.Bd) (hd1:W.tick1.Bd) (he:W.y.e=0) (hst:W.y.stage=4) (A:CyApart t B) (HC: ∀g',CyWAt g' t B b k W.tick1→Calls prog 48 #[.pointer (some ⟨b,0,none⟩),.pointer (some ⟨k,0,none⟩)] g'.w (Does (.tuple #[]) g' (cyT t B) (fun g''=>CyWAt g'' t B b k V))) (H:CyWAt g t B b k W):Calls prog 19 #[.pointer (some ⟨b,0,none⟩),.pointer (some ⟨k,0,none⟩)] g.w (Does (.tuple #[]) g (cyT t B) (fun g'=>CyWAt g' t B b k V)):=by
 have HP:=zH HC;clear HC;obtain ⟨tp,hp,bm,bs,bt,bp,bsp,bh,cm,H⟩:=H;have HH:=zH H;have HD1:=zH hd1;obtain ⟨a0,a1,a2,a3,a4,a5,a6,a7,a8,a9,a10,a11,a12,a13,al⟩:=H.y.blk.k14;have af12:=H.y.blk.liv 12;obtain ⟨c0,c1,c2,c3,c4,c5,c6,c7,c8,c9,c10,c11,c12,cl⟩:=H.c.blk.k13;rw [hst] at a0;rw [he] at a13;obtain ⟨hs0,hs1⟩:=hd.steps;clear H hd hd1 hst he;by_cases hs:0<W.y.started
 · have d1:decide (0<W.y.started)=true:=decide_eq_true hs;have HT:=zH (show W.tick1={ W with y:={ W.y with steps:=W.y.steps+1 } } from if_pos hs);have H1:=zH (show CyWAt ⟨g.own,g.w.setCell ⟨b,12,none⟩ (zI z6 (W.y.steps+1))⟩ t B b k W.tick1 from by rw [HT.out];exact (HH.out.set A 12 (zI z6 (W.y.steps+1)) { W.y with steps:=W.y.steps+1 } rfl).at_);have M1:=zH (show Mod (cyT t B) g ⟨g.own,g.w.setCell ⟨b,12,none⟩ (zI z6 (W.y.steps+1))⟩ from Mod.st Mod.self HH.out.modY);clear hs;go_enter func19,ntmps19;go_wp2_with fail;refine (HP.out _ H1.out).mono ?_;rintro e w2 ⟨rfl,own2,m2,h2⟩;have M2:=zH (M1.out.trans m2);have H2:=zH h2;clear m2 h2;go_wp2_with fail;exact bodyPost_end (results_none rfl _ _ _) rfl (Does.of ⟨own2,w2⟩ rfl rfl M2.out H2.out)
 · have d1:decide (0<W.y.started)=false:=decide_eq_false hs;have HT:=zH (show W.tick1=W from if_neg hs);have H1:=zH (show CyWAt ⟨g.own,g.w⟩ t B b k W.tick1 from by rw [HT.out];exact HH.out.at_);clear hs;go_enter func19,ntmps19;go_wp2_with fail;refine (HP.out _ H1.out).mono ?_;rintro e w2 ⟨rfl,own2,m2,h2⟩;have M2:=zH m2;have H2:=zH h2;clear m2 h2;go_wp2_with fail;exact bodyPost_end (results_none rfl _ _ _) rfl (Does.of ⟨own2,w2⟩ rfl rfl M2.out H2.out)
theorem yfV (V:CyW) (hd:W.Bd) (hd1:W.tick1.Bd) (he:W.y.e=0) (hst:W.y.stage=5) (A:CyApart t B) (HC: ∀g',CyWAt g' t B b k W.tick1→Calls prog 49 #[.pointer (some ⟨b,0,none⟩),.pointer (some ⟨k,0,none⟩)] g'.w (Does (.tuple #[]) g' (cyT t B) (fun g''=>CyWAt g'' t B b k V))) (H:CyWAt g t B b k W):Calls prog 19 #[.pointer (some ⟨b,0,none⟩),.pointer (some ⟨k,0,none⟩)] g.w (Does (.tuple #[]) g (cyT t B) (fun g'=>CyWAt g' t B b k V)):=by
 have HP:=zH HC;clear HC;obtain ⟨tp,hp,bm,bs,bt,bp,bsp,bh,cm,H⟩:=H;have HH:=zH H;have HD1:=zH hd1;obtain ⟨a0,a1,a2,a3,a4,a5,a6,a7,a8,a9,a10,a11,a12,a13,al⟩:=H.y.blk.k14;have af12:=H.y.blk.liv 12;obtain ⟨c0,c1,c2,c3,c4,c5,c6,c7,c8,c9,c10,c11,c12,cl⟩:=H.c.blk.k13;rw [hst] at a0;rw [he] at a13;obtain ⟨hs0,hs1⟩:=hd.steps;clear H hd hd1 hst he;by_cases hs:0<W.y.started
 · have d1:decide (0<W.y.started)=true:=decide_eq_true hs;have HT:=zH (show W.tick1={ W with y:={ W.y with steps:=W.y.steps+1 } } from if_pos hs);have H1:=zH (show CyWAt ⟨g.own,g.w.setCell ⟨b,12,none⟩ (zI z6 (W.y.steps+1))⟩ t B b k W.tick1 from by rw [HT.out];exact (HH.out.set A 12 (zI z6 (W.y.steps+1)) { W.y with steps:=W.y.steps+1 } rfl).at_);have M1:=zH (show Mod (cyT t B) g ⟨g.own,g.w.setCell ⟨b,12,none⟩ (zI z6 (W.y.steps+1))⟩ from Mod.st Mod.self HH.out.modY);clear hs;go_enter func19,ntmps19;go_wp2_with fail;refine (HP.out _ H1.out).mono ?_;rintro e w2 ⟨rfl,own2,m2,h2⟩;have M2:=zH (M1.out.trans m2);have H2:=zH h2;clear m2 h2;go_wp2_with fail;exact bodyPost_end (results_none rfl _ _ _) rfl (Does.of ⟨own2,w2⟩ rfl rfl M2.out H2.out)
 · have d1:decide (0<W.y.started)=false:=decide_eq_false hs;have HT:=zH (show W.tick1=W from if_neg hs);have H1:=zH (show CyWAt ⟨g.own,g.w⟩ t B b k W.tick1 from by rw [HT.out];exact HH.out.at_);clear hs;go_enter func19,ntmps19;go_wp2_with fail;refine (HP.out _ H1.out).mono ?_;rintro e w2 ⟨rfl,own2,m2,h2⟩;have M2:=zH m2;have H2:=zH h2;clear m2 h2;go_wp2_with fail;exact bodyPost_end (results_none rfl _ _ _) rfl (Does.of ⟨own2,w2⟩ rfl rfl M2.out H2.out)
theorem CyW.tick1_tr (W:CyW):W.tick1.tr=W.tr:=by unfold CyW.tick1;split<;>rfl
theorem yg5 (A:CyApart t B) (hd:W.Bd) (V:CyW) (h:W.rootsG=some V) (H:CyWAt g t B b k W):Calls prog 48 #[.pointer (some ⟨b,0,none⟩),.pointer (some ⟨k,0,none⟩)] g.w (Does (.tuple #[]) g (cyT t B) (fun g'=>CyWAt g' t B b k V)):=by
 unfold CyW.rootsG at h;by_cases h3:W.y.at_=3
 · rw [if_pos h3] at h;injection h with h;subst h;exact yeM A hd h3 H
 rw [if_neg h3] at h;by_cases hp:W.K.c.globals≤W.y.i∨W.y.at_=1
 · rw [if_pos hp] at h;injection h with h;subst h;exact yeO A hd h3 hp H
 rw [if_neg hp] at h;split at h
 case isFalse=>cases h
 case isTrue hc=>
  obtain ⟨c0,c1,c2,c3⟩:=hc;cases hw:wIndex (W.K.mem.peek (W.y.i+cAhead W.K.c 3)) with
  |none=>
   rw [hw] at h;injection h with h;subst h;exact yeN A hd c0 ⟨c1,zo⟩ c2 c3 hw H
  |some x=>
   rw [hw] at h;injection h with h;subst h;exact yeP A hd c0 ⟨c1,zo⟩ c2 c3 hw H
theorem yg4 (A:CyApart t B) (hd:W.Bd) (hok:W.TrOk) (V:CyW) (h:W.marksG=some V) (H:CyWAt g t B b k W):Calls prog 49 #[.pointer (some ⟨b,0,none⟩),.pointer (some ⟨k,0,none⟩)] g.w (Does (.tuple #[]) g (cyT t B) (fun g'=>CyWAt g' t B b k V)):=by
 unfold CyW.marksG at h;by_cases h0:W.y.at_=0
 · rw [if_pos h0] at h;cases hp:W.K.pile.some_
   · rw [hp] at h;injection h with h;subst h;exact ydQ A hd h0 hp H
   · rw [hp,if_pos rfl] at h;split at h
     case isFalse=>cases h
     case isTrue hck=>
      injection h with h;subst h;exact yeK A hd h0 hp hck H
 rw [if_neg h0] at h;by_cases h4:W.y.at_=4
 · rw [if_pos h4] at h;cases hS:W.tr with
   |none=>rw [hS] at h;cases h
   |some S=>
    rw [hS] at h;simp only at h;split at h
    case isFalse=>cases h
    case isTrue hc=>
     injection h with h;subst h;exact ydS A hd h4 hS (hok S hS) (of_decide_eq_true hc) H
 rw [if_neg h4] at h;by_cases h5:W.y.at_=5
 · rw [if_pos h5] at h;cases hp:W.K.pile.lost
   · rw [hp] at h;injection h with h;subst h;exact ydR A hd h5 hp H
   · rw [hp] at h;injection h with h;subst h;exact yeJ A hd h5 hp H
 rw [if_neg h5] at h;by_cases h6:W.y.at_=6
 · rw [if_pos h6] at h;split at h
   case isFalse=>cases h
   case isTrue hck=>
    injection h with h;subst h;exact yeL A hd h6 hck H
 rw [if_neg h6] at h;cases h
theorem CyW.tick1_stage' (W:CyW):W.tick1.y.stage=W.y.stage:=by unfold CyW.tick1;split<;>rfl
theorem yix (A:CyApart t B) (V:CyW) (h:W.stepG=some V) (hok:W.TrOk) (H:CyWAt g t B b k W):Calls prog 19 #[.pointer (some ⟨b,0,none⟩),.pointer (some ⟨k,0,none⟩)] g.w (Does (.tuple #[]) g (cyT t B) (fun g'=>CyWAt g' t B b k V)):=by
 have hG:=h;unfold CyW.stepG at h;split at h
 · cases h
 rename_i hb
 simp only [Bool.not_eq_false,Bool.and_eq_true,beq_iff_eq] at hb;obtain ⟨hb1,hb2,he⟩:=hb;by_cases s4:W.y.stage=4
 · rw [if_neg zo] at h;unfold CyW.stageG at h;rw [CyW.tick1_stage',if_pos s4] at h;exact yfU V (CyW.bdB_of hb1) (CyW.bdB_of hb2) he s4 A (fun g' H'=>yg5 A (CyW.bdB_of hb2) V h H') H
 by_cases s5:W.y.stage=5
 · rw [if_neg zo] at h;unfold CyW.stageG at h;rw [CyW.tick1_stage',if_neg s4,if_pos s5] at h;exact yfV V (CyW.bdB_of hb1) (CyW.bdB_of hb2) he s5 A (fun g' H'=>yg4 A (CyW.bdB_of hb2) (fun S hS=>hok S (by rw [CyW.tick1_tr] at hS;exact hS)) V h H') H
 refine yiy A V ?_ ⟨s4,s5⟩ H;unfold CyW.stepO;rw [if_neg (by rw [hb1,hb2,he];simp)];by_cases s0:W.y.stage=0
 · rw [if_pos s0] at h ⊢;exact h
 · rw [if_neg s0] at h ⊢;unfold CyW.stageG at h;rw [CyW.tick1_stage',if_neg s4,if_neg s5] at h;exact h
end
namespace CyW
theorem ycO (W:CyW) (S:TraceS):(W.traced S).tr=some (W.trW S).step.s:=by unfold traced;split<;>rfl
theorem ydw (W:CyW):W.follows.tr=W.tr:=by unfold follows;split<;>rfl
theorem yfC (W:CyW):W.rootsPoll.tr=W.tr:=by
 have h:W.rootsV.tr=W.tr:=by unfold rootsV;split<;>rfl
 unfold rootsPoll;split
 · exact h
 · exact h
theorem yeU (W:CyW) (S:TraceS):(W.marksTrace S).tr=some (W.trW S).step.s:=by
 unfold marksTrace;split
 · split
   · rw [ydw];exact ycO W S
   · exact ycO W S
 · exact ycO W S
theorem yjP (W:CyW):W.starts.tr=W.tr:=by unfold starts;split<;>rfl
theorem yfn (W:CyW) (a b:Int):(W.hands a b).tr=W.tr:=by
 unfold hands;split
 · split<;>rfl
 · rfl
theorem ykX (W:CyW):W.turns.tr=W.tr:=by
 unfold turns;split
 · rfl
 · split
   · rfl
   · split<;>rfl
theorem yhW (W:CyW):W.settles.tr=W.tr:=by
 unfold settles;split
 · split<;>rfl
 · rfl
theorem yh4 (W:CyW):W.sweepsY.tr=W.tr:=by unfold sweepsY;split<;>rfl
theorem yjF (W:CyW):W.serves.tr=W.tr:=by
 unfold serves;split
 · rfl
 · simp only;split<;>rfl
theorem yjO {W V:CyW} (h4:W.y.stage≠4) (h5:W.y.stage≠5) (h:W.stageO=some V):V.tr=W.tr:=by
 unfold stageO at h;rw [if_neg h4,if_neg h5] at h;by_cases s1:W.y.stage=1
 · rw [if_pos s1] at h;injection h with h;rw [←h];exact yjP W
 rw [if_neg s1] at h;by_cases s2:W.y.stage=2
 · rw [if_pos s2] at h;injection h with h;rw [←h];exact yfn W _ _
 rw [if_neg s2] at h;by_cases s3:W.y.stage=3
 · rw [if_pos s3] at h;injection h with h;rw [←h];exact yfn W _ _
 rw [if_neg s3] at h;by_cases s6:W.y.stage=6
 · rw [if_pos s6] at h;injection h with h;rw [←h];exact ykX W
 rw [if_neg s6] at h;by_cases s7:W.y.stage=7
 · rw [if_pos s7] at h;unfold haulsO at h;split at h
   · split at h
     · injection h with h;rw [←h];rfl
     · cases h
   · split at h
     · injection h with h;rw [←h];rfl
     · cases h
 rw [if_neg s7] at h;by_cases s8:W.y.stage=8
 · rw [if_pos s8] at h;split at h
   · injection h with h;rw [←h];exact yhW W
   · cases h
 rw [if_neg s8] at h;by_cases s9:W.y.stage=9
 · rw [if_pos s9] at h;injection h with h;rw [←h];exact yh4 W
 rw [if_neg s9] at h;by_cases s10:W.y.stage=10
 · rw [if_pos s10] at h;split at h
   · injection h with h;rw [←h];exact yjF W
   · cases h
 rw [if_neg s10] at h;cases h
theorem ykr (W:CyW):W.idles.tr=W.tr:=by unfold idles;split<;>rfl
theorem stepG_ok {W V:CyW} (h:W.stepG=some V) (hok:W.TrOk):V.TrOk:=by
 have same:V.tr=W.tr→V.TrOk:=fun e S hS=>hok S (by rw [←e];exact hS);unfold stepG at h;split at h
 · cases h
 by_cases s0:W.y.stage=0
 · rw [if_pos s0] at h;injection h with h;exact same (by rw [←h,ykr,tick1_tr])
 rw [if_neg s0] at h;unfold stageG at h;rw [tick1_stage'] at h;have hok1:W.tick1.TrOk:=fun S hS=>hok S (by rw [tick1_tr] at hS;exact hS);have same1:V.tr=W.tick1.tr→V.TrOk:=fun e=>same (by rw [e,tick1_tr]);generalize hU:W.tick1=U at *;by_cases s4:W.y.stage=4
 · rw [if_pos s4] at h;unfold rootsG at h;split at h
   · injection h with h;exact same1 (by rw [←h];rfl)
   · split at h
     · injection h with h;exact same1 (by rw [←h,yfC])
     · split at h
       · split at h
         · injection h with h;exact same1 (by rw [←h];rfl)
         · injection h with h;exact same1 (by rw [←h];rfl)
       · cases h
 rw [if_neg s4] at h;by_cases s5:W.y.stage=5
 · rw [if_pos s5] at h;unfold marksG at h;split at h
   · split at h
     · split at h
       · injection h with h;subst h;intro S hS;have e:some (TraceS.fresh U.K.c U.K.pile.top U.y.sense)=some S:=hS;injection e with e;subst e;exact TraceS.fresh_ok _ _ _
       · cases h
     · injection h with h;exact same1 (by rw [←h];rfl)
   · split at h
     · split at h
       · cases h
       · rename_i S hS
         split at h
         · injection h with h;subst h;intro S2 hS2;rw [yeU] at hS2;injection hS2 with hS2;subst hS2;exact ylr (w:=U.trW S) (hok1 S hS)
         · cases h
     · split at h
       · split at h
         · injection h with h;exact same1 (by rw [←h];rfl)
         · injection h with h;exact same1 (by rw [←h];rfl)
       · split at h
         · split at h
           · injection h with h;subst h;unfold marksScan;split
             · intro S hS;have e:some (TraceS.fresh U.K.c U.y.i U.y.sense)=some S:=hS;injection e with e;subst e;exact TraceS.fresh_ok _ _ _
             · intro S hS;rw [ydw] at hS;exact hok1 S hS
           · cases h
         · cases h
 rw [if_neg s5] at h;exact same1 (yjO (by rw [←hU,tick1_stage'];exact s4) (by rw [←hU,tick1_stage'];exact s5) h)
end CyW
end Go.Proofs.YtdhjjpnajjingaaGreat
namespace Go.Proofs.YtdhjjpnajjingaaGreat
open Go Go.RowKit
theorem SpaceAt.like {g:GW} {B b bt:Nat} {S:SpaceS} {c':Cnf} (h:SpaceAt g B b bt S) (hs:S.c.Same c'):SpaceAt g B b bt { S with c:=c' }:=by
 obtain ⟨bp,bk,bl,A,cs,cm,bs,h⟩:=h;exact ⟨bp,bk,bl,A,cs,cm,bs,⟨h.blk,h.row,h.tab,h.pool,h.coil,h.line,h.cnf,ya6 h.same hs,h.blen,h.stock,by show c'.check=0;rw [←hs.check];exact h.check,h.few⟩⟩
theorem CoreIn.like {g:GW} {B b bm bs bt bp bsp bh:Nat} {K:CoreS} {cm c':Cnf} (h:CoreIn g B b K bm bs bt bp bsp bh cm) (h1:K.c.Same c') (h2:K.sp.c.Same c'):CoreIn g B b { K with c:=c',sp:={ K.sp with c:=c' } } bm bs bt bp bsp bh cm:=
 ⟨h.blk,h.mem,h.sh,h.pile,h.sp.like h2,h.hand,h.cnf,ya6 h.same h1⟩
theorem yfu {c d:Cnf} (h:c.Same d) (k:Nat):memLaid c k=memLaid d k:=by
 unfold memLaid;rw [ycZ h];simp only [ybM h]
section
variable {w0:World} {g:GW} {b c k:Nat} {D:DuW}
theorem DuIs.like (h:DuIs w0 g b c k D) {c':Cnf} (h1:D.K.c.Same c') (h2:D.K.sp.c.Same c'):DuIs w0 g b c k { D with K:={ D.K with c:=c',sp:={ D.K.sp with c:=c' } } }:=by
 obtain ⟨p,tp,hp,bm,bs,bt,bp,bsp,bh,cm,a1,a2,a3⟩:=h.h.ex;exact ⟨h.m,⟨⟨p,tp,hp,bm,bs,bt,bp,bsp,bh,cm,a1,a2.like h1 h2,a3⟩⟩⟩
theorem yb4 (h:DuIs w0 g b c k D) (hol:D.a.ops.length≤1000000) (x:AcR) (hx:D.ac.stepL=some x):Calls prog 10 #[.pointer (some ⟨b,0,none⟩),.pointer (some ⟨k,0,none⟩)] g.w (Does (resV x.1) g duT (fun g'=>DuIs w0 g' b c k (D.putA x.2))):=by
 obtain ⟨p,tp,hp,bm,bs,bt,bp,bsp,bh,cm,h1,h2,h3⟩:=h.h.ex;letI:TbId:=⟨⟨bt⟩⟩
 refine (ygR ymn (AcIn.at_ (show AcIn g 500 100 b k D.ac p bm bs bt bp bsp bh cm from ⟨h1,h2,rfl⟩)) hol x hx).mono ?_;rintro e w' ⟨rfl,own',m',h'⟩;have h4:=h3.keep m' (fun x hx=>by unfold acT at hx;omega);obtain ⟨p',bm',bs',bt',bp',bsp',bh',cm',h'⟩:=h';exact ⟨rfl,own',m'.mono (fun x hx=>Or.inl hx),⟨h.m.trans (m'.mono (fun x hx=>Or.inl hx)),⟨⟨p',tp,hp,bm',bs',bt',bp',bsp',bh',cm',h'.a,h'.c,h4⟩⟩⟩⟩
theorem yg8 (h:DuIs w0 g b c k D) (hok:D.cy.TrOk) (V:CyW) (hV:D.cy.stepG=some V):Calls prog 19 #[.pointer (some ⟨c,0,none⟩),.pointer (some ⟨k,0,none⟩)] g.w (Does (.tuple #[]) g duT (fun g'=>DuIs w0 g' b c k (D.putC V))):=by
 obtain ⟨p,tp,hp,bm,bs,bt,bp,bsp,bh,cm,h1,h2,h3⟩:=h.h.ex;refine (yix yil V hV hok (show CyWAt g 600 100 c k D.cy from ⟨tp,hp,bm,bs,bt,bp,bsp,bh,cm,⟨h3,h2⟩⟩)).mono ?_;rintro e w' ⟨rfl,own',m',h'⟩;have h4:=h1.keep m' (by unfold cyT;omega) (fun x hx=>by unfold cyT at hx;omega);obtain ⟨tp',hp',bm',bs',bt',bp',bsp',bh',cm',h'⟩:=h';exact ⟨rfl,own',m'.mono (fun x hx=>Or.inr hx),⟨h.m.trans (m'.mono (fun x hx=>Or.inr hx)),⟨⟨p,tp',hp',bm',bs',bt',bp',bsp',bh',cm',h4,h'.c,h'.y⟩⟩⟩⟩
end
structure DuW.Fit (D:DuW):Prop where
 ops:D.a.ops.length≤1000000
 tr:D.cy.TrOk
theorem DuW.Fit.stepA {D:DuW} (h:D.Fit) {x:AcR} (hx:D.ac.stepL=some x):(D.putA x.2).Fit:=⟨by show x.2.a.ops.length≤_;rw [AcW.stepL_ops hx];exact h.ops,h.tr⟩
theorem DuW.Fit.stepC {D:DuW} (h:D.Fit) {V:CyW} (hV:D.cy.stepG=some V):(D.putC V).Fit:=⟨h.ops,CyW.stepG_ok hV h.tr⟩
theorem DuW.Fit.tick {D:DuW} (h:D.Fit):D.tick.Fit:=⟨h.ops,h.tr⟩
theorem DuW.Fit.force {D:DuW} (h:D.Fit):D.force.Fit:=⟨h.ops,h.tr⟩
theorem yb1 (A A1 A2:Option Addr) {stack:Int} (h:1≤stack∧stack≤256):(cChain 200 stack A A1 A2).check=0:=by
 have e:within stack 1 256=true:=decide_eq_true h;unfold Cnf.check Cnf.rangedTo Cnf.ranges;rw [show (cChain 200 stack A A1 A2).stack=stack from rfl,e];rfl
theorem yfS (A A1 A2:Option Addr) {stack:Int} (h:1≤stack∧stack≤256):(cChain 200 stack A A1 A2).Same (cChain 200 1 A A1 A2):=
 ⟨rfl,rfl,rfl,rfl,rfl,rfl,by rw [yb1 A A1 A2 h,yb1 A A1 A2 ⟨zd,zd⟩],rfl,rfl⟩
theorem yky {w0:World} {g:GW} {b c k:Nat} {A A1 A2:Option Addr} {stack:Int} {ops:List Opr} (h:1≤stack∧stack≤256) (hd:DuIs w0 g b c k (aloneD (cChain 200 stack A A1 A2) ops)):DuIs w0 g b c k (listD ops stack A A1 A2):=by
 have hs:=yfS A A1 A2 h;have h1:=hd.like (c':=cChain 200 1 A A1 A2) hs hs
 have e:({ aloneD (cChain 200 stack A A1 A2) ops with K:={ (aloneD (cChain 200 stack A A1 A2) ops).K with c:=cChain 200 1 A A1 A2,sp:={ (aloneD (cChain 200 stack A A1 A2) ops).K.sp with c:=cChain 200 1 A A1 A2 } } }:DuW)=listD ops stack A A1 A2:=by
  unfold aloneD listD CoreS.fresh;simp only;rw [yfu hs];rfl
 rw [e] at h1;exact h1
end Go.Proofs.YtdhjjpnajjingaaGreat
namespace Go.Proofs.YtdhjjpnajjingaaGreat
open Go Go.RowKit
section
variable {w0:World} {g:GW} {b c k:Nat} {D:DuW}
theorem ybO (h:DuIs w0 g b c k D):Calls prog 15 #[.pointer (some ⟨b,0,none⟩)] g.w (fun e w'=>e=.returned (zI z6 D.a.phase)∧g.w=w'):=by
 obtain ⟨p,tp,hp,bm,bs,bt,bp,bsp,bh,cm,h1,h2,h3⟩:=h.h.ex;exact yii g 500 b D.a p h1
theorem ycx (h:DuIs w0 g b c k D):Calls prog 14 #[.pointer (some ⟨c,0,none⟩)] g.w (fun e w'=>e=.returned (zI z6 D.y.freed)∧g.w=w'):=by
 obtain ⟨p,tp,hp,bm,bs,bt,bp,bsp,bh,cm,h1,h2,h3⟩:=h.h.ex;exact ykf g 600 c _ _ _ _ _ h3
end
theorem yb0 {w0:World} {g:GW} {a y k:Nat} {D r:DuW} (fin:Int) (h:DuIs w0 g a y k D) (fit:D.Fit) (hc:0≤D.K.sp.count∧D.K.sp.count≤1099511627776) (hfin:D.y.finished=fin) (hb:0≤fin∧fin≤1000) (hr:DuW.aroundGo 60000 fin D.force=some r) (hf:r.y.finished=fin+1) (he:r.y.e=0):
 Calls prog 11 #[.pointer (some ⟨k,0,none⟩),.pointer (some ⟨y,0,none⟩),.pointer (some ⟨a,0,none⟩)] g.w (Does (.bool true) g duT (fun g'=>DuIs w0 g' a y k r∧r.Fit)):=by
 have HFN:=zH (show Calls prog 17 #[.pointer (some ⟨y,0,none⟩)] g.w (fun e w'=>e=.returned (zI z6 fin)∧g.w=w') from hfin▸ya4 h);obtain ⟨bsp,hcl,hkl,hfo⟩:=yiC h hc;have HFO:=zH hfo;have F1:=zH fit.force;have HRUN:=zH hr;obtain ⟨hb0,hb1⟩:=hb;clear h hc fit hr hfo hfin;generalize DuW.force D=D1 at *;go_enter func11,ntmps11;go_wp2_with fail;refine HFN.out.mono ?_;rintro e w' ⟨rfl,rfl⟩;go_wp2_with fail;refine HFO.out.mono ?_;rintro e w1 ⟨rfl,own1,m1,s1⟩;have S1:=zH s1;have M1:=zH m1;clear m1 s1 HFO hcl hkl HFN;go_wp2_with fail;go_loopw [8] (fun i wr=> ∃(j:Nat) (own:Nat→Nat) (E:DuW),j≤60000∧i=.int .i64 j∧Hid (DuIs w0 ⟨own,wr⟩ a y k E)∧Hid (Mod duT g ⟨own,wr⟩)∧Hid E.Fit∧Hid (DuW.aroundGo (60000-j) fin E=some r)) (fun i _=>60000-(intOf i).toNat)
 case atStart=>exact ⟨0,own1,D1,Nat.zero_le _,rfl,S1,M1,F1,HRUN⟩
 case round=>
  clear S1 M1 F1 HRUN;obtain ⟨j,own2,E,hj,rfl,S2,M2,F2,HR2⟩:=hrel;obtain ⟨w2,rfl⟩: ∃w2:World,w2=wr:=⟨_,rfl⟩;by_cases hlt:j<60000
  · have hlt':(j:Int)<60000:=zo;have HF2:=zH (ya4 S2.out);by_cases hf0:E.y.finished=fin
    · rw [hf0] at HF2;obtain ⟨f,hff⟩: ∃f,60000-j=f+1:=⟨60000-j-1,zo⟩;have hr:=HR2.out;rw [hff] at hr;obtain ⟨V,E',hV,hA,hnx⟩:=DuW.aroundGo_step hr hf0;have HN:=zH hnx;have HSC:=zH (yg8 S2.out F2.out.tr V hV);have F3:=zH (F2.out.stepC hV);have HFF:=zH hff;have HJ:=zH hj;clear hr hV HR2 S2 F2 hnx hf0 hff hlt hj;generalize DuW.putC E V=D3 at *;go_wp2_with fail;refine HF2.out.mono ?_;rintro e w' ⟨rfl,rfl⟩;go_wp2_with fail;refine HSC.out.mono ?_;rintro e w3 ⟨rfl,own3,m3,s3⟩;have S3:=zH s3;have M3:=zH (M2.out.trans m3);clear m3 s3 HSC HF2 M2;have HPH:=zH (ybO S3.out);rcases DuW.answerG_cases hA with ⟨hp,hok,hcs⟩|⟨hp,he'⟩
      · rw [hp] at HPH;have HST:=zH (yha S3.out);have HPO:=zH (yg9 S3.out hok);have F4:=zH F3.out.tick;rcases hcs with ⟨hsm,he'⟩|⟨hsm,x,hx,he'⟩
        · have hse:(D3.a.status !=D3.K.hand.status)=false:=by rw [bne,show (D3.a.status==D3.K.hand.status)=true from hsm];rfl
          subst he';generalize D3.a.status=sa at *;generalize D3.K.hand.status=sb at *;generalize DuW.tick D3=D4 at *;clear hA hp hok hsm;go_wp2_with fail;refine HPH.out.mono ?_;rintro e w' ⟨rfl,rfl⟩;go_wp2_with fail;refine HST.out.mono ?_;rintro e w' ⟨rfl,rfl⟩;go_wp2_with fail;refine HPO.out.mono ?_;rintro e w4 ⟨rfl,own4,m4,s4⟩;have S4:=zH s4;have M4:=zH (M3.out.trans m4);clear m4 s4 HST HPO HPH S3 M3 F3;go_wp2_with fail;go_roundw
          case rel=>exact ⟨j+1,own4,_,by have:=HJ.out;have:=HFF.out;omega,by go_num,S4,M4,F4,zH (by rw [show 60000-(j+1)=f by have:=HFF.out;omega];exact HN.out)⟩
          case measure=>(have:=HFF.out;simp [intOf];omega)
        · have hse:(D3.a.status !=D3.K.hand.status)=true:=by rw [bne,show (D3.a.status==D3.K.hand.status)=false from hsm];rfl
          subst he';have F5:=zH (F4.out.stepA hx);have HX:=zH hx;generalize D3.a.status=sa at *;generalize D3.K.hand.status=sb at *;generalize DuW.tick D3=D4 at *;clear hA hp hok hsm hx;go_wp2_with fail;refine HPH.out.mono ?_;rintro e w' ⟨rfl,rfl⟩;go_wp2_with fail;refine HST.out.mono ?_;rintro e w' ⟨rfl,rfl⟩;go_wp2_with fail;refine HPO.out.mono ?_;rintro e w4 ⟨rfl,own4,m4,s4⟩;have HSA:=zH (yb4 s4 F4.out.ops x HX.out);have M4:=zH (M3.out.trans m4);generalize resV x.1=rx at *;clear m4 s4 HST HPO HPH S3 M3 F3 HX F4;go_wp2_with fail;refine HSA.out.mono ?_;rintro e w5 ⟨rfl,own5,m5,s5⟩;have S5:=zH s5;have M5:=zH (M4.out.trans m5);clear m5 s5 HSA M4;go_wp2_with fail;go_roundw
          case rel=>exact ⟨j+1,own5,_,by have:=HJ.out;have:=HFF.out;omega,by go_num,S5,M5,F5,zH (by rw [show 60000-(j+1)=f by have:=HFF.out;omega];exact HN.out)⟩
          case measure=>(have:=HFF.out;simp [intOf];omega)
      · have hpz:(D3.a.phase==1)=false:=by simpa using hp
        rw [he'] at HN;generalize D3.a.phase=ph at *;clear hA hp he';go_wp2_with fail;refine HPH.out.mono ?_;rintro e w' ⟨rfl,rfl⟩;go_wp2_with fail;go_roundw
        case rel=>exact ⟨j+1,own3,_,by have:=HJ.out;have:=HFF.out;omega,by go_num,S3,M3,F3,zH (by rw [show 60000-(j+1)=f by have:=HFF.out;omega];exact HN.out)⟩
        case measure=>(have:=HFF.out;simp [intOf];omega)
    · have hbf:(E.y.finished==fin)=false:=by simpa using hf0
      have hx:=DuW.aroundGo_exit HR2.out (Or.inr hf0);subst hx;rw [hf] at HF2 hbf;clear HR2 hf0;go_wp2_with fail;refine HF2.out.mono ?_;rintro e w' ⟨rfl,rfl⟩;go_wp2_with fail;have HFr:=zH (show Calls prog 17 #[.pointer (some ⟨y,0,none⟩)] w2 (fun e w'=>e=.returned (zI z6 (fin+1))∧w2=w') from hf▸ya4 S2.out);have HEr:=zH (show Calls prog 22 #[.pointer (some ⟨y,0,none⟩)] w2 (fun e w'=>e=.returned (zI z6 0)∧w2=w') from he▸yeg S2.out);go_wp2_with fail;refine HFr.out.mono ?_;rintro e w' ⟨rfl,rfl⟩;go_wp2_with fail;refine HEr.out.mono ?_;rintro e w' ⟨rfl,rfl⟩;go_wp2_with fail;go_ret;exact Does.of ⟨own2,w2⟩ rfl rfl M2.out ⟨S2.out,F2.out⟩
  · obtain rfl:j=60000:=zo;have hx:=DuW.aroundGo_exit HR2.out (Or.inl rfl);subst hx;clear HR2;go_wp2_with fail;have HFr:=zH (show Calls prog 17 #[.pointer (some ⟨y,0,none⟩)] w2 (fun e w'=>e=.returned (zI z6 (fin+1))∧w2=w') from hf▸ya4 S2.out);have HEr:=zH (show Calls prog 22 #[.pointer (some ⟨y,0,none⟩)] w2 (fun e w'=>e=.returned (zI z6 0)∧w2=w') from he▸yeg S2.out);go_wp2_with fail;refine HFr.out.mono ?_;rintro e w' ⟨rfl,rfl⟩;go_wp2_with fail;refine HEr.out.mono ?_;rintro e w' ⟨rfl,rfl⟩;go_wp2_with fail;go_ret;exact Does.of ⟨own2,w2⟩ rfl rfl M2.out ⟨S2.out,F2.out⟩
end Go.Proofs.YtdhjjpnajjingaaGreat
