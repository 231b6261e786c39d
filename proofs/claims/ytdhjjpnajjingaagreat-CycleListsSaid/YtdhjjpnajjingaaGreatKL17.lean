import Derived.Test.YtdhjjpnajjingaaGreatKL16
import Derived.Laws.AppendOwnNone
import Derived.Laws.CopyRow
set_option linter.unusedVariables false
set_option linter.unnecessarySimpa false
set_option linter.unusedSimpArgs false
open Bool renaming true→zT,false→zU
open Go.Value renaming int→zI
open Go.IntKind renaming i64→z6
set_option maxHeartbeats 8000000
set_option maxRecDepth 100000
open Go.Proofs.Tryz
open Go.Lib renaming hid→zH
open Go.Ext renaming alloc→zA,patch→zP,drew→zD,drewN→zN,more→zM,refl→zR,setCell→zS
open Nat renaming le_refl→zL,le_add_right→zK
namespace Go.Proofs.YtdhjjpnajjingaaGreat
open Go Go.RowKit
theorem yhn {l:List LVal} {k:Nat} (hk:k<l.length):AcS.greys (l.take (k+1))=AcS.greys (l.take k)++(if (l.getD k LVal.zero).ref then (wIndex (l.getD k LVal.zero).z).toList else []):=by
 unfold AcS.greys;rw [List.take_add_one,yby hk,List.filterMap_append];congr 1
 simp only [Option.toList,List.filterMap_cons,List.filterMap_nil];split
 · rename_i h
   split at h
   · rename_i h1;rw [if_pos h1,h]
   · rename_i h1;rw [if_neg h1]
 · rename_i v h
   split at h
   · rename_i h1;rw [if_pos h1,h]
   · cases h
theorem yiM (l:List LVal):(AcS.greys l).length≤l.length:=List.length_filterMap_le _ _
namespace AcW
def greyA (W:AcW) (l:List Int):AcS:={ W.a with seen:=3,grey:=l,pc:=if l≠[] then 1 else 2 }
end AcW
theorem yhm {own4:Nat→Nat} {w4 w5:World} {t n n':Nat} {v v':Value} {xs xs':List Value} {o:Obj} (R:Row ⟨own4,w4⟩ (t+4) 3 1 v n xs) (he:Ext (⟨own4,w4⟩:GW).w (w4.alloc o)) (hown:w5.ownsRow 0 3 1 v' n' xs') (hgrow:(w4.alloc o).grownBy w5 v.ownBlock) (hat:v'.ownBlock=v.ownBlock∨v'.ownBlock=some (w4.alloc o).heap.size):
 ∃own5,Mod (fun x=>x=t+4) ⟨own4,w4⟩ ⟨own5,w5⟩∧Row ⟨own5,w5⟩ (t+4) 3 1 v' n' xs':=
 ⟨_,(Mod.ext he 0).trans (Mod.grown (g:=(⟨own4,w4⟩:GW).to 0 (w4.alloc o)) hgrow (t+4) (fun k hk hl=>(R.ext he 0).own k hk)),(R.ext he 0).grown hown hat⟩
theorem yiJ (W:AcW) (l:List Int) (y:Int):W.greyA (l++[y])={ W.a with seen:=3,grey:=l++[y],pc:=1 }:=by
 unfold AcW.greyA;simp
theorem ykn [TbId] {own4 own5:Nat→Nat} {w4 w5:World} {t B b k:Nat} {W:AcW} {gl:List Int} {y:Int} {opsA locA fp gotA wrA gA A2:Option Addr} {opsC locC gotC wrC gC cp2 bm bs bt bp bsp bh:Nat} {cm:Cnf} (P:AcApart t B)
 (H:AcIn ⟨own4,w4⟩ t B b k (W.tickH.withA (W.greyA gl)) ⟨opsA,opsC,locA,locC,gA,gC,fp,gotA,gotC,wrA,wrC⟩ bm bs bt bp bsp bh cm) (m:Mod (fun x=>x=t+4) ⟨own4,w4⟩ ⟨own5,w5⟩)
 (R:Row ⟨own5,w5⟩ (t+4) 3 1 (.slice A2 (gl.length+1) cp2) (gl.length+1) (gl.map (Value.int .i64)++[.int .i64 y])) (hl:gl.length≤1000):
 AcIn ⟨own5,(w5.setCell ⟨b,9,none⟩ (.slice A2 (gl.length+1) cp2)).setCell ⟨b,7,none⟩ (zI z6 1)⟩ t B b k (W.tickH.withA (W.greyA (gl++[y]))) ⟨opsA,opsC,locA,locC,A2,cp2,fp,gotA,gotC,wrA,wrC⟩ bm bs bt bp bsp bh cm:=by
 have hP:=P.apart;have ht:=P.ht;have B5:=H.a.blk.keep m zo;have b6:Mod (fun x=>x=t) ⟨own5,w5⟩ ⟨own5,(w5.setCell ⟨b,9,none⟩ (.slice A2 (gl.length+1) cp2)).setCell ⟨b,7,none⟩ (zI z6 1)⟩:=Mod.st (Mod.st (Mod.refl _ _) B5.own) B5.own;obtain ⟨A',c',e1,e2,e3, -⟩:=R.form;injection e1 with _ _ e4;subst e4;rw [yiJ];obtain ⟨r1,r2,r3,r4,r5,r6,r7,r8,r9,r10,r11,r12⟩:=H.a.r;refine ⟨⟨?_,⟨(r1.keep m zo).keep b6 zo,r2,(r3.keep m zo).keep b6 zo,?_,⟨(by show (gl++[y]).length≤_;simpa using e2),e3⟩,r6,fun S hS=>?_,(r8.keep m zo).keep b6 zo,r9,(r10.keep m zo).keep b6 zo,r11,r12⟩⟩,(H.c.keep m (fun x hx=>by omega)).keep b6 (fun x hx=>by omega),H.tbl⟩
 · have h:=(B5.set 9 (.slice A2 (gl.length+1) cp2)).set 7 (zI z6 1)
   have hc:(AcS.cells { W.a with seen:=3,grey:=gl++[y],pc:=1 } ⟨opsA,opsC,locA,locC,A2,cp2,fp,gotA,gotC,wrA,wrC⟩)=(((AcS.cells (W.greyA gl) ⟨opsA,opsC,locA,locC,gA,gC,fp,gotA,gotC,wrA,wrC⟩).set 9 (.slice A2 (gl.length+1) cp2)).set 7 (zI z6 1)):=by
    unfold AcS.cells AcW.greyA;simp
   show Blk _ t b _ (AcS.cells { W.a with seen:=3,grey:=gl++[y],pc:=1 } _);rw [hc];exact h
 · have h:=(R.seg).keep b6 zo;show Seg _ _ _ ((gl++[y]).map _);rw [List.map_append];exact h
 · obtain ⟨bf,cm,e1,e2,e3⟩:=r7 S hS;exact ⟨bf,cm,e1,e2,(e3.keep m zo zo).keep b6 zo zo⟩
section
variable {g:GW} {t B b k:Nat} {W:AcW}
theorem yig [TbId] (P:AcApart t B) (hc:0≤W.K.hand.count∧W.K.hand.count≤1099511627776) (hlen:W.a.locals.length≤1000) (H:AcWAt g t B b k W):Calls prog 71 #[.pointer (some ⟨b,0,none⟩),.pointer (some ⟨k,0,none⟩)] g.w (Does (.bool W.looksB) g (acT t B) (fun g'=>AcWAt g' t B b k W.looks)):=by
 obtain ⟨⟨opsA,opsC,locA,locC,greyA0,greyC0,fp,gotA,gotC,wrA,wrC⟩,bm,bs,bt,bp,bsp,bh,cm,H⟩:=H;have HH:=zH H;have HK:=zH (yel g (B+63) bh W.K.hand H.c.hand hc);have HP:=zH P;obtain ⟨c0,c1,c2,c3,c4,c5,c6,c7,c8,c9,c10,c11,c12,cl⟩:=H.c.blk.k13;clear H hc;go_enter func71,ntmps71;go_wp2_with fail;refine HK.out.mono ?_;rintro e w1 ⟨rfl,own1,m1,h1⟩;have M1:=zH (m1.mono (S:=acT t B) (fun x hx=>ybz hx));have H1:=zH (show AcIn ⟨own1,w1⟩ t B b k W.tickH ⟨opsA,opsC,locA,locC,greyA0,greyC0,fp,gotA,gotC,wrA,wrC⟩ bm bs bt bp bsp bh cm from HH.out.hand HP.out m1 h1);clear m1 h1 c0 c1 c2 c3 c4 c5 c6 c7 c8 c9 c10 c11 c12 cl HK;obtain ⟨a0,a1,a2,a3,a4,a5,a6,a7,a8,a9,a10,a11,a12,a13,a14,a15,a16,a17,a18,al⟩:=H1.out.a.blk.k19;have af8:=H1.out.a.blk.liv 8;have af9:=H1.out.a.blk.liv 9;have af7:=H1.out.a.blk.liv 7;have af5:=H1.out.a.blk.liv 5;rw [show W.tickH.a=W.a from rfl] at a0 a1 a2 a3 a4 a5 a6 a7 a8 a9 a10 a11 a13 a14 a15 a16 a17 a18;have HS:=zH (show W.looksB=(W.K.hand.status==W.a.status) from rfl)
 have HSA:=zH (show W.looksA={ W.a with seen:=W.K.hand.status,grey:=if W.K.hand.status=3 then AcS.greys W.a.locals else [],pc:=if W.K.hand.status=3∧AcS.greys W.a.locals≠[] then 1 else 2,sense:=if W.K.hand.status=1 then W.K.hand.sense else W.a.sense } from rfl);have HSL:=zH (show W.looks=if W.looksB then W.tickH else W.tickH.withA W.looksA from rfl);cases hs:(W.K.hand.status==W.a.status)
 case true=>
  rw [HS.out,hs] at HSL;simp only [if_true] at HSL;go_wp2_with fail;go_ret;exact Does.of ⟨own1,w1⟩ rfl (by rw [HS.out,hs];rfl) M1.out (by rw [HSL.out];exact H1.out.at_)
 rw [HS.out,hs] at HSL;simp only [Bool.false_eq_true,if_false] at HSL
 have R0:AcRows ⟨own1,w1⟩ t { W.a with seen:=W.K.hand.status,grey:=[],pc:=2 } ⟨opsA,opsC,locA,locC,none,0,fp,gotA,gotC,wrA,wrC⟩:=by
  obtain ⟨r1,r2,r3,r4,r5,r6,r7,r8,r9,r10,r11,r12⟩:=H1.out.a.r;exact ⟨r1,r2,r3,Seg.nil _ _ _,⟨Nat.le_refl _,Nat.zero_le _⟩,r6,r7,r8,r9,r10,r11,r12⟩
 have H2:=zH (H1.out.turn (A':={ W.a with seen:=W.K.hand.status,grey:=[],pc:=2 }) (p':=⟨opsA,opsC,locA,locC,none,0,fp,gotA,gotC,wrA,wrC⟩) HP.out (g':=⟨own1,((w1.setCell ⟨b,8,none⟩ (zI z6 W.K.hand.status)).setCell ⟨b,9,none⟩ (.slice none 0 0)).setCell ⟨b,7,none⟩ (zI z6 2)⟩) (Mod.st (Mod.st (Mod.st (Mod.refl _ _) H1.out.a.blk.own) H1.out.a.blk.own) H1.out.a.blk.own) (((H1.out.a.blk.set 8 (zI z6 W.K.hand.status)).set 9 (.slice none 0 0)).set 7 (zI z6 2)) R0);have M2:=zH (show Mod (acT t B) g ⟨own1,((w1.setCell ⟨b,8,none⟩ (zI z6 W.K.hand.status)).setCell ⟨b,9,none⟩ (.slice none 0 0)).setCell ⟨b,7,none⟩ (zI z6 2)⟩ from Mod.st (Mod.st (Mod.st M1.out H1.out.modA) H1.out.modA) H1.out.modA);clear R0;go_upto_region 5 with fail
 generalize ((w1.setCell ⟨b,8,none⟩ (zI z6 W.K.hand.status)).setCell ⟨b,9,none⟩ (.slice none 0 0)).setCell ⟨b,7,none⟩ (zI z6 2)=w2 at *;clear a0 a1 a2 a3 a4 a5 a6 a7 a8 a9 a10 a11 a12 a13 a14 a15 a16 a17 a18 af8 af9 af7 af5 al M1 H1;obtain ⟨a0,a1,a2,a3,a4,a5,a6,a7,a8,a9,a10,a11,a12,a13,a14,a15,a16,a17,a18,al⟩:=H2.out.a.blk.k19;have af5:=H2.out.a.blk.liv 5;by_cases h1:W.K.hand.status=1
 · have HSA2:=zH (show W.looksA={ W.a with seen:=W.K.hand.status,grey:=[],pc:=2,sense:=W.K.hand.sense } by rw [HSA.out,h1];rfl);have H3:=zH (H2.out.set HP.out 5 (.bool W.K.hand.sense) { W.a with seen:=W.K.hand.status,grey:=[],pc:=2,sense:=W.K.hand.sense } rfl ⟨rfl,rfl,rfl,rfl,rfl,rfl⟩);have M3:=zH (show Mod (acT t B) g ⟨own1,w2.setCell ⟨b,5,none⟩ (.bool W.K.hand.sense)⟩ from Mod.st M2.out H2.out.modA);have hz:(W.K.hand.status==1)=true:=beq_iff_eq.2 h1;have HSB:=zH (show W.looksB=false by rw [HS.out,hs]);clear h1 hs;generalize W.K.hand.status=s at *;go_wp2_with fail;go_ret;exact Does.of ⟨own1,_⟩ rfl (by rw [HSB.out];rfl) M3.out (by rw [HSL.out,HSA2.out];exact H3.out.at_)
 by_cases h3:W.K.hand.status=3
 case neg=>
  have HSA2:=zH (show W.looksA={ W.a with seen:=W.K.hand.status,grey:=[],pc:=2 } by rw [HSA.out];simp only [if_neg h1,if_neg h3,if_neg (show¬(W.K.hand.status=3∧AcS.greys W.a.locals≠[]) from fun h=>h3 h.1)]);have hz:(W.K.hand.status==1)=false:=beq_eq_false_iff_ne.2 h1;have hz3:(W.K.hand.status==3)=false:=beq_eq_false_iff_ne.2 h3;have HSB:=zH (show W.looksB=false by rw [HS.out,hs]);clear h1 hs h3;generalize W.K.hand.status=s at *;go_wp2_with fail;go_ret;exact Does.of ⟨own1,_⟩ rfl (by rw [HSB.out];rfl) M2.out (by rw [HSL.out,HSA2.out];exact H2.out.at_)
 have hz:(W.K.hand.status==1)=false:=beq_eq_false_iff_ne.2 h1;have hz3:(W.K.hand.status==3)=true:=beq_iff_eq.2 h3;have HSB:=zH (show W.looksB=false by rw [HS.out,hs])
 have HSA2:=zH (show W.looksA=W.greyA (AcS.greys W.a.locals) by
  rw [HSA.out,h3];unfold AcW.greyA;by_cases hg:AcS.greys W.a.locals≠[]
  · simp [hg]
  · simp [hg])
 have H2':=zH (show AcIn ⟨own1,w2⟩ t B b k (W.tickH.withA (W.greyA [])) ⟨opsA,opsC,locA,locC,none,0,fp,gotA,gotC,wrA,wrC⟩ bm bs bt bp bsp bh cm from by have h:=H2.out;rw [h3] at h;exact h);have Q2:=zH (Row.nil ⟨own1,w2⟩ (t+4) 3 1);clear h1 hs h3 H2 af5;generalize W.K.hand.status=s at *;go_wp2_with fail;obtain ⟨i0,hi,hz0,hz1,hz2⟩:=info_parts ya1;have HI:=zH (fun v w'=>yao v w');go_loopw [49] (fun i wr=> ∃(j:Nat) (own:Nat→Nat) (gA:Option Addr) (gC:Nat),j≤W.a.locals.length∧i=.int .i64 j∧Hid (Mod (acT t B) g ⟨own,wr⟩)∧Hid (AcIn ⟨own,wr⟩ t B b k (W.tickH.withA (W.greyA (AcS.greys (W.a.locals.take j)))) ⟨opsA,opsC,locA,locC,gA,gC,fp,gotA,gotC,wrA,wrC⟩ bm bs bt bp bsp bh cm)∧Hid (Row ⟨own,wr⟩ (t+4) 3 1 (.slice gA (AcS.greys (W.a.locals.take j)).length gC) (AcS.greys (W.a.locals.take j)).length ((AcS.greys (W.a.locals.take j)).map (Value.int .i64)))) (fun i _=>W.a.locals.length-(intOf i).toNat)
 case atStart=>exact ⟨0,own1,none,0,Nat.zero_le _,rfl,M2,H2',Q2⟩
 case round=>
  obtain ⟨j,own3,gA,gC,hj,rfl,M3,H3,R3⟩:=hrel;clear M2 H2' Q2 a0 a1 a2 a3 a4 a5 a6 a7 a8 a9 a10 a11 a12 a13 a14 a15 a16 a17 a18 al;by_cases hlt:j<W.a.locals.length
  · obtain ⟨q,hA,hq, -,l0,l1, -⟩:=H3.out.a.r.local_ (k:=j) hlt;simp only at hA hq;rw [show (W.tickH.withA (W.greyA (AcS.greys (W.a.locals.take j)))).a.loc j=W.a.loc j from rfl] at l0 l1;have HG:=zH (show AcS.greys (W.a.locals.take (j+1))=AcS.greys (W.a.locals.take j)++(if (W.a.loc j).ref then (wIndex (W.a.loc j).z).toList else []) from yhn hlt);have HLN:=zH (show (AcS.greys (W.a.locals.take j)).length≤1000 from Nat.le_trans (yiM _) (by rw [List.length_take];omega));have HB3:=zH H3.out.a.blk.lt;subst hA;generalize W.a.loc j=v at *;have HIV:=zH (fun w'=>HI.out v.z w');unfold optV at HIV;cases hx:wIndex v.z with
    |none=>
     rw [hx] at HG HIV;have HG2:=zH (show AcS.greys (W.a.locals.take (j+1))=AcS.greys (W.a.locals.take j) by rw [HG.out];cases v.ref<;>simp);clear hx;generalize v.ref=rf at *;cases rf
     · go_wp2_with fail;refine (HIV.out _).mono ?_;rintro e wx ⟨rfl,hE⟩;obtain ⟨X1,rfl⟩:=(show Ext _ wx from hE);clear hE;go_wp2_with fail;go_roundw
       case rel=>
        obtain ⟨own4,m4⟩:=Mod.ofExt (w:=wr) (w':=(wr.alloc _).patch X1) zE own3;refine ⟨j+1,own4,gA,gC,zo,by go_num,M3.out.trans (m4.mono (fun _=>False.elim)),?_,?_⟩
        · rw [HG2.out];exact H3.out.keep0 m4
        · rw [HG2.out];exact R3.out.keep m4 id
       case measure=>simp [intOf];omega
     · go_wp2_with fail;refine (HIV.out _).mono ?_;rintro e wx ⟨rfl,hE⟩;obtain ⟨X1,rfl⟩:=(show Ext _ wx from hE);clear hE;go_wp2_with fail;go_roundw
       case rel=>
        obtain ⟨own4,m4⟩:=Mod.ofExt (w:=wr) (w':=(wr.alloc _).patch X1) zE own3;refine ⟨j+1,own4,gA,gC,zo,by go_num,M3.out.trans (m4.mono (fun _=>False.elim)),?_,?_⟩
        · rw [HG2.out];exact H3.out.keep0 m4
        · rw [HG2.out];exact R3.out.keep m4 id
       case measure=>simp [intOf];omega
    |some y=>
     rw [hx] at HG HIV;clear hx;generalize v.ref=rf at *;cases rf
     · have HG2:=zH (show AcS.greys (W.a.locals.take (j+1))=AcS.greys (W.a.locals.take j) by rw [HG.out];simp);go_wp2_with fail;refine (HIV.out _).mono ?_;rintro e wx ⟨rfl,hE⟩;obtain ⟨X1,rfl⟩:=(show Ext _ wx from hE);clear hE;go_wp2_with fail;go_roundw
       case rel=>
        obtain ⟨own4,m4⟩:=Mod.ofExt (w:=wr) (w':=(wr.alloc _).patch X1) zE own3;refine ⟨j+1,own4,gA,gC,zo,by go_num,M3.out.trans (m4.mono (fun _=>False.elim)),?_,?_⟩
        · rw [HG2.out];exact H3.out.keep0 m4
        · rw [HG2.out];exact R3.out.keep m4 id
       case measure=>simp [intOf];omega
     · have HG2:=zH (show AcS.greys (W.a.locals.take (j+1))=AcS.greys (W.a.locals.take j)++[y] by rw [HG.out];simp);go_wp2_with fail;refine (HIV.out _).mono ?_;rintro e wx ⟨rfl,hE⟩;obtain ⟨X1,rfl⟩:=(show Ext _ wx from hE);clear hE;go_upto_region 14 with fail
       obtain ⟨own4,m4⟩:=Mod.ofExt (w:=wr) (w':=(wr.alloc (.cells #[.bool true,.complex .f64 v.z.1 v.z.2] 38)).patch X1) zE own3;have M4:=zH (M3.out.trans (m4.mono (fun _=>False.elim)));have H4:=zH (H3.out.keep0 m4);have R4:=zH (R3.out.keep m4 id);clear m4 M3 H3 R3 l0 l1 hq HIV HI HB3;generalize (wr.alloc (.cells #[.bool true,.complex .f64 v.z.1 v.z.2] 38)).patch X1=w4 at *;obtain ⟨a0,a1,a2,a3,a4,a5,a6,a7,a8,a9,a10,a11,a12,a13,a14,a15,a16,a17,a18,al⟩:=H4.out.a.blk.k19;have af9:=H4.out.a.blk.liv 9;have af7:=H4.out.a.blk.liv 7;have hln:=HLN.out;simp only [AcW.withA,AcW.greyA] at a9;have HEX:=zH (show Ext (⟨own4,w4⟩:GW).w (w4.alloc (.cells #[.int .i64 y] 3)) from Ext.alloc (Ext.refl _) _);generalize AcS.greys (W.a.locals.take j)=gl at *
       go_wp2_with (at_builtin;refine wpList_append_own_at _ rfl (.tmp 68) (.tmp 70) 97 rfl 0 3 i0 (zI z6 0) 1 8 Tryz.underlying97 hi hz0 hz1 hz2 rfl zd _ _ _ rfl (R4.out.row.alloc _) ⟨w4.heap.size,0,none⟩ 1 1 [.int .i64 y] rfl rfl (cell_one_new _ _ _) (by intro u hu;simp at hu;subst hu;rfl) (by unfold maxLen;omega) zo (Nat.zero_le _) ?_;intro v2 w5 hown hgrow hnil hat;obtain ⟨A2,cp2,rfl⟩:=yak hown;obtain ⟨own5,m5,r5⟩:=yhm R4.out HEX.out hown hgrow hat;clear hown hgrow hnil hat;have B5:=zH (H4.out.a.blk.keep m5 zo);have R5:=zH r5;have N5:=zH m5;have d7:=B5.out.cell (i:=7) rfl;have d9:=B5.out.cell (i:=9) rfl;have e9:=B5.out.live 9;have e7:=B5.out.live 7;have dl:=B5.out.lt;simp only at d7 d9 e9 e7 dl;clear m5 r5 a0 a1 a2 a3 a4 a5 a6 a7 a8 a9 a10 a11 a12 a13 a14 a15 a16 a17 a18 af9 af7 al);go_roundw
       case rel=>
        have b6:Mod (fun x=>x=t) ⟨own5,w5⟩ ⟨own5,(w5.setCell ⟨b,9,none⟩ (.slice A2 (gl.length+1) cp2)).setCell ⟨b,7,none⟩ (zI z6 1)⟩:=Mod.st (Mod.st (Mod.refl _ _) B5.out.own) B5.out.own;refine ⟨j+1,own5,A2,cp2,zo,by go_num,?_,?_,?_⟩
        · exact zH ((M4.out.trans (N5.out.mono (fun x hx=>Or.inl zo))).trans (b6.mono (fun x hx=>ybi hx)))
        · rw [HG2.out];exact zH (ykn HP.out H4.out N5.out R5.out zo)
        · rw [HG2.out];have:=R5.out.keep b6 zo;simpa using zH this
       case measure=>simp [intOf];omega
  · obtain rfl:j=W.a.locals.length:=zo;rw [List.take_of_length_le (Nat.le_refl _)] at H3;go_wp2_with fail;go_ret;exact Does.of ⟨own3,_⟩ rfl (by rw [HSB.out];rfl) M3.out (by rw [HSL.out,HSA2.out];exact H3.out.at_)
end
end Go.Proofs.YtdhjjpnajjingaaGreat
namespace Go
open Go.RowKit
def lzeroC:Array Value:=#[.bool false,.complex .f64 0 0]
theorem yc3 (n:Nat):(madeCells lzeroC (n*2)).toList=(List.replicate n LVal.zero).flatMap LVal.cells:=by
 induction n with
 |zero=>simp [madeCells]
 |succ n ih=>
  have e:(madeCells lzeroC ((n+1)*2)).toList=(madeCells lzeroC (n*2)).toList++LVal.zero.cells:=by
   unfold madeCells at *;rw [show (n+1)*2=n*2+1+1 by omega];simp only [Array.toList_map,Array.toList_range,List.range_succ,List.map_append,List.map_cons,List.map_nil,List.append_assoc];congr 1
   have h0:n*2%lzeroC.size=0:=by show n*2%2=0;omega
   have h1:(n*2+1)%lzeroC.size=1:=by show (n*2+1)%2=1;omega
   rw [h0,h1];rfl
  rw [e,ih,List.replicate_succ',List.flatMap_append];simp
end Go
namespace Go.Proofs.YtdhjjpnajjingaaGreat
open Go Go.RowKit
theorem ygC:(prog.info? 38).map (fun i=>(i.zero,i.size,i.bytes))=some (some (.agg #[.bool false,.complex .f64 0 0]),2,24):=zQ
theorem yjB {g:GW} {t n c:Nat} {A:Option Addr} {xs:List Value} (h:Row g t 38 2 (.slice A n c) n xs): ∃w3,(Builtin.clear_ #[87] 0 #[.slice A n c]).run prog g.w=.ok (.tuple #[]) w3∧Mod (fun x=>x=t) g ⟨g.own,w3⟩∧Row ⟨g.own,w3⟩ t 38 2 (.slice A n c) n ((List.replicate n LVal.zero).flatMap LVal.cells):=by
 obtain ⟨i0,hi,hz0,hz1,hz2⟩:=info_parts ygC;have hund:=run_underlying (P:=prog) (t:=87) Tryz.underlying87 g.w;by_cases hn:n=0
 · subst hn;have hx:xs=[]:=by have:=h.len;simpa using this
   subst hx;refine ⟨g.w,?_,Mod.refl _ _,h⟩;cases A with
   |none=>simp [Builtin.clear_,hund]
   |some a=>simp [Builtin.clear_,hund]
 · rcases h.row.2 with ⟨hv,hn0⟩|⟨b,cap,cur,hv,hb,hr,h1,h2,h3,h4⟩
   · exact absurd hn0 hn
   · simp only [Value.slice.injEq] at hv;obtain ⟨rfl, -,rfl⟩:=hv;have hlen:(List.replicate n LVal.zero).flatMap LVal.cells=(madeCells lzeroC (n*2)).toList:=(yc3 n).symm;have hl2:(madeCells lzeroC (n*2)).toList.length=n*2:=by simp [madeCells]
     have hst:=run_storeCells_at (P:=prog) b 0 38 (madeCells lzeroC (n*2)).toList 0 cur g.w hr (by rw [hl2,h3];omega) (by
      rw [←hlen];intro v hv;obtain ⟨x,hx,hxv⟩:=List.mem_flatMap.1 hv;rw [List.eq_of_mem_replicate hx] at hxv;simp [LVal.cells,LVal.zero] at hxv;rcases hxv with rfl|rfl<;>rfl)
     have ho:g.own b=t:=h.own b rfl
     have hz:(zeroValue 38).run prog g.w=.ok (.agg lzeroC) g.w:=by
      simp [zeroValue,typeInfo,hi,hz0];rfl
     obtain ⟨m,rfl⟩: ∃m,n=m+1:=⟨n-1,zo⟩;have hzc:(Builtin.zeroCells lzeroC (m+1)).toList=(madeCells lzeroC ((m+1)*2)).toList:=rfl;refine ⟨g.w.setRow b (cur.toList.take (0+0)++(madeCells lzeroC ((m+1)*2)).toList++cur.toList.drop (0+0+(madeCells lzeroC ((m+1)*2)).toList.length)).toArray,?_,?_,?_⟩
     · simp only [Builtin.clear_,hund,hz,Value.cells];simp [hund,hz,Value.cells,hzc,hst,Result.andThen]
     · rw [ybq hr];exact Mod.put ho
     · rw [ybq hr,hlen];refine ⟨⟨hl2,Or.inr ⟨b,c,_,rfl,hb,World.row_put _ (Array.getElem?_eq_some_iff.1 hr).1,h1,h2,?_,?_⟩⟩,fun k hk=>?_⟩
       · simp [madeCells];omega
       · show List.take ((m+1)*2) (List.take (0+0) cur.toList++(madeCells lzeroC ((m+1)*2)).toList++List.drop _ cur.toList)=_;simp only [Nat.add_zero,List.take_zero,List.nil_append];rw [List.take_append_of_le_length zo,List.take_of_length_le zo]
       · have hk2:b=k:=by simpa only [Value.ownBlock,Option.some.injEq] using hk
         subst hk2;exact ho
theorem ydi {g:GW} {t q o:Nat} {x:Value} {xs:List Value} (h:Seg g t (some ⟨q,o,none⟩) (x::xs)):Seg g t (some ⟨q,o+1,none⟩) xs:=
 ⟨fun i v hi=>by
  obtain ⟨b,o',hA,hb,hc⟩:=h.cells (i+1) v (by simpa using hi);injection hA with hA;injection hA with h1 h2;subst h1 h2;exact ⟨q,o+1,rfl,hb,by rw [show o+1+i=o+(i+1) by omega];exact hc⟩,fun a ha _=>by
  injection ha with ha;subst ha;exact h.own ⟨q,o,none⟩ rfl (by simp)⟩
structure AcW.BdS (W:AcW):Prop where
 own:0≤W.a.own∧W.a.own≤1099511627776
 next:0≤W.a.next∧W.a.next≤1099511627776
 hand:0≤W.K.hand.count∧W.K.hand.count≤1099511627776
 sp:0≤W.K.sp.count∧W.K.sp.count≤1099511627776
 mem:0≤W.K.mem.count∧W.K.mem.count≤1099511627776
 n:0≤W.K.n∧W.K.n≤1099511627776
 line:W.K.sp.line.length<1000000
theorem bdB_of {W:AcW} (h:W.bdB=true):W.BdS:=by
 unfold AcW.bdB AcW.cntOk at h;simp only [Bool.and_eq_true,decide_eq_true_eq] at h;obtain ⟨⟨⟨⟨⟨⟨h1,h2⟩,h3⟩,h4⟩,h5⟩,h6⟩,h7⟩:=h;exact ⟨h1,h2,h3,h4,h5,h6,h7⟩
theorem yiK {W:AcW} (h:W.greyOk=true) (h1:W.a.pc=1):W.a.grey≠[]:=by
 unfold AcW.greyOk at h;rw [h1] at h;intro e;rw [e] at h;cases h
section
variable {g:GW} {t B b k:Nat} {W:AcW}
theorem yfO [TbId] (P:AcApart t B) (hc:0≤W.K.hand.count∧W.K.hand.count≤1099511627776) (hn:0≤W.K.n∧W.K.n≤1099511627776) (hg:W.a.pc=1→W.a.grey≠[]) (H:AcWAt g t B b k W):Calls prog 72 #[.pointer (some ⟨b,0,none⟩),.pointer (some ⟨k,0,none⟩)] g.w (Does (.bool W.answersB) g (acT t B) (fun g'=>AcWAt g' t B b k W.answers)):=by
 obtain ⟨p,bm,bs,bt,bp,bsp,bh,cm,H⟩:=H;have HH:=zH H;have HP:=zH P;have HV:=zH (show W.answersB=(W.a.pc !=1) from rfl);by_cases h1:W.a.pc=1
 · have HV2:=zH (show W.answersB=false by rw [HV.out,h1];rfl);have HW:=zH (show W.answers=(W.greyK (W.a.grey.headD 0)).withA { W.a with grey:=W.a.grey.tail,pc:=if W.a.grey.tail=[] then 2 else 1 } from if_pos h1);obtain ⟨y,l,hyl⟩:=List.exists_cons_of_ne_nil (hg h1);have HG:=zH (show W.a.grey=y::l from hyl);obtain ⟨q,o,hA,hq,hcell⟩:=H.a.r.grey.cells.cases (by rw [hyl];simp);have k0:=hcell 0 (zI z6 y) (by rw [hyl];rfl);simp only [Nat.add_zero] at k0;have HS:=zH (fun X=>ycg (g.pt X) (B+60) bs bt (B+50) bp (B+61) W.K.sp.tab W.K.pile W.K.n y W.a.sense (H.pt X).c.shd hn zo zo zo);have hz:(W.a.pc==1)=true:=beq_iff_eq.2 h1;have hgC:=H.a.r.greyC;rw [hyl] at hgC;simp only [List.length_cons] at hgC;obtain ⟨a0,a1,a2,a3,a4,a5,a6,a7,a8,a9,a10,a11,a12,a13,a14,a15,a16,a17,a18,al⟩:=H.a.blk.k19;obtain ⟨c0,c1,c2,c3,c4,c5,c6,c7,c8,c9,c10,c11,c12,cl⟩:=H.c.blk.k13;rw [hA,hyl] at a9;simp only [List.length_cons] at a9;rw [hyl] at HW;simp only [List.headD_cons,List.tail_cons] at HW;have h1':=h1;clear H hc hn hg h1 hyl hcell;go_enter func72,ntmps72;go_wp2_with fail;refine yab [zT,zT,zT,zT,zT,zT,zT,zT,zT,zT,zT,zT,zT,zT,zU] 1 14 ?_;intro X00;simp only [pickOps]
   repeat (go_big_quiet_step (fail))
   refine wpQuiet_nil (fun X0=>?_);clear X00;refine yae rfl zQ (fun X2=>?_);simp only [List.drop_succ_cons,List.drop_zero];go_wp2_with fail;refine (HS.out _).mono ?_;rintro e w1 ⟨rfl,own1,m1,h1⟩;have P1:=(Mod.pt (Mod.refl _ _) _).trans m1;have M1:=zH (P1.mono (S:=acT t B) (fun x hx=>yk3 hx));have H1:=zH (show AcIn ⟨own1,w1⟩ t B b k (W.greyK y) p bm bs bt bp bsp bh cm from HH.out.greyK HP.out P1 h1);have hq1:q<w1.heap.size:=Nat.lt_of_lt_of_le hq P1.size;clear P1 m1 h1 HS a0 a1 a2 a3 a4 a5 a6 a7 a8 a9 a10 a11 a12 a13 a14 a15 a16 a17 a18 al c0 c1 c2 c3 c4 c5 c6 c7 c8 c9 c10 c11 c12 cl k0 hq;have HPC:=zH (show (W.greyK y).a.pc=1 from h1');have HSG:=zH (show Seg ⟨own1,w1⟩ (t+4) (some ⟨q,o,none⟩) (zI z6 y::l.map (Value.int .i64)) from by have h:=H1.out.a.r.grey;rw [show (W.greyK y).a.grey=y::l from HG.out,hA] at h;exact h);obtain ⟨a0,a1,a2,a3,a4,a5,a6,a7,a8,a9,a10,a11,a12,a13,a14,a15,a16,a17,a18,al⟩:=H1.out.a.blk.k19;have af9:=H1.out.a.blk.liv 9;have af7:=H1.out.a.blk.liv 7;rw [show (W.greyK y).a.grey=y::l from HG.out,hA] at a9;simp only [List.length_cons] at a9;clear hA;by_cases hC:p.greyC=1
   · have hl0:l=[]:=List.length_eq_zero_iff.1 zo;have SL:=zH (Seg.nil ⟨own1,w1⟩ (t+4) (some ⟨q,o,none⟩));subst hl0
     have R2:AcRows ⟨own1,w1⟩ t { W.a with grey:=([]:List Int),pc:=1 } { p with greyA:=(some ⟨q,o,none⟩),greyC:=0 }:=by
      obtain ⟨r1,r2,r3,r4,r5,r6,r7,r8,r9,r10,r11,r12⟩:=H1.out.a.r;exact ⟨r1,r2,r3,SL.out,⟨(by have:=hgC.1;show (([]:List Int)).length≤0;simp only [List.length_cons,List.length_nil] at this ⊢;omega),(by show 0≤_;omega)⟩,r6,r7,r8,r9,r10,r11,r12⟩
     have H2:=zH (H1.out.turn (A':={ W.a with grey:=([]:List Int),pc:=1 }) (p':={ p with greyA:=(some ⟨q,o,none⟩),greyC:=0 }) HP.out (g':=⟨own1,w1.setCell ⟨b,9,none⟩ (.slice (some ⟨q,o,none⟩) (([]:List Int)).length (0))⟩) (Mod.st (Mod.refl _ _) H1.out.a.blk.own) (by
      have h:=H1.out.a.blk.set 9 (.slice (some ⟨q,o,none⟩) (([]:List Int)).length (0))
      have hc:AcS.cells { W.a with grey:=([]:List Int),pc:=1 } { p with greyA:=(some ⟨q,o,none⟩),greyC:=0 }=((W.greyK y).a.cells p).set 9 (.slice (some ⟨q,o,none⟩) (([]:List Int)).length (0)):=by
       unfold AcS.cells;rw [HPC.out];rfl
      rw [hc];exact h) R2)
     have M2:=zH (show Mod (acT t B) g ⟨own1,w1.setCell ⟨b,9,none⟩ (.slice (some ⟨q,o,none⟩) (([]:List Int)).length (0))⟩ from Mod.st M1.out H1.out.modA);clear R2;go_upto_region 4 with fail
     generalize w1.setCell ⟨b,9,none⟩ (.slice (some ⟨q,o,none⟩) _ (0))=w2 at *;clear a0 a1 a2 a3 a4 a5 a6 a7 a8 a9 a10 a11 a12 a13 a14 a15 a16 a17 a18 al af9 af7 H1 M1;obtain ⟨a0,a1,a2,a3,a4,a5,a6,a7,a8,a9,a10,a11,a12,a13,a14,a15,a16,a17,a18,al⟩:=H2.out.a.blk.k19;have af7:=H2.out.a.blk.liv 7;(try simp only [AcW.withA,List.length_cons,List.length_nil] at a9);have H3:=zH (H2.out.set HP.out 7 (zI z6 2) { W.a with grey:=[],pc:=2 } rfl ⟨rfl,rfl,rfl,rfl,rfl,rfl⟩);have M3:=zH (show Mod (acT t B) g ⟨own1,w2.setCell ⟨b,7,none⟩ (zI z6 2)⟩ from Mod.st M2.out H2.out.modA);have hzz:((((0:Nat):Int))==0)=true:=rfl;go_wp2_with fail;go_ret;exact Does.of ⟨own1,_⟩ rfl (by rw [HV2.out];try rfl) M3.out (by rw [HW.out];exact H3.out.at_)
   · have SL:=zH (ydi HSG.out);cases l with
     |nil=>
      have R2:AcRows ⟨own1,w1⟩ t { W.a with grey:=([]:List Int),pc:=1 } { p with greyA:=(some ⟨q,o+1,none⟩),greyC:=(p.greyC-1) }:=by
       obtain ⟨r1,r2,r3,r4,r5,r6,r7,r8,r9,r10,r11,r12⟩:=H1.out.a.r;exact ⟨r1,r2,r3,SL.out,⟨(by have:=hgC.1;show (([]:List Int)).length≤(p.greyC-1);simp only [List.length_cons,List.length_nil] at this ⊢;omega),(by show (p.greyC-1)≤_;omega)⟩,r6,r7,r8,r9,r10,r11,r12⟩
      have H2:=zH (H1.out.turn (A':={ W.a with grey:=([]:List Int),pc:=1 }) (p':={ p with greyA:=(some ⟨q,o+1,none⟩),greyC:=(p.greyC-1) }) HP.out (g':=⟨own1,w1.setCell ⟨b,9,none⟩ (.slice (some ⟨q,o+1,none⟩) (([]:List Int)).length ((p.greyC-1)))⟩) (Mod.st (Mod.refl _ _) H1.out.a.blk.own) (by
       have h:=H1.out.a.blk.set 9 (.slice (some ⟨q,o+1,none⟩) (([]:List Int)).length ((p.greyC-1)))
       have hc:AcS.cells { W.a with grey:=([]:List Int),pc:=1 } { p with greyA:=(some ⟨q,o+1,none⟩),greyC:=(p.greyC-1) }=((W.greyK y).a.cells p).set 9 (.slice (some ⟨q,o+1,none⟩) (([]:List Int)).length ((p.greyC-1))):=by
        unfold AcS.cells;rw [HPC.out];rfl
       rw [hc];exact h) R2)
      have M2:=zH (show Mod (acT t B) g ⟨own1,w1.setCell ⟨b,9,none⟩ (.slice (some ⟨q,o+1,none⟩) (([]:List Int)).length ((p.greyC-1)))⟩ from Mod.st M1.out H1.out.modA);clear R2;go_upto_region 4 with fail
      generalize w1.setCell ⟨b,9,none⟩ (.slice (some ⟨q,o+1,none⟩) _ ((p.greyC-1)))=w2 at *;clear a0 a1 a2 a3 a4 a5 a6 a7 a8 a9 a10 a11 a12 a13 a14 a15 a16 a17 a18 al af9 af7 H1 M1;obtain ⟨a0,a1,a2,a3,a4,a5,a6,a7,a8,a9,a10,a11,a12,a13,a14,a15,a16,a17,a18,al⟩:=H2.out.a.blk.k19;have af7:=H2.out.a.blk.liv 7;(try simp only [AcW.withA,List.length_cons,List.length_nil] at a9);have H3:=zH (H2.out.set HP.out 7 (zI z6 2) { W.a with grey:=[],pc:=2 } rfl ⟨rfl,rfl,rfl,rfl,rfl,rfl⟩);have M3:=zH (show Mod (acT t B) g ⟨own1,w2.setCell ⟨b,7,none⟩ (zI z6 2)⟩ from Mod.st M2.out H2.out.modA);have hzz:((((0:Nat):Int))==0)=true:=rfl;go_wp2_with fail;go_ret;exact Does.of ⟨own1,_⟩ rfl (by rw [HV2.out];try rfl) M3.out (by rw [HW.out];exact H3.out.at_)
     |cons z l=>
      have R2:AcRows ⟨own1,w1⟩ t { W.a with grey:=(z::l),pc:=1 } { p with greyA:=(some ⟨q,o+1,none⟩),greyC:=(p.greyC-1) }:=by
       obtain ⟨r1,r2,r3,r4,r5,r6,r7,r8,r9,r10,r11,r12⟩:=H1.out.a.r;exact ⟨r1,r2,r3,SL.out,⟨(by have:=hgC.1;show ((z::l)).length≤(p.greyC-1);simp only [List.length_cons,List.length_nil] at this ⊢;omega),(by show (p.greyC-1)≤_;omega)⟩,r6,r7,r8,r9,r10,r11,r12⟩
      have H2:=zH (H1.out.turn (A':={ W.a with grey:=(z::l),pc:=1 }) (p':={ p with greyA:=(some ⟨q,o+1,none⟩),greyC:=(p.greyC-1) }) HP.out (g':=⟨own1,w1.setCell ⟨b,9,none⟩ (.slice (some ⟨q,o+1,none⟩) ((z::l)).length ((p.greyC-1)))⟩) (Mod.st (Mod.refl _ _) H1.out.a.blk.own) (by
       have h:=H1.out.a.blk.set 9 (.slice (some ⟨q,o+1,none⟩) ((z::l)).length ((p.greyC-1)))
       have hc:AcS.cells { W.a with grey:=(z::l),pc:=1 } { p with greyA:=(some ⟨q,o+1,none⟩),greyC:=(p.greyC-1) }=((W.greyK y).a.cells p).set 9 (.slice (some ⟨q,o+1,none⟩) ((z::l)).length ((p.greyC-1))):=by
        unfold AcS.cells;rw [HPC.out];rfl
       rw [hc];exact h) R2)
      have M2:=zH (show Mod (acT t B) g ⟨own1,w1.setCell ⟨b,9,none⟩ (.slice (some ⟨q,o+1,none⟩) ((z::l)).length ((p.greyC-1)))⟩ from Mod.st M1.out H1.out.modA);clear R2;go_upto_region 4 with fail
      generalize w1.setCell ⟨b,9,none⟩ (.slice (some ⟨q,o+1,none⟩) _ ((p.greyC-1)))=w2 at *;clear a0 a1 a2 a3 a4 a5 a6 a7 a8 a9 a10 a11 a12 a13 a14 a15 a16 a17 a18 al af9 af7 H1 M1;obtain ⟨a0,a1,a2,a3,a4,a5,a6,a7,a8,a9,a10,a11,a12,a13,a14,a15,a16,a17,a18,al⟩:=H2.out.a.blk.k19;have af7:=H2.out.a.blk.liv 7;(try simp only [AcW.withA,List.length_cons,List.length_nil] at a9);have hzl:(((l.length:Int)+1)==0)=false:=beq_eq_false_iff_ne.2 zo;go_wp2_with fail;refine bodyPost_ret (v:=.bool false) (by simp [results,Tryz.results72,go_sem]) rfl ?_;exact Does.of ⟨own1,w2⟩ rfl (by rw [HV2.out];try rfl) M2.out (by rw [HW.out];exact H2.out.at_)
 · have HV2:=zH (show W.answersB=true by rw [HV.out];unfold bne;rw [beq_eq_false_iff_ne.2 h1];rfl);have HW:=zH (show W.answers={ a:={ W.a with status:=W.a.seen },K:={ W.K with hand:=W.K.hand.answer W.a.t W.a.seen } } from if_neg h1);have hz:(W.a.pc==1)=false:=beq_eq_false_iff_ne.2 h1;have HK:=zH (fun X=>yf6 (g.pt X) (B+63) bh W.a.t W.a.seen W.K.hand (H.pt X).c.hand hc);obtain ⟨a0,a1,a2,a3,a4,a5,a6,a7,a8,a9,a10,a11,a12,a13,a14,a15,a16,a17,a18,al⟩:=H.a.blk.k19;obtain ⟨c0,c1,c2,c3,c4,c5,c6,c7,c8,c9,c10,c11,c12,cl⟩:=H.c.blk.k13;clear H hc hn hg h1;go_enter func72,ntmps72;go_wp2_with fail;refine yab [zT,zT,zT,zT,zT,zT,zT,zT,zT,zT,zT,zT,zU] 1 12 ?_;intro X00;simp only [pickOps];repeat (go_big_quiet_step (fail))
   refine wpQuiet_nil (fun X0=>?_);clear X00;refine yae rfl zQ (fun X2=>?_);simp only [List.drop_succ_cons,List.drop_zero];go_wp2_with fail;refine (HK.out _).mono ?_;rintro e w1 ⟨rfl,own1,m1,h1⟩;have P1:=(Mod.pt (Mod.refl _ _) _).trans m1;have M1:=zH (P1.mono (S:=acT t B) (fun x hx=>ybz hx));have H1:=zH (HH.out.hand HP.out P1 h1);clear P1 m1 h1 HK a0 a1 a2 a3 a4 a5 a6 a7 a8 a9 a10 a11 a12 a13 a14 a15 a16 a17 a18 al c0 c1 c2 c3 c4 c5 c6 c7 c8 c9 c10 c11 c12 cl;obtain ⟨a0,a1,a2,a3,a4,a5,a6,a7,a8,a9,a10,a11,a12,a13,a14,a15,a16,a17,a18,al⟩:=H1.out.a.blk.k19;have af4:=H1.out.a.blk.liv 4;have H2:=zH (H1.out.set HP.out 4 (zI z6 W.a.seen) { W.a with status:=W.a.seen } rfl ⟨rfl,rfl,rfl,rfl,rfl,rfl⟩);have M2:=zH (show Mod (acT t B) g ⟨own1,w1.setCell ⟨b,4,none⟩ (zI z6 W.a.seen)⟩ from Mod.st M1.out H1.out.modA);go_wp2_with fail;go_ret;exact Does.of ⟨own1,_⟩ rfl (by rw [HV2.out];try rfl) M2.out (by rw [HW.out];exact H2.out.at_)
theorem ye3 [TbId] (P:AcApart t B) (hc:0≤W.K.hand.count∧W.K.hand.count≤1099511627776) (hlen:W.a.locals.length≤1000) (H:AcWAt g t B b k W):Calls prog 74 #[.pointer (some ⟨b,0,none⟩),.pointer (some ⟨k,0,none⟩)] g.w (Does (.tuple #[]) g (acT t B) (fun g'=>AcWAt g' t B b k W.goes)):=by
 obtain ⟨p,bm,bs,bt,bp,bsp,bh,cm,H⟩:=H;have HH:=zH H;have HP:=zH P;have HK:=zH (fun X=>yho (g.pt X) (B+63) bh W.a.t W.K.hand (H.pt X).c.hand hc);obtain ⟨a0,a1,a2,a3,a4,a5,a6,a7,a8,a9,a10,a11,a12,a13,a14,a15,a16,a17,a18,al⟩:=H.a.blk.k19;obtain ⟨c0,c1,c2,c3,c4,c5,c6,c7,c8,c9,c10,c11,c12,cl⟩:=H.c.blk.k13;clear H hc;go_enter func74,ntmps74;go_wp2_with fail;refine yab [zT,zT,zT,zT,zT,zT,zT,zT,zU] 1 8 ?_;intro X00;simp only [pickOps];repeat (go_big_quiet_step (fail))
 refine wpQuiet_nil (fun X0=>?_);clear X00;refine yae rfl zQ (fun X2=>?_);simp only [List.drop_succ_cons,List.drop_zero];go_wp2_with fail;refine (HK.out _).mono ?_;rintro e w1 ⟨rfl,own1,m1,h1⟩;have P1:=(Mod.pt (Mod.refl _ _) _).trans m1;have M1:=zH (P1.mono (S:=acT t B) (fun x hx=>ybz hx));have H1:=zH (HH.out.hand HP.out P1 h1);clear P1 m1 h1 HK a0 a1 a2 a3 a4 a5 a6 a7 a8 a9 a10 a11 a12 a13 a14 a15 a16 a17 a18 al c0 c1 c2 c3 c4 c5 c6 c7 c8 c9 c10 c11 c12 cl;obtain ⟨a0,a1,a2,a3,a4,a5,a6,a7,a8,a9,a10,a11,a12,a13,a14,a15,a16,a17,a18,al⟩:=H1.out.a.blk.k19;have af3:=H1.out.a.blk.liv 3;have H2:=zH (H1.out.set HP.out 3 (zI z6 4) { W.a with phase:=4 } rfl ⟨rfl,rfl,rfl,rfl,rfl,rfl⟩);have M2:=zH (show Mod (acT t B) g ⟨own1,w1.setCell ⟨b,3,none⟩ (zI z6 4)⟩ from Mod.st M1.out H1.out.modA);go_upto_region 2 with fail
 generalize w1.setCell ⟨b,3,none⟩ (zI z6 4)=w2 at *;clear a0 a1 a2 a3 a4 a5 a6 a7 a8 a9 a10 a11 a12 a13 a14 a15 a16 a17 a18 al af3 M1 H1;obtain ⟨a0,a1,a2,a3,a4,a5,a6,a7,a8,a9,a10,a11,a12,a13,a14,a15,a16,a17,a18,al⟩:=H2.out.a.blk.k19;have a2':w2.cell? ⟨b,2,none⟩=some (.slice p.locA W.a.locals.length p.locC):=a2;clear a2;obtain ⟨w3,hcl,m3,R3⟩:=yjB (g:=⟨own1,w2⟩) H2.out.a.r.loc;have hcl':(Builtin.clear_ #[87] 0 #[.slice p.locA W.a.locals.length p.locC]).run prog w2=.ok (.tuple #[]) w3:=hcl;have M3:=zH (M2.out.trans (m3.mono (fun x (hx:x=t+1)=>Or.inl zo)));have hPt:=HP.out.ht;have hPa:=HP.out.apart
 have H3:=zH (show AcIn ⟨own1,w3⟩ t B b k W.goes p bm bs bt bp bsp bh cm from by
  obtain ⟨r1,r2,r3,r4,r5,r6,r7,r8,r9,r10,r11,r12⟩:=H2.out.a.r;refine ⟨⟨?_,⟨r1.keep m3 zo,r2,?_,r4.keep m3 zo,r5,r6,fun S hS=>?_,r8.keep m3 zo,r9,r10.keep m3 zo,r11,r12⟩⟩,H2.out.c.keep m3 (fun x hx=>by omega),H2.out.tbl⟩
  · have h:=H2.out.a.blk.keep m3 zo
    have hc:AcS.cells W.goes.a p=AcS.cells { W.a with phase:=4 } p:=by
     unfold AcS.cells AcW.goes;simp
    rw [hc];exact h
  · show Row _ _ _ _ (.slice _ (List.replicate W.a.locals.length LVal.zero).length _) (List.replicate W.a.locals.length LVal.zero).length ((List.replicate W.a.locals.length LVal.zero).flatMap LVal.cells);rw [List.length_replicate];exact R3
  · obtain ⟨bf,cm,e1,e2,e3⟩:=r7 S hS;exact ⟨bf,cm,e1,e2,e3.keep m3 zo zo⟩)
 clear hcl m3 R3;go_wp2_with fail;exact bodyPost_end (results_none rfl _ _ _) rfl (Does.of ⟨own1,w3⟩ rfl rfl M3.out H3.out.at_)
theorem ygN [TbId] (P:AcApart t B) (hok:W.bdB=true) (hg:W.greyOk=true) (hlen:W.a.locals.length≤1000) (hol:W.a.ops.length≤1000000) (H:AcWAt g t B b k W):Calls prog 40 #[.pointer (some ⟨b,0,none⟩),.pointer (some ⟨k,0,none⟩)] g.w (Does (.tuple #[]) g (acT t B) (fun g'=>AcWAt g' t B b k W.border)):=by
 have HB:=zH (bdB_of hok);have hgr:W.a.pc=1→W.a.grey≠[]:=fun h=>yiK hg h;have HH0:=zH H;obtain ⟨p,bm,bs,bt,bp,bsp,bh,cm,H⟩:=H;have HH:=zH H;have HP:=zH P;by_cases h0:W.a.pc=0
 · have HK:=zH (yig P HB.out.hand hlen HH0.out);have HW:=zH (show W.border=(if !W.looksB then W.looks else if (W.a.ops.length:Int)≤W.a.next then W.looks.withA { W.a with pc:=3 } else W.looks.withA W.a.began) from if_pos h0);obtain ⟨a0,a1,a2,a3,a4,a5,a6,a7,a8,a9,a10,a11,a12,a13,a14,a15,a16,a17,a18,al⟩:=H.a.blk.k19;rw [h0] at a7;clear H h0 hgr hg hok;go_enter func40,ntmps40;go_wp2_with fail;refine HK.out.mono ?_;rintro e w1 ⟨rfl,own1,m1,h1⟩;have M1:=zH m1;clear m1 HK a0 a1 a2 a3 a4 a5 a6 a7 a8 a9 a10 a11 a12 a13 a14 a15 a16 a17 a18 al;cases hl:W.looksB
   · have HW2:=zH (show W.border=W.looks by rw [HW.out,hl];rfl);have H1:=zH h1;clear hl h1;go_wp2_with fail;exact bodyPost_end (results_none rfl _ _ _) rfl (Does.of ⟨own1,w1⟩ rfl rfl M1.out (by rw [HW2.out];exact H1.out))
   · have HL:=zH (show W.looks=W.tickH by unfold AcW.looks;rw [hl];rfl);have HW2:=zH (show W.border=(if (W.a.ops.length:Int)≤W.a.next then W.tickH.withA { W.a with pc:=3 } else W.tickH.withA W.a.began) by rw [HW.out,hl,HL.out];rfl);rw [HL.out] at h1;obtain ⟨p,bm,bs,bt,bp,bsp,bh,cm,h1⟩:=h1;have H1:=zH h1;clear h1 hl HL HW;obtain ⟨a0,a1,a2,a3,a4,a5,a6,a7,a8,a9,a10,a11,a12,a13,a14,a15,a16,a17,a18,al⟩:=H1.out.a.blk.k19;have a1':w1.cell? ⟨b,1,none⟩=some (.slice p.opsA W.a.ops.length p.opsC):=a1;have a6':w1.cell? ⟨b,6,none⟩=some (zI z6 W.a.next):=a6;clear a1 a6;by_cases hnx:(W.a.ops.length:Int)≤W.a.next
     · have hd:decide ((W.a.ops.length:Int)≤W.a.next)=true:=decide_eq_true hnx;have HW3:=zH (show W.border=W.tickH.withA { W.a with pc:=3 } by rw [HW2.out,if_pos hnx]);clear hnx;go_wp2_with fail;refine yab [zT,zT,zT,zT,zT,zT,zT,zT,zT,zT,zT] 0 11 ?_;intro X00;simp only [pickOps];repeat (go_big_quiet_step (fail))
       refine wpQuiet_nil (fun X0=>?_);clear X00;refine yaa zQ (fun X0'=>?_) _;(try go_simp);obtain ⟨own2,m2⟩: ∃own2,Mod (fun _=>False) ⟨own1,w1⟩ ⟨own2,w1.patch ⟨X0.blocks++X0'.blocks,X0'.drawn⟩⟩:=⟨_,Mod.pt (Mod.refl _ _) _⟩;generalize w1.patch ⟨X0.blocks++X0'.blocks,X0'.drawn⟩=w2 at *;have H2:=zH (H1.out.keep0 m2);have M2:=zH (M1.out.trans (m2.mono (fun _=>False.elim)));clear m2 H1 M1 a0 a1' a2 a3 a4 a5 a6' a7 a8 a9 a10 a11 a12 a13 a14 a15 a16 a17 a18 al;obtain ⟨a0,a1,a2,a3,a4,a5,a6,a7,a8,a9,a10,a11,a12,a13,a14,a15,a16,a17,a18,al⟩:=H2.out.a.blk.k19;have af7:=H2.out.a.blk.liv 7;have H3:=zH (H2.out.set HP.out 7 (zI z6 3) { W.a with pc:=3 } rfl ⟨rfl,rfl,rfl,rfl,rfl,rfl⟩);go_wp2_with fail;exact bodyPost_end (results_none rfl _ _ _) rfl (Does.of ⟨own2,_⟩ rfl rfl (Mod.st M2.out H2.out.modA) (by rw [HW3.out];exact H3.out.at_))
     · have hd:decide ((W.a.ops.length:Int)≤W.a.next)=false:=decide_eq_false hnx;have HW3:=zH (show W.border=W.tickH.withA W.a.began by rw [HW2.out,if_neg hnx]);clear hnx;go_wp2_with fail;refine yab [zT,zT,zT,zT,zT,zT,zT,zT,zT,zT,zT] 0 11 ?_;intro X00;simp only [pickOps];repeat (go_big_quiet_step (fail))
       refine wpQuiet_nil (fun X0=>?_);clear X00;refine yaa zQ (fun X0'=>?_) _;(try go_simp);obtain ⟨own2,m2⟩: ∃own2,Mod (fun _=>False) ⟨own1,w1⟩ ⟨own2,w1.patch ⟨X0.blocks++X0'.blocks,X0'.drawn⟩⟩:=⟨_,Mod.pt (Mod.refl _ _) _⟩;generalize w1.patch ⟨X0.blocks++X0'.blocks,X0'.drawn⟩=w2 at *;have H2:=zH (H1.out.keep0 m2);have M2:=zH (M1.out.trans (m2.mono (fun _=>False.elim)));clear m2 H1 M1 a0 a1' a2 a3 a4 a5 a6' a7 a8 a9 a10 a11 a12 a13 a14 a15 a16 a17 a18 al;obtain ⟨a0,a1,a2,a3,a4,a5,a6,a7,a8,a9,a10,a11,a12,a13,a14,a15,a16,a17,a18,al⟩:=H2.out.a.blk.k19;have af3:=H2.out.a.blk.liv 3;have af10:=H2.out.a.blk.liv 10;have af11:=H2.out.a.blk.liv 11;have af12:=H2.out.a.blk.liv 12;have af13:=H2.out.a.blk.liv 13;have af14:=H2.out.a.blk.liv 14;have af15:=H2.out.a.blk.liv 15;have af16:=H2.out.a.blk.liv 16;have af17:=H2.out.a.blk.liv 17;have af18:=H2.out.a.blk.liv 18
       have R3:AcRows ⟨own2,w2⟩ t W.a.began { p with fp:=none,gotA:=none,gotC:=0,wrA:=none,wrC:=0 }:=by
        obtain ⟨r1,r2,r3,r4,r5,r6,r7,r8,r9,r10,r11,r12⟩:=H2.out.a.r;exact ⟨r1,r2,r3,r4,r5,(fun _=>rfl),(fun S hS=>by cases hS),Seg.nil _ _ _,⟨Nat.le_refl _,Nat.zero_le _⟩,Seg.nil _ _ _,rfl,⟨(by show 0/2≤0;decide),Nat.zero_le _⟩⟩
       have H3:=zH (H2.out.turn (A':=W.a.began) (p':={ p with fp:=none,gotA:=none,gotC:=0,wrA:=none,wrC:=0 }) HP.out (g':=⟨own2,(((((((((w2.setCell ⟨b,3,none⟩ (zI z6 2)).setCell ⟨b,10,none⟩ (zI z6 0)).setCell ⟨b,11,none⟩ (zI z6 0)).setCell ⟨b,12,none⟩ (.pointer none)).setCell ⟨b,13,none⟩ (zI z6 0)).setCell ⟨b,14,none⟩ (.bool false)).setCell ⟨b,15,none⟩ (.complex .f64 0 0)).setCell ⟨b,16,none⟩ (.complex .f64 0 0)).setCell ⟨b,17,none⟩ (.slice none 0 0)).setCell ⟨b,18,none⟩ (.slice none 0 0)⟩) (Mod.st (Mod.st (Mod.st (Mod.st (Mod.st (Mod.st (Mod.st (Mod.st (Mod.st (Mod.st (Mod.refl _ _) H2.out.a.blk.own) H2.out.a.blk.own) H2.out.a.blk.own) H2.out.a.blk.own) H2.out.a.blk.own) H2.out.a.blk.own) H2.out.a.blk.own) H2.out.a.blk.own) H2.out.a.blk.own) H2.out.a.blk.own) (by
        have h:=((((((((((H2.out.a.blk).set 3 (zI z6 2)).set 10 (zI z6 0)).set 11 (zI z6 0)).set 12 (.pointer none)).set 13 (zI z6 0)).set 14 (.bool false)).set 15 (.complex .f64 0 0)).set 16 (.complex .f64 0 0)).set 17 (.slice none 0 0)).set 18 (.slice none 0 0);have hc:AcS.cells W.a.began { p with fp:=none,gotA:=none,gotC:=0,wrA:=none,wrC:=0 }=(((((((((((W.a.cells p)).set 3 (zI z6 2)).set 10 (zI z6 0)).set 11 (zI z6 0)).set 12 (.pointer none)).set 13 (zI z6 0)).set 14 (.bool false)).set 15 (.complex .f64 0 0)).set 16 (.complex .f64 0 0)).set 17 (.slice none 0 0)).set 18 (.slice none 0 0):=by simp [AcS.cells,AcS.began]
        rw [hc];exact h) R3)
       have M3:=zH (show Mod (acT t B) g ⟨own2,(((((((((w2.setCell ⟨b,3,none⟩ (zI z6 2)).setCell ⟨b,10,none⟩ (zI z6 0)).setCell ⟨b,11,none⟩ (zI z6 0)).setCell ⟨b,12,none⟩ (.pointer none)).setCell ⟨b,13,none⟩ (zI z6 0)).setCell ⟨b,14,none⟩ (.bool false)).setCell ⟨b,15,none⟩ (.complex .f64 0 0)).setCell ⟨b,16,none⟩ (.complex .f64 0 0)).setCell ⟨b,17,none⟩ (.slice none 0 0)).setCell ⟨b,18,none⟩ (.slice none 0 0)⟩ from (Mod.st (Mod.st (Mod.st (Mod.st (Mod.st (Mod.st (Mod.st (Mod.st (Mod.st (Mod.st M2.out H2.out.modA) H2.out.modA) H2.out.modA) H2.out.modA) H2.out.modA) H2.out.modA) H2.out.modA) H2.out.modA) H2.out.modA) H2.out.modA));clear R3;go_wp2_with fail;exact bodyPost_end (results_none rfl _ _ _) rfl (Does.of ⟨own2,_⟩ rfl rfl M3.out (by rw [HW3.out];exact H3.out.at_))
 by_cases h12:W.a.pc=1∨W.a.pc=2
 · have HK:=zH (yfO P HB.out.hand HB.out.n hgr HH0.out);have HW:=zH (show W.border=(if W.answersB then W.answers.withA { W.answers.a with pc:=0 } else W.answers) by unfold AcW.border;rw [if_neg h0,if_pos h12]);obtain ⟨a0,a1,a2,a3,a4,a5,a6,a7,a8,a9,a10,a11,a12,a13,a14,a15,a16,a17,a18,al⟩:=H.a.blk.k19;have hz0:(W.a.pc==0)=false:=beq_eq_false_iff_ne.2 h0
   have hz12:(W.a.pc==1)=true∨((W.a.pc==1)=false∧(W.a.pc==2)=true):=by
    rcases h12 with h|h
    · exact Or.inl (beq_iff_eq.2 h)
    · exact Or.inr ⟨by rw [h];rfl,beq_iff_eq.2 h⟩
   clear H h0 hgr hg hok h12;rcases hz12 with hz1|⟨hz1,hz2⟩
   · go_enter func40,ntmps40;go_wp2_with fail;refine HK.out.mono ?_;rintro e w1 ⟨rfl,own1,m1,h1⟩;have M1:=zH m1;clear m1 HK a0 a1 a2 a3 a4 a5 a6 a7 a8 a9 a10 a11 a12 a13 a14 a15 a16 a17 a18 al;cases ha:W.answersB
     · have HW2:=zH (show W.border=W.answers by rw [HW.out,ha];rfl);have H1:=zH h1;clear ha h1;go_wp2_with fail;exact bodyPost_end (results_none rfl _ _ _) rfl (Does.of ⟨own1,w1⟩ rfl rfl M1.out (by rw [HW2.out];exact H1.out))
     · have HW2:=zH (show W.border=W.answers.withA { W.answers.a with pc:=0 } by rw [HW.out,ha];rfl);obtain ⟨p1,bm1,bs1,bt1,bp1,bsp1,bh1,cm1,h1⟩:=h1;have H1:=zH h1;clear h1 ha;have H2:=zH (H1.out.set HP.out 7 (zI z6 0) { W.answers.a with pc:=0 } rfl ⟨rfl,rfl,rfl,rfl,rfl,rfl⟩);obtain ⟨a0,a1,a2,a3,a4,a5,a6,a7,a8,a9,a10,a11,a12,a13,a14,a15,a16,a17,a18,al⟩:=H1.out.a.blk.k19;have af7:=H1.out.a.blk.liv 7;go_wp2_with fail;exact bodyPost_end (results_none rfl _ _ _) rfl (Does.of ⟨own1,_⟩ rfl rfl (Mod.st M1.out H1.out.modA) (by rw [HW2.out];exact H2.out.at_))
   · go_enter func40,ntmps40;go_wp2_with fail;refine HK.out.mono ?_;rintro e w1 ⟨rfl,own1,m1,h1⟩;have M1:=zH m1;clear m1 HK a0 a1 a2 a3 a4 a5 a6 a7 a8 a9 a10 a11 a12 a13 a14 a15 a16 a17 a18 al;cases ha:W.answersB
     · have HW2:=zH (show W.border=W.answers by rw [HW.out,ha];rfl);have H1:=zH h1;clear ha h1;go_wp2_with fail;exact bodyPost_end (results_none rfl _ _ _) rfl (Does.of ⟨own1,w1⟩ rfl rfl M1.out (by rw [HW2.out];exact H1.out))
     · have HW2:=zH (show W.border=W.answers.withA { W.answers.a with pc:=0 } by rw [HW.out,ha];rfl);obtain ⟨p1,bm1,bs1,bt1,bp1,bsp1,bh1,cm1,h1⟩:=h1;have H1:=zH h1;clear h1 ha;have H2:=zH (H1.out.set HP.out 7 (zI z6 0) { W.answers.a with pc:=0 } rfl ⟨rfl,rfl,rfl,rfl,rfl,rfl⟩);obtain ⟨a0,a1,a2,a3,a4,a5,a6,a7,a8,a9,a10,a11,a12,a13,a14,a15,a16,a17,a18,al⟩:=H1.out.a.blk.k19;have af7:=H1.out.a.blk.liv 7;go_wp2_with fail;exact bodyPost_end (results_none rfl _ _ _) rfl (Does.of ⟨own1,_⟩ rfl rfl (Mod.st M1.out H1.out.modA) (by rw [HW2.out];exact H2.out.at_))
 have hz0:(W.a.pc==0)=false:=beq_eq_false_iff_ne.2 h0;have hz1:(W.a.pc==1)=false:=beq_eq_false_iff_ne.2 (fun h=>h12 (Or.inl h));have hz2:(W.a.pc==2)=false:=beq_eq_false_iff_ne.2 (fun h=>h12 (Or.inr h));by_cases h3:W.a.pc=3
 · have HW:=zH (show W.border=(W.spc (drainS W.K.sp W.a.t)).withA { W.a with pc:=4 } by unfold AcW.border;rw [if_neg h0,if_neg h12,if_pos h3]);have hz3:(W.a.pc==3)=true:=beq_iff_eq.2 h3;have HK:=zH (fun X=>ygm W.a.t (g.pt X) B bsp bt W.K.sp (H.pt X).c.sp P.hb HB.out.sp);obtain ⟨a0,a1,a2,a3,a4,a5,a6,a7,a8,a9,a10,a11,a12,a13,a14,a15,a16,a17,a18,al⟩:=H.a.blk.k19;obtain ⟨c0,c1,c2,c3,c4,c5,c6,c7,c8,c9,c10,c11,c12,cl⟩:=H.c.blk.k13;clear H h0 hgr hg hok h12 h3;go_enter func40,ntmps40;go_wp2_with fail;refine yab [zT,zT,zT,zT,zT,zT,zT,zT,zU] 1 8 ?_;intro X00;simp only [pickOps];repeat (go_big_quiet_step (fail))
   refine wpQuiet_nil (fun X0=>?_);clear X00;refine yae rfl zQ (fun X2=>?_);simp only [List.drop_succ_cons,List.drop_zero];go_wp2_with fail;refine (HK.out _).mono ?_;rintro e w1 ⟨rfl,own1,m1,h1⟩;have P1:=(Mod.pt (Mod.refl _ _) _).trans m1;have M1:=zH (P1.mono (S:=acT t B) (fun x hx=>ydc hx));have H1:=zH (HH.out.spc HP.out P1 h1);clear P1 m1 h1 HK a0 a1 a2 a3 a4 a5 a6 a7 a8 a9 a10 a11 a12 a13 a14 a15 a16 a17 a18 al c0 c1 c2 c3 c4 c5 c6 c7 c8 c9 c10 c11 c12 cl;obtain ⟨a0,a1,a2,a3,a4,a5,a6,a7,a8,a9,a10,a11,a12,a13,a14,a15,a16,a17,a18,al⟩:=H1.out.a.blk.k19;have af7:=H1.out.a.blk.liv 7;have H2:=zH (H1.out.set HP.out 7 (zI z6 4) { W.a with pc:=4 } rfl ⟨rfl,rfl,rfl,rfl,rfl,rfl⟩);go_wp2_with fail;exact bodyPost_end (results_none rfl _ _ _) rfl (Does.of ⟨own1,_⟩ rfl rfl (Mod.st M1.out H1.out.modA) (by rw [HW.out];exact H2.out.at_))
 have hz3:(W.a.pc==3)=false:=beq_eq_false_iff_ne.2 h3;by_cases h4:W.a.pc=4
 · have HW:=zH (show W.border=W.goes by unfold AcW.border;rw [if_neg h0,if_neg h12,if_neg h3,if_pos h4]);have hz4:(W.a.pc==4)=true:=beq_iff_eq.2 h4;have HK:=zH (ye3 P HB.out.hand hlen HH0.out);obtain ⟨a0,a1,a2,a3,a4,a5,a6,a7,a8,a9,a10,a11,a12,a13,a14,a15,a16,a17,a18,al⟩:=H.a.blk.k19;clear H h0 hgr hg hok h12 h3 h4;go_enter func40,ntmps40;go_wp2_with fail;refine HK.out.mono ?_;rintro e w1 ⟨rfl,own1,m1,h1⟩;have M1:=zH m1;have H1:=zH h1;clear m1 h1;go_wp2_with fail;exact bodyPost_end (results_none rfl _ _ _) rfl (Does.of ⟨own1,w1⟩ rfl rfl M1.out (by rw [HW.out];exact H1.out))
 · have HW:=zH (show W.border=W by unfold AcW.border;rw [if_neg h0,if_neg h12,if_neg h3,if_neg h4]);have hz4:(W.a.pc==4)=false:=beq_eq_false_iff_ne.2 h4;obtain ⟨a0,a1,a2,a3,a4,a5,a6,a7,a8,a9,a10,a11,a12,a13,a14,a15,a16,a17,a18,al⟩:=H.a.blk.k19;clear H h0 hgr hg hok h12 h3 h4;go_enter func40,ntmps40;go_wp2_with fail;exact bodyPost_end (results_none rfl _ _ _) rfl (Does.of g rfl rfl (Mod.refl _ _) (by rw [HW.out];exact HH.out.at_))
end
end Go.Proofs.YtdhjjpnajjingaaGreat
namespace Go.Proofs.YtdhjjpnajjingaaGreat
open Go Go.RowKit
section
variable {g:GW} {t b B k:Nat} {W:AcW}
end
end Go.Proofs.YtdhjjpnajjingaaGreat
namespace Go.Proofs.YtdhjjpnajjingaaGreat
open Go Go.RowKit
attribute [local go_sem] Lib.run_eql_slice_nil
theorem yiW:(prog.info? 26).map (fun i=>(i.zero,i.size,i.bytes))=some (some (.agg #[.int .i64 0,.int .i64 0,.int .i64 0,.int .i64 0,.int .i64 0,.complex .f64 0 0]),6,56):=zQ
theorem yjl (l:List Opr):(l.flatMap Opr.cells).length=l.length*6:=by
 induction l with
 |nil=>rfl
 |cons x l ih=>simp [List.flatMap_cons,Opr.cells,ih];omega
def ClonedRow (t:Nat) (E:TypeId) (size n:Nat) (xs:List Value) (g:GW) (e:Ending) (w':World):Prop:=
 ∃A' c',e=.returned (.slice A' n c')∧Mod (fun _=>False) g (g.to t w')∧Row (g.to t w') t E size (.slice A' n c') n xs∧Ext g.w w'∧(∀a,A'=some a→g.w.heap.size≤a.block)∧n≤c'∧c'≤9223372036854775807
theorem yir (A:Option Addr) (cap:Nat) (l:List Opr) (t:Nat) (g:GW) (hc:CellsAt g.w A (l.flatMap Opr.cells)) (hl:l.length≤1000000):
 Calls prog 70 #[.slice A l.length cap] g.w (ClonedRow t 26 6 l.length (l.flatMap Opr.cells) g):=by
 obtain ⟨i0,hi,hz0,hz1,hz2⟩:=info_parts yiW;have hq:=fun w=>Lib.run_eql_slice_nil (P:=prog) w 23 26 A l.length cap 0 0 Tryz.underlying23;rcases A with _|ad
 · obtain rfl:l=[]:=by
    rcases l with _|⟨x,l⟩
    · rfl
    · obtain ⟨b,o,h,_⟩:=hc.at_ (i:=0) (by simp [Opr.cells]);cases h
   go_enter func70,ntmps70;go_wp2_with fail;go_ret;exact ⟨none,0,rfl,Mod.ext (Ext.refl _) _,Row.nil _ _ _ _,Ext.refl _,(fun a h=>by cases h),Nat.le_refl _,zd⟩
 · go_enter func70,ntmps70;go_wp2_with (at_builtin;refine wpList_append_own _ rfl (.tmp 5) (.tmp 6) 23 rfl g.w.heap.size 26 i0 (.agg #[.int .i64 0,.int .i64 0,.int .i64 0,.int .i64 0,.int .i64 0,.complex .f64 0 0]) 6 56 Tryz.underlying23 hi hz0 hz1 hz2 rfl zd _ _ _ rfl (World.ownsRow_made (cap:=0) _ #[] (Nat.le_refl _) zd rfl) ad l.length cap (l.flatMap Opr.cells) rfl (by rw [yjl]) (ybN (hc.alloc _)) (by intro u hu;simp [Opr.cells] at hu;obtain ⟨_,_,hu⟩:=hu;rcases hu with rfl|rfl|rfl|rfl|rfl|rfl<;>rfl) (by unfold maxLen;omega) zo (by simp) ?_;intro v' w1 hown hgrow hn);simp only [Nat.zero_add,List.nil_append] at hown;obtain ⟨A',c',hv⟩:=yak hown;rw [hv] at hown;have HV:=zH hv;clear hv;go_ret;have he:Ext g.w w1:=yaK (Ext.alloc (Ext.refl _) _) hgrow (fun k hk=>by cases hk;exact Nat.le_refl _);have hf:=ycH hown;have hle:=ygJ hown
   exact ⟨A',c',congrArg Ending.returned HV.out,Mod.ext he _,⟨ycI hown (Nat.zero_le _),fun k hk=>GW.to_new (by
    cases A' with
    |none=>cases hk
    |some a=>injection hk with hk;subst hk;exact hf a rfl)⟩,he,hf,hle.1,hle.2⟩
end Go.Proofs.YtdhjjpnajjingaaGreat
namespace Go.Proofs.YtdhjjpnajjingaaGreat
open Go Go.RowKit
def ActMade (tid:Int) (n:Nat) (l:List Opr) (t:Nat) (g:GW) (e:Ending) (w':World):Prop:=
 ∃own' b p,e=.returned (.pointer (some ⟨b,0,none⟩))∧Mod (fun _=>False) g ⟨own',w'⟩∧AcAt ⟨own',w'⟩ t b (AcS.fresh tid n l) p
theorem ye4 (tid:Int) (n:Nat) (l:List Opr) (t:Nat) (ht:100≤t) (g gz:GW) (m:Mod (fun _=>False) g gz) (A':Option Addr) (c':Nat) (hc:l.length≤c'∧c'≤9223372036854775807) (ro:Row gz 0 26 6 (.slice A' l.length c') l.length (l.flatMap Opr.cells))
 (q:Nat) (rl:Row gz (t+1) 38 2 (.slice (some ⟨q,0,none⟩) n n) n ((List.replicate n LVal.zero).flatMap LVal.cells)) (w':World)
 (hw:w'=gz.w.alloc (.cells ((AcS.fresh tid n l).cells ⟨A',c',some ⟨q,0,none⟩,n,none,0,none,none,0,none,0⟩).toArray 103)):ActMade tid n l t g (.returned (.pointer (some ⟨gz.w.heap.size,0,none⟩))) w':=by
 subst hw;have m2:Mod (fun _=>False) gz (gz.to t (gz.w.alloc (.cells ((AcS.fresh tid n l).cells ⟨A',c',some ⟨q,0,none⟩,n,none,0,none,none,0,none,0⟩).toArray 103))):=Mod.ext zE t;refine ⟨_,gz.w.heap.size,⟨A',c',some ⟨q,0,none⟩,n,none,0,none,none,0,none,0⟩,rfl,m.trans m2,⟨Blk.new gz t 103 _,⟨(ro.keep m2 id).seg,hc,?_,Seg.nil _ _ _,⟨Nat.le_refl _,Nat.zero_le _⟩,(fun _=>rfl),(fun S hS=>by cases hS),Seg.nil _ _ _,⟨Nat.le_refl _,Nat.zero_le _⟩,Seg.nil _ _ _,rfl,⟨(by show 0/2≤0;decide),Nat.zero_le _⟩⟩⟩⟩;have h:=rl.keep m2 id;show Row _ _ _ _ (.slice _ (List.replicate n LVal.zero).length _) (List.replicate n LVal.zero).length _;rw [List.length_replicate];exact h
theorem yfw (own1:Nat→Nat) (w1:World) (X:Extra) (t k:Nat) (hk:k≤9223372036854775807): ∃own2,Mod (fun _=>False) ⟨own1,w1⟩ ⟨own2,(w1.patch X).alloc (.cells (madeCells #[.bool false,.complex .f64 0 0] (k*2)) 38)⟩∧Row ⟨own2,(w1.patch X).alloc (.cells (madeCells #[.bool false,.complex .f64 0 0] (k*2)) 38)⟩ t 38 2 (.slice (some ⟨(w1.patch X).heap.size,0,none⟩) k k) k ((List.replicate k LVal.zero).flatMap LVal.cells):=by
 have e:madeCells #[.bool false,.complex .f64 0 0] (k*2)=((List.replicate k LVal.zero).flatMap LVal.cells).toArray:=by
  have h:=yc3 k;rw [←h];rfl
 rw [e];have m0:Mod (fun _=>False) (⟨own1,w1⟩:GW) ((⟨own1,w1⟩:GW).pt X):=Mod.pt (Mod.refl _ _) _;have R:=Row.made (g:=(⟨own1,w1⟩:GW).pt X) (w':=(w1.patch X).alloc (.cells ((List.replicate k LVal.zero).flatMap LVal.cells).toArray 38)) (t:=t) (r:=(w1.patch X).heap.size) (size:=2) (n:=k) (E:=38) (xs:=(List.replicate k LVal.zero).flatMap LVal.cells) (World.row_alloc_new _) (Nat.le_refl _) (by rw [yi5,List.length_replicate]) hk;have he:Ext (w1.patch X) ((w1.patch X).alloc (.cells ((List.replicate k LVal.zero).flatMap LVal.cells).toArray 38)):=zE;exact ⟨_,m0.trans (Mod.ext (g:=(⟨own1,w1⟩:GW).pt X) he t),R⟩
theorem yj6 (tid:Int) (A:Option Addr) (cap:Nat) (l:List Opr) (t:Nat) (ht:100≤t) (g:GW) (hc:CellsAt g.w A (l.flatMap Opr.cells)) (hl:l.length≤1000000):Calls prog 38 #[.int .i64 tid,.int .i64 3,.slice A l.length cap] g.w (ActMade tid 3 l t g):=by
 have HC:=zH (fun (G:GW) (he:Ext g.w G.w)=>yir A cap l 0 G (hc.ext he) hl);obtain ⟨i0,hi,hz0,hz1,hz2⟩:=info_parts ygC;have hmk:=fun w=>ybg (P:=prog) 87 38 i0 (.agg #[.bool false,.complex .f64 0 0]) 2 24 Tryz.underlying87 hi hz0 hz1 hz2 3 zd zd w;rw [show ((3:Nat):Int)=3 from rfl] at hmk;obtain ⟨nl,hnl⟩: ∃q,l.length=q:=⟨_,rfl⟩;rw [hnl] at HC ⊢;go_enter func38,ntmps38;go_wp2_with fail;refine yab [zT,zT,zU,zT,zT,zU,zU,zU,zU] 5 6 ?_;intro X00;simp only [pickOps];repeat (go_big_quiet_step (fail))
 refine wpQuiet_nil (fun X0=>?_);clear X00;refine ycl 2 5 _ _ zQ rfl rfl rfl rfl zd zd (fun X1 K Q' hK=>?ordA) (fun X1 K Q' hK=>?ordB)
 case ordA=>
  go_simp;refine (HC.out (g.pt _) ⟨_,rfl⟩).mono ?_;rintro e w1 ⟨A',c',rfl,m1,r1,hE1,hf1,hc1⟩;have hE1':Ext g.w w1:=Ext.trans ⟨_,rfl⟩ hE1;obtain ⟨own1,M1,R1⟩: ∃o,Mod (fun _=>False) g ⟨o,w1⟩∧Row ⟨o,w1⟩ 0 26 6 (.slice A' nl c') nl (l.flatMap Opr.cells):=⟨_,(Mod.pt (Mod.refl _ _) _).trans m1,r1⟩;refine hK _ _ hE1' ?_;clear hK K Q' m1 r1 hE1 HC;refine yaj 5 _ zQ rfl rfl zd (fun X3 K Q' hK=>?_);go_simp;obtain ⟨own2,m2,R2⟩:=yfw own1 w1 X3 (t+1) 3 zd;have hE2:=Ext.trans hE1' m2.toExt;refine hK _ _ hE2 ?_;clear hK K Q';have M2:=M1.trans m2;have O2:=R1.keep m2 id;refine yae rfl zQ (fun X2=>?_);simp only [List.drop_succ_cons,List.drop_zero];go_wp2_with fail;go_ret;subst hnl;have mz:=fun (G:GW)=>Mod.pt (Mod.refl (fun _=>False) G) X2;exact ye4 tid 3 l t ht g _ (M2.trans (mz _)) A' c' hc1 (O2.keep (mz _) id) _ (R2.keep (mz _) id) _ zQ
 case ordB=>
  go_simp;obtain ⟨own1,m1,R1⟩:=yfw g.own g.w ⟨X0.blocks++X1.blocks,X1.drawn⟩ (t+1) 3 zd;have hE1:Ext g.w _:=m1.toExt;refine hK _ _ hE1 ?_;clear hK K Q';generalize (g.w.patch ⟨X0.blocks++X1.blocks,X1.drawn⟩).alloc (.cells (madeCells #[.bool false,.complex .f64 0 0] (3*2)) 38)=w1 at *;refine yaj 2 _ zQ rfl rfl zd (fun X3 K Q' hK=>?_);go_simp;generalize (g.w.patch ⟨X0.blocks++X1.blocks,X1.drawn⟩).heap.size=q1 at *;refine (HC.out ((⟨own1,w1⟩:GW).pt X3) (Ext.trans hE1 ⟨_,rfl⟩)).mono ?_;rintro e w2 ⟨A',c',rfl,m2,r2,hE2,hf2,hc2⟩;have hE2':Ext g.w w2:=Ext.trans hE1 (Ext.trans ⟨_,rfl⟩ hE2);refine hK _ _ hE2' ?_;clear hK K Q';refine yae rfl zQ (fun X2=>?_);simp only [List.drop_succ_cons,List.drop_zero];go_wp2_with fail;go_ret;subst hnl;have m2':=(Mod.pt (Mod.refl (fun _=>False) (⟨own1,w1⟩:GW)) X3).trans m2;have mz:=Mod.pt (Mod.refl (fun _=>False) (((⟨own1,w1⟩:GW).pt X3).to 0 w2)) X2;exact ye4 tid 3 l t ht g _ ((m1.trans m2').trans mz) A' c' hc2 (r2.keep mz id) q1 ((R1.keep m2' id).keep mz id) _ zQ
def cOne (A:Option Addr):Cnf:=⟨4,0,0,1,1,0,1,0,A,1,[⟨false,none,0,[]⟩]⟩
theorem yg0 (A:Option Addr):(cOne A).check=0:=by rfl
def oneW (A:Option Addr):CyW:=⟨CyS.fresh,none,none,CoreS.fresh (cOne A)⟩
def oneW1 (A:Option Addr):CyW:=(oneW A).spc (CoreS.fresh (cOne A)).sp.tick
def oneW2 (A:Option Addr):CyW:=(oneW A).spc (forceS (CoreS.fresh (cOne A)).sp.tick)
def oneW3 (A:Option Addr):CyW:=CyW.ent ((oneW A).spc (forceS (CoreS.fresh (cOne A)).sp.tick).tick) 1
theorem ykC (A:Option Addr):(oneW A).tick1.idles=oneW1 A:=rfl
theorem ykY (A:Option Addr):(oneW2 A).tick1.idles=oneW3 A:=rfl
theorem zr:(0:Int)≤0∧(0:Int)≤1099511627776:=zd
theorem zr1:(0:Int)≤0+1∧(0:Int)+1≤1099511627776:=zd
theorem zr2:(0:Int)≤0+1+1∧(0:Int)+1+1≤1099511627776:=zd
theorem ymy (A:Option Addr):(oneW A).Bd:=⟨zr,zr,zr,zr,zr,zr,zr,zr,zr,zr⟩
theorem ymM (A:Option Addr):(oneW2 A).Bd:=⟨zr,zr,zr,zr,zr,zr,zr,zr2,zr,zr⟩
theorem ye9:CyApart 500 100:=⟨zd,zd,zd⟩
theorem CyIn.force {g:GW} {t B b k:Nat} {W:CyW} {tp hp:Option Addr} {bm bs bt bp bsp bh:Nat} {cm:Cnf} (H:CyIn g t B b k W tp hp bm bs bt bp bsp bh cm) (A:CyApart t B) (hc:0≤W.K.sp.count∧W.K.sp.count≤1099511627776):Calls prog 18 #[.pointer (some ⟨bsp,0,none⟩)] g.w (Does (.tuple #[]) g (cyT t B) (fun g'=>CyIn g' t B b k (W.spc (forceS W.K.sp)) tp hp bm bs bt bp bsp bh cm)):=by
 refine (ygn g B bsp bt W.K.sp H.c.sp A.hb hc).mono ?_;rintro e w1 ⟨rfl,own1,m1,h1⟩;exact ⟨rfl,own1,m1.mono (fun x hx=>yaF hx),H.spc A m1 h1⟩
theorem yfZ (w:World):Calls prog 7 #[] w (Gives (.bool true) w):=by
 have q1:=World.row_alloc_new w (o:=.cells #[.bool false,.slice none 0 0] 94)
 have hok:(cOne (some ⟨w.heap.size,0,none⟩)).Ok (w.alloc (.cells #[.bool false,.slice none 0 0] 94)):=
  ⟨CellsAt.mk (Array.getElem?_eq_some_iff.1 q1).1 (fun i v hi=>by rw [Nat.zero_add];exact ycd (l:=[.bool false,.slice none 0 0]) q1 hi),fun s hs=>by rw [List.mem_singleton.1 hs];exact ⟨CellsAt.nil _ _,by simp,by simp⟩,Nat.le_refl _,(show 1≤140737488355328 by decide)⟩
 have HE:=zH (show Ext w (w.alloc (.cells #[.bool false,.slice none 0 0] 94)) from zE);have HM:=zH (yfe (cOne (some ⟨w.heap.size,0,none⟩)) 100 ⟨fun _=>0,_⟩ hok zo (fun k _=>Or.inl (show 0<100 by omega)));clear q1 hok;go_enter func7,ntmps7;go_wp2_with fail;refine HM.out.mono ?_;rintro e w1 hh;unfold CoreMade at hh;rw [if_pos (yg0 _)] at hh;obtain ⟨own1,k,rfl,m1,h1⟩:=hh;generalize (some ⟨w.heap.size,0,none⟩:Option Addr)=A at *;have M1:=zH m1;obtain ⟨bm,bs,bt,bp,bsp,bh,cm,h1⟩:=h1;have H1:=zH h1;clear m1 h1 HM;go_wp2_with fail;refine (yiw ⟨own1,w1⟩ 500).mono ?_;rintro e w2 ⟨own2,b,rfl,m2,h2⟩;have M2:=zH (M1.out.trans m2);have H2:=zH (show CyIn ⟨own2,w2⟩ 500 100 b k (oneW A) none none bm bs bt bp bsp bh cm from ⟨h2,H1.out.keep m2 (fun _=>False.elim)⟩);clear m2 h2 H1 M1;go_wp2_with fail;refine (ybE ye9 (ymy A) rfl rfl H2.out.at_).mono ?_;rintro e w3 ⟨rfl,own3,m3,h3⟩;rw [ykC] at h3;obtain ⟨tp,hp,bm',bs',bt',bp',bsp',bh',cm',h3⟩:=h3;have M3:=zH ((M2.out.mono (S:=cyT 500 100) (fun _=>False.elim)).trans m3);have H3:=zH h3;clear m3 h3 H2 M2;go_wp2_with fail
 refine (show Calls prog 35 #[.pointer (some ⟨b,0,none⟩)] w3 (fun e w'=>e=.returned (zI z6 0)∧w3=w') from yff ⟨own3,w3⟩ 500 b _ _ _ _ _ H3.out.y).mono ?_;rintro e w' ⟨rfl,rfl⟩;obtain ⟨c0,c1,c2,c3,c4,c5,c6,c7,c8,c9,c10,c11,c12,cl⟩:=H3.out.c.blk.k13;go_wp2_with fail;refine (H3.out.force ye9 zr1).mono ?_;rintro e w4 ⟨rfl,own4,m4,h4⟩;have M4:=zH (M3.out.trans m4);have H4:=zH (show CyIn ⟨own4,w4⟩ 500 100 b k (oneW2 A) tp hp bm' bs' bt' bp' bsp' bh' cm' from h4);clear m4 h4 H3 M3 c0 c1 c2 c3 c4 c5 c6 c7 c8 c9 c10 c11 c12 cl;go_wp2_with fail;refine (ybE ye9 (ymM A) rfl rfl H4.out.at_).mono ?_;rintro e w5 ⟨rfl,own5,m5,h5⟩;rw [ykY] at h5;obtain ⟨tp,hp,bm',bs',bt',bp',bsp',bh',cm',h5⟩:=h5;have M5:=zH (M4.out.trans m5);have H5:=zH h5;clear m5 h5 H4 M4;go_wp2_with fail;refine (show Calls prog 35 #[.pointer (some ⟨b,0,none⟩)] w5 (fun e w'=>e=.returned (zI z6 1)∧w5=w') from yff ⟨own5,w5⟩ 500 b _ _ _ _ _ H5.out.y).mono ?_;rintro e w' ⟨rfl,rfl⟩;go_wp2_with fail;refine (show Calls prog 36 #[.pointer (some ⟨b,0,none⟩)] w5 (fun e w'=>e=.returned (zI z6 0)∧w5=w') from yg6 ⟨own5,w5⟩ 500 b _ _ _ _ _ H5.out.y).mono ?_;rintro e w' ⟨rfl,rfl⟩;go_wp2_with fail
 refine (show Calls prog 37 #[.pointer (some ⟨b,0,none⟩)] w5 (fun e w'=>e=.returned (zI z6 0)∧w5=w') from ykg ⟨own5,w5⟩ 500 b _ _ _ _ _ H5.out.y).mono ?_;rintro e w' ⟨rfl,rfl⟩;go_wp2_with fail;go_ret;exact Gives.bool rfl (HE.out.trans (M5.out.nothing (fun j _ hj=>by simp only [cyT] at hj;omega)).toExt)
def duT (x:Nat):Prop:=acT 500 100 x∨cyT 600 100 x
structure DuAt (g:GW) (b c k:Nat) (D:DuW):Prop where
 ex: ∃p tp hp bm bs bt bp bsp bh cm,AcAt g 500 b D.a p∧CoreIn g 100 k D.K bm bs bt bp bsp bh cm∧CyAt g 600 c D.y D.tr D.h tp hp
structure DuIs (w0:World) (g:GW) (b c k:Nat) (D:DuW):Prop where
 m:Mod duT ⟨fun _=>0,w0⟩ g
 h:DuAt g b c k D
section
variable {w0:World} {g g':GW} {b c k:Nat} {D:DuW}
theorem yil:CyApart 600 100:=⟨zd,zd,zd⟩
theorem ymn:AcApart 500 100:=⟨zd,zd,zd⟩
theorem DuIs.keep (h:DuIs w0 g b c k D) (m:Mod (fun _=>False) g g'):DuIs w0 g' b c k D:=by
 obtain ⟨p,tp,hp,bm,bs,bt,bp,bsp,bh,cm,h1,h2,h3⟩:=h.h.ex;exact ⟨h.m.trans (m.mono (fun _=>False.elim)),⟨⟨p,tp,hp,bm,bs,bt,bp,bsp,bh,cm,h1.keep m id (fun _=>False.elim),h2.keep m (fun _=>False.elim),h3.keep m (fun _=>False.elim)⟩⟩⟩
theorem DuIs.fin (h:DuIs w0 g b c k D):Ext w0 g.w:=(h.m.nothing (fun j _ (hj:acT 500 100 0∨cyT 600 100 0)=>by simp only [acT,cyT] at hj;omega)).toExt
theorem yha (h:DuIs w0 g b c k D):Calls prog 20 #[.pointer (some ⟨b,0,none⟩)] g.w (fun e w'=>e=.returned (zI z6 D.a.status)∧g.w=w'):=by
 obtain ⟨p,tp,hp,bm,bs,bt,bp,bsp,bh,cm,h1,h2,h3⟩:=h.h.ex;exact ygQ g 500 b D.a p h1
theorem yg9 (h:DuIs w0 g b c k D) (hc:D.handOk=true):Calls prog 21 #[.pointer (some ⟨k,0,none⟩)] g.w (Does (zI z6 D.K.hand.status) g duT (fun g'=>DuIs w0 g' b c k D.tick)):=by
 have HM:=zH h.m;obtain ⟨p,tp,hp,bm,bs,bt,bp,bsp,bh,cm,h1,h2,h3⟩:=h.h.ex;have HK:=zH (yel g (100+63) bh D.K.hand h2.hand (of_decide_eq_true hc));have H1:=zH h1;have H2:=zH h2;have H3:=zH h3;obtain ⟨c0,c1,c2,c3,c4,c5,c6,c7,c8,c9,c10,c11,c12,cl⟩:=h2.blk.k13;clear h h1 h2 h3 hc;go_enter func21,ntmps21;go_wp2_with fail;refine HK.out.mono ?_;rintro e w1 ⟨rfl,own1,m1,k1⟩;go_wp2_with fail;go_ret;have m2:Mod duT g ⟨own1,w1⟩:=m1.mono (fun x (hx:x=163)=>Or.inl (Or.inr zo));exact ⟨rfl,own1,m2,⟨HM.out.trans m2,⟨⟨p,tp,hp,bm,bs,bt,bp,bsp,bh,cm,H1.out.keep m1 zo (fun x (hx:x=163)=>by omega),H2.out.putHand m1 k1,H3.out.keep m1 (fun x (hx:x=163)=>by omega)⟩⟩⟩⟩
theorem ya4 (h:DuIs w0 g b c k D):Calls prog 17 #[.pointer (some ⟨c,0,none⟩)] g.w (fun e w'=>e=.returned (zI z6 D.y.finished)∧g.w=w'):=by
 obtain ⟨p,tp,hp,bm,bs,bt,bp,bsp,bh,cm,h1,h2,h3⟩:=h.h.ex;exact yfT g 600 c _ _ _ _ _ h3
theorem yeg (h:DuIs w0 g b c k D):Calls prog 22 #[.pointer (some ⟨c,0,none⟩)] g.w (fun e w'=>e=.returned (zI z6 D.y.e)∧g.w=w'):=by
 obtain ⟨p,tp,hp,bm,bs,bt,bp,bsp,bh,cm,h1,h2,h3⟩:=h.h.ex;exact yke g 600 c _ _ _ _ _ h3
theorem yiC (h:DuIs w0 g b c k D) (hc:0≤D.K.sp.count∧D.K.sp.count≤1099511627776): ∃bsp,g.w.cell? ⟨k,11,none⟩=some (.pointer (some ⟨bsp,0,none⟩))∧k<g.w.heap.size∧Calls prog 18 #[.pointer (some ⟨bsp,0,none⟩)] g.w (Does (.tuple #[]) g duT (fun g'=>DuIs w0 g' b c k D.force)):=by
 obtain ⟨p,tp,hp,bm,bs,bt,bp,bsp,bh,cm,h1,h2,h3⟩:=h.h.ex;refine ⟨bsp,h2.blk.cell (i:=11) rfl,h2.blk.lt,?_⟩;refine ((show CyIn g 600 100 c k D.cy tp hp bm bs bt bp bsp bh cm from ⟨h3,h2⟩).force yil hc).mono ?_;rintro e w' ⟨rfl,own',m',h'⟩;have h4:=h1.keep m' (by unfold cyT;omega) (fun x hx=>by unfold cyT at hx;omega);exact ⟨rfl,own',m'.mono (fun x hx=>Or.inr hx),⟨h.m.trans (m'.mono (fun x hx=>Or.inr hx)),⟨⟨p,tp,hp,bm,bs,bt,bp,bsp,bh,cm,h4,h'.c,h'.y⟩⟩⟩⟩
end
end Go.Proofs.YtdhjjpnajjingaaGreat
namespace Go
open Go.RowKit
theorem ygd (arr:Bool) (A:Option Addr) (cap:Nat) (refs:List Bool) (kind:Int) (got:List Int) (side:Bool) (j:Nat):objRow ⟨arr,A,cap,refs⟩ kind got side j=objRow ⟨arr,none,0,refs⟩ kind got side j:=by
 have e: ∀(n:Nat) (f:Int) (vs:List Value),putFields ⟨arr,A,cap,refs⟩ f vs n=putFields ⟨arr,none,0,refs⟩ f vs n:=fun n=>by
  induction n with
  |zero=>intro f vs;rfl
  |succ n ih=>intro f vs;unfold putFields;rw [ih];rfl
 unfold objRow;exact e _ _ _
theorem ydZ (arr:Bool) (A:Option Addr) (cap:Nat) (refs:List Bool) (kind:Int) (got:List Int) (side:Bool) (n:Nat):objWrites ⟨arr,A,cap,refs⟩ kind got side n=objWrites ⟨arr,none,0,refs⟩ kind got side n:=by
 induction n with
 |zero=>rfl
 |succ n ih=>unfold objWrites;rw [ih,ygd]
end Go
namespace Go.Proofs.YtdhjjpnajjingaaGreat
open Go Go.RowKit
theorem yf5 {c d:Cnf} (h:c.Same d) (x:Int):fragOk c x=fragOk d x:=by unfold fragOk;rw [h.check,h.frags]
theorem ygx {c d:Cnf} (h:c.Same d) (is:Bool) (arr:Bool) (A:Option Addr) (cap:Nat) (refs:List Bool) (n:Int) (array:Bool) (got:List Int):wrongE c is ⟨arr,A,cap,refs⟩ n array got=wrongE d is ⟨arr,none,0,refs⟩ n array got:=by
 unfold wrongE;rw [h.check,show fragOk c=fragOk d from funext (yf5 h)];rfl
theorem ykH {w:World} {base e size n:Nat} {v:Value} {xs:List Value} (h:w.ownsRow base e size v n xs):w.ownsRow 0 e size v n xs:=by
 rcases h with ⟨h0,h1|⟨g,cap,cur,hv,hb,r⟩⟩
 · exact ⟨h0,Or.inl h1⟩
 · exact ⟨h0,Or.inr ⟨g,cap,cur,hv,Nat.zero_le _,r⟩⟩
section
variable {g:GW} {t B b k:Nat} {W:AcW} {p:AcP} {bm bs bt bp bsp bh:Nat} {cm:Cnf}
theorem yfP [TbId] (P:AcApart t B) (H:AcIn g t B b k W p bm bs bt bp bsp bh cm) (oa ob oc on:Int) (x y:Nat) (got:List Int) (gA:Option Addr) (gC:Nat) (st at_:Int) (hg:Seg g 0 gA (got.map (Value.int .i64))) (hgc:got.length≤gC∧gC≤9223372036854775807) (hok:W.takesOk ⟨1,oa,ob,oc,on,x,y⟩ got at_=true):
 Calls prog 84 #[.pointer (some ⟨b,0,none⟩),.pointer (some ⟨k,0,none⟩),.agg #[.int .i64 1,.int .i64 oa,.int .i64 ob,.int .i64 oc,.int .i64 on,.complex .f64 x y],.agg #[.int .i64 st,.slice gA got.length gC,.int .i64 at_]] g.w (Does (.bool true) g (fun x=>x=t) (fun g'=> ∃p',AcIn g' t B b k (W.takes ⟨1,oa,ob,oc,on,x,y⟩ got at_) p' bm bs bt bp bsp bh cm)):=by
 unfold AcW.takesOk at hok;simp only [Bool.and_eq_true,decide_eq_true_eq,List.all_eq_true,if_true,beq_iff_eq] at hok;obtain ⟨h1,h2,h3,h4⟩:=hok;have HE:=zH h4;have HH:=zH H;have HP:=zH P;have hPt:=P.ht;have HG:=zH hg;have HB:=zH (show∀x∈got, -9223372036854775808≤x∧x≤9223372036854775807 from fun x hx=>by have:=h2 x hx;omega);clear H hg h2 h4;go_enter func84,ntmps84;go_upto_region 3 with fail
 obtain ⟨own0,M0,Q0,G0⟩:=yaz g 26 143 [.int .i64 1,.int .i64 oa,.int .i64 ob,.int .i64 oc,.int .i64 on,.complex .f64 x y] [.int .i64 st,.slice gA got.length gC,.int .i64 at_];generalize (g.w.alloc (.cells #[.int .i64 1,.int .i64 oa,.int .i64 ob,.int .i64 oc,.int .i64 on,.complex .f64 x y] 26)).alloc (.cells #[.int .i64 st,.slice gA got.length gC,.int .i64 at_] 143)=w0 at *;have H0:=zH (HH.out.keep0 M0);have M0':=zH M0;have Q0':=zH Q0;have G0':=zH G0;have HG0:=zH (HG.out.keep M0 id);have hqb:=Q0.lt;obtain ⟨a0,a1,a2,a3,a4,a5,a6,a7,a8,a9,a10,a11,a12,a13,a14,a15,a16,a17,a18,al⟩:=H0.out.a.blk.k19;have af18:=H0.out.a.blk.liv 18;obtain ⟨c0,c1,c2,c3,c4,c5,c6,c7,c8,c9,c10,c11,c12,cl⟩:=H0.out.c.blk.k13;obtain ⟨x0,x1,x2,x3,x4,x5,xl⟩:=Q0.k6;obtain ⟨y0,y1,y2,yl⟩:=G0.k3;clear M0 Q0 G0;have HO:=zH (fun X=>yhJ cm ob gA gC got (w0.patch X) (H0.out.c.cnf.ok.ext ⟨X,rfl⟩) (HG0.out.cells.ext ⟨X,rfl⟩) h1 HB.out);unfold Cnf.val at HO;refine yau [0] [zU,zT,zT,zT,zT,zT,zT,zT,zT] 9 8 ?_;intro X00;simp only [pickOps,movesAct,moveOf,List.getElem?_toArray,List.getElem?_cons_zero,List.getElem?_cons_succ];(try go_simp);repeat (go_big_quiet_step (fail))
 refine wpQuiet_nil (fun X0 K Q' hK=>?_);clear X00;(try go_simp);refine (HO.out _).mono ?_;rintro e w2 ⟨s',lv,nW,rfl,hs',hown,hE2⟩;obtain ⟨sa,sA,sc,sr⟩:=s';have hsh:(sa,sr)=(W.K.c.shapeAt ob).getD (false,[]):=by rw [←yaE HH.out.c.same];exact hs'
 have hsp:shpOf W.K.c ob=⟨sa,none,0,sr⟩:=by unfold shpOf;rw [←hsh]
 have hw0:wrongE cm (cm.shapeAt ob).isSome ⟨sa,sA,sc,sr⟩ 0 false got=0:=by
  rw [ygx HH.out.c.same,yaE HH.out.c.same, ←hsp];exact HE.out
 rw [hw0] at hown ⊢;simp only [if_true] at hown
 have HWL:=zH (show W.takenW ⟨1,oa,ob,oc,on,x,y⟩ got at_=objWrites ⟨sa,sA,sc,sr⟩ ob got (isSide got) got.length by
  unfold AcW.takenW;rw [if_pos rfl,hsp];exact (ydZ sa sA sc sr _ _ _ _).symm)
 clear hsh hsp hw0 hs' HE HO;generalize objWrites ⟨sa,sA,sc,sr⟩ ob got (isSide got) got.length=wl at *;obtain ⟨lA,lC,hlv⟩:=yak hown;subst hlv
 obtain ⟨own2,m2,R2⟩: ∃own2,Mod (fun _=>False) ⟨own0,w0⟩ ⟨own2,w2⟩∧Row ⟨own2,w2⟩ 0 194 2 (.slice lA nW lC) nW (wl):=by
  have hE02:Ext w0 w2:=(show Ext w0 (w0.patch X0) from ⟨X0,rfl⟩).trans hE2;refine ⟨_,Mod.ext (g:=⟨own0,w0⟩) (show Ext w0 w2 from hE02) 0,⟨?_,fun k hk=>?_⟩⟩
  · exact ykH hown
  · have h:=(hown.lt k hk).1;exact GW.to_new (Nat.le_trans (by show w0.heap.size≤(w0.patch X0).heap.size;rw [World.size_patch];omega) h)
 have H2:=zH (H0.out.keep0 m2);have M2:=zH (M0'.out.trans m2);have Q2:=zH (Q0'.out.keep m2 id);have G2:=zH (G0'.out.keep m2 id);have HG2:=zH (HG0.out.keep m2 id);have RW:=zH R2;clear m2 R2 hown hE2 a0 a1 a2 a3 a4 a5 a6 a7 a8 a9 a10 a11 a12 a13 a14 a15 a16 a17 a18 af18 al c0 c1 c2 c3 c4 c5 c6 c7 c8 c9 c10 c11 c12 cl x0 x1 x2 x3 x4 x5 xl y0 y1 y2 yl H0 M0' Q0' G0' HG0;obtain ⟨a0,a1,a2,a3,a4,a5,a6,a7,a8,a9,a10,a11,a12,a13,a14,a15,a16,a17,a18,al⟩:=H2.out.a.blk.k19;have af18:=H2.out.a.blk.liv 18;(try go_simp);refine hK _ _ ?_;clear hK K Q';refine yac (v:=.tuple #[.slice lA nW lC,.int .i64 0]) 10 ?_;(try go_simp);refine yac (v:=.slice lA nW lC) 11 ?_;(try go_simp);refine yac (v:=.int .i64 0) 12 ?_;(try go_simp);refine yac (v:=.pointer (some ⟨b,0,none⟩)) 13 ?_;(try go_simp);refine yac (v:=.pointer (some ⟨b,10,none⟩)) 14 ?_;(try go_simp);refine yac (v:=.pointer (some ⟨b,18,none⟩)) 15 ?_;(try go_simp);refine yag 16 (fun K Q' hK=>?_);(try go_simp);refine hK _ _ ?_;clear hK K Q';refine yac (v:=.int .i64 0) 17 ?_;(try go_simp);refine wpAny_done zQ ?_ _;have hnw:wl.length/2=nW:=by rw [RW.out.len];omega
 have hnw2:wl.length%2=0:=by rw [RW.out.len];omega
 obtain ⟨A',c',e1,e2,e3, -⟩:=RW.out.form;have e4:lC=c':=by injection e1
 rw [←e4] at e2 e3;clear e1 e4 A' c'
 have R5:AcRows ⟨own2,w2⟩ t (W.takes ⟨1,oa,ob,oc,on,x,y⟩ got at_).a { p with gotA:=gA,gotC:=gC,wrA:=lA,wrC:=lC }:=by
  obtain ⟨r1,r2,r3,r4,r5,r6,r7,r8,r9,r10,r11,r12⟩:=H2.out.a.r;have hwl:(W.takes ⟨1,oa,ob,oc,on,x,y⟩ got at_).a.writes=wl:=HWL.out;exact ⟨r1,r2,r3,r4,r5,r6,r7,HG2.out,hgc,(by rw [hwl];exact RW.out.seg),(by rw [hwl];exact hnw2),(by rw [hwl,hnw];exact ⟨e2,e3⟩)⟩
 have H5:=zH (H2.out.turn (A':=(W.takes ⟨1,oa,ob,oc,on,x,y⟩ got at_).a) (p':={ p with gotA:=gA,gotC:=gC,wrA:=lA,wrC:=lC }) HP.out (g':=⟨own2,(((w2.setCell ⟨b,18,none⟩ (.slice lA nW lC)).setCell ⟨b,17,none⟩ (.slice gA got.length gC)).setCell ⟨b,3,none⟩ (zI z6 2)).setCell ⟨b,11,none⟩ (zI z6 7)⟩) (Mod.st (Mod.st (Mod.st (Mod.st (Mod.refl _ _) H2.out.a.blk.own) H2.out.a.blk.own) H2.out.a.blk.own) H2.out.a.blk.own) (by
  have h:=(((H2.out.a.blk.set 18 (.slice lA nW lC)).set 17 (.slice gA got.length gC)).set 3 (zI z6 2)).set 11 (zI z6 7)
  have hc:AcS.cells (W.takes ⟨1,oa,ob,oc,on,x,y⟩ got at_).a { p with gotA:=gA,gotC:=gC,wrA:=lA,wrC:=lC }=(((((W.a.cells p).set 18 (.slice lA nW lC)).set 17 (.slice gA got.length gC)).set 3 (zI z6 2)).set 11 (zI z6 7)):=by
   unfold AcS.cells AcW.takes AcW.withA;simp only;rw [HWL.out,hnw];rfl
  rw [hc];exact h) R5)
 have M5:=zH (show Mod (fun x=>x=t) g ⟨own2,(((w2.setCell ⟨b,18,none⟩ (.slice lA nW lC)).setCell ⟨b,17,none⟩ (.slice gA got.length gC)).setCell ⟨b,3,none⟩ (zI z6 2)).setCell ⟨b,11,none⟩ (zI z6 7)⟩ from Mod.st (Mod.st (Mod.st (Mod.st (M2.out.mono (fun _=>False.elim)) H2.out.a.blk.own) H2.out.a.blk.own) H2.out.a.blk.own) H2.out.a.blk.own);have F3:=H2.out.a.blk.live 3;have F11:=H2.out.a.blk.live 11;have F17:=H2.out.a.blk.live 17;obtain ⟨x0,x1,x2,x3,x4,x5,xl⟩:=Q2.out.k6;obtain ⟨y0,y1,y2,yl⟩:=G2.out.k3;have hbq:b≠g.w.heap.size+1:=fun e=>by have h1:=H2.out.a.blk.own;have h2:=G2.out.own;rw [e] at h1;omega
 have hqb2:g.w.heap.size+1≠b:=fun e=>hbq e.symm;clear R5 hnw hnw2 e2 e3;simp only at F3 F11 F17;go_wp2_with fail;go_ret;exact Does.of ⟨own2,_⟩ rfl rfl M5.out ⟨_,H5.out⟩
end
end Go.Proofs.YtdhjjpnajjingaaGreat
