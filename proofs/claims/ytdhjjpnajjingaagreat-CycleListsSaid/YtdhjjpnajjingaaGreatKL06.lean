import Derived.Test.YtdhjjpnajjingaaGreatKL05
import Derived.Test.YtdhjjpnajjingaaGreatChecked
import Derived.Deep.DeepCutAuto
import Derived.Laws.FloatArith
set_option linter.unusedVariables false
set_option linter.unnecessarySimpa false
set_option linter.unusedSimpArgs false
open Bool renaming true→zT,false→zU
open Go.Value renaming int→zI
open Go.IntKind renaming i64→z6
set_option maxHeartbeats 8000000
set_option maxRecDepth 100000
open Go.Proofs.Tryz
open Go.Lib renaming hid→zH
open Go.Ext renaming alloc→zA,patch→zP,drew→zD,drewN→zN,more→zM,refl→zR,setCell→zS
open Nat renaming le_refl→zL,le_add_right→zK
namespace Go
open Go.RowKit
theorem Mod.grownNew {T:Nat→Prop} {g:GW} {o:Nat→Nat} {w W w2:World} {row:Option Nat} {t1 t2:Nat} (M:Mod T g ⟨o,w⟩) (he:Ext w W) (hg:W.grownBy w2 row) (hr: ∀k,row=some k→g.w.heap.size≤k):Mod T g (((⟨o,w⟩:GW).to t1 W).to t2 w2):=by
 obtain ⟨h1,h2,h3,h4,h5⟩:=he.below;have s1:g.w.heap.size≤w.heap.size:=M.size;refine ⟨hg.os.trans (h1.trans M.os),hg.tape.trans (h2.trans M.tape),hg.output.trans (h3.trans M.output),Nat.le_trans s1 (Nat.le_trans h4 hg.size),fun k hk=>?_,fun k hk ht=>?_⟩
 · rw [GW.to_old (Nat.lt_of_lt_of_le hk (Nat.le_trans s1 h4)),GW.to_old (Nat.lt_of_lt_of_le hk s1)];exact M.own k hk
 · exact (hg.block k (Nat.lt_of_lt_of_le hk (Nat.le_trans s1 h4)) (fun e=>by have:=hr k e.symm;omega)).trans ((h5 k (Nat.lt_of_lt_of_le hk s1)).trans (M.block k hk ht))
end Go
namespace Go.Proofs.YtdhjjpnajjingaaGreat
open Go Go.RowKit
theorem yk9:(prog.info? 176).map (fun i=>(i.zero,i.size,i.bytes))=some (some (.pointer none),1,8):=zQ
theorem SpaceIn.addStock {g g':GW} {B b bt bp bk bl cs cs':Nat} {S:SpaceS} {A A':Option Addr} {cm:Cnf} {bs:List Nat} (h:SpaceIn g B b bt S bp bk bl A cs cm bs) (m:Mod (fun x=>x=B) g g') {x:Nat} {s:StockS}
 (hb:Blk g' B b 67 [.pointer (some ⟨bt,0,none⟩),.slice A' (S.stocks.length+1) cs',.bool S.forced,.int .i64 S.count,.int .i64 cm.frags,.int .i64 cm.spine,.int .i64 cm.globals,.int .i64 cm.threads,.int .i64 cm.locals,.int .i64 cm.cache,.int .i64 cm.stack,.int .i64 cm.low,.slice cm.A cm.shapes.length cm.cap,.pointer (some ⟨bp,0,none⟩),.pointer (some ⟨bk,0,none⟩),.pointer (some ⟨bl,0,none⟩)])
 (hr:Row g' B 176 1 (.slice A' (S.stocks.length+1) cs') (S.stocks.length+1) ((bs++[x]).map fun x=>Value.pointer (some ⟨x,0,none⟩))) (hs:StockAt g' (B+10+S.stocks.length) x s) (hn:S.stocks.length<16):
 SpaceIn g' B b bt { S with stocks:=S.stocks++[s] } bp bk bl A' cs' cm (bs++[x]):=by
 refine ⟨?_,?_,h.tab.keep m zo,h.pool.keep m zo,h.coil.keep m zo,h.line.keep m zo zo,h.cnf.keep m zo,h.same,by simp [h.blen],fun j y u hy hu=>?_,h.check,by simp;omega⟩
 · simp only [List.length_append,List.length_singleton];exact hb
 · simp only [List.length_append,List.length_singleton];exact hr
 · have hbl:=h.blen;by_cases hj:j<S.stocks.length
   · rw [List.getElem?_append_left zo] at hy;simp only at hu;rw [List.getElem?_append_left hj] at hu;exact (h.stock j y u hy hu).keep m zo
   · have hj2:j=S.stocks.length:=by
      have:=(List.getElem?_eq_some_iff.1 hu).1;simp at this;omega
     subst hj2;simp only at hu;rw [List.getElem?_append_right zo,hbl,Nat.sub_self] at hy;rw [List.getElem?_append_right zo,Nat.sub_self] at hu;simp at hy hu;subst hy hu;exact hs
def SpaceS.fresh (c:Cnf) (T:TabS):SpaceS:=⟨T,List.replicate c.threads.toNat ⟨[],c.cache⟩,false,0,c,⟨List.replicate c.frags.toNat true⟩,⟨c.spine,0,0,0,0⟩,[]⟩
def SpaceMade (c:Cnf) (T:TabS) (B bt:Nat) (g:GW) (e:Ending) (w':World):Prop:=
 if c.check=0∧(T.l.length:Int)=c.frags then∃own' b,e=.returned (.tuple #[.pointer (some ⟨b,0,none⟩),.int .i64 0])∧Mod (fun _=>False) g ⟨own',w'⟩∧SpaceAt ⟨own',w'⟩ B b bt (SpaceS.fresh c T)
 else e=.returned (.tuple #[.pointer none,.int .i64 (if c.check=0 then 1 else c.check)])∧Ext g.w w'
theorem yjM (c:Cnf) (T:TabS) (B bt:Nat) (g:GW) (hc:c.Ok g.w) (ht:TabAt g (B+50) bt T) (hB:100≤B):Calls prog 64 #[c.val,.pointer (some ⟨bt,0,none⟩)] g.w (SpaceMade c T B bt g):=by
 have HCK:=zH (fun w' (he:Ext g.w w')=>yar c w' (hc.ext he));have HTL:=zH (fun g' (m:Mod (fun _=>False) g g')=>yls g' (B+50) bt T (ht.keep m id));obtain ⟨i0,hi,hz0,hz1,hz2⟩:=info_parts yk9;have HC:=zH hc;have HT:=zH ht;unfold Cnf.val at HCK ⊢;obtain ⟨own0,m0,b0⟩: ∃own0,Mod (fun _=>False) g ⟨own0,g.w.alloc (.cells #[.int .i64 c.frags,.int .i64 c.spine,.int .i64 c.globals,.int .i64 c.threads,.int .i64 c.locals,.int .i64 c.cache,.int .i64 c.stack,.int .i64 c.low,.slice c.A c.shapes.length c.cap] 34)⟩∧Blk ⟨own0,g.w.alloc (.cells #[.int .i64 c.frags,.int .i64 c.spine,.int .i64 c.globals,.int .i64 c.threads,.int .i64 c.locals,.int .i64 c.cache,.int .i64 c.stack,.int .i64 c.low,.slice c.A c.shapes.length c.cap] 34)⟩ 9 g.w.heap.size 34 [.int .i64 c.frags,.int .i64 c.spine,.int .i64 c.globals,.int .i64 c.threads,.int .i64 c.locals,.int .i64 c.cache,.int .i64 c.stack,.int .i64 c.low,.slice c.A c.shapes.length c.cap]:=⟨_,Mod.ext zE 9,Blk.new g 9 34 [.int .i64 c.frags,.int .i64 c.spine,.int .i64 c.globals,.int .i64 c.threads,.int .i64 c.locals,.int .i64 c.cache,.int .i64 c.stack,.int .i64 c.low,.slice c.A c.shapes.length c.cap]⟩;have M0:=zH m0;have B0:=zH b0;clear hc ht m0 b0
 go_enter func64,ntmps64;go_wp2_with fail;refine (HCK.out _ zE).mono ?_;rintro e w1 ⟨rfl,hX⟩;obtain ⟨own1,m1⟩:=Mod.ofExt (show Ext _ w1 from hX) own0;have M1:=zH (M0.out.trans m1);have B1:=zH (B0.out.keep m1 id);clear m1 hX;obtain ⟨a0,a1,a2,a3,a4,a5,a6,a7,a8,al⟩:=B1.out.k9;by_cases hck:c.check=0
 case neg=>
  have hk1:(c.check !=0)=true:=by simp [hck]
  have HV:=zH (show¬(c.check=0∧(T.l.length:Int)=c.frags) from fun e=>hck e.1);have HW:=zH (show (if c.check=0 then 1 else c.check)=c.check from if_neg hck);clear hck;go_wp2_with fail;go_ret2;unfold SpaceMade;rw [if_neg HV.out];exact ⟨by rw [HW.out];rfl,M1.out.toExt⟩
 case pos=>
  have hk1:(c.check !=0)=false:=by simp [hck]
  have hrg:=Cnf.ranged (Cnf.check_zero hck).1;obtain ⟨⟨r0,r1⟩,⟨r2,r3⟩,⟨r4,r5⟩,⟨r6,r7⟩, -,⟨r8,r9⟩, -, -⟩:=hrg
  have hshp:c.shapes.length≤8:=by
   have:=(Cnf.check_zero hck).2.2.1;simp [within] at this;omega
  have HCKZ:=zH hck;have HTX:=zH (fun X=>yaO (HTL.out ((⟨own1,w1⟩:GW).pt X) (Mod.pt M1.out X)));have hT1024:=HT.out.len;by_cases hfr:(T.l.length:Int)=c.frags
  case neg=>
   have HV:=zH (show¬(c.check=0∧(T.l.length:Int)=c.frags) from fun e=>hfr e.2);have HW:=zH (show (if c.check=0 then (1:Int) else c.check)=1 from if_pos hck);have hk2:((T.l.length:Int) !=c.frags)=true:=by simp [hfr]
   clear hck hfr;go_wp2_with fail;refine yab [zT,zT,zT,zT,zT] 0 5 ?_;intro X00;simp only [pickOps];repeat (go_big_quiet_step ((go_at_call 120;exact Calls.added (HTX.out _))))
   refine wpQuiet_nil (fun X0=>?_);clear X00;refine yaa zQ (fun X0'=>?_) _;go_wp2_with fail;go_ret2;unfold SpaceMade;rw [if_neg HV.out];exact ⟨by rw [HW.out];rfl,M1.out.toExt.trans zE⟩
  case pos=>
   have HV:=zH (show c.check=0∧(T.l.length:Int)=c.frags from ⟨hck,hfr⟩);have hk2:((T.l.length:Int) !=c.frags)=false:=by simp [hfr]
   have HPN:=zH (fun g'=>(show Calls prog 121 #[.int .i64 c.frags] g'.w (fun e w'=> ∃own' b,e=.returned (.tuple #[.pointer (some ⟨b,0,none⟩),.int .i64 0])∧Mod (fun _=>False) g' ⟨own',w'⟩∧PoolAt ⟨own',w'⟩ (B+1) b ⟨List.replicate c.frags.toNat true⟩) from (ykP c.frags (B+1) g').mono fun e w' hh=>by
    unfold PoolMade at hh;rw [if_pos ⟨zo,zo⟩] at hh;exact hh))
   have HKN:=zH (fun g'=>(show Calls prog 122 #[.int .i64 c.spine] g'.w (fun e w'=> ∃own' b,e=.returned (.tuple #[.pointer (some ⟨b,0,none⟩),.int .i64 0])∧Mod (fun _=>False) g' ⟨own',w'⟩∧CoilAt ⟨own',w'⟩ (B+2) b ⟨c.spine,0,0,0,0⟩) from (ykb c.spine (B+2) g').mono fun e w' hh=>by
    unfold CoilMade at hh;rw [if_pos ⟨zo,zo⟩] at hh;exact hh))
   have HCP:=zH (fun g' (m:Mod (fun _=>False) g g')=>ybC c (B+5) g' (HC.out.ext m.toExt) zo);unfold Cnf.val at HCP;clear hck hfr;go_wp2_with fail;refine yab [zT,zT,zT,zT,zT] 0 5 ?_;intro X00;simp only [pickOps];repeat (go_big_quiet_step ((go_at_call 120;exact Calls.added (HTX.out _))))
   refine wpQuiet_nil (fun X0=>?_);clear X00;refine yaa zQ (fun X0'=>?_) _;go_wp2_with fail;refine (HPN.out ((⟨own1,w1⟩:GW).pt _)).mono ?_;rintro e w2 ⟨own2,bp,rfl,m2,p2⟩;have M2:=zH ((Mod.pt M1.out _).trans m2);have B2:=zH ((B1.out.pt _).keep m2 id);have P2:=zH p2;clear m2 p2 a0 a1 a2 a3 a4 a5 a6 a7 a8 al;obtain ⟨a0,a1,a2,a3,a4,a5,a6,a7,a8,al⟩:=B2.out.k9;go_wp2_with fail;refine (HKN.out ⟨own2,w2⟩).mono ?_;rintro e w3 ⟨own3,bk,rfl,m3,k3⟩;have M3:=zH (M2.out.trans m3);have B3:=zH (B2.out.keep m3 id);have P3:=zH (P2.out.keep m3 id);have K3:=zH k3;clear m3 k3 a0 a1 a2 a3 a4 a5 a6 a7 a8 al;obtain ⟨a0,a1,a2,a3,a4,a5,a6,a7,a8,al⟩:=B3.out.k9;go_wp2_with fail;refine (HCP.out ⟨own3,w3⟩ M3.out).mono ?_;rintro e w4 ⟨c',rfl,hsm,hca,hX⟩;unfold Cnf.val;obtain ⟨own4,m4,hca⟩: ∃own4,Mod (fun _=>False) ⟨own3,w3⟩ ⟨own4,w4⟩∧CnfAt ⟨own4,w4⟩ (B+5) c':=⟨_,Mod.ext (g:=⟨own3,w3⟩) hX (B+5),hca⟩;have M4:=zH (M3.out.trans m4);have B4:=zH (B3.out.keep m4 id);have P4:=zH (P3.out.keep m4 id);have K4:=zH (K3.out.keep m4 id);have C4:=zH hca;have HSM:=zH hsm;clear m4 hca hX hsm a0 a1 a2 a3 a4 a5 a6 a7 a8 al;go_wp2_with fail;refine (ykw (B+3) ⟨own4,w4⟩).mono ?_;rintro e w5 ⟨bl,rfl,hX,hl5⟩
   obtain ⟨own5,m5,hl5⟩: ∃own5,Mod (fun _=>False) ⟨own4,w4⟩ ⟨own5,w5⟩∧LineAt ⟨own5,w5⟩ (B+3) bl []:=⟨_,Mod.ext (g:=⟨own4,w4⟩) hX (B+3),hl5⟩;have M5:=zH (M4.out.trans m5);have B5:=zH (B4.out.keep m5 id);have P5:=zH (P4.out.keep m5 id);have K5:=zH (K4.out.keep m5 id);have C5:=zH (C4.out.keep m5 id);have L5:=zH hl5;clear m5 hl5 hX;obtain ⟨a0,a1,a2,a3,a4,a5,a6,a7,a8,al⟩:=B5.out.k9;go_wp2_with fail
   obtain ⟨own6,m6,hsp,hb6⟩: ∃own6,Mod (fun _=>False) g ⟨own6,w5.alloc (.cells #[.pointer (some ⟨bt,0,none⟩),.slice none 0 0,.bool false,.int .i64 0,.int .i64 c'.frags,.int .i64 c'.spine,.int .i64 c'.globals,.int .i64 c'.threads,.int .i64 c'.locals,.int .i64 c'.cache,.int .i64 c'.stack,.int .i64 c'.low,.slice c'.A c'.shapes.length c'.cap,.pointer (some ⟨bp,0,none⟩),.pointer (some ⟨bk,0,none⟩),.pointer (some ⟨bl,0,none⟩)] 67)⟩∧SpaceIn ⟨own6,w5.alloc (.cells #[.pointer (some ⟨bt,0,none⟩),.slice none 0 0,.bool false,.int .i64 0,.int .i64 c'.frags,.int .i64 c'.spine,.int .i64 c'.globals,.int .i64 c'.threads,.int .i64 c'.locals,.int .i64 c'.cache,.int .i64 c'.stack,.int .i64 c'.low,.slice c'.A c'.shapes.length c'.cap,.pointer (some ⟨bp,0,none⟩),.pointer (some ⟨bk,0,none⟩),.pointer (some ⟨bl,0,none⟩)] 67)⟩ B w5.heap.size bt { SpaceS.fresh c T with stocks:=[] } bp bk bl none 0 c' []∧Blk ⟨own6,w5.alloc (.cells #[.pointer (some ⟨bt,0,none⟩),.slice none 0 0,.bool false,.int .i64 0,.int .i64 c'.frags,.int .i64 c'.spine,.int .i64 c'.globals,.int .i64 c'.threads,.int .i64 c'.locals,.int .i64 c'.cache,.int .i64 c'.stack,.int .i64 c'.low,.slice c'.A c'.shapes.length c'.cap,.pointer (some ⟨bp,0,none⟩),.pointer (some ⟨bk,0,none⟩),.pointer (some ⟨bl,0,none⟩)] 67)⟩ 9 g.w.heap.size 34 [.int .i64 c.frags,.int .i64 c.spine,.int .i64 c.globals,.int .i64 c.threads,.int .i64 c.locals,.int .i64 c.cache,.int .i64 c.stack,.int .i64 c.low,.slice c.A c.shapes.length c.cap]:=by
    have m:=Mod.ext (T:=fun _=>False) (g:=⟨own5,w5⟩) (show Ext w5 (w5.alloc (.cells #[.pointer (some ⟨bt,0,none⟩),.slice none 0 0,.bool false,.int .i64 0,.int .i64 c'.frags,.int .i64 c'.spine,.int .i64 c'.globals,.int .i64 c'.threads,.int .i64 c'.locals,.int .i64 c'.cache,.int .i64 c'.stack,.int .i64 c'.low,.slice c'.A c'.shapes.length c'.cap,.pointer (some ⟨bp,0,none⟩),.pointer (some ⟨bk,0,none⟩),.pointer (some ⟨bl,0,none⟩)] 67)) from zE) B;exact ⟨_,M5.out.trans m,⟨Blk.new (⟨own5,w5⟩:GW) B 67 [.pointer (some ⟨bt,0,none⟩),.slice none 0 0,.bool false,.int .i64 0,.int .i64 c'.frags,.int .i64 c'.spine,.int .i64 c'.globals,.int .i64 c'.threads,.int .i64 c'.locals,.int .i64 c'.cache,.int .i64 c'.stack,.int .i64 c'.low,.slice c'.A c'.shapes.length c'.cap,.pointer (some ⟨bp,0,none⟩),.pointer (some ⟨bk,0,none⟩),.pointer (some ⟨bl,0,none⟩)],Row.nil _ _ _ _,HT.out.keep (M5.out.trans m) id,P5.out.keep m id,K5.out.keep m id,L5.out.keep m id id,C5.out.keep m id,HSM.out,rfl,fun j x s hx=>by simp at hx,HCKZ.out,by simp⟩,B5.out.keep m id⟩
   have hbg:g.w.heap.size≤w5.heap.size:=M5.out.size;generalize w5.heap.size=b at *;have HBG:=zH hbg;clear hbg;generalize w5.alloc (.cells #[.pointer (some ⟨bt,0,none⟩),.slice none 0 0,.bool false,.int .i64 0,.int .i64 c'.frags,.int .i64 c'.spine,.int .i64 c'.globals,.int .i64 c'.threads,.int .i64 c'.locals,.int .i64 c'.cache,.int .i64 c'.stack,.int .i64 c'.low,.slice c'.A c'.shapes.length c'.cap,.pointer (some ⟨bp,0,none⟩),.pointer (some ⟨bk,0,none⟩),.pointer (some ⟨bl,0,none⟩)] 67)=W6 at *;have M6:=zH m6;have S6:=zH hsp;have B6:=zH hb6;clear m6 hsp hb6 a0 a1 a2 a3 a4 a5 a6 a7 a8 al M0 B0 M1 B1 M2 B2 P2 M3 B3 P3 K3 M4 B4 P4 K4 C4 M5 B5 P5 K5 C5 L5;obtain ⟨tn,htn⟩:=Int.eq_ofNat_of_zero_le (show 0≤c.threads by omega);have HTN:=zH htn;rw [htn] at r6 r7 ⊢;clear htn
   go_loopw [52] (fun i wr=> ∃(k:Nat) (own:Nat→Nat) (A:Option Addr) (cs:Nat) (bs:List Nat),k≤tn∧i=.int .i64 k∧Hid (Mod (fun _=>False) g ⟨own,wr⟩)∧Hid (SpaceIn ⟨own,wr⟩ B b bt { SpaceS.fresh c T with stocks:=List.replicate k ⟨[],c.cache⟩ } bp bk bl A cs c' bs)∧Hid (Blk ⟨own,wr⟩ 9 g.w.heap.size 34 [.int .i64 c.frags,.int .i64 c.spine,.int .i64 c.globals,.int .i64 c.threads,.int .i64 c.locals,.int .i64 c.cache,.int .i64 c.stack,.int .i64 c.low,.slice c.A c.shapes.length c.cap])∧Hid (∀y,(Value.slice A k cs).ownBlock=some y→g.w.heap.size≤y)) (fun i _=>tn-(intOf i).toNat)
   case atStart=>exact ⟨0,own6,none,0,[],Nat.zero_le _,rfl,M6,S6,B6,zH (fun y hy=>by cases hy)⟩
   case round=>
    obtain ⟨k,own,A,cs,bs,hk,rfl,M,S,Bx,HNEW⟩:=hrel;clear M6 S6 B6;by_cases hlt:k<tn
    · skip
      obtain ⟨a0,a1,a2,a3,a4,a5,a6,a7,a8,al⟩:=Bx.out.k9;go_wp2_with fail;refine (yjQ c.cache (B+10+k) ⟨own,wr⟩ ⟨r8,r9⟩).mono ?_;rintro e w1 ⟨x,rfl,m1,s1,hX,hx1,hx2⟩;obtain ⟨own1,m1,s1⟩: ∃own1,Mod (fun _=>False) ⟨own,wr⟩ ⟨own1,w1⟩∧StockAt ⟨own1,w1⟩ (B+10+k) x ⟨[],c.cache⟩:=⟨_,m1,s1⟩;have M1:=zH (M.out.trans m1);have S1:=zH (S.out.keep m1 (fun x hx=>hx.elim));have X1:=zH (Bx.out.keep m1 id);have T1:=zH s1;have R1:=zH (show Row ⟨own1,w1⟩ B 176 1 (.slice A k cs) k (bs.map fun x=>Value.pointer (some ⟨x,0,none⟩)) by have:=S1.out.row;simpa using this);have K1:=zH (show Blk ⟨own1,w1⟩ B b 67 [.pointer (some ⟨bt,0,none⟩),.slice A k cs,.bool false,.int .i64 0,.int .i64 c'.frags,.int .i64 c'.spine,.int .i64 c'.globals,.int .i64 c'.threads,.int .i64 c'.locals,.int .i64 c'.cache,.int .i64 c'.stack,.int .i64 c'.low,.slice c'.A c'.shapes.length c'.cap,.pointer (some ⟨bp,0,none⟩),.pointer (some ⟨bk,0,none⟩),.pointer (some ⟨bl,0,none⟩)] by have:=S1.out.blk;simpa [SpaceS.fresh] using this);clear m1 s1 hX hx1 hx2 a0 a1 a2 a3 a4 a5 a6 a7 a8 al;obtain ⟨a0,a1,a2,a3,a4,a5,a6,a7,a8,a9,a10,a11,a12,a13,a14,a15,al⟩:=K1.out.k16;have af1:=K1.out.liv 1
      have hE1:=zH (show Ext w1 (w1.alloc (.cells #[.pointer (some ⟨x,0,none⟩)] 176)) from zE)
      go_wp2_with (at_builtin;refine wpList_append_own_at _ rfl (.tmp 67) (.tmp 69) 60 rfl 0 176 i0 (.pointer none) 1 8 Tryz.underlying60 hi hz0 hz1 hz2 rfl zd (.slice A k cs) k (bs.map fun x=>Value.pointer (some ⟨x,0,none⟩)) rfl (R1.out.row.alloc _) ⟨w1.heap.size,0,none⟩ 1 1 [.pointer (some ⟨x,0,none⟩)] rfl rfl (cell_one_new _ _ _) (by intro u hu;simp at hu;subst hu;rfl) (by unfold maxLen;omega) zo (Nat.zero_le _) ?_;intro v2 w2 hown hgrow hnil hat;obtain ⟨A2,c2,rfl⟩:=yak hown;obtain ⟨own2,n2,m2,k2,r2,hnew2⟩: ∃own2,Mod (fun _=>False) g ⟨own2,w2⟩∧Mod (fun y=>y=B) ⟨own1,w1⟩ ⟨own2,w2⟩∧Blk ⟨own2,w2⟩ B b 67 [.pointer (some ⟨bt,0,none⟩),.slice A k cs,.bool false,.int .i64 0,.int .i64 c'.frags,.int .i64 c'.spine,.int .i64 c'.globals,.int .i64 c'.threads,.int .i64 c'.locals,.int .i64 c'.cache,.int .i64 c'.stack,.int .i64 c'.low,.slice c'.A c'.shapes.length c'.cap,.pointer (some ⟨bp,0,none⟩),.pointer (some ⟨bk,0,none⟩),.pointer (some ⟨bl,0,none⟩)]∧Row ⟨own2,w2⟩ B 176 1 (.slice A2 (k+1) c2) (k+1) ((bs++[x]).map fun x=>Value.pointer (some ⟨x,0,none⟩))∧(∀y,(Value.slice A2 (k+1) c2).ownBlock=some y→g.w.heap.size≤y):=⟨_,M1.out.grownNew (t1:=9) (t2:=B) hE1.out hgrow HNEW.out,(Mod.ext (T:=fun y=>y=B) (g:=⟨own1,w1⟩) hE1.out 9).trans (Mod.grown hgrow B (fun y hy hl=>(R1.out.ext hE1.out 9).own y hy)),(K1.out.ext hE1.out 9).grown (t':=B) hgrow (fun y hy=>R1.out.ne_type K1.out zd hy),((R1.out.ext hE1.out 9).grown hown hat).weak rfl (by simp),fun y hy=>by rcases hat with e|e;exact HNEW.out y (by rw [←e];exact hy);(rw [e] at hy;injection hy with hy;rw [←hy];exact Nat.le_trans M1.out.size hE1.out.size)⟩;have N2:=zH n2;have M2:=zH m2;have K2:=zH k2;have R2:=zH r2;have HN2:=zH hnew2;have d1:=K2.out.cell (i:=1) rfl;have df1:=K2.out.live 1;have dl:=K2.out.lt;simp only [GW.to] at d1 df1 dl;clear hown hgrow hnil hat n2 m2 k2 r2 hnew2 a0 a1 a2 a3 a4 a5 a6 a7 a8 a9 a10 a11 a12 a13 a14 a15 af1 al)
      go_roundw
      case rel=>
       have q1:Mod (fun y=>y=B) ⟨own1,w1⟩ ⟨own2,_⟩:=Mod.st M2.out (b:=b) (i:=1) (v:=.slice A2 (k+1) c2) K2.out.own;refine ⟨k+1,own2,A2,c2,bs++[x],zo,by go_num,zH (Mod.stn N2.out HBG.out),zH ?_,zH (X1.out.keep q1 zo),HN2⟩
       · have:=SpaceIn.addStock S1.out q1 (x:=x) (s:=⟨[],c.cache⟩) (A':=A2) (cs':=c2) (by simp only [List.length_replicate,SpaceS.fresh];exact K2.out.set 1 (.slice A2 (k+1) c2)) (by simp only [List.length_replicate];exact R2.out.setOther 1 (.slice A2 (k+1) c2) (fun y hy=>R2.out.ne_type K2.out zd hy)) (by simp only [List.length_replicate];exact T1.out.keep q1 zo) (by simp;omega);rw [List.replicate_succ'];exact this
      case measure=>simp [intOf];omega
    · obtain rfl:k=tn:=zo;go_wp2_with fail;go_ret2;unfold SpaceMade;rw [if_pos HV.out]
      have HF:SpaceIn ⟨own,wr⟩ B b bt (SpaceS.fresh c T) bp bk bl A cs c' bs:=by
       have:=S.out;unfold SpaceS.fresh at this ⊢;rw [HTN.out,Int.toNat_natCast];exact this
      exact ⟨own,b,rfl,M.out,_,_,_,_,_,_,_,HF⟩
structure MemAt (g:GW) (t b:Nat) (m:MemS):Prop where
 ex: ∃A c,Blk g t b 164 [.slice A m.l.length c,.int .i64 m.count]∧Row g t 24 1 (.slice A m.l.length c) m.l.length (m.l.map cx)
 len:m.l.length≤1048576
theorem MemAt.keep {S:Nat→Prop} {g g':GW} {t b:Nat} {m:MemS} (h:MemAt g t b m) (d:Mod S g g') (hs: ¬S t):MemAt g' t b m:=by
 obtain ⟨A,c,h1,h2⟩:=h.ex;exact ⟨⟨A,c,h1.keep d hs,h2.keep d hs⟩,h.len⟩
theorem MemAt.pt {g:GW} {t b:Nat} {m:MemS} (h:MemAt g t b m) (X:Extra):MemAt (g.pt X) t b m:=h.keep (S:=fun _=>False) (Mod.pt (Mod.refl _ _) X) id
theorem ybw (b:Nat) (i:Int) (A:Option Addr) (n c:Nat) (w:World) (h0:w.cell? ⟨b,0,none⟩=some (.slice A n c)):
 Calls prog 126 #[.pointer (some ⟨b,0,none⟩),.int .i64 i] w (fun e w'=>e=.returned (.bool (inB i n))∧w=w'):=by
 by_cases hi:0≤i
 · by_cases hl:i<n
   · have HV:=zH (show inB i n=true by unfold inB;simp;omega);go_enter func126,ntmps126;go_wp2_with fail;go_ret;exact ⟨by rw [HV.out];try rfl,rfl⟩
   · have HV:=zH (show inB i n=false from ygA zo);go_enter func126,ntmps126;go_wp2_with fail;go_ret;exact ⟨by rw [HV.out];try rfl,rfl⟩
 · have HV:=zH (show inB i n=false from ygB zo);go_enter func126,ntmps126;go_wp2_with fail;go_ret;exact ⟨by rw [HV.out];try rfl,rfl⟩
theorem MemAt.word {g:GW} {t b:Nat} {m:MemS} (h:MemAt g t b m) {k:Nat} (hk:k<m.l.length): ∃r c x,m.l[k]?=some x∧Blk g t b 164 [.slice (some ⟨r,0,none⟩) m.l.length c,.int .i64 m.count]∧
 Row g t 24 1 (.slice (some ⟨r,0,none⟩) m.l.length c) m.l.length (m.l.map cx)∧r<g.w.heap.size∧g.w.cell? ⟨r,k,none⟩=some (.complex .f64 x.1 x.2)∧g.w.frozen? ⟨r,k,none⟩=false∧b≠r:=by
 obtain ⟨A,c,hb,hr⟩:=h.ex;obtain ⟨r,rfl,hl,ho,hc,hf⟩:=hr.block zo;have hx:=List.getElem?_eq_getElem hk;refine ⟨r,c,_,hx,hb,hr,hl,hc _ _ (by rw [List.getElem?_map,hx];rfl),hf _,hr.ne_type hb zd rfl⟩
theorem MemS.peek_in {m:MemS} {k:Nat} {x:Nat × Nat} (h:m.l[k]?=some x):m.peek k=x:=by
 unfold MemS.peek;rw [if_pos (yb5 (List.getElem?_eq_some_iff.1 h).1),Int.toNat_natCast,List.getD_eq_getElem?_getD,h];rfl
theorem MemS.peek_out {m:MemS} {a:Int} (h:inB a m.l.length=false):m.peek a=(0,0):=by unfold MemS.peek;rw [h];rfl
theorem MemAt.ticked {g:GW} {t b:Nat} {m:MemS} (h:MemAt g t b m):MemAt ⟨g.own,g.w.setCell ⟨b,1,none⟩ (zI z6 (m.count+1))⟩ t b m.tick:=by
 obtain ⟨A,c,hb,hr⟩:=h.ex;exact ⟨⟨A,c,hb.set 1 _,hr.setOther _ _ (fun k hk=>hr.ne_type hb zd hk)⟩,h.len⟩
theorem MemAt.laid {g:GW} {t b r c k p q:Nat} {m:MemS} (h:MemAt g t b m) (hk:k<m.l.length) (hb:Blk g t b 164 [.slice (some ⟨r,0,none⟩) m.l.length c,.int .i64 m.count]):MemAt ⟨g.own,g.w.setCell ⟨r,k,none⟩ (.complex .f64 p q)⟩ t b (m.lay k (p,q)):=by
 obtain ⟨A',c',hb',hr⟩:=h.ex;have e:=hb'.same hb;injection e with e _;injection e with e1 _ e2;subst e1 e2;have e2:m.lay k (p,q)={ m with l:=m.l.set k (p,q) }:=by unfold MemS.lay;rw [if_pos (yb5 hk),Int.toNat_natCast]
 rw [e2];refine ⟨⟨some ⟨r,0,none⟩,c',?_,?_⟩,by simpa using h.len⟩
 · simp only [List.length_set];exact hb'.setOther _ _ (fun e=>hr.ne_type hb' zd rfl e.symm)
 · simp only [List.length_set];have:=hr.store k (.complex .f64 p q);rw [List.map_set];exact this
theorem MemS.lay_out {m:MemS} {a:Int} {x:Nat × Nat} (h:inB a m.l.length=false):m.lay a x=m:=by unfold MemS.lay;rw [h];rfl
theorem ybe (g:GW) (t b:Nat) (a:Int) (m:MemS) (h:MemAt g t b m) (hc:0≤m.count∧m.count≤1099511627776):
 Calls prog 90 #[.pointer (some ⟨b,0,none⟩),.int .i64 a] g.w (Does (.tuple #[.complex .f64 (m.peek a).1 (m.peek a).2,.int .i64 (if inB a m.l.length then 0 else 1)]) g (fun x=>x=t) (fun g'=>MemAt g' t b m.tick)):=by
 obtain ⟨hc0,hc1⟩:=hc;cases hin:inB a m.l.length
 · have HV:=zH (MemS.peek_out hin);obtain ⟨A,c,hb,hr⟩:=h.ex;have HO:=zH hb.own;have H:=zH h.ticked;have c0:=hb.cell (i:=0) rfl;have c1:=hb.cell (i:=1) rfl;have f1:=hb.live 1;have hbl:=hb.lt;clear hb hr h;go_enter func90,ntmps90;go_wp2_with fail;refine (ybw b a A m.l.length c _ (by go_simp)).mono ?_;rw [hin];rintro e w1 ⟨rfl,rfl⟩;go_wp2_with fail;go_ret2;exact Does.of ⟨g.own,_⟩ rfl (by rw [HV.out];try rfl) (Mod.st Mod.self HO.out) H.out
 · obtain ⟨k,rfl,hk⟩:=yam hin;obtain ⟨r,c,⟨p,q⟩,hx,hb, -,hrl,k0, -,hne⟩:=h.word hk;have HV:=zH (MemS.peek_in hx);have HO:=zH hb.own;have H:=zH h.ticked;have c0:=hb.cell (i:=0) rfl;have c1:=hb.cell (i:=1) rfl;have f1:=hb.live 1;have hbl:=hb.lt;have hlen:=h.len;simp only at k0;clear hb h hx;go_enter func90,ntmps90;go_wp2_with fail;refine (ybw b k (some ⟨r,0,none⟩) m.l.length c _ (by go_simp)).mono ?_;rw [hin];rintro e w1 ⟨rfl,rfl⟩;go_wp2_with fail;go_ret2;exact Does.of ⟨g.own,_⟩ rfl (by rw [HV.out];try rfl) (Mod.st Mod.self HO.out) H.out
theorem yeq (g:GW) (t b:Nat) (a:Int) (p q:Nat) (m:MemS) (h:MemAt g t b m) (hc:0≤m.count∧m.count≤1099511627776):
 Calls prog 147 #[.pointer (some ⟨b,0,none⟩),.int .i64 a,.complex .f64 p q] g.w (Does (zI z6 (if inB a m.l.length then 0 else 1)) g (fun x=>x=t) (fun g'=>MemAt g' t b (m.tick.lay a (p,q)))):=by
 obtain ⟨hc0,hc1⟩:=hc;cases hin:inB a m.l.length
 · have HV:=zH (MemS.lay_out (m:=m.tick) (x:=(p,q)) hin);obtain ⟨A,c,hb,hr⟩:=h.ex;have HO:=zH hb.own;have H:=zH h.ticked;have c0:=hb.cell (i:=0) rfl;have c1:=hb.cell (i:=1) rfl;have f1:=hb.live 1;have hbl:=hb.lt;clear hb hr h;go_enter func147,ntmps147;go_wp2_with fail;refine (ybw b a A m.l.length c _ (by go_simp)).mono ?_;rw [hin];rintro e w1 ⟨rfl,rfl⟩;go_wp2_with fail;go_ret;exact Does.of ⟨g.own,_⟩ rfl rfl (Mod.st Mod.self HO.out) (by rw [HV.out];exact H.out)
 · obtain ⟨k,rfl,hk⟩:=yam hin;obtain ⟨r,c,⟨p',q'⟩,hx,hb,hr,hrl,k0,kf,hne⟩:=h.word hk;have HO:=zH hb.own;have HR:=zH (hr.own r rfl);have H:=zH (MemAt.laid (p:=p) (q:=q) h.ticked hk (hb.set 1 _));have hne':r≠b:=fun e=>hne e.symm;have c0:=hb.cell (i:=0) rfl;have c1:=hb.cell (i:=1) rfl;have f1:=hb.live 1;have hbl:=hb.lt;have hlen:=h.len;simp only at k0;clear hb h hx hr;go_enter func147,ntmps147;go_wp2_with fail;refine (ybw b k (some ⟨r,0,none⟩) m.l.length c _ (by go_simp)).mono ?_;rw [hin];rintro e w1 ⟨rfl,rfl⟩;go_wp2_with fail;go_ret;exact Does.of ⟨g.own,_⟩ rfl rfl (Mod.st (Mod.st Mod.self HO.out) HR.out) H.out
theorem yld (g:GW) (t b:Nat) (a:Int) (p q:Nat) (m:MemS) (h:MemAt g t b m):
 Calls prog 67 #[.pointer (some ⟨b,0,none⟩),.int .i64 a,.complex .f64 p q] g.w (Does (.tuple #[]) g (fun x=>x=t) (fun g'=>MemAt g' t b (m.lay a (p,q)))):=by
 cases hin:inB a m.l.length
 · have HV:=zH (MemS.lay_out (x:=(p,q)) hin);obtain ⟨A,c,hb,hr⟩:=h.ex;have H:=zH h;have c0:=hb.cell (i:=0) rfl;clear hb hr h;go_enter func67,ntmps67;go_wp2_with fail;refine (ybw _ _ _ _ _ _ c0).mono ?_;rintro e w1 ⟨rfl,rfl⟩;go_wp2_with fail;refine bodyPost_end (results_none rfl _ _ _) rfl (Does.of g rfl rfl (Mod.refl _ _) (by rw [HV.out];exact H.out))
 · obtain ⟨k,rfl,hk⟩:=yam hin;obtain ⟨r,c,⟨p',q'⟩,hx,hb,hr,hrl,k0,kf,hne⟩:=h.word hk;have HR:=zH (hr.own r rfl);have H:=zH (MemAt.laid (p:=p) (q:=q) h hk hb);have c0:=hb.cell (i:=0) rfl;have hlen:=h.len;simp only at k0;clear hb h hx hr;go_enter func67,ntmps67;go_wp2_with fail;refine (ybw _ _ _ _ _ _ c0).mono ?_;rintro e w1 ⟨rfl,rfl⟩;go_wp2_with fail;refine bodyPost_end (results_none rfl _ _ _) rfl (Does.of ⟨g.own,_⟩ rfl rfl (Mod.st Mod.self HR.out) H.out)
theorem yms:(prog.info? 24).map (fun i=>(i.zero,i.size,i.bytes))=some (some (.complex .f64 0 0),1,16):=zQ
def MemMade (n:Int) (t:Nat) (g:GW) (e:Ending) (w':World):Prop:=
 if 0≤n∧n≤1048576 then∃own' b,e=.returned (.tuple #[.pointer (some ⟨b,0,none⟩),.int .i64 0])∧Mod (fun _=>False) g ⟨own',w'⟩∧MemAt ⟨own',w'⟩ t b ⟨List.replicate n.toNat (0,0),0⟩
 else e=.returned (.tuple #[.pointer none,.int .i64 1])∧Ext g.w w'
theorem yle (n:Int) (t:Nat) (g:GW):Calls prog 61 #[.int .i64 n] g.w (MemMade n t g):=by
 obtain ⟨i0,hi,hz0,hz1,hz2⟩:=info_parts yms;by_cases h0:n<0
 · have HV:=zH (show¬(0≤n∧n≤1048576) by omega);go_enter func61,ntmps61;go_wp2_with fail;go_ret2;unfold MemMade;rw [if_neg HV.out];exact ⟨rfl,Ext.refl _⟩
 by_cases h1:1048576<n
 · have HV:=zH (show¬(0≤n∧n≤1048576) by omega);go_enter func61,ntmps61;go_wp2_with fail;go_ret2;unfold MemMade;rw [if_neg HV.out];exact ⟨rfl,Ext.refl _⟩
 obtain ⟨k,rfl⟩:=Int.eq_ofNat_of_zero_le (show 0≤n by omega);have HV:=zH (show (0:Int)≤k∧(k:Int)≤1048576 by omega);have hmk:=ybg (P:=prog) 162 24 i0 _ 1 16 Tryz.underlying162 hi hz0 hz1 hz2 k zo zo;simp only [Value.cells,yb8] at hmk;have HK:=zH (show k≤1048576 by omega);go_enter func61,ntmps61;go_wp2_with fail;go_ret2;unfold MemMade;rw [if_pos HV.out];obtain ⟨q1,q2⟩:=yaA g.w (.cells (List.replicate k (Value.complex .f64 0 0)).toArray 24) (.cells #[.slice (some ⟨g.w.heap.size,0,none⟩) k k,.int .i64 0] 164);refine ⟨_,_,rfl,Mod.ext (show Ext g.w _ from zE) t,⟨⟨some ⟨g.w.heap.size,0,none⟩,k,?_,?_⟩,by simpa using HK.out⟩⟩
 · simp only [Int.toNat_natCast,List.length_replicate];exact Blk.made q2 zo
 · simp only [Int.toNat_natCast,List.length_replicate,List.map_replicate];exact Row.made q1 (Nat.le_refl _) (by simp) (by have:=HK.out;omega)
end Go.Proofs.YtdhjjpnajjingaaGreat
namespace Go
open Go.RowKit
theorem Mod.nothing {T:Nat→Prop} {g g':GW} (h:Mod T g g') (hn: ∀k,k<g.w.heap.size→ ¬T (g.own k)):Mod (fun _=>False) g g':=⟨h.os,h.tape,h.output,h.size,h.own,fun k hk _=>h.block k hk (hn k hk)⟩
structure CoreS where
 c:Cnf
 mem:MemS
 sp:SpaceS
 hand:HandS
 pile:PileS
 n:Int
end Go
namespace Go.Proofs.YtdhjjpnajjingaaGreat
open Go Go.RowKit
theorem SpaceAt.keep {g g':GW} {B b bt:Nat} {S:SpaceS} {T:Nat→Prop} (h:SpaceAt g B b bt S) (m:Mod T g g') (hT: ∀x,T x→x<B∨B+60≤x):SpaceAt g' B b bt S:=by
 obtain ⟨bp,bk,bl,A,cs,cm,bs,h⟩:=h;exact ⟨bp,bk,bl,A,cs,cm,bs,h.keep m hT⟩
structure CoreIn (g:GW) (B b:Nat) (K:CoreS) (bm bs bt bp bsp bh:Nat) (cm:Cnf):Prop where
 blk:Blk g (B+64) b 51 [.int .i64 cm.frags,.int .i64 cm.spine,.int .i64 cm.globals,.int .i64 cm.threads,.int .i64 cm.locals,.int .i64 cm.cache,.int .i64 cm.stack,.int .i64 cm.low,.slice cm.A cm.shapes.length cm.cap,.pointer (some ⟨bm,0,none⟩),.pointer (some ⟨bs,0,none⟩),.pointer (some ⟨bsp,0,none⟩),.pointer (some ⟨bh,0,none⟩)]
 mem:MemAt g (B+62) bm K.mem
 sh:Blk g (B+60) bs 57 [.pointer (some ⟨bt,0,none⟩),.pointer (some ⟨bp,0,none⟩),.int .i64 K.n]
 pile:PileAt g (B+61) bp K.pile
 sp:SpaceAt g B bsp bt K.sp
 hand:HandAt g (B+63) bh K.hand
 cnf:CnfAt g (B+65) cm
 same:cm.Same K.c
def CoreAt (g:GW) (B b:Nat) (K:CoreS):Prop:= ∃bm bs bt bp bsp bh cm,CoreIn g B b K bm bs bt bp bsp bh cm
theorem CoreIn.keep {g g':GW} {B b bm bs bt bp bsp bh:Nat} {K:CoreS} {cm:Cnf} {T:Nat→Prop} (h:CoreIn g B b K bm bs bt bp bsp bh cm) (m:Mod T g g') (hT: ∀x,T x→x<B∨B+70≤x):CoreIn g' B b K bm bs bt bp bsp bh cm:=by
 have q: ∀k,k<70→ ¬T (B+k):=fun k hk ht=>by have:=hT _ ht;omega
 exact ⟨h.blk.keep m (q 64 zo),h.mem.keep m (q 62 zo),h.sh.keep m (q 60 zo),h.pile.keep m (q 61 zo),h.sp.keep m (fun x hx=>by have:=hT x hx;omega),h.hand.keep m (q 63 zo),h.cnf.keep m (q 65 zo),h.same⟩
def memLaid (c:Cnf) (k:Nat):MemS:=(List.range k).foldl (fun m j=>m.lay (cAtV c 3 (j:Nat)) (0,4607182418800017408)) ⟨List.replicate (cWords c).toNat (0,0),0⟩
theorem yfv (c:Cnf) (k:Nat):memLaid c (k+1)=(memLaid c k).lay (cAtV c 3 (k:Nat)) (0,4607182418800017408):=by
 unfold memLaid;rw [List.range_succ,List.foldl_append];rfl
def CoreS.fresh (c:Cnf):CoreS:=⟨c,memLaid c c.globals.toNat,SpaceS.fresh c (TabS.fresh c.frags.toNat),⟨0,false,List.replicate c.threads.toNat (-1),0⟩,⟨[],c.stack,false⟩,0⟩
def CoreMade (c:Cnf) (B:Nat) (g:GW) (e:Ending) (w':World):Prop:=
 if c.check=0 then∃own' b,e=.returned (.tuple #[.pointer (some ⟨b,0,none⟩),.int .i64 0])∧Mod (fun _=>False) g ⟨own',w'⟩∧CoreAt ⟨own',w'⟩ B b (CoreS.fresh c)
 else e=.returned (.tuple #[.pointer none,.int .i64 c.check])∧Ext g.w w'
theorem yfe (c:Cnf) (B:Nat) (g:GW) (hc:c.Ok g.w) (hB:100≤B) (hF: ∀k,k<g.w.heap.size→g.own k<B∨B+70≤g.own k):Calls prog 33 #[c.val] g.w (CoreMade c B g):=by
 have HCK:=zH (fun w' (he:Ext g.w w')=>yar c w' (hc.ext he));have HWD:=zH (fun g' (m:Mod (fun _=>False) g g')=>yeD c g'.w (hc.ext m.toExt));have HGL:=zH (fun k g' (m:Mod (fun _=>False) g g')=>ya5 c k g'.w (hc.ext m.toExt));have HF:=zH hF;have HC:=zH hc;unfold Cnf.val at HCK HWD HGL ⊢;obtain ⟨own0,m0,b0⟩: ∃own0,Mod (fun _=>False) g ⟨own0,g.w.alloc (.cells #[.int .i64 c.frags,.int .i64 c.spine,.int .i64 c.globals,.int .i64 c.threads,.int .i64 c.locals,.int .i64 c.cache,.int .i64 c.stack,.int .i64 c.low,.slice c.A c.shapes.length c.cap] 34)⟩∧Blk ⟨own0,g.w.alloc (.cells #[.int .i64 c.frags,.int .i64 c.spine,.int .i64 c.globals,.int .i64 c.threads,.int .i64 c.locals,.int .i64 c.cache,.int .i64 c.stack,.int .i64 c.low,.slice c.A c.shapes.length c.cap] 34)⟩ 9 g.w.heap.size 34 [.int .i64 c.frags,.int .i64 c.spine,.int .i64 c.globals,.int .i64 c.threads,.int .i64 c.locals,.int .i64 c.cache,.int .i64 c.stack,.int .i64 c.low,.slice c.A c.shapes.length c.cap]:=⟨_,Mod.ext zE 9,Blk.new g 9 34 [.int .i64 c.frags,.int .i64 c.spine,.int .i64 c.globals,.int .i64 c.threads,.int .i64 c.locals,.int .i64 c.cache,.int .i64 c.stack,.int .i64 c.low,.slice c.A c.shapes.length c.cap]⟩
 have M0:=zH m0;have B0:=zH b0;clear hc m0 b0 hF;go_enter func33,ntmps33;go_wp2_with fail;refine (HCK.out _ zE).mono ?_;rintro e w1 ⟨rfl,hX⟩;obtain ⟨own1,m1⟩:=Mod.ofExt (show Ext _ w1 from hX) own0;have M1:=zH (M0.out.trans (m1.mono (fun x hx=>hx.elim)));have B1:=zH (B0.out.keep m1 id);clear m1 hX;obtain ⟨a0,a1,a2,a3,a4,a5,a6,a7,a8,al⟩:=B1.out.k9;by_cases hck:c.check=0
 case neg=>
  have hk1:(c.check !=0)=true:=by simp [hck]
  have HW:=zH hck;clear hck;go_wp2_with fail;go_ret2;unfold CoreMade;rw [if_neg HW.out];exact ⟨rfl,M1.out.toExt⟩
 case pos=>
  have hk1:(c.check !=0)=false:=by simp [hck]
  obtain ⟨⟨r0,r1⟩,⟨r2,r3⟩,⟨r4,r5⟩,⟨r6,r7⟩, -,⟨r8,r9⟩,⟨r10,r11⟩, -⟩:=Cnf.ranged (Cnf.check_zero hck).1
  have hshp:c.shapes.length≤8:=by
   have:=(Cnf.check_zero hck).2.2.1;simp [within] at this;omega
  have HCKZ:=zH hck;have hwd:cWords c=c.frags*8+c.spine+c.spine+c.globals:=by unfold cWords;rw [if_pos hck]
  have HMN:=zH (fun g'=>(show Calls prog 61 #[.int .i64 (cWords c)] g'.w (fun e w'=> ∃own' b,e=.returned (.tuple #[.pointer (some ⟨b,0,none⟩),.int .i64 0])∧Mod (fun _=>False) g' ⟨own',w'⟩∧MemAt ⟨own',w'⟩ (B+62) b (memLaid c 0)) from (yle (cWords c) (B+62) g').mono fun e w' hh=>by
   unfold MemMade at hh;rw [if_pos ⟨zo,zo⟩] at hh;exact hh))
  have HHN:=zH (fun g'=>(show Calls prog 65 #[.int .i64 c.threads] g'.w (fun e w'=> ∃own' b,e=.returned (.tuple #[.pointer (some ⟨b,0,none⟩),.int .i64 0])∧Mod (fun _=>False) g' ⟨own',w'⟩∧HandAt ⟨own',w'⟩ (B+63) b ⟨0,false,List.replicate c.threads.toNat (-1),0⟩) from (yko c.threads (B+63) g').mono fun e w' hh=>by
   unfold HandMade at hh;rw [if_pos ⟨zo,zo⟩] at hh;exact hh))
  have HSN:=zH (fun g'=>(show Calls prog 63 #[.int .i64 c.frags,.int .i64 c.stack] g'.w (fun e w'=> ∃own' b bt bp,e=.returned (.tuple #[.pointer (some ⟨b,0,none⟩),.int .i64 0])∧Mod (fun _=>False) g' ⟨own',w'⟩∧Blk ⟨own',w'⟩ (B+60) b 57 [.pointer (some ⟨bt,0,none⟩),.pointer (some ⟨bp,0,none⟩),.int .i64 0]∧TabAt ⟨own',w'⟩ (B+50) bt (TabS.fresh c.frags.toNat)∧PileAt ⟨own',w'⟩ (B+61) bp ⟨[],c.stack,false⟩) from by
   have:=yjG c.frags.toNat c.stack (B+60) (B+50) (B+61) g' zo ⟨zo,zo⟩;rw [show ((c.frags.toNat:Nat):Int)=c.frags by omega] at this;exact this))
  have HPN:=zH (fun g' bt (m:Mod (fun _=>False) g g') (ht:TabAt g' (B+50) bt (TabS.fresh c.frags.toNat))=>(show Calls prog 64 #[c.val,.pointer (some ⟨bt,0,none⟩)] g'.w (fun e w'=> ∃own' b,e=.returned (.tuple #[.pointer (some ⟨b,0,none⟩),.int .i64 0])∧Mod (fun _=>False) g' ⟨own',w'⟩∧SpaceAt ⟨own',w'⟩ B b bt (SpaceS.fresh c (TabS.fresh c.frags.toNat))) from (yjM c (TabS.fresh c.frags.toNat) B bt g' (HC.out.ext m.toExt) ht hB).mono fun e w' hh=>by
   unfold SpaceMade at hh;rw [if_pos ⟨HCKZ.out,by simp [TabS.fresh];omega⟩] at hh;exact hh))
  have HCP:=zH (fun g' (m:Mod (fun _=>False) g g')=>ybC c (B+65) g' (HC.out.ext m.toExt) zo);unfold Cnf.val at HPN HCP;clear hck hwd;go_wp2_with fail;refine (HWD.out ⟨own1,w1⟩ M1.out).mono ?_;rintro e w2 ⟨rfl,hX⟩;obtain ⟨own2,m2⟩:=Mod.ofExt (show Ext w1 w2 from hX) own1;have M2:=zH (M1.out.trans (m2.mono (fun x hx=>hx.elim)));have B2:=zH (B1.out.keep m2 id);clear m2 hX;clear a0 a1 a2 a3 a4 a5 a6 a7 a8 al;obtain ⟨a0,a1,a2,a3,a4,a5,a6,a7,a8,al⟩:=B2.out.k9;go_wp2_with fail;refine (HMN.out ⟨own2,w2⟩).mono ?_;rintro e w3 ⟨own3,bm,rfl,m3,x3⟩;have M3:=zH (M2.out.trans (m3.mono (fun x hx=>hx.elim)));have B3:=zH (B2.out.keep m3 id);have X3:=zH x3;clear m3 x3 HMN HWD HCK;clear a0 a1 a2 a3 a4 a5 a6 a7 a8 al;obtain ⟨a0,a1,a2,a3,a4,a5,a6,a7,a8,al⟩:=B3.out.k9;go_wp2_with fail;refine (HSN.out ⟨own3,w3⟩).mono ?_;rintro e w4 ⟨own4,bs,bt,bp,rfl,m4,s4,t4,p4⟩;have M4:=zH (M3.out.trans (m4.mono (fun x hx=>hx.elim)));have B4:=zH (B3.out.keep m4 id);have X4:=zH (X3.out.keep m4 id);have S4:=zH s4;have T4:=zH t4;have P4:=zH p4;clear m4 s4 t4 p4 HSN X3;clear a0 a1 a2 a3 a4 a5 a6 a7 a8 al;obtain ⟨a0,a1,a2,a3,a4,a5,a6,a7,a8,al⟩:=B4.out.k9;obtain ⟨s0,s1,s2,sl⟩:=S4.out.k3
  have HTB:=zH (fun w=>yaT bt w);go_wp2_with fail;go_cut [8,6] (fun s8 s6 wx=> ∃own5 bsp,s8=.pointer (some ⟨bsp,0,none⟩)∧s6=.int .i64 0∧Mod (fun _=>False) ⟨own4,w4⟩ ⟨own5,wx⟩∧SpaceAt ⟨own5,wx⟩ B bsp bt (SpaceS.fresh c (TabS.fresh c.frags.toNat)))
  case first=>
   refine yab [zT,zT,zT,zT,zT,zT,zU,zU,zU,zU,zU,zU] 6 12 ?_;intro X00;simp only [pickOps];repeat (go_big_quiet_step ((go_at_call 12;exact Calls.added (HTB.out _))))
   refine wpQuiet_nil (fun X0=>?_);clear X00;refine yaj 6 _ zQ rfl rfl zd (fun X1 K Q' hK=>?_);go_simp;refine (HPN.out ((⟨own4,w4⟩:GW).pt _) bt (Mod.pt M4.out _) (T4.out.pt _)).mono ?_;rintro e w5 ⟨own5,bsp,rfl,m5,y5⟩;have M5:=zH ((Mod.pt (Mod.refl (fun _=>False) (⟨own4,w4⟩:GW)) _).trans m5);have Y5:=zH y5;have hE5:Ext w4 w5:=M5.out.toExt;have HKK:=zH (show∀X, ∃o,Mod (fun _=>False) ⟨own4,w4⟩ ⟨o,w5.patch X⟩∧SpaceAt ⟨o,w5.patch X⟩ B bsp bt (SpaceS.fresh c (TabS.fresh c.frags.toNat)) from fun X=>⟨_,M5.out.trans (Mod.ext (T:=fun _=>False) (g:=⟨own5,w5⟩) ⟨X,rfl⟩ 0),Y5.out.keep (Mod.ext (T:=fun _=>False) (g:=⟨own5,w5⟩) ⟨X,rfl⟩ 0) (fun x hx=>hx.elim)⟩);clear m5 y5;refine hK _ _ hE5 ?_;clear hK K Q';refine yaj 7 _ zQ rfl rfl zd (fun X1 K Q' hK=>?_);go_simp;refine hK _ _ ?_ ?_
   · exact zF
   clear hK K Q';refine ycl 8 9 _ _ zQ rfl rfl rfl rfl zd zd (fun X1 K Q' hK=>?ordA) (fun X1 K Q' hK=>?ordB)
   case' ordA=>
    go_simp;refine hK _ _ ?_ ?_
    · exact zF
    clear hK K Q';refine ycl 9 10 _ _ zQ rfl rfl rfl rfl zd zd (fun X1 K Q' hK=>?ordA1) (fun X1 K Q' hK=>?ordA2)
    case' ordA1=>
     go_simp;refine hK _ _ ?_ ?_
     · exact zF
     clear hK K Q';refine yaj 10 _ zQ rfl rfl zd (fun X1 K Q' hK=>?_);go_simp;refine hK _ _ ?_ ?_
     · exact zF
     clear hK K Q'
    case' ordA2=>
     go_simp;refine hK _ _ ?_ ?_
     · exact zF
     clear hK K Q';refine yaj 9 _ zQ rfl rfl zd (fun X1 K Q' hK=>?_);go_simp;refine hK _ _ ?_ ?_
     · exact zF
     clear hK K Q'
   case' ordB=>
    go_simp;refine hK _ _ ?_ ?_
    · exact zF
    clear hK K Q';refine yaj 8 _ zQ rfl rfl zd (fun X1 K Q' hK=>?_);go_simp;refine hK _ _ ?_ ?_
    · exact zF
    clear hK K Q';refine yaj 10 _ zQ rfl rfl zd (fun X1 K Q' hK=>?_);go_simp;refine hK _ _ ?_ ?_
    · exact zF
    clear hK K Q'
   all_goals
    refine yaj 11 _ zQ rfl rfl zd (fun X1 K Q' hK=>?_);go_simp;refine hK _ _ ?_ ?_
    · exact zF
    clear hK K Q';refine yaa zQ (fun X2=>?_) _;go_wp2_with fail;go_meet
    (try rw [World.patch_patch]);exact (HKK.out _).elim fun o h=>⟨o,bsp,rfl,rfl,h.1,h.2⟩
  case rest=>
   obtain ⟨own5,bsp,rfl,rfl,m5,y5⟩:=hcut;obtain ⟨w5,rfl⟩: ∃w5:World,w5=wc:=⟨_,rfl⟩;have M5:=zH (M4.out.trans (m5.mono (fun x hx=>hx.elim)));have B5:=zH (B4.out.keep m5 id);have X5:=zH (X4.out.keep m5 id);have S5:=zH (S4.out.keep m5 id);have P5:=zH (P4.out.keep m5 id);have Y5:=zH y5;clear m5 y5 HPN HTB X4 S4 P4 T4 s0 s1 s2 sl;clear a0 a1 a2 a3 a4 a5 a6 a7 a8 al;obtain ⟨a0,a1,a2,a3,a4,a5,a6,a7,a8,al⟩:=B5.out.k9;go_wp2_with fail;refine (HHN.out ⟨own5,w5⟩).mono ?_;rintro e w6 ⟨own6,bh,rfl,m6,h6⟩;have M6:=zH (M5.out.trans (m6.mono (fun x hx=>hx.elim)));have B6:=zH (B5.out.keep m6 id);have X6:=zH (X5.out.keep m6 id);have S6:=zH (S5.out.keep m6 id);have P6:=zH (P5.out.keep m6 id);have Y6:=zH (Y5.out.keep m6 (fun x hx=>hx.elim));have H6:=zH h6;clear m6 h6 HHN X5 S5 P5 Y5;clear a0 a1 a2 a3 a4 a5 a6 a7 a8 al;obtain ⟨a0,a1,a2,a3,a4,a5,a6,a7,a8,al⟩:=B6.out.k9;go_wp2_with fail;have HGN:=zH (Int.eq_ofNat_of_zero_le r4);go_loopw [62] (fun i wr=> ∃(k:Nat) (own:Nat→Nat),(k:Int)≤c.globals∧i=.int .i64 k∧Hid (Mod (fun x=>x=B+62) ⟨own6,w6⟩ ⟨own,wr⟩)∧Hid (MemAt ⟨own,wr⟩ (B+62) bm (memLaid c k))) (fun i _=>c.globals.toNat-(intOf i).toNat)
   case atStart=>exact ⟨0,own6,r4,rfl,zH (Mod.refl _ _),X6⟩
   case round=>
    obtain ⟨k,own7,hk,rfl,N7,X7⟩:=hrel;obtain ⟨w7,rfl⟩: ∃w7:World,w7=wr:=⟨_,rfl⟩;have M7:=zH (show Mod (fun _=>False) g ⟨own7,w7⟩ from ((M6.out.mono (S:=fun x=>x=B+62) (fun x hx=>hx.elim)).trans N7.out).nothing (fun j hj e=>by have:=HF.out j hj;omega));have B7:=zH (B6.out.keep N7.out zo);clear a0 a1 a2 a3 a4 a5 a6 a7 a8 al;obtain ⟨a0,a1,a2,a3,a4,a5,a6,a7,a8,al⟩:=B7.out.k9;obtain ⟨gc,hgc⟩:=ycT c 3 (k:Nat);have HG7:=zH (HGL.out k ⟨own7,w7⟩ M7.out);rw [hgc] at HG7;have HSC:=zH (yfv c k);clear hgc;generalize cAtV c 3 (k:Nat)=at_ at *;by_cases hlt:(k:Int)<c.globals
    · go_wp2_with fail;refine HG7.out.mono ?_;rintro e w8 ⟨rfl,hX⟩;obtain ⟨own8,m8⟩:=Mod.ofExt (show Ext w7 w8 from hX) own7;have N8:=zH (N7.out.trans (m8.mono (fun x hx=>hx.elim)));have X8:=zH (X7.out.keep m8 id);clear hX m8 HG7;go_wp2_with fail;refine (yaL _).mono ?_;rintro e w9 ⟨rfl,hX⟩;unfold wNone;obtain ⟨own9,m9⟩:=Mod.ofExt (show Ext w8 w9 from hX) own8;have N9:=zH (N8.out.trans (m9.mono (fun x hx=>hx.elim)));have X9:=zH (X8.out.keep m9 id);clear hX m9;go_wp2_with fail;refine (yld ⟨own9,w9⟩ (B+62) bm at_ 0 4607182418800017408 _ X9.out).mono ?_;rintro e w10 ⟨rfl,own10,m10,x10⟩;have N10:=zH (N9.out.trans m10);have X10:=zH x10;clear m10 x10;go_wp2_with fail;go_roundw
      case rel=>exact ⟨k+1,own10,zo,by go_num,N10,by rw [HSC.out];exact X10⟩
      case measure=>simp [intOf];omega
    · have hkk:(k:Int)=c.globals:=zo;have HKK:=zH (show k=c.globals.toNat by omega);clear hkk HG7;go_wp2_with fail;refine (HCP.out ⟨own7,w7⟩ M7.out).mono ?_;rintro e w8 ⟨c',rfl,hsm,hca,hX⟩;unfold Cnf.val;obtain ⟨own8,m8,hca⟩: ∃own8,Mod (fun _=>False) ⟨own7,w7⟩ ⟨own8,w8⟩∧CnfAt ⟨own8,w8⟩ (B+65) c':=⟨_,Mod.ext (g:=⟨own7,w7⟩) hX (B+65),hca⟩;have HSM:=zH hsm;have HCA:=zH hca;have M8:=zH m8;clear hsm hca m8 hX;go_wp2_with fail;go_ret2;unfold CoreMade;rw [if_pos HCKZ.out];have m9:=Mod.ext (T:=fun _=>False) (g:=⟨own8,w8⟩) (show Ext w8 (w8.alloc (.cells #[.int .i64 c'.frags,.int .i64 c'.spine,.int .i64 c'.globals,.int .i64 c'.threads,.int .i64 c'.locals,.int .i64 c'.cache,.int .i64 c'.stack,.int .i64 c'.low,.slice c'.A c'.shapes.length c'.cap,.pointer (some ⟨bm,0,none⟩),.pointer (some ⟨bs,0,none⟩),.pointer (some ⟨bsp,0,none⟩),.pointer (some ⟨bh,0,none⟩)] 51)) from zE) (B+64);have mm:=(N7.out.trans (M8.out.mono (S:=fun x=>x=B+62) (fun x hx=>hx.elim))).trans (m9.mono (S:=fun x=>x=B+62) (fun x hx=>hx.elim));have m0:=M8.out.trans m9;rw [HKK.out] at X7
      exact ⟨_,_,rfl,(M7.out.trans M8.out).trans m9,bm,bs,bt,bp,bsp,bh,c',⟨Blk.made (World.row_alloc_new _) (Nat.le_refl _),X7.out.keep m0 id,S6.out.keep mm zo,P6.out.keep mm zo,Y6.out.keep mm (fun x hx=>by omega),H6.out.keep mm zo,HCA.out.keep m9 id,HSM.out⟩⟩
end Go.Proofs.YtdhjjpnajjingaaGreat
namespace Go
open Ieee
theorem yjb {m:Nat} (h:0<m):2 ^ m.log2≤m∧m<2 ^ (m.log2+1):=⟨Nat.log2_self_le zo,Nat.lt_log2_self⟩
theorem yhR (neg:Bool) {m:Nat} (h0:0<m) (h1:m<9007199254740992):
 double.read (double.write (.number neg m 0))=.number neg (m*2 ^ (52-m.log2)) (m.log2-52:Int)∧m.log2≤52:=by
 obtain ⟨hl,hu⟩:=yjb h0
 have hL:m.log2≤52:=by
  refine Nat.le_of_not_lt fun h=>?_;have:2 ^ 53≤2 ^ m.log2:=Nat.pow_le_pow_right zd h;have e:(2:Nat) ^ 53=9007199254740992:=zd;omega
 refine ⟨?_,hL⟩;generalize hg:m.log2=L at *
 have hk1:2 ^ 52≤m*2 ^ (52-L):=by
  have:2 ^ L*2 ^ (52-L)≤m*2 ^ (52-L):=Nat.mul_le_mul_right _ hl;rw [←Nat.pow_add,show L+(52-L)=52 by omega] at this;exact this
 have hk2:m*2 ^ (52-L)<2 ^ 53:=by
  have:m*2 ^ (52-L)<2 ^ (L+1)*2 ^ (52-L):=Nat.mul_lt_mul_of_pos_right hu (Nat.pow_pos zd);rw [←Nat.pow_add,show L+1+(52-L)=53 by omega] at this;exact this
 have hlast:max ((0:Int)+(L:Int)-(52:Nat)) double.leastPlace=(L:Int)-52:=by
  have:double.leastPlace= -1074:=zd;rw [this];omega
 have hw:double.write (.number neg m 0)=double.word neg ((L+1022)*2 ^ 52+m*2 ^ (52-L)):=by
  show double.nearest neg m 0=_;unfold Format.nearest;rw [if_neg zo];simp only [show double.fractionBits=52 from rfl,hg,hlast]
  have e1:((L:Int)-52-double.leastPlace).toNat=L+1022:=by
   have:double.leastPlace= -1074:=zd;rw [this];omega
  have e2:((0:Int)-((L:Int)-52)).toNat=52-L:=zo;have e3:((L:Int)-52-0).toNat=0:=zo;rw [e1,e2,e3]
  have e4:Toward.even.cut neg (m<<<(52-L)) 0=m*2 ^ (52-L):=by
   unfold Toward.cut;simp [Nat.shiftLeft_eq,Nat.mod_one]
  rw [e4];have e5:double.binade=2 ^ 52:=zd;have e6:double.infRung=2047*2 ^ 52:=zd;rw [e5,e6,Nat.min_eq_left];omega
 rw [hw];generalize hK:m*2 ^ (52-L)=K at *;have e5:double.binade=4503599627370496:=zd;have e6:double.infRung=9218868437227405312:=zd;have e7:double.signWeight=9223372036854775808:=zd;have e8:double.leastPlace= -1074:=zd;have p52:(2:Nat) ^ 52=4503599627370496:=zd;have p53:(2:Nat) ^ 53=9007199254740992:=zd;rw [p52] at *;rw [p53] at hk2;have hr1:(L+1022)*4503599627370496+K<9218868437227405312:=zo
 have hmod:double.word neg ((L+1022)*4503599627370496+K)%double.signWeight=(L+1022)*4503599627370496+K:=by
  unfold Format.word;rw [e7];split<;>omega
 have hneg:(double.word neg ((L+1022)*4503599627370496+K)/double.signWeight%2==1)=neg:=by
  unfold Format.word;rw [e7];cases neg
  · rw [if_neg (by simp),show ((L+1022)*4503599627370496+K)/9223372036854775808=0 by omega];rfl
  · rw [if_pos rfl,show (9223372036854775808+((L+1022)*4503599627370496+K))/9223372036854775808=1 by omega];rfl
 unfold Format.read;simp only;rw [hmod,hneg,e5,e6,e8,if_neg zo,if_pos hr1];congr 1
 · omega
 · omega
theorem yjy:double.read (double.write (.number false 0 0))=.number false 0 (-1074):=by decide+kernel
theorem ykQ (neg:Bool):double.read (double.write (.number neg 9007199254740992 0))=.number neg 4503599627370496 1:=by cases neg<;>decide+kernel
structure Fits (n:Int):Prop where
 lo: -9007199254740992≤n
 hi:n≤9007199254740992
theorem yav (neg:Bool) (m a:Nat):signed neg m a=(if neg then-1 else 1)*((m*2 ^ a:Nat):Int):=by
 unfold signed;rw [Nat.shiftLeft_eq];cases neg<;>simp
theorem yk2 (a:Nat):0=(0:Int).natAbs*a:=by rw [Int.natAbs_zero,Nat.zero_mul]
theorem ycM {n:Int} (h:Fits n): ∃(k:Nat) (j:Int),double.read (floatOfInt .f64 n)=.number (decide (n<0)) k j∧ -1074≤j∧j≤1∧k<2 ^ 53∧((j≤0∧k=n.natAbs*2 ^ (-j).toNat)∨(j=1∧k=4503599627370496∧n.natAbs=9007199254740992)):=by
 obtain ⟨h1,h2⟩:=h;show∃k j,double.read (double.write (.number (decide (n<0)) n.natAbs 0))=_∧_;by_cases h0:n=0
 · subst h0;exact ⟨0, -1074,yjy,zo,zo,zd,Or.inl ⟨zd,yk2 _⟩⟩
 · by_cases ht:n.natAbs=9007199254740992
   · rw [ht];exact ⟨_,_,ykQ _,zo,zo,zd,Or.inr ⟨rfl,rfl,rfl⟩⟩
   · obtain ⟨r1,r2⟩:=yhR (decide (n<0)) (m:=n.natAbs) zo zo;have hu:=(yjb (m:=n.natAbs) zo).2;refine ⟨_,_,r1,zo,zo,?_,Or.inl ⟨zo,?_⟩⟩
     · have:n.natAbs*2 ^ (52-n.natAbs.log2)<2 ^ (n.natAbs.log2+1)*2 ^ (52-n.natAbs.log2):=Nat.mul_lt_mul_of_pos_right hu (Nat.pow_pos zd);rw [←Nat.pow_add,show n.natAbs.log2+1+(52-n.natAbs.log2)=53 by omega] at this;exact this
     · rw [show (-((n.natAbs.log2:Int)-52)).toNat=52-n.natAbs.log2 by omega]
theorem yh5 {n:Int} (h:Fits n):(double.read (floatOfInt .f64 n)).toInt .zero=some n:=by
 obtain ⟨k,j,hr,hj0,hj1,hk,hc⟩:=ycM h;rw [hr];unfold Datum.toInt Datum.integral;simp only;rw [yav];rcases hc with ⟨hj,rfl⟩|⟨rfl,rfl,hn⟩
 · have e1:j.toNat=0:=zo;rw [e1,Nat.shiftLeft_zero]
   have e2:Toward.zero.cut (decide (n<0)) (n.natAbs*2 ^ (-j).toNat) (-j).toNat=n.natAbs:=by
    unfold Toward.cut;simp only [Bool.toNat_false,Nat.add_zero,Nat.shiftLeft_eq,Nat.one_mul];by_cases h0:n.natAbs=0
    · rw [h0];simp
    · have hlog:(-j).toNat≤(n.natAbs*2 ^ (-j).toNat).log2:=by
       refine (Nat.le_log2 (by have:=Nat.pow_pos (n:=(-j).toNat) (show 0<2 by decide);exact Nat.ne_of_gt (Nat.mul_pos zo this))).2 ?_;exact Nat.le_mul_of_pos_left _ zo
      rw [Nat.min_eq_left zo];exact Nat.mul_div_cancel _ (Nat.pow_pos zd)
   rw [e2];by_cases hs:n<0
   · rw [decide_eq_true hs];simp;omega
   · rw [decide_eq_false hs];simp;omega
 · have e2:Toward.zero.cut (decide (n<0)) (4503599627370496<<<(1:Int).toNat) (-(1:Int)).toNat=9007199254740992:=by
    cases (decide (n<0))<;>decide+kernel
   rw [e2];by_cases hs:n<0
   · rw [decide_eq_true hs];simp;omega
   · rw [decide_eq_false hs];simp;omega
theorem ybQ {n:Int} (h:Fits n):floatToIntVal .f64 (floatOfInt .f64 n) .i64=some n:=by
 unfold floatToIntVal;rw [show (FloatKind.decode .f64 (floatOfInt .f64 n)).toInt .zero=some n from yh5 h];simp only;rw [if_pos];have e1:IntKind.min .i64= -9223372036854775808:=zd;have e2:IntKind.max .i64=9223372036854775807:=zd;have:=h.lo;have:=h.hi;rw [e1,e2];omega
theorem yjD {n:Int} {k:Nat} {j base:Int} (hb:base≤j) (hb0:base≤0) (hc:(j≤0∧k=n.natAbs*2 ^ (-j).toNat)∨(j=1∧k=4503599627370496∧n.natAbs=9007199254740992)):
 signed (decide (n<0)) k (j-base).toNat=n*((2 ^ (-base).toNat:Nat):Int):=by
 have hk:k*2 ^ (j-base).toNat=n.natAbs*2 ^ (-base).toNat:=by
  rcases hc with ⟨hj,rfl⟩|⟨rfl,rfl,hn⟩
  · rw [Nat.mul_assoc, ←Nat.pow_add,show (-j).toNat+(j-base).toNat=(-base).toNat by omega]
  · rw [hn,show (1-base).toNat=(-base).toNat+1 by omega,Nat.pow_succ];omega
 rw [yav,hk,Int.natCast_mul, ←Int.mul_assoc];congr 1
 by_cases hs:n<0
 · rw [decide_eq_true hs,if_pos rfl];omega
 · rw [decide_eq_false hs,if_neg (by simp)];omega
theorem yct {a b:Int} (h:a<b):compare a b=.lt:=by
 show compareOfLessAndEq a b=_;unfold compareOfLessAndEq;rw [if_pos h]
theorem ya3 {a b:Int} (h:a=b):compare a b=.eq:=by
 show compareOfLessAndEq a b=_;unfold compareOfLessAndEq;rw [if_neg zo,if_pos h]
theorem ycs {a b:Int} (h:b<a):compare a b=.gt:=by
 show compareOfLessAndEq a b=_;unfold compareOfLessAndEq;rw [if_neg zo,if_neg zo]
theorem yeI (a b:Int) {c:Nat} (hc:0<c):compare (a*(c:Int)) (b*(c:Int))=compare a b:=by
 have hc':(0:Int)<c:=zo;rcases Int.lt_trichotomy a b with h|h|h
 · rw [yct h,yct (Int.mul_lt_mul_of_pos_right h hc')]
 · subst h;rw [ya3 rfl,ya3 rfl]
 · rw [ycs h,ycs (Int.mul_lt_mul_of_pos_right h hc')]
theorem ycb {a b:Int} (ha:Fits a) (hb:Fits b):double.order (floatOfInt .f64 a) (floatOfInt .f64 b)=some (compare a b):=by
 obtain ⟨k1,j1,hr1,l1,u1, -,c1⟩:=ycM ha;obtain ⟨k2,j2,hr2,l2,u2, -,c2⟩:=ycM hb;unfold Format.order;rw [hr1,hr2];show some (compare (signed (decide (a<0)) k1 (j1-min j1 j2).toNat) (signed (decide (b<0)) k2 (j2-min j1 j2).toNat))=_;by_cases ht:j1=1∧j2=1
 · obtain ⟨rfl,rfl⟩:=ht;rcases c1 with ⟨h, -⟩|⟨-,rfl,h1⟩
   · omega
   rcases c2 with ⟨h, -⟩|⟨-,rfl,h2⟩
   · omega
   rw [yav,yav];have e:((1:Int)-min 1 1).toNat=0:=zd;rw [e];by_cases s1:a<0<;>by_cases s2:b<0
   · rw [decide_eq_true s1,decide_eq_true s2,show a=b by omega];rw [ya3 rfl,ya3 rfl]
   · rw [decide_eq_true s1,decide_eq_false s2,yct (show a<b by omega)];decide
   · rw [decide_eq_false s1,decide_eq_true s2,ycs (show b<a by omega)];decide
   · rw [decide_eq_false s1,decide_eq_false s2,show a=b by omega];rw [ya3 rfl,ya3 rfl]
 · rw [yjD (Int.min_le_left _ _) zo c1,yjD (Int.min_le_right _ _) zo c2,yeI _ _ (Nat.pow_pos zd)]
theorem ycc {a:Int} (ha:Fits a):(FloatKind.format .f64).order (floatOfInt .f64 a) (floatOfInt .f64 a)=some .eq:=(ycb ha ha).trans (by rw [ya3 rfl])
theorem yjp {a:Int} (ha:Fits a):((FloatKind.format .f64).order (floatOfInt .f64 a) 14069245235905429504==some .gt || (FloatKind.format .f64).order (floatOfInt .f64 a) 14069245235905429504==some .eq)=true:=by
 have e:(14069245235905429504:Nat)=floatOfInt .f64 (-9007199254740992):=by decide+kernel
 have h:=ycb ha (b:= -9007199254740992) ⟨zo,zo⟩;rw [e,show (FloatKind.format .f64)=double from rfl,h];have:=ha.lo;rcases Int.lt_or_eq_of_le this with hl|hl
 · rw [ycs hl];rfl
 · rw [ya3 hl.symm];rfl
theorem yhO {a:Int} (ha:Fits a):((FloatKind.format .f64).order (floatOfInt .f64 a) 4845873199050653696==some .lt || (FloatKind.format .f64).order (floatOfInt .f64 a) 4845873199050653696==some .eq)=true:=by
 have e:(4845873199050653696:Nat)=floatOfInt .f64 9007199254740992:=by decide+kernel
 have h:=ycb ha (b:=9007199254740992) ⟨zo,zo⟩;rw [e,show (FloatKind.format .f64)=double from rfl,h];have:=ha.hi;rcases Int.lt_or_eq_of_le this with hl|hl
 · rw [yct hl];rfl
 · rw [ya3 hl];rfl
end Go
