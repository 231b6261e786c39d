import Derived.Test.YtdhjjpnajjingaaGreatKL13
import Derived.Deep.RegionWith
import Derived.Deep.DeepCutAuto
set_option linter.unusedVariables false
set_option linter.unnecessarySimpa false
set_option linter.unusedSimpArgs false
open Bool renaming true→zT,false→zU
open Go.Value renaming int→zI
open Go.IntKind renaming i64→z6
set_option maxHeartbeats 8000000
set_option maxRecDepth 100000
open Go.Proofs.Tryz
open Go.Lib renaming hid→zH
open Go.Ext renaming alloc→zA,patch→zP,drew→zD,drewN→zN,more→zM,refl→zR,setCell→zS
open Nat renaming le_refl→zL,le_add_right→zK
namespace Go.Proofs.YtdhjjpnajjingaaGreat
open Go Go.RowKit
open Go Go.RowKit Go.Maps
theorem yjW (c:Cnf) (got:List Int):wFrags c got=.tuple #[.bool (!got.all (fragOk c)),.bool (got.all (fragOk c)&&twiceIn got)]:=by
 unfold wFrags;cases got.all (fragOk c)<;>rfl
def wrongE (c:Cnf) (is:Bool) (s:Shp) (n:Int) (array:Bool) (got:List Int):Int:=
 if c.check≠0∨got.all (fragOk c)=false then 1
 else if is=false∨s.arr≠array then 4
 else if s.size n<0 then 5
 else if (got.length:Int)≠s.size n∨twiceIn got=true then 2 else 0
def WrongGot (c:Cnf) (kind n:Int) (array:Bool) (got:List Int) (w:World) (e:Ending) (w':World):Prop:=
 ∃s':Shp,e=.returned (.tuple #[s'.val,.int .i64 (wrongE c (c.shapeAt kind).isSome s' n array got)])∧(s'.arr,s'.refs)=(c.shapeAt kind).getD (false,[])∧s'.Ok w'∧Ext w w'
theorem yj1 (c:Cnf) (kind n:Int) (array:Bool) (A:Option Addr) (cap:Nat) (got:List Int) (w:World) (hc:c.Ok w) (hg:CellsAt w A (got.map (Value.int .i64))) (hl:got.length≤140737488355328) (hw: ∀x∈got, -9223372036854775808≤x∧x≤9223372036854775807):
 Calls prog 218 #[c.val,.int .i64 kind,.int .i64 n,.bool array,.slice A got.length cap] w (WrongGot c kind n array got w):=by
 have HF:=zH (fun w' (he:Ext w w')=>yjW c got▸yiH c A cap got w' (hc.ext he) (hg.ext he) hl hw);have HS:=zH (fun w' (he:Ext w w')=>yax c kind w' (hc.ext he));have HC:=zH (fun w' (he:Ext w w')=>yar c w' (hc.ext he));unfold Cnf.val at HF HS HC ⊢;generalize hA:got.all (fragOk c)=al at HF;generalize hT:twiceIn got=tw at HF;have HA:=zH hA;have HT:=zH hT;clear hA hT;go_enter func218,ntmps218;go_wp2_with fail;refine yad 0 rfl ?_;go_wp2_with fail;refine (HF.out _ zE).mono ?_;rintro e w1 ⟨rfl,X1,rfl⟩;go_wp2_with fail;refine (HS.out _ zE).mono ?_;rintro e w1 ⟨s',rfl,hs',hfr,hok,X2,rfl⟩;obtain ⟨arr,A',cap',refs⟩:=s';unfold Shp.val;rw [World.patch_patch] at hok;have HX:=zH hs'
 have HF':=zH (show∀a,A'=some a→w.heap.size+1≠a.block from fun a ha e=>by
  have:=hfr a ha;simp only [World.size_patch,World.size_alloc] at this;omega)
 clear hfr;have HO:=zH hok;generalize hI:(c.shapeAt kind).isSome=is;have HI:=zH hI;clear hs' hok hI;go_wp2_with fail;refine (HC.out _ zE).mono ?_;rintro e w1 ⟨rfl,X3,rfl⟩;generalize hK:c.check=ck;have HK:=zH hK;clear hK;have HZ:=zH (fun w' (he:Ext ((w.alloc (.cells #[.int .i64 c.frags,.int .i64 c.spine,.int .i64 c.globals,.int .i64 c.threads,.int .i64 c.locals,.int .i64 c.cache,.int .i64 c.stack,.int .i64 c.low,.slice c.A c.shapes.length c.cap] 34)).alloc (.cells #[.bool false,.slice none 0 0] 94) |>.patch ⟨X1.blocks++X2.blocks,X2.drawn⟩) w')=>ydl ⟨arr,A',cap',refs⟩ n w' (HO.out.ext he));unfold Shp.val at HZ;simp only at HZ;cases al
 · have HE:=zH (show wrongE c is ⟨arr,A',cap',refs⟩ n array got=1 from if_pos (Or.inr HA.out));go_wp2_with fail
   all_goals
    go_step3
    refine ⟨rfl,?_⟩;go_wp2_with fail;rw [Exit.noGoto_ret];refine bodyPost_ret (v:=.tuple #[.agg #[.bool arr,.slice A' refs.length cap'],.int .i64 1]) (by simp [results,Tryz.results218,go_sem]) rfl ?_;exact ⟨⟨arr,A',cap',refs⟩,by rw [HI.out,HE.out];rfl,HX.out,((HO.out.ext zE).setCell HF'.out).setCell HF'.out,zE⟩
 by_cases h0:ck≠0
 · have HE:=zH (show wrongE c is ⟨arr,A',cap',refs⟩ n array got=1 from if_pos (Or.inl (by rw [HK.out];exact h0)));go_wp2_with fail;go_step3
   refine ⟨rfl,?_⟩;go_wp2_with fail;rw [Exit.noGoto_ret];refine bodyPost_ret (v:=.tuple #[.agg #[.bool arr,.slice A' refs.length cap'],.int .i64 1]) (by simp [results,Tryz.results218,go_sem]) rfl ?_;exact ⟨⟨arr,A',cap',refs⟩,by rw [HI.out,HE.out];rfl,HX.out,((HO.out.ext zE).setCell HF'.out).setCell HF'.out,zE⟩
 obtain rfl:ck=0:=zo;have HN:=zH (show¬(c.check≠0∨got.all (fragOk c)=false) by rw [HK.out,HA.out];simp);clear h0;by_cases hq:is=false∨arr≠array
 · have HE:=zH (show wrongE c is ⟨arr,A',cap',refs⟩ n array got=4 from (if_neg HN.out).trans (if_pos hq));cases is
   · clear hq;go_wp2_with fail;go_step3
     refine ⟨rfl,?_⟩;go_wp2_with fail;rw [Exit.noGoto_ret];refine bodyPost_ret (v:=.tuple #[.agg #[.bool arr,.slice A' refs.length cap'],.int .i64 4]) (by simp [results,Tryz.results218,go_sem]) rfl ?_;exact ⟨⟨arr,A',cap',refs⟩,by rw [HI.out,HE.out];rfl,HX.out,((HO.out.ext zE).setCell HF'.out).setCell HF'.out,zE⟩
   · rcases (show (arr=true∧array=false)∨(arr=false∧array=true) by cases arr<;>cases array<;>simp_all) with ⟨rfl,rfl⟩|⟨rfl,rfl⟩
     · clear hq;go_wp2_with fail;go_step3
       refine ⟨rfl,?_⟩;go_wp2_with fail;rw [Exit.noGoto_ret];refine bodyPost_ret (v:=.tuple #[.agg #[.bool true,.slice A' refs.length cap'],.int .i64 4]) (by simp [results,Tryz.results218,go_sem]) rfl ?_;exact ⟨⟨true,A',cap',refs⟩,by rw [HI.out,HE.out];rfl,HX.out,((HO.out.ext zE).setCell HF'.out).setCell HF'.out,zE⟩
     · clear hq;go_wp2_with fail;go_step3
       refine ⟨rfl,?_⟩;go_wp2_with fail;rw [Exit.noGoto_ret];refine bodyPost_ret (v:=.tuple #[.agg #[.bool false,.slice A' refs.length cap'],.int .i64 4]) (by simp [results,Tryz.results218,go_sem]) rfl ?_;exact ⟨⟨false,A',cap',refs⟩,by rw [HI.out,HE.out];rfl,HX.out,((HO.out.ext zE).setCell HF'.out).setCell HF'.out,zE⟩
 obtain ⟨rfl,rfl⟩:is=true∧array=arr:=by
  constructor
  · cases is
    · exact absurd (Or.inl rfl) hq
    · rfl
  · cases arr<;>cases array<;>simp_all
 have HN2:=zH hq;clear hq;generalize hS:Shp.size ⟨array,A',cap',refs⟩ n=sz at HZ;have HS':=zH hS;clear hS;by_cases h5:sz<0
 · have HE:=zH (show wrongE c true ⟨array,A',cap',refs⟩ n array got=5 from (if_neg HN.out).trans ((if_neg HN2.out).trans (if_pos (by rw [HS'.out];exact h5))));cases array
   · go_wp2_with fail;refine (HZ.out _ zE).mono ?_;rintro e w1 ⟨rfl,X4,rfl⟩;go_wp2_with fail;go_step3
     refine ⟨rfl,?_⟩;go_wp2_with fail;rw [Exit.noGoto_ret];refine bodyPost_ret (v:=.tuple #[.agg #[.bool false,.slice A' refs.length cap'],.int .i64 5]) (by simp [results,Tryz.results218,go_sem]) rfl ?_;exact ⟨⟨false,A',cap',refs⟩,by rw [HI.out,HE.out];rfl,HX.out,((HO.out.ext zE).setCell HF'.out).setCell HF'.out,zE⟩
   · go_wp2_with fail;refine (HZ.out _ zE).mono ?_;rintro e w1 ⟨rfl,X4,rfl⟩;go_wp2_with fail;go_step3
     refine ⟨rfl,?_⟩;go_wp2_with fail;rw [Exit.noGoto_ret];refine bodyPost_ret (v:=.tuple #[.agg #[.bool true,.slice A' refs.length cap'],.int .i64 5]) (by simp [results,Tryz.results218,go_sem]) rfl ?_;exact ⟨⟨true,A',cap',refs⟩,by rw [HI.out,HE.out];rfl,HX.out,((HO.out.ext zE).setCell HF'.out).setCell HF'.out,zE⟩
 by_cases h6:(got.length:Int)=sz
 · subst h6;clear h5;cases tw
   · have HE:=zH (show wrongE c true ⟨array,A',cap',refs⟩ n array got=0 from (if_neg HN.out).trans ((if_neg HN2.out).trans ((if_neg (by rw [HS'.out];omega)).trans (if_neg (by rw [HS'.out,HT.out];simp)))));cases array
     · go_wp2_with fail;refine (HZ.out _ zE).mono ?_;rintro e w1 ⟨rfl,X4,rfl⟩;go_wp2_with fail;refine (HZ.out _ zE).mono ?_;rintro e w1 ⟨rfl,X5,rfl⟩;go_wp2_with fail;go_step3
       go_wp2_with fail;rw [Exit.jump_ret];refine bodyPost_ret (v:=.tuple #[.agg #[.bool false,.slice A' refs.length cap'],.int .i64 0]) (by simp [results,Tryz.results218,go_sem]) rfl ?_;exact ⟨⟨false,A',cap',refs⟩,by rw [HI.out,HE.out];rfl,HX.out,((HO.out.ext zE).setCell HF'.out).setCell HF'.out,zE⟩
     · go_wp2_with fail;refine (HZ.out _ zE).mono ?_;rintro e w1 ⟨rfl,X4,rfl⟩;go_wp2_with fail;refine (HZ.out _ zE).mono ?_;rintro e w1 ⟨rfl,X5,rfl⟩;go_wp2_with fail;go_step3
       go_wp2_with fail;rw [Exit.jump_ret];refine bodyPost_ret (v:=.tuple #[.agg #[.bool true,.slice A' refs.length cap'],.int .i64 0]) (by simp [results,Tryz.results218,go_sem]) rfl ?_;exact ⟨⟨true,A',cap',refs⟩,by rw [HI.out,HE.out];rfl,HX.out,((HO.out.ext zE).setCell HF'.out).setCell HF'.out,zE⟩
   · have HE:=zH (show wrongE c true ⟨array,A',cap',refs⟩ n array got=2 from (if_neg HN.out).trans ((if_neg HN2.out).trans ((if_neg (by rw [HS'.out];omega)).trans (if_pos (Or.inr HT.out)))));cases array
     · go_wp2_with fail;refine (HZ.out _ zE).mono ?_;rintro e w1 ⟨rfl,X4,rfl⟩;go_wp2_with fail;refine (HZ.out _ zE).mono ?_;rintro e w1 ⟨rfl,X5,rfl⟩;go_wp2_with fail;go_step3
       go_wp2_with fail;rw [Exit.jump_ret];refine bodyPost_ret (v:=.tuple #[.agg #[.bool false,.slice A' refs.length cap'],.int .i64 2]) (by simp [results,Tryz.results218,go_sem]) rfl ?_;exact ⟨⟨false,A',cap',refs⟩,by rw [HI.out,HE.out];rfl,HX.out,((HO.out.ext zE).setCell HF'.out).setCell HF'.out,zE⟩
     · go_wp2_with fail;refine (HZ.out _ zE).mono ?_;rintro e w1 ⟨rfl,X4,rfl⟩;go_wp2_with fail;refine (HZ.out _ zE).mono ?_;rintro e w1 ⟨rfl,X5,rfl⟩;go_wp2_with fail;go_step3
       go_wp2_with fail;rw [Exit.jump_ret];refine bodyPost_ret (v:=.tuple #[.agg #[.bool true,.slice A' refs.length cap'],.int .i64 2]) (by simp [results,Tryz.results218,go_sem]) rfl ?_;exact ⟨⟨true,A',cap',refs⟩,by rw [HI.out,HE.out];rfl,HX.out,((HO.out.ext zE).setCell HF'.out).setCell HF'.out,zE⟩
 · have HE:=zH (show wrongE c true ⟨array,A',cap',refs⟩ n array got=2 from (if_neg HN.out).trans ((if_neg HN2.out).trans ((if_neg (by rw [HS'.out];exact h5)).trans (if_pos (Or.inl (by rw [HS'.out];exact h6))))));cases array
   · go_wp2_with fail;refine (HZ.out _ zE).mono ?_;rintro e w1 ⟨rfl,X4,rfl⟩;go_wp2_with fail;refine (HZ.out _ zE).mono ?_;rintro e w1 ⟨rfl,X5,rfl⟩;go_wp2_with fail;go_step3
     go_wp2_with fail;rw [Exit.jump_ret];refine bodyPost_ret (v:=.tuple #[.agg #[.bool false,.slice A' refs.length cap'],.int .i64 2]) (by simp [results,Tryz.results218,go_sem]) rfl ?_;exact ⟨⟨false,A',cap',refs⟩,by rw [HI.out,HE.out];rfl,HX.out,((HO.out.ext zE).setCell HF'.out).setCell HF'.out,zE⟩
   · go_wp2_with fail;refine (HZ.out _ zE).mono ?_;rintro e w1 ⟨rfl,X4,rfl⟩;go_wp2_with fail;refine (HZ.out _ zE).mono ?_;rintro e w1 ⟨rfl,X5,rfl⟩;go_wp2_with fail;go_step3
     go_wp2_with fail;rw [Exit.jump_ret];refine bodyPost_ret (v:=.tuple #[.agg #[.bool true,.slice A' refs.length cap'],.int .i64 2]) (by simp [results,Tryz.results218,go_sem]) rfl ?_;exact ⟨⟨true,A',cap',refs⟩,by rw [HI.out,HE.out];rfl,HX.out,((HO.out.ext zE).setCell HF'.out).setCell HF'.out,zE⟩
theorem yhe (s:Shp) (frag:Int) (b:Nat) (t:TypeId) (vs:List Value) (w:World) (hs:s.Ok w) (hb:w.heap[b]?=some (.cells vs.toArray t)) (hv:vs.length=8) (hn: ∀a,s.A=some a→0<s.refs.length→b≠a.block):
 Calls prog 221 #[s.val,.int .i64 frag,.pointer (some ⟨b,0,none⟩)] w (fun e w'=>e=.returned (.tuple #[])∧ ∃X,w'=(w.putBlk b (.cells (putFields s frag vs s.refs.length).toArray t)).patch X):=by
 have hl:s.refs.length≤140737488355328:=hs.max;have hbs:=(Array.getElem?_eq_some_iff.1 hb).1;obtain ⟨arr,A,cap,refs⟩:=s;unfold Shp.val;simp only at hl hn ⊢;go_enter func221,ntmps221;go_wp2_with fail;go_loopw [14] (fun i wr=> ∃k:Nat,k≤refs.length∧i=.int .i64 k∧ ∃w1,w1=w.putBlk b (.cells (putFields ⟨arr,A,cap,refs⟩ frag vs k).toArray t)∧Ext (w1.alloc (.cells #[.bool arr,.slice A refs.length cap] 94)) wr) (fun i _=>refs.length-(intOf i).toNat)
 case atStart=>exact ⟨0,Nat.zero_le _,rfl,w,(World.putBlk_self _ hb).symm,zE⟩
 case round=>
  obtain ⟨k,hk,rfl,w1,hw1,X,rfl⟩:=hrel;have hs1:(⟨arr,A,cap,refs⟩:Shp).Ok w1:=by rw [hw1];exact hs.putBlk hn
  have HW:=zH hw1;have hsz:w.heap.size=w1.heap.size:=by rw [hw1,World.size_putBlk]
  rw [hsz];have HZ:=zH hsz;by_cases hlt:k<refs.length
  · have HP:=zH (fun w' (he:Ext w1 w')=>ycL ⟨arr,A,cap,refs⟩ k w' (hs1.ext he) zo zo);have HR:=zH (show w1.heap[b]?=some (.cells (putFields ⟨arr,A,cap,refs⟩ frag vs k).toArray t) by rw [hw1,World.row_put _ hbs]);have HB:=zH (show b<w1.heap.size by rw [hw1,World.size_putBlk];exact hbs);have HL:=zH (yaG ⟨arr,A,cap,refs⟩ frag vs k);have HN:=zH (@yfB ⟨arr,A,cap,refs⟩ frag vs k);have HY:=zH (@yeX ⟨arr,A,cap,refs⟩ frag vs k);obtain ⟨q,o,hA,hq,hcell⟩:=hs1.refs.cases (by simp;omega);have g0:=hcell k (.bool (refs.getD k false)) (by simp [List.getD,List.getElem?_eq_getElem hlt]);have HX:=zH hn;simp only at hA;unfold Shp.val Shp.place at HP;subst hA;simp only at HP;generalize refs.getD k false=x at *;clear hw1 hb hs hs1 hcell hn hbs hsz;go_wp2_with fail;refine (HP.out _ zE).mono ?_;cases hf:Shp.hasField ⟨arr,some ⟨q,o,none⟩,cap,refs⟩ k
    · rintro e w2 ⟨rfl,X2,rfl⟩;have HT2:=zH (HN.out (by rw [hf];simp));clear hf;go_wp2_with fail;go_roundw
      case rel=>exact ⟨k+1,zo,by go_num,w1,by rw [HW.out,HT2.out],zE⟩
      case measure=>simp [intOf];omega
    · rintro e w2 ⟨rfl,X2,rfl⟩;by_cases hp:Shp.placeF k=frag
      · have HT2:=zH (HY.out ⟨hf,hp⟩);clear hf;rw [hp];clear hp;obtain ⟨m,hm,hm8⟩: ∃m:Nat,Shp.placeW k=m∧m<8:=⟨(Shp.placeW k).toNat,by have:=Shp.placeW_bd k zo;omega,by have:=Shp.placeW_bd k zo;omega⟩;rw [hm];have HM:=zH hm;clear hm;go_wp2_with fail;have hb1:=HB.out;have hc1:w1.cell? ⟨b,m,none⟩=some ((putFields ⟨arr,some ⟨q,o,none⟩,cap,refs⟩ frag vs k)[m]'(by rw [HL.out];omega)):=ycd HR.out (List.getElem?_eq_getElem _);have hf1:w1.frozen? ⟨b,m,none⟩=false:=ydh HR.out;generalize (putFields ⟨arr,some ⟨q,o,none⟩,cap,refs⟩ frag vs k)[m]'(by rw [HL.out];omega)=z at hc1;refine ycS (base:=w1.alloc (.cells #[.bool arr,.slice (some ⟨q,o,none⟩) refs.length cap] 94)) zE (fun Z=>?_);clear HP HN HY X X2;obtain ⟨r1,r2,hbl⟩: ∃r1 r2,wBlank x=.complex .f64 r1 r2:=by cases x<;>exact ⟨_,_,rfl⟩
        have HBL:=zH hbl;clear hbl;refine yab [zT,zT,zT,zT,zT,zT,zU] 1 6 ?_;intro X00;simp only [pickOps];repeat (go_big_quiet_step ((go_at_call 227;exact Calls.added2 (yiq _ _))))
        refine wpQuiet_nil (fun X0=>?_);clear X00;refine yai 6 _ zQ zQ rfl rfl (fun X1 K Q' hK=>?_);go_simp;rw [HBL.out];go_simp;refine hK _ _ (fun X2=>?_);clear hK K Q';go_wp2_with fail;go_roundw
        case rel=>exact ⟨k+1,zo,by go_num,w1.setCell ⟨b,m,none⟩ (.complex .f64 r1 r2),by rw [World.setCell_row _ HR.out,HT2.out,HM.out,HBL.out,List.setIfInBounds_toArray,Int.toNat_natCast,HW.out,World.putBlk_putBlk],zE⟩
        case measure=>simp [intOf];omega
      · have HT2:=zH (HN.out (fun h=>hp h.2));clear hf;go_wp2_with fail;go_roundw
        case rel=>exact ⟨k+1,zo,by go_num,w1,by rw [HW.out,HT2.out],zE⟩
        case measure=>simp [intOf];omega
  · obtain rfl:k=refs.length:=zo;go_wp2_with fail;refine bodyPost_end (results_none rfl _ _ _) rfl ⟨rfl,?_⟩;have he:Ext w1 ((w1.alloc (.cells #[.bool arr,.slice A refs.length cap] 94)).patch X):=zE;exact HW.out▸he
end Go.Proofs.YtdhjjpnajjingaaGreat
namespace Go
open Go.RowKit
def cxOf:Value→Nat × Nat
 |.complex _ a b=>(a,b)
 |_=>(0,0)
def IsCx (v:Value):Prop:= ∃a b,v=.complex .f64 a b
theorem IsCx.cx {v:Value} (h:IsCx v):Go.cx (cxOf v)=v:=by
 obtain ⟨a,b,rfl⟩:=h;rfl
theorem yi0:IsCx wNone:=⟨_,_,rfl⟩
theorem yem:IsCx wZero:=⟨_,_,rfl⟩
theorem yfq (i:Int):IsCx (wRef i):=by unfold wRef;split<;>exact ⟨_,_,rfl⟩
theorem ycC (k m:Int):IsCx (wHead k m):=by unfold wHead;split<;>exact ⟨_,_,rfl⟩
theorem yht (b:Bool):IsCx (wBlank b):=by cases b<;>exact ⟨_,_,rfl⟩
theorem ydf (s:Shp) (frag:Int) (vs:List Value) (h: ∀v∈vs,IsCx v): ∀k, ∀v∈putFields s frag vs k,IsCx v
 |0=>h
 |k+1=>fun v hv=>by
  unfold putFields at hv;split at hv
  · rcases List.mem_or_eq_of_mem_set hv with hv|rfl
    · exact ydf s frag vs h k v hv
    · exact yht _
  · exact ydf s frag vs h k v hv
def rowF (l:List Value) (k:Nat):Nat × Nat:=cxOf (l.getD k wZero)
theorem ykd {l:List Value} (hl:l.length=8) (h: ∀v∈l,IsCx v):cxs (rowF l)=l:=by
 apply List.ext_getElem?;intro k;unfold cxs;rw [List.getElem?_map];by_cases hk:k<8
 · rw [List.getElem?_range hk,List.getElem?_eq_getElem zo];simp only [Option.map_some,Option.some.injEq,rowF,List.getD,List.getElem?_eq_getElem (show k<l.length by omega),Option.getD_some];exact (h _ (List.getElem_mem _)).cx
 · rw [List.getElem?_eq_none (by simp;omega),List.getElem?_eq_none zo];rfl
def objInit (kind:Int) (got:List Int) (side:Bool) (j:Nat):List Value:=
 [if j+1<got.length then wRef (got.getD (j+1) 0) else wNone,if j=0 then wHead kind (if side then 1 else 0) else wZero,wZero,wZero,wZero,wZero,wZero,wZero]
def objRow (s:Shp) (kind:Int) (got:List Int) (side:Bool) (j:Nat):List Value:=putFields s j (objInit kind got side j) s.refs.length
theorem yeV (s:Shp) (kind:Int) (got:List Int) (side:Bool) (j:Nat):(objRow s kind got side j).length=8:=yaG _ _ _ _
theorem yjk (s:Shp) (kind:Int) (got:List Int) (side:Bool) (j:Nat): ∀v∈objRow s kind got side j,IsCx v:=by
 refine ydf _ _ _ (fun v hv=>?_) _;simp only [objInit,List.mem_cons,List.not_mem_nil,or_false] at hv;rcases hv with rfl|rfl|rfl|rfl|rfl|rfl|rfl|rfl
 · split
   · exact yfq _
   · exact yi0
 · split
   · exact ycC _ _
   · exact yem
 all_goals exact yem
def objWrites (s:Shp) (kind:Int) (got:List Int) (side:Bool):Nat→List Value
 |0=>[]
 |j+1=>objWrites s kind got side j++writes (got.getD j 0) (rowF (objRow s kind got side j)) 8
end Go
namespace Go.Proofs.YtdhjjpnajjingaaGreat
open Go Go.RowKit
def ObjGot (c:Cnf) (kind:Int) (got:List Int) (w:World) (e:Ending) (w':World):Prop:=
 ∃(s':Shp) (l:Value) (n:Nat),e=.returned (.tuple #[l,.int .i64 (wrongE c (c.shapeAt kind).isSome s' 0 false got)])∧(s'.arr,s'.refs)=(c.shapeAt kind).getD (false,[])∧
  w'.ownsRow w.heap.size 194 2 l n (if wrongE c (c.shapeAt kind).isSome s' 0 false got=0 then objWrites s' kind got (isSide got) got.length else [])∧Ext w w'
theorem ybY {c:Cnf} {is:Bool} {s:Shp} {n:Int} {array:Bool} {got:List Int} (h:wrongE c is s n array got=0):
 c.check=0∧got.all (fragOk c)=true∧is=true∧s.arr=array∧(got.length:Int)=s.size n∧1≤s.size n∧twiceIn got=false:=by
 unfold wrongE at h;split at h
 · omega
 split at h
 · omega
 split at h
 · omega
 split at h
 · omega
 rename_i h1 h2 h3 h4
 have h5:1≤s.size n:=by
  have hd:=yaY n;unfold Shp.size at h3 ⊢;split
  · rw [if_pos (by assumption)] at h3;omega
  · split
    · omega
    · split
      · omega
      · have:0≤s.len:=by unfold Shp.len;omega
        omega
 refine ⟨?_,?_,?_,?_,?_,h5,?_⟩
 · exact Decidable.byContradiction fun h=>h1 (Or.inl h)
 · cases hg:got.all (fragOk c)
   · exact absurd (Or.inr hg) h1
   · rfl
 · cases is
   · exact absurd (Or.inl rfl) h2
   · rfl
 · exact Decidable.byContradiction fun h=>h2 (Or.inr h)
 · exact Decidable.byContradiction fun h=>h4 (Or.inl h)
 · cases ht:twiceIn got
   · rfl
   · exact absurd (Or.inr ht) h4
structure ObjSt (c:Cnf) (kind:Int) (got:List Int) (w:World) (j:Nat) (l:Value) (s:Shp) (bs bw:Nat) (vs:List Value) (wr:World):Prop where
 lt:j<got.length
 box:wr.heap[w.heap.size]?=some (.cells #[.int .i64 c.frags,.int .i64 c.spine,.int .i64 c.globals,.int .i64 c.threads,.int .i64 c.locals,.int .i64 c.cache,.int .i64 c.stack,.int .i64 c.low,.slice c.A c.shapes.length c.cap] 34)
 sblk:wr.heap[bs]?=some (.cells #[.bool s.arr,.slice s.A s.refs.length s.cap] 94)
 wblk:wr.heap[bw]?=some (.cells vs.toArray 254)
 vlen:vs.length=8
 sok:s.Ok wr
 sne: ∀a,s.A=some a→0<s.refs.length→a.block<bw
 ext:Ext w wr
 own:wr.ownsRow (bw+1) 194 2 l (8*j) (objWrites s kind got (isSide got) j)
 lt1:w.heap.size<bs
 lt2:bs<bw
 what:(s.arr,s.refs)=(c.shapeAt kind).getD (false,[])
 fine:wrongE c (c.shapeAt kind).isSome s 0 false got=0
theorem ObjSt.put {c:Cnf} {kind:Int} {got:List Int} {w:World} {j:Nat} {l:Value} {s:Shp} {bs bw:Nat} {vs:List Value} {wr:World} (h:ObjSt c kind got w j l s bs bw vs wr) (L:List Value) (hL:L.length=8):
 ObjSt c kind got w j l s bs bw L (wr.putBlk bw (.cells L.toArray 254)):=by
 have hb:=(Array.getElem?_eq_some_iff.1 h.wblk).1;have h1:=h.lt1;have h2:=h.lt2;refine { lt:=h.lt,box:=?_,sblk:=?_,wblk:=World.row_put _ hb,vlen:=hL,sok:=h.sok.putBlk (fun a ha hr=>by have:=h.sne a ha hr;omega),sne:=h.sne,ext:=?_,own:=?_,lt1:=h1,lt2:=h2,what:=h.what,fine:=h.fine }
 · rw [World.row_put_other _ zo];exact h.box
 · rw [World.row_put_other _ zo];exact h.sblk
 · obtain ⟨b1,b2,b3,_,_⟩:=h.ext.below;exact yaC ⟨b1,b2,b3,by rw [World.size_putBlk];exact h.ext.size,fun k hk=>by rw [World.row_put_other _ zo];exact h.ext.heap k hk⟩
 · obtain ⟨o1,o2⟩:=h.own;refine ⟨o1,?_⟩;rcases o2 with ⟨hv,hn⟩|⟨g,cap,cur,hv,hbg,hh,r⟩
   · exact Or.inl ⟨hv,hn⟩
   · exact Or.inr ⟨g,cap,cur,hv,hbg,by rw [World.row_put_other _ zo];exact hh,r⟩
theorem ObjSt.patch {c:Cnf} {kind:Int} {got:List Int} {w:World} {j:Nat} {l:Value} {s:Shp} {bs bw:Nat} {vs:List Value} {wr:World} (h:ObjSt c kind got w j l s bs bw vs wr) (X:Extra):ObjSt c kind got w j l s bs bw vs (wr.patch X):=by
 have hb:=(Array.getElem?_eq_some_iff.1 h.wblk).1;have hb1:=(Array.getElem?_eq_some_iff.1 h.box).1;have hb2:=(Array.getElem?_eq_some_iff.1 h.sblk).1;exact { lt:=h.lt,box:=by rw [World.heap_patch _ _ _ hb1];exact h.box,sblk:=by rw [World.heap_patch _ _ _ hb2];exact h.sblk,wblk:=by rw [World.heap_patch _ _ _ hb];exact h.wblk,vlen:=h.vlen,sok:=h.sok.ext ⟨X,rfl⟩,sne:=h.sne,ext:=h.ext.patch X,own:=ybx h.own ⟨X,rfl⟩,lt1:=h.lt1,lt2:=h.lt2,what:=h.what,fine:=h.fine }
theorem ObjSt.lay {c:Cnf} {kind:Int} {got:List Int} {w:World} {j:Nat} {l:Value} {s:Shp} {bs bw:Nat} {vs:List Value} {wr:World} (h:ObjSt c kind got w j l s bs bw vs wr) {l':Value} {w':World} (he:Ext (wr.upTo (bw+1)) w') (ho:w'.ownsRow (bw+1) 194 2 l' (8*(j+1)) (objWrites s kind got (isSide got) (j+1))) (hj:j+1<got.length):
 ObjSt c kind got w (j+1) l' s bs bw vs w':=by
 have hb:=(Array.getElem?_eq_some_iff.1 h.wblk).1;have h1:=h.lt1;have h2:=h.lt2;have hz:=World.size_upTo wr (n:=bw+1) zo
 exact { lt:=hj,box:=by rw [he.heap _ zo,World.heap_upTo _ zo];exact h.box,sblk:=by rw [he.heap _ zo,World.heap_upTo _ zo];exact h.sblk,
         wblk:=by rw [he.heap _ zo,World.heap_upTo _ zo];exact h.wblk,vlen:=h.vlen,sok:=(h.sok.upTo zo (fun a ha hr=>Nat.lt_succ_of_lt (h.sne a ha hr))).ext he,sne:=h.sne,ext:=(h.ext.upTo zo zo).trans he,own:=ho,lt1:=h1,lt2:=h2,what:=h.what,fine:=h.fine }
theorem yiY:(prog.info? 254).map (·.size)=some 8:=zQ
def objHead (kind:Int) (got:List Int) (j:Nat):List Value:=[wNone,if j=0 then wHead kind (if isSide got then 1 else 0) else wZero,wZero,wZero,wZero,wZero,wZero,wZero]
theorem yhH {kind:Int} {got:List Int} {j:Nat} (h: ¬j=0):objHead kind got j=[.complex .f64 0 4607182418800017408,.complex .f64 0 0,.complex .f64 0 0,.complex .f64 0 0,.complex .f64 0 0,.complex .f64 0 0,.complex .f64 0 0,.complex .f64 0 0]:=by unfold objHead;rw [if_neg h];rfl
theorem yc4 {kind:Int} {got:List Int} {p q:Nat} (h:wHead kind (if isSide got then 1 else 0)=.complex .f64 p q):objHead kind got 0=List.set [.complex .f64 0 4607182418800017408,.complex .f64 0 0,.complex .f64 0 0,.complex .f64 0 0,.complex .f64 0 0,.complex .f64 0 0,.complex .f64 0 0,.complex .f64 0 0] 1 (.complex .f64 p q):=by unfold objHead;rw [if_pos rfl,h];rfl
theorem yhI {kind:Int} {got:List Int} {j:Nat} (h: ¬j+1<got.length):objInit kind got (isSide got) j=objHead kind got j:=by unfold objInit objHead;rw [if_neg h]
theorem ygc {kind:Int} {got:List Int} {j:Nat} {y:Int} {p q:Nat} (h:j+1<got.length) (hy:got.getD (j+1) 0=y) (hp:wRef y=.complex .f64 p q):objInit kind got (isSide got) j=(objHead kind got j).set 0 (.complex .f64 p q):=by unfold objInit objHead;rw [if_pos h,hy,hp];rfl
theorem ydY (kind:Int) (got:List Int) (side:Bool) (j:Nat):(objInit kind got side j).length=8:=rfl
def ObjAt (c:Cnf) (kind:Int) (A:Option Addr) (cap:Nat) (got:List Int) (w:World) (a:Act) (wr:World):Prop:=
 ∃(j:Nat) (l:Value) (s:Shp) (bs bw:Nat) (vs:List Value) (u4 u5 u6 u7 u9 u13 u14 u15 u16 u17 u18 u19 u20 u21 u22 u23 u24 u25 u26 u27 u28 u29 u30 u31 u32 u33 u34 u35 u36 u37 u38 u39 u40 u41 u42 u43 u44 u45 u46 u47 u48 u49 u50 u51 u52 u53 u54 u55 u56 u57 u58 u59 u60 u61 u62 u63 u64:Value),a={ tmps:=#[(.agg #[.int .i64 c.frags,.int .i64 c.spine,.int .i64 c.globals,.int .i64 c.threads,.int .i64 c.locals,.int .i64 c.cache,.int .i64 c.stack,.int .i64 c.low,.slice c.A c.shapes.length c.cap]),.int .i64 kind,.slice A got.length cap,.pointer (some ⟨w.heap.size,0,none⟩),u4,u5,u6,u7,.pointer (some ⟨bs,0,none⟩),u9,l,.pointer (some ⟨bw,0,none⟩),.int .i64 j,u13,u14,u15,u16,u17,u18,u19,u20,u21,u22,u23,u24,u25,u26,u27,u28,u29,u30,u31,u32,u33,u34,u35,u36,u37,u38,u39,u40,u41,u42,u43,u44,u45,u46,u47,u48,u49,u50,u51,u52,u53,u54,u55,u56,u57,u58,u59,u60,u61,u62,u63,u64],defers:=[] }∧ObjSt c kind got w j l s bs bw vs wr
theorem yhJ (c:Cnf) (kind:Int) (A:Option Addr) (cap:Nat) (got:List Int) (w:World) (hc:c.Ok w) (hg:CellsAt w A (got.map (Value.int .i64))) (hl:got.length≤1000) (hw: ∀x∈got, -9223372036854775808≤x∧x≤9223372036854775807):
 Calls prog 157 #[c.val,.int .i64 kind,.slice A got.length cap] w (ObjGot c kind got w):=by
 have HW:=zH (fun w' (he:Ext w w')=>yj1 c kind 0 false A cap got w' (hc.ext he) (hg.ext he) zo hw);unfold Cnf.val at HW ⊢;go_enter func157,ntmps157;go_wp2_with fail;refine ye2 0 (ObjAt c kind A cap got w) (fun a _=>got.length-(intOf (a.tmps.getD 12 undef)).toNat) rfl ?_ ?_
 · rintro a wr ⟨j,l,s,bs,bw,vs,u4,u5,u6,u7,u9,u13,u14,u15,u16,u17,u18,u19,u20,u21,u22,u23,u24,u25,u26,u27,u28,u29,u30,u31,u32,u33,u34,u35,u36,u37,u38,u39,u40,u41,u42,u43,u44,u45,u46,u47,u48,u49,u50,u51,u52,u53,u54,u55,u56,u57,u58,u59,u60,u61,u62,u63,u64,rfl,hst⟩;obtain ⟨arr,A',cap',refs⟩:=s;have HST:=zH hst;have hj:=hst.lt;have HG:=zH hg;have HSD:=zH (fun w' (he:Ext w w')=>yfF A cap got w' (hg.ext he) zo hw);have HCO:=zH hc;clear hg hw hc;clear hst;go_wp2_with fail;refine (yaL _).mono ?_;rintro e w1 ⟨rfl,X1,rfl⟩;unfold wNone;go_upto_if 26 with (refine ydo rfl 254 (.tmp 11) (.tmp 24) rfl bw [.complex .f64 0 4607182418800017408,.complex .f64 0 0,.complex .f64 0 0,.complex .f64 0 0,.complex .f64 0 0,.complex .f64 0 0,.complex .f64 0 0,.complex .f64 0 0] rfl rfl _ _ HST.out.wblk yiY HST.out.vlen (by intro v hv;simp at hv;rcases hv with rfl|rfl<;>rfl) ?_)
   have HS1:=zH ((HST.out.put [.complex .f64 0 4607182418800017408,.complex .f64 0 0,.complex .f64 0 0,.complex .f64 0 0,.complex .f64 0 0,.complex .f64 0 0,.complex .f64 0 0,.complex .f64 0 0] rfl).patch X1);generalize (wr.putBlk bw (.cells (List.toArray [.complex .f64 0 4607182418800017408,.complex .f64 0 0,.complex .f64 0 0,.complex .f64 0 0,.complex .f64 0 0,.complex .f64 0 0,.complex .f64 0 0,.complex .f64 0 0]) 254)).patch X1=wr1 at *;clear HST;go_cut [] (fun wx=>ObjSt c kind got w j l ⟨arr,A',cap',refs⟩ bs bw (objHead kind got j) wx)
   case first=>
    by_cases h0:j=0
    · subst h0;go_wp2_with fail;refine (yfp _ _ _).mono ?_;obtain ⟨p1,p2,hp⟩:=ycC kind 0;rw [hp];have HP:=zH hp;clear hp;rintro e w2 ⟨rfl,X2,rfl⟩;go_wp2_with (refine yaZ rfl 24 (.tmp 29) (.tmp 28) rfl bw 1 (.complex .f64 p1 p2) rfl rfl _ _ HS1.out.wblk zQ zd ⟨_,_,rfl⟩ ?_);have HS2:=zH ((HS1.out.put [.complex .f64 0 4607182418800017408,.complex .f64 p1 p2,.complex .f64 0 0,.complex .f64 0 0,.complex .f64 0 0,.complex .f64 0 0,.complex .f64 0 0,.complex .f64 0 0] rfl).patch X2);generalize (wr1.putBlk bw (.cells (List.toArray [.complex .f64 0 4607182418800017408,.complex .f64 p1 p2,.complex .f64 0 0,.complex .f64 0 0,.complex .f64 0 0,.complex .f64 0 0,.complex .f64 0 0,.complex .f64 0 0]) 254)).patch X2=wr2 at *;go_wp2_with fail;refine (HSD.out _ HS2.out.ext).mono ?_;rintro e w3 ⟨rfl,X3,rfl⟩;have HS3:=zH (HS2.out.patch X3);generalize wr2.patch X3=wr3 at *;cases hsd:isSide got
      · have HQ:=zH hsd;clear hsd;go_wp2_with fail;go_meet
        rw [yc4 (by rw [HQ.out];exact HP.out)];exact HS3.out
      · have HQ:=zH hsd;clear hsd;go_wp2_with fail;refine (yfp _ _ _).mono ?_;obtain ⟨q1,q2,hq⟩:=ycC kind 1;rw [hq];have HP1:=zH hq;clear hq;rintro e w4 ⟨rfl,X4,rfl⟩;go_wp2_with (refine yaZ rfl 24 (.tmp 34) (.tmp 33) rfl bw 1 (.complex .f64 q1 q2) rfl rfl _ _ HS3.out.wblk zQ (show 1<List.length (_::_::_::_::_::_::_::_::[]) from (by decide:1<8)) ⟨_,_,rfl⟩ ?_);go_meet
        rw [yc4 (by rw [HQ.out];exact HP1.out)];exact (HS3.out.put _ rfl).patch X4
    · go_wp2_with fail;go_meet
      rw [yhH h0];exact HS1.out
   case rest=>
    have HS2:=zH hcut;clear hcut HS1;go_upto_if 39 with fail
    go_cut [] (fun wx=>ObjSt c kind got w j l ⟨arr,A',cap',refs⟩ bs bw (objInit kind got (isSide got) j) wx)
    case first=>
     by_cases h1:j+1<got.length
     · obtain ⟨q,o,rfl,hq,hcell⟩:=ycV (HG.out.ext HS2.out.ext) hj;have k1:=hcell (j+1) h1;generalize hy:got.getD (j+1) 0=y at k1;have HY:=zH hy;clear hy hcell;go_wp2_with fail;refine (yd0 _ _).mono ?_;obtain ⟨p1,p2,hp⟩:=yfq y;rw [hp];have HP:=zH hp;clear hp;rintro e w1 ⟨rfl,X2,rfl⟩;go_wp2_with (refine yaZ rfl 24 (.tmp 46) (.tmp 45) rfl bw 0 (.complex .f64 p1 p2) rfl rfl _ _ HS2.out.wblk zQ (show 0<(objHead kind got j).length from (by decide:0<8)) ⟨_,_,rfl⟩ ?_);go_meet
       rw [ygc h1 HY.out HP.out];exact (HS2.out.put _ rfl).patch X2
     · go_wp2_with fail;go_meet
       rw [yhI h1];exact HS2.out
    case rest=>
     have HS3:=zH hcut;clear hcut HS2;have s0:wc.cell? ⟨bs,0,none⟩=some (.bool arr):=(by simp only [World.cell?,HS3.out.sblk];rfl);have s1:wc.cell? ⟨bs,1,none⟩=some (.slice A' refs.length cap'):=(by simp only [World.cell?,HS3.out.sblk];rfl);have hbs:bs<wc.heap.size:=(Array.getElem?_eq_some_iff.1 HS3.out.sblk).1;have HFL:=zH (yhe ⟨arr,A',cap',refs⟩ j bw _ _ wc HS3.out.sok HS3.out.wblk (ydY _ _ _ _) (fun a ha hr=>by have:=HS3.out.sne a ha hr;omega));unfold Shp.val at HFL;go_wp2_with fail;refine HFL.out.mono ?_;rintro e w4 ⟨rfl,X4,rfl⟩;have HS4:=zH ((HS3.out.put (putFields ⟨arr,A',cap',refs⟩ j (objInit kind got (isSide got) j) refs.length) (yaG _ _ _ _)).patch X4);generalize (wc.putBlk bw (.cells (putFields ⟨arr,A',cap',refs⟩ j (objInit kind got (isSide got) j) refs.length).toArray 254)).patch X4=wf at *;clear s0 s1 hbs HFL HS3;have hrow:=yjk ⟨arr,A',cap',refs⟩ kind got (isSide got) j;have hrl:=yeV ⟨arr,A',cap',refs⟩ kind got (isSide got) j
     have hwr:objWrites ⟨arr,A',cap',refs⟩ kind got (isSide got) (j+1)=objWrites ⟨arr,A',cap',refs⟩ kind got (isSide got) j++writes (got.getD j 0) (rowF (objRow ⟨arr,A',cap',refs⟩ kind got (isSide got) j)) 8:=rfl;have hre:=ykd hrl hrow;rw [show putFields ⟨arr,A',cap',refs⟩ j (objInit kind got (isSide got) j) refs.length=objRow ⟨arr,A',cap',refs⟩ kind got (isSide got) j from rfl, ←hre] at HS4;generalize rowF (objRow ⟨arr,A',cap',refs⟩ kind got (isSide got) j)=f at *;have HWR:=zH hwr;clear hrow hrl hwr hre;obtain ⟨q,o,rfl,hq,hcell⟩:=ycV (HG.out.ext HS4.out.ext) hj;have k0:=hcell j hj;have hfj:fragOk c (got.getD j 0)=true:=List.all_eq_true.1 (ybY HS4.out.fine).2.1 _ (by rw [List.getD_eq_getElem?_getD,List.getElem?_eq_getElem hj];exact List.getElem_mem hj);generalize got.getD j 0=y at *;have g0:wf.cell? ⟨w.heap.size,0,none⟩=some (zI z6 c.frags):=(by simp only [World.cell?,HS4.out.box];rfl);have g1:wf.cell? ⟨w.heap.size,1,none⟩=some (zI z6 c.spine):=(by simp only [World.cell?,HS4.out.box];rfl);have g2:wf.cell? ⟨w.heap.size,2,none⟩=some (zI z6 c.globals):=(by simp only [World.cell?,HS4.out.box];rfl)
     have g3:wf.cell? ⟨w.heap.size,3,none⟩=some (zI z6 c.threads):=(by simp only [World.cell?,HS4.out.box];rfl);have g4:wf.cell? ⟨w.heap.size,4,none⟩=some (zI z6 c.locals):=(by simp only [World.cell?,HS4.out.box];rfl);have g5:wf.cell? ⟨w.heap.size,5,none⟩=some (zI z6 c.cache):=(by simp only [World.cell?,HS4.out.box];rfl);have g6:wf.cell? ⟨w.heap.size,6,none⟩=some (zI z6 c.stack):=(by simp only [World.cell?,HS4.out.box];rfl);have g7:wf.cell? ⟨w.heap.size,7,none⟩=some (zI z6 c.low):=(by simp only [World.cell?,HS4.out.box];rfl);have g8:wf.cell? ⟨w.heap.size,8,none⟩=some (.slice c.A c.shapes.length c.cap):=(by simp only [World.cell?,HS4.out.box];rfl);have v0:wf.cell? ⟨bw,0,none⟩=some (.complex .f64 (f 0).1 (f 0).2):=(by simp only [World.cell?,HS4.out.wblk];rfl);have v1:wf.cell? ⟨bw,1,none⟩=some (.complex .f64 (f 1).1 (f 1).2):=(by simp only [World.cell?,HS4.out.wblk];rfl);have v2:wf.cell? ⟨bw,2,none⟩=some (.complex .f64 (f 2).1 (f 2).2):=(by simp only [World.cell?,HS4.out.wblk];rfl);have v3:wf.cell? ⟨bw,3,none⟩=some (.complex .f64 (f 3).1 (f 3).2):=(by simp only [World.cell?,HS4.out.wblk];rfl)
     have v4:wf.cell? ⟨bw,4,none⟩=some (.complex .f64 (f 4).1 (f 4).2):=(by simp only [World.cell?,HS4.out.wblk];rfl);have v5:wf.cell? ⟨bw,5,none⟩=some (.complex .f64 (f 5).1 (f 5).2):=(by simp only [World.cell?,HS4.out.wblk];rfl);have v6:wf.cell? ⟨bw,6,none⟩=some (.complex .f64 (f 6).1 (f 6).2):=(by simp only [World.cell?,HS4.out.wblk];rfl);have v7:wf.cell? ⟨bw,7,none⟩=some (.complex .f64 (f 7).1 (f 7).2):=(by simp only [World.cell?,HS4.out.wblk];rfl);have hbw:bw<wf.heap.size:=(Array.getElem?_eq_some_iff.1 HS4.out.wblk).1;have hbx:w.heap.size<wf.heap.size:=(Array.getElem?_eq_some_iff.1 HS4.out.box).1;have hb1:=HS4.out.lt1;have hb2:=HS4.out.lt2;have hsz:=World.size_upTo wf (n:=bw+1) zo;have hfr:c.frags≤1099511627776:=by have:=(Cnf.ranged (Cnf.check_zero (ybY HS4.out.fine).1).1).1.2;omega
     have HLY:=zH (fun X=>ylb c l (8*j) (objWrites ⟨arr,A',cap',refs⟩ kind got (isSide got) j) y f (wf.patch X) (wf.upTo (bw+1)) (bw+1) (HCO.out.ext (HS4.out.ext.upTo zo zo)) hfj ((yki wf zo).patch X) zo (by rw [World.size_patch];omega) (ybx HS4.out.own ⟨X,rfl⟩) zo hfr);unfold Cnf.val at HLY;clear hb1 hb2 hsz hfr hfj hcell;go_wp2_with fail;refine yab [zT,zT,zT,zT,zT,zT,zT,zU,zU] 2 7 ?_;intro X00;simp only [pickOps];repeat (go_big_quiet_step (fail))
     refine wpQuiet_nil (fun X0=>?_);clear X00;refine yae rfl zQ (fun X2=>?_);simp only [List.drop_succ_cons,List.drop_zero];go_wp2_with fail;refine (HLY.out _).mono ?_;rintro e w6 ⟨v',rfl,hown,hE6,hz6⟩;rw [←HWR.out] at hown;have HOW:=zH (show w6.ownsRow (bw+1) 194 2 v' (8*(j+1)) (objWrites ⟨arr,A',cap',refs⟩ kind got (isSide got) (j+1)) from hown);have HX6:=zH (show Ext (wf.upTo (bw+1)) w6 from hE6);clear hown hE6 hz6 g0 g1 g2 g3 g4 g5 g6 g7 g8 v0 v1 v2 v3 v4 v5 v6 v7;by_cases h1:j+1<got.length
     · go_wp2_with fail;go_step3
       refine ⟨rfl,⟨j+1,v',⟨arr,A',cap',refs⟩,bs,bw,cxs f,_,_,_,_,_,_,_,_,_,_,_,_,_,_,_,_,_,_,_,_,_,_,_,_,_,_,_,_,_,_,_,_,_,_,_,_,_,_,_,_,_,_,_,_,_,_,_,_,_,_,_,_,_,_,_,_,_,rfl,HS4.out.lay HX6.out HOW.out h1⟩,?_⟩;simp [intOf];omega
     · have hb1:=HS4.out.lt1;have hb2:=HS4.out.lt2;have hlen:got.length=j+1:=zo;have HLN:=zH hlen;clear hlen;go_wp2_with fail;rw [Exit.jump_ret];go_ret2;exact ⟨⟨arr,A',cap',refs⟩,v',8*(j+1),by rw [HS4.out.fine];rfl,HS4.out.what,by rw [if_pos HS4.out.fine,HLN.out];exact ycI HOW.out zo,(HS4.out.ext.upTo zo zo).trans HX6.out⟩
 · intro H;go_wp2_with fail;refine (HW.out _ zE).mono ?_;rintro e w1 ⟨s,rfl,hs,hok,X1,rfl⟩;have HS:=zH hs;have HO:=zH hok;clear hs hok;by_cases hE:wrongE c (c.shapeAt kind).isSome s 0 false got=0
   · rw [hE];have HE:=zH hE;have HH:=zH H;clear hE H;obtain ⟨arr,A',cap',refs⟩:=s;unfold Shp.val;simp only;go_wp2_with fail;go_step3
     have hf:=ybY HE.out;have hz:(w.alloc (.cells #[.int .i64 c.frags,.int .i64 c.spine,.int .i64 c.globals,.int .i64 c.threads,.int .i64 c.locals,.int .i64 c.cache,.int .i64 c.stack,.int .i64 c.low,.slice c.A c.shapes.length c.cap] 34)).heap.size=w.heap.size+1:=World.size_alloc _ _;have hp:=World.size_patch (w.alloc (.cells #[.int .i64 c.frags,.int .i64 c.spine,.int .i64 c.globals,.int .i64 c.threads,.int .i64 c.locals,.int .i64 c.cache,.int .i64 c.stack,.int .i64 c.low,.slice c.A c.shapes.length c.cap] 34)) X1;refine (show∀(a:Act) (w:World),Code.wp _ _ _ a w→_ from by assumption) _ _ (HH.out _ _ ⟨0,.slice none 0 0,⟨arr,A',cap',refs⟩,_,_,[.complex .f64 0 0,.complex .f64 0 0,.complex .f64 0 0,.complex .f64 0 0,.complex .f64 0 0,.complex .f64 0 0,.complex .f64 0 0,.complex .f64 0 0],_,_,_,_,_,_,_,_,_,_,_,_,_,_,_,_,_,_,_,_,_,_,_,_,_,_,_,_,_,_,_,_,_,_,_,_,_,_,_,_,_,_,_,_,_,_,_,_,_,_,_,_,_,_,_,_,_,rfl,?_⟩);generalize hq:(w.alloc (.cells #[.int .i64 c.frags,.int .i64 c.spine,.int .i64 c.globals,.int .i64 c.threads,.int .i64 c.locals,.int .i64 c.cache,.int .i64 c.stack,.int .i64 c.low,.slice c.A c.shapes.length c.cap] 34)).patch X1=wq at *;have ha1:=fun o=>World.size_alloc wq o
     refine { lt:=by omega,box:=?_,sblk:=?_,wblk:=?_,vlen:=rfl,sok:=HO.out.ext zE,sne:=fun a ha hr=>?_,ext:=?_,own:=?_,lt1:=by omega,lt2:=Nat.lt_succ_self _,what:=HS.out,fine:=HE.out }
     · rw [World.row_alloc_past _ (by rw [World.size_alloc];omega),World.row_alloc_past _ zo, ←hq,World.heap_patch _ _ _ zo,World.row_alloc_new]
     · rw [World.row_alloc_past _ (by rw [World.size_alloc];omega),World.row_alloc_new]
     · rw [←World.size_alloc wq,World.row_alloc_new]
     · obtain ⟨b,o,hA,hb,_⟩:=HO.out.refs.cases (by simpa using hr);rw [ha] at hA;cases hA
       exact Nat.lt_succ_of_lt hb
     · rw [←hq];exact zE
     · exact ⟨rfl,Or.inl ⟨rfl,rfl⟩⟩
   · have HE:=zH hE;obtain ⟨arr,A',cap',refs⟩:=s;unfold Shp.val;simp only;generalize hv:wrongE c (c.shapeAt kind).isSome ⟨arr,A',cap',refs⟩ 0 false got=ev at hE ⊢;have HV:=zH hv;clear hv H;go_wp2_with fail;rw [Exit.jump_ret];go_ret2;exact ⟨⟨arr,A',cap',refs⟩,.slice none 0 0,0,by rw [HV.out];rfl,HS.out,by rw [if_neg HE.out];exact ⟨rfl,Or.inl ⟨rfl,rfl⟩⟩,zE⟩
def sentIn (got:List Int) (j:Nat):Value:=if j+1<got.length then wRef (got.getD (j+1) 0) else wNone
def sentWords (kind n m:Int) (got:List Int) (at_:Int):List Value:=[wNone,wHead kind 0,wWhole n,wWhole m]++
 (if m=0 then [sentIn got 0,sentIn got 1,sentIn got 2,sentIn got 3] else if m=1 then [wWhole at_,wZero,wZero,wZero] else [wRef (got.getD 1 0),wZero,wZero,wZero])
def cOf (c:Cnf) (a:Int):Int × Int × Int:=
 if a<0∨ ¬c.check=0 then (0,0,0)
 else if a<c.frags*8 then (1,a/8,a%8)
 else if a<c.frags*8+c.spine then (2,0,a-c.frags*8)
 else if a<c.frags*8+c.spine+c.spine then (3,0,a-c.frags*8-c.spine)
 else if a<c.frags*8+c.spine+c.spine+c.globals then (4,0,a-c.frags*8-c.spine-c.spine)
 else (0,0,0)
theorem ydG (s:Shp) (n:Int) (w:World) (hs:s.Ok w):Calls prog 197 #[s.val,.int .i64 n] w (Gives (zI z6 (s.spine n)) w):=by
 have hl:s.refs.length≤140737488355328:=hs.max;have hc:=fun w' (he:Ext w w')=>ycW s w' (hs.ext he);obtain ⟨arr,A,cap,refs⟩:=s;unfold Shp.val at hc ⊢;simp only at hl hc ⊢;cases hm:Shp.may ⟨arr,A,cap,refs⟩
 · rw [hm] at hc;have HC:=zH hc;clear hc;have HV:=zH (show Shp.spine ⟨arr,A,cap,refs⟩ n=0 by simp [Shp.spine,hm]);clear hm;go_enter func197,ntmps197;go_wp2_with (go_at_call 116;refine (HC.out _ zE).mono ?_;rintro e w1 ⟨rfl,X1,rfl⟩);go_ret;exact Gives.int HV.out.symm zE
 · rw [hm] at hc;have HC:=zH hc;have HM:=zH hm;clear hc hm;cases arr
   · have HV:=zH (show Shp.spine ⟨false,A,cap,refs⟩ n=0 by simp [Shp.spine]);go_enter func197,ntmps197;go_wp2_with (go_at_call 116;refine (HC.out _ zE).mono ?_;rintro e w1 ⟨rfl,X1,rfl⟩);go_ret;exact Gives.int HV.out.symm zE
   · have hb:=yaY n;by_cases h4:sData n≤4
     · have HV:=zH (show Shp.spine ⟨true,A,cap,refs⟩ n=0 by unfold Shp.spine;rw [if_pos (by simp [h4])]);go_enter func197,ntmps197;go_wp2_with (first|(go_at_call 116;refine (HC.out _ zE).mono ?_;rintro e w1 ⟨rfl,X1,rfl⟩)|(go_at_call 224;refine (ybd _ _).mono ?_;rintro e w1 ⟨rfl,X1,rfl⟩));go_ret;exact Gives.int HV.out.symm zE
     · have HV:=zH (show Shp.spine ⟨true,A,cap,refs⟩ n=sData n+2 by unfold Shp.spine;rw [if_neg (by simp [h4,HM.out])]);go_enter func197,ntmps197;go_wp2_with (first|(go_at_call 116;refine (HC.out _ zE).mono ?_;rintro e w1 ⟨rfl,X1,rfl⟩)|(go_at_call 224;refine (ybd _ _).mono ?_;rintro e w1 ⟨rfl,X1,rfl⟩));go_ret;exact Gives.int HV.out.symm zE
theorem yfx (s:Shp) (a b d n:Int) (x y:Nat) (w:World) (hs:s.Ok w):Calls prog 196 #[s.val,.agg #[.int .i64 1,.int .i64 a,.int .i64 b,.int .i64 d,.int .i64 n,.complex .f64 x y]] w (Gives (zI z6 (s.size 0)) w):=by
 have HC:=zH (fun w' (he:Ext w w')=>ydl s 0 w' (hs.ext he));obtain ⟨arr,A,cap,refs⟩:=s;unfold Shp.val at HC ⊢;simp only at HC ⊢;go_enter func196,ntmps196;go_wp2_with (go_at_call 240;refine (HC.out _ zE).mono ?_;rintro e w1 ⟨rfl,X1,rfl⟩);go_ret;exact Gives.mk rfl zE
def modeOf (d:Int) (got:List Int):Int:=if d≤4 then 0 else if isSide got=true then 2 else 1
def beginsAt (c:Cnf) (at_ n:Int):Bool:=((cOf c at_).1==2 || (cOf c at_).1==3)&&decide ((cOf c at_).2.2+n≤c.spine)
end Go.Proofs.YtdhjjpnajjingaaGreat
namespace Go
open Go.RowKit
end Go
namespace Go.Proofs.YtdhjjpnajjingaaGreat
open Go Go.RowKit
def arrMode (n:Int) (got:List Int):Int:=modeOf (sData n) got
def arrE (c:Cnf) (is:Bool) (s:Shp) (n:Int) (got:List Int) (at_:Int):Int:=
 if wrongE c is s n true got=0 then (if (decide (arrMode n got=1)&& !beginsAt c at_ (s.spine n))=true then 2 else 0) else wrongE c is s n true got
def dataF (s:Shp):Nat→Nat × Nat:=fun _=>cxOf (wBlank (s.refs.getD 0 false))
def fragWrites (f0 f:Nat→Nat × Nat) (got:List Int):Nat→List Value
 |0=>[]
 |j+1=>fragWrites f0 f got j++writes (got.getD j 0) (if j=0 then f0 else f) 8
def spineW (got:List Int) (at_:Int):Nat→List Value
 |0=>[.int .i64 at_,wRef (got.getD 0 0),.int .i64 (at_+1),wWhole ((got.length:Int)-1)]
 |k+1=>spineW got at_ k++[.int .i64 (at_+2+k),wRef (got.getD (k+1) 0)]
def sentF (kind n at_:Int) (got:List Int):Nat→Nat × Nat:=rowF (sentWords kind n (arrMode n got) got at_)
def arrFrags (s:Shp) (kind n at_:Int) (got:List Int) (j:Nat):List Value:=fragWrites (sentF kind n at_ got) (dataF s) got j
def arrWrites (s:Shp) (kind n at_:Int) (got:List Int):List Value:=arrFrags s kind n at_ got got.length++if arrMode n got=1 then spineW got at_ (got.length-1) else []
end Go.Proofs.YtdhjjpnajjingaaGreat
namespace Go
end Go
namespace Go.Proofs.YtdhjjpnajjingaaGreat
open Go Go.RowKit
end Go.Proofs.YtdhjjpnajjingaaGreat
