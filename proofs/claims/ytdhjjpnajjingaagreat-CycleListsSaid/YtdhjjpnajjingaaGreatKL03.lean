import Derived.Test.YtdhjjpnajjingaaGreatKL02
import Derived.Test.YtdhjjpnajjingaaGreatChecked
import Derived.Laws.AppendOwnNone
set_option linter.unusedVariables false
set_option linter.unnecessarySimpa false
set_option linter.unusedSimpArgs false
open Bool renaming true→zT,false→zU
open Go.Value renaming int→zI
open Go.IntKind renaming i64→z6
set_option maxHeartbeats 8000000
set_option maxRecDepth 100000
open Go.Proofs.Tryz
open Go.Lib renaming hid→zH
open Go.Ext renaming alloc→zA,patch→zP,drew→zD,drewN→zN,more→zM,refl→zR,setCell→zS
open Nat renaming le_refl→zL,le_add_right→zK
namespace Go.Proofs.YtdhjjpnajjingaaGreat
open Go Go.RowKit
structure PoolAt (g:GW) (t b:Nat) (p:PoolS):Prop where
 ex: ∃A c,Blk g t b 148 [.slice A p.l.length c,.int .i64 p.free]∧Row g t 4 1 (.slice A p.l.length c) p.l.length (p.l.map Value.bool)
 len:p.l.length≤1024
theorem PoolAt.keep {S:Nat→Prop} {g g':GW} {t b:Nat} {p:PoolS} (h:PoolAt g t b p) (d:Mod S g g') (hs: ¬S t):PoolAt g' t b p:=by
 obtain ⟨A,c,h1,h2⟩:=h.ex;exact ⟨⟨A,c,h1.keep d hs,h2.keep d hs⟩,h.len⟩
theorem PoolAt.pt {g:GW} {t b:Nat} {p:PoolS} (h:PoolAt g t b p) (X:Extra):PoolAt (g.pt X) t b p:=h.keep (S:=fun _=>False) (Mod.pt (Mod.refl _ _) X) id
theorem yeu (g:GW) (t b:Nat) (p:PoolS) (h:PoolAt g t b p):
 Calls prog 43 #[.pointer (some ⟨b,0,none⟩)] g.w (fun e w'=>e=.returned (zI z6 p.free)∧g.w=w'):=by
 obtain ⟨A,c,hb,hr⟩:=h.ex;have c1:=hb.cell (i:=1) rfl;clear hb hr h;go_enter func43,ntmps43;go_wp2_with fail;go_ret;exact ⟨rfl,rfl⟩
theorem PoolAt.place {g:GW} {t b:Nat} {p:PoolS} (h:PoolAt g t b p) {k:Nat} (hk:k<p.l.length): ∃r c,Blk g t b 148 [.slice (some ⟨r,0,none⟩) p.l.length c,.int .i64 p.free]∧
 Row g t 4 1 (.slice (some ⟨r,0,none⟩) p.l.length c) p.l.length (p.l.map Value.bool)∧r<g.w.heap.size∧g.w.cell? ⟨r,k,none⟩=some (.bool (p.l.getD k false))∧g.w.frozen? ⟨r,k,none⟩=false∧b≠r:=by
 obtain ⟨A,c,hb,hr⟩:=h.ex;obtain ⟨r,rfl,hl,ho,hc,hf⟩:=hr.block zo;exact ⟨r,c,hb,hr,hl,hc _ _ (by simp [List.getD_eq_getElem?_getD,hk]),hf _,hr.ne_type hb zd rfl⟩
theorem PoolAt.stored {g:GW} {t b r c k:Nat} {x:Bool} {n:Int} {p:PoolS} (h:PoolAt g t b p) (hk:k<p.l.length) (hb:Blk g t b 148 [.slice (some ⟨r,0,none⟩) p.l.length c,.int .i64 p.free])
 (hn:n=(PoolS.free ⟨p.l.set k x⟩:Nat)):PoolAt ⟨g.own,(g.w.setCell ⟨r,k,none⟩ (.bool x)).setCell ⟨b,1,none⟩ (zI z6 n)⟩ t b ⟨p.l.set k x⟩:=by
 obtain ⟨A',c',hb',hr⟩:=h.ex;have e:=hb'.same hb;injection e with e _;injection e with e1 _ e2;subst e1 e2 hn;have hne:r≠b:=fun e=>hr.ne_type hb' zd rfl e.symm;refine ⟨⟨some ⟨r,0,none⟩,c',?_,?_⟩,by simpa using h.len⟩
 · simp only [List.length_set];exact (hb'.setOther k (.bool x) hne).set 1 _
 · simp only [List.length_set];rw [List.map_set];exact (hr.store k (.bool x)).setOther _ _ (fun y hy e=>hne (by injection hy with hy;exact hy.trans e.symm))
theorem PoolS.free_set {l:List Bool} {k:Nat} (hk:k<l.length) (x:Bool):((PoolS.free ⟨l.set k x⟩:Nat):Int)=(PoolS.free ⟨l⟩:Int)-(if l.getD k false then 1 else 0)+(if x then 1 else 0):=by
 unfold PoolS.free;simp only;rw [List.countP_set hk,List.getD_eq_getElem?_getD,List.getElem?_eq_getElem hk];simp only [Option.getD_some,id];have:l[k]=true→0<l.countP id:=fun h=>List.countP_pos_iff.2 ⟨_,List.getElem_mem hk,h⟩;by_cases h1:l[k]=true
 · have:=this h1;rw [if_pos h1,if_pos h1];split<;>omega
 · rw [if_neg h1,if_neg h1];split<;>omega
theorem ydC (g:GW) (t b k:Nat) (p:PoolS) (h:PoolAt g t b p) (hk:k<p.l.length) (hx:p.l.getD k false=true):
 Calls prog 272 #[.pointer (some ⟨b,0,none⟩),.int .i64 k] g.w (Does (.tuple #[]) g (fun x=>x=t) (fun g'=>PoolAt g' t b ⟨p.l.set k false⟩)):=by
 obtain ⟨r,c,hb,hr,hrl,k0,kf,hne⟩:=h.place hk;have HO:=zH hb.own;have HR:=zH (hr.own r rfl);have H:=zH (PoolAt.stored (x:=false) h hk hb (n:=(p.free:Int)-1) (by rw [PoolS.free_set hk,hx];simp));have hne':r≠b:=fun e=>hne e.symm;have c0:=hb.cell (i:=0) rfl;have c1:=hb.cell (i:=1) rfl;have f1:=hb.live 1;have hbl:=hb.lt;have hlen:=h.len;have hfr:p.free≤1024:=Nat.le_trans List.countP_le_length hlen;clear hb h hr hx;go_enter func272,ntmps272;go_wp2_with fail;refine bodyPost_end (results_none rfl _ _ _) rfl (Does.of ⟨g.own,_⟩ rfl rfl (Mod.st (Mod.st Mod.self HR.out) HO.out) H.out)
theorem yjv (g:GW) (t b:Nat) (i:Int) (p:PoolS) (h:PoolAt g t b p):
 Calls prog 192 #[.pointer (some ⟨b,0,none⟩),.int .i64 i] g.w (Does (.bool (inB i p.l.length&& !p.l.getD i.toNat false)) g (fun x=>x=t) (fun g'=>PoolAt g' t b (p.give i))):=by
 cases hin:inB i p.l.length
 · have HT:=zH (show p.give i=p by unfold PoolS.give;rw [hin];rfl);obtain ⟨A,c,hb,hr⟩:=h.ex;have H:=zH h;have c0:=hb.cell (i:=0) rfl;have hc:=ybS hin;clear hb hr h hin;by_cases h0:i<0
   · clear hc;go_enter func192,ntmps192;go_wp2_with fail;go_ret;exact Does.of g rfl rfl (Mod.refl _ _) (by rw [HT.out];exact H.out)
   · have h1:(p.l.length:Int)≤i:=zo;clear hc;go_enter func192,ntmps192;go_wp2_with fail;go_ret;exact Does.of g rfl rfl (Mod.refl _ _) (by rw [HT.out];exact H.out)
 · obtain ⟨k,rfl,hk⟩:=yam hin;obtain ⟨r,c,hb,hr,hrl,k0,kf,hne⟩:=h.place hk;have HO:=zH hb.own;have HR:=zH (hr.own r rfl);have hne':r≠b:=fun e=>hne e.symm;have c0:=hb.cell (i:=0) rfl;have c1:=hb.cell (i:=1) rfl;have f1:=hb.live 1;have hbl:=hb.lt;have hlen:=h.len;have hfr:p.free≤1024:=Nat.le_trans List.countP_le_length hlen;have HT:=zH (show p.give k=⟨p.l.set k true⟩ by unfold PoolS.give;rw [hin,if_pos rfl,Int.toNat_natCast]);rw [Int.toNat_natCast];cases hx:p.l.getD k false
   · have H:=zH (PoolAt.stored (x:=true) h hk hb (n:=(p.free:Int)+1) (by rw [PoolS.free_set hk,hx];simp));rw [hx] at k0;clear hb h hr hx;go_enter func192,ntmps192;go_wp2_with fail;go_ret;exact Does.of ⟨g.own,_⟩ rfl rfl (Mod.st (Mod.st Mod.self HR.out) HO.out) (by rw [HT.out];exact H.out)
   · have HE:=zH (show p.l.set k true=p.l from by
      apply List.ext_getElem?;intro j;by_cases hj:k=j
      · subst hj;rw [List.getElem?_set_self hk,List.getElem?_eq_getElem hk];rw [List.getD_eq_getElem?_getD,List.getElem?_eq_getElem hk] at hx;simpa using hx.symm
      · rw [List.getElem?_set_ne hj])
     have H:=zH h;rw [hx] at k0;clear hb h hr hx;go_enter func192,ntmps192;go_wp2_with fail;go_ret;exact Does.of g rfl rfl (Mod.refl _ _) (by rw [HT.out,HE.out];exact H.out)
theorem yhU (l:List Bool) (k m:Nat):PoolS.runGo l k 0 m=none:=rfl
theorem ykR {l:List Bool} {k j m:Nat} (h:l.getD j false=false):PoolS.runGo l k (j+1) m=PoolS.runGo l k j 0:=by
 rw [PoolS.runGo,if_neg (by rw [h];simp)]
theorem yhT {l:List Bool} {k j m:Nat} (h:l.getD j false=true) (hm: ¬m+1=k):PoolS.runGo l k (j+1) m=PoolS.runGo l k j (m+1):=by
 rw [PoolS.runGo,if_pos h,if_neg hm]
theorem yhS {l:List Bool} {k j m:Nat} (h:l.getD j false=true) (hm:m+1=k):PoolS.runGo l k (j+1) m=some j:=by
 rw [PoolS.runGo,if_pos h,if_pos hm]
def runVal (o:Option Nat):Value:=.tuple #[.int .i64 ((o.getD 0:Nat):Int),.bool o.isSome]
theorem ygg (g:GW) (t b k:Nat) (p:PoolS) (h:PoolAt g t b p) (hk:1≤k) (hk2:k≤1099511627776):
 Calls prog 234 #[.pointer (some ⟨b,0,none⟩),.int .i64 k] g.w (fun e w'=>e=.returned (runVal (PoolS.runGo p.l k p.l.length 0))∧g.w=w'):=by
 obtain ⟨A,c,hb,hr⟩:=h.ex;have HC:=zH (fun j (hj:j<p.l.length)=>h.place hj);have HB:=zH hb;have c0:=hb.cell (i:=0) rfl;have hlen:=h.len;clear hr hb h;go_enter func234,ntmps234;go_wp2_with fail;go_loop [6,7] (fun n i=> ∃j m:Nat,j≤p.l.length∧m<k∧i=.int .i64 ((j:Int)-1)∧n=.int .i64 m∧Hid (PoolS.runGo p.l k p.l.length 0=PoolS.runGo p.l k j m)) (fun _ i=>(intOf i+1).toNat)
 case atStart=>exact ⟨p.l.length,0,Nat.le_refl _,zo,rfl,rfl,zH rfl⟩
 case round=>
  obtain ⟨j,m,hj,hm,rfl,rfl,HJ⟩:=hrel;rcases j with _|j
  · have HV:=zH (HJ.out.trans (yhU _ _ _));rw [show (((0:Nat):Int)-1)= -1 by omega];go_wp2_with fail;go_ret2;exact ⟨by rw [HV.out];try rfl,rfl⟩
  · rw [show (((j+1:Nat):Int)-1)=(j:Int) by omega];obtain ⟨r,c',hb', -,hrl,k0, -, -⟩:=HC.out j hj;have e:=HB.out.same hb';injection e with e _;injection e with e1 _ e2;subst e1;cases hx:p.l.getD j false
    · rw [hx] at k0;have HV:=zH (HJ.out.trans (ykR hx));clear hx hb' e2;go_wp2_with fail;go_round
      case rel=>exact ⟨j,0,zo,zo,by go_num,rfl,HV⟩
      case measure=>simp [intOf]
    · rw [hx] at k0;clear hb' e2;by_cases hm2:m+1=k
      · have HV:=zH (HJ.out.trans (yhS hx hm2));have hd:((m:Int)+1==(k:Int))=true:=by simp;omega
        clear hx hm2;go_wp2_with fail;go_ret2;exact ⟨by rw [HV.out];try rfl,rfl⟩
      · have HV:=zH (HJ.out.trans (yhT hx hm2));have hd:((m:Int)+1==(k:Int))=false:=by simp;omega
        have hm3:m+1<k:=zo;clear hx hm2;go_wp2_with fail;go_round
        case rel=>exact ⟨j,m+1,zo,zo,by go_num,by go_num,HV⟩
        case measure=>simp [intOf]
theorem yfA (g:GW) (t b:Nat) (k:Int) (p:PoolS) (h:PoolAt g t b p) (hk2:k≤1099511627776):
 Calls prog 234 #[.pointer (some ⟨b,0,none⟩),.int .i64 k] g.w (fun e w'=>e=.returned (runVal (p.run k))∧g.w=w'):=by
 by_cases h1:k<1
 · have HV:=zH (show p.run k=none by unfold PoolS.run;rw [if_pos h1]);clear h;go_enter func234,ntmps234;go_wp2_with fail;go_ret2;exact ⟨by rw [HV.out];try rfl,rfl⟩
 · obtain ⟨n,rfl⟩:=Int.eq_ofNat_of_zero_le (show 0≤k by omega);rw [show p.run n=PoolS.runGo p.l n p.l.length 0 by unfold PoolS.run;rw [if_neg h1,Int.toNat_natCast]];exact ygg g t b n p h zo zo
theorem yjV (n b:Int) (w:World) (h1:1≤n) (h2:n≤1000) (h3:1≤b) (h4:b≤8):Calls prog 258 #[.int .i64 n,.int .i64 b] w (Gives (zI z6 ((n+b-1)/b)) w):=by
 go_enter func258,ntmps258;go_wp2
 go_ret;exact Gives.int rfl zE
theorem ybd (n:Int) (w:World):Calls prog 224 #[.int .i64 n] w (Gives (zI z6 (sData n)) w):=by
 by_cases h1:n<1
 · go_enter func224,ntmps224;go_wp2
   go_ret;exact Gives.int (by unfold sData;rw [if_pos zo]) zE
 · by_cases h2:512<n
   · go_enter func224,ntmps224;go_wp2
     go_ret;exact Gives.int (by unfold sData;rw [if_pos zo]) zE
   · go_enter func224,ntmps224;go_wp2_with (go_at_call 258;refine (yjV _ _ _ zo zo zo zo).mono ?_;rintro e w1 ⟨rfl,X1,rfl⟩);go_ret;exact Gives.int (by unfold sData;rw [if_neg zo];omega) zE
theorem ydl (s:Shp) (n:Int) (w:World) (hs:s.Ok w):Calls prog 240 #[s.val,.int .i64 n] w (Gives (zI z6 (s.size n)) w):=by
 have hl:s.refs.length≤140737488355328:=hs.max;have hM:s.may=true→s.refs.length≤40:=fun h=>(of_decide_eq_true h).1;have hc:=fun w' (he:Ext w w')=>ycW s w' (hs.ext he);obtain ⟨arr,A,cap,refs⟩:=s;unfold Shp.val at hc ⊢;simp only at hl hM hc ⊢;cases hm:Shp.may ⟨arr,A,cap,refs⟩
 · rw [hm] at hc;have HC:=zH hc;clear hc hM;have HV:=zH (show Shp.size ⟨arr,A,cap,refs⟩ n= -1 by simp [Shp.size,hm]);go_enter func240,ntmps240;go_wp2_with (go_at_call 116;refine (HC.out _ zE).mono ?_;rintro e w1 ⟨rfl,X1,rfl⟩);go_ret;exact Gives.int HV.out.symm zE
 · rw [hm] at hc;have HC:=zH hc;have hl40:=hM hm;have HM:=zH hm;clear hc hM hm;by_cases h0:n<0
   · have HV:=zH (show Shp.size ⟨arr,A,cap,refs⟩ n= -1 by unfold Shp.size;rw [if_pos zo]);go_enter func240,ntmps240;go_wp2_with (go_at_call 116;refine (HC.out _ zE).mono ?_;rintro e w1 ⟨rfl,X1,rfl⟩);go_ret;exact Gives.int HV.out.symm zE
   · by_cases h1:512<n
     · have HV:=zH (show Shp.size ⟨arr,A,cap,refs⟩ n= -1 by unfold Shp.size;rw [if_pos zo]);go_enter func240,ntmps240;go_wp2_with (go_at_call 116;refine (HC.out _ zE).mono ?_;rintro e w1 ⟨rfl,X1,rfl⟩);go_ret;exact Gives.int HV.out.symm zE
     · cases arr
       · by_cases h2:0<n
         · have HV:=zH (show Shp.size ⟨false,A,cap,refs⟩ n= -1 by unfold Shp.size;rw [if_pos (by simp;omega)]);go_enter func240,ntmps240;go_wp2_with (go_at_call 116;refine (HC.out _ zE).mono ?_;rintro e w1 ⟨rfl,X1,rfl⟩);go_ret;exact Gives.int HV.out.symm zE
         · by_cases h3:refs.length≤6
           · have HV:=zH (show Shp.size ⟨false,A,cap,refs⟩ n=1 by unfold Shp.size Shp.len;rw [if_neg (by simp [HM.out];omega),if_neg (by simp),if_pos (by simp only;omega)]);go_enter func240,ntmps240;go_wp2_with (go_at_call 116;refine (HC.out _ zE).mono ?_;rintro e w1 ⟨rfl,X1,rfl⟩);go_ret;exact Gives.int HV.out.symm zE
           · have HV:=zH (show Shp.size ⟨false,A,cap,refs⟩ n=1+((refs.length:Int)-6+7-1)/7 by unfold Shp.size Shp.len;rw [if_neg (by simp [HM.out];omega),if_neg (by simp),if_neg (by simp only;omega)];simp only;omega);go_enter func240,ntmps240;go_wp2_with (first|(go_at_call 116;refine (HC.out _ zE).mono ?_;rintro e w1 ⟨rfl,X1,rfl⟩)|(go_at_call 258;refine (yjV _ _ _ zo zo zo zo).mono ?_;rintro e w1 ⟨rfl,X1,rfl⟩));go_ret;exact Gives.int HV.out.symm zE
       · have hb:=yaY n;have HV:=zH (show Shp.size ⟨true,A,cap,refs⟩ n=1+sData n by unfold Shp.size;rw [if_neg (by simp [HM.out];omega),if_pos rfl]);go_enter func240,ntmps240;go_wp2_with (first|(go_at_call 116;refine (HC.out _ zE).mono ?_;rintro e w1 ⟨rfl,X1,rfl⟩)|(go_at_call 224;refine (ybd _ _).mono ?_;rintro e w1 ⟨rfl,X1,rfl⟩));go_ret;exact Gives.int HV.out.symm zE
theorem ycL (s:Shp) (k:Int) (w:World) (hs:s.Ok w) (hk: -9223372036854775808≤k) (hk':k≤9223372036854775807):Calls prog 257 #[s.val,.int .i64 k] w
 (Gives (s.place k) w):=by
 have hl:s.refs.length≤140737488355328:=hs.max;have hM:s.may=true→s.refs.length≤40:=fun h=>(of_decide_eq_true h).1;have hc:=fun w' (he:Ext w w')=>ycW s w' (hs.ext he);obtain ⟨arr,A,cap,refs⟩:=s;unfold Shp.val at hc ⊢;simp only at hl hM hc ⊢;cases hm:Shp.may ⟨arr,A,cap,refs⟩
 · rw [hm] at hc;have HC:=zH hc;have HV:=zH (show Shp.place ⟨arr,A,cap,refs⟩ k=.tuple #[.int .i64 0,.int .i64 0,.bool false] by unfold Shp.place;rw [if_neg (by rw [Bool.not_eq_true];simp [Shp.hasField,hm])]);clear hc hM hm;go_enter func257,ntmps257;go_wp2_with (go_at_call 116;refine (HC.out _ zE).mono ?_;rintro e w1 ⟨rfl,X1,rfl⟩);go_ret3
   rw [HV.out];exact Gives.iib rfl rfl rfl zE
 · rw [hm] at hc;have HC:=zH hc;have hl40:=hM hm;have HM:=zH hm;clear hc hM hm;cases arr
   · by_cases h1:0≤k∧k<refs.length
     · obtain ⟨h1,h2⟩:=h1;have HV:=zH (show Shp.place ⟨false,A,cap,refs⟩ k=.tuple #[.int .i64 (Shp.placeF k),.int .i64 (Shp.placeW k),.bool true] by unfold Shp.place;rw [if_pos (by simp only [Shp.hasField,HM.out,Shp.len];simp [h1,h2])]);by_cases h3:k<6
       · go_enter func257,ntmps257;go_wp2_with (go_at_call 116;refine (HC.out _ zE).mono ?_;rintro e w1 ⟨rfl,X1,rfl⟩);go_ret3
         rw [HV.out];exact Gives.iib (by unfold Shp.placeF;rw [if_pos h3]) (by unfold Shp.placeW;rw [if_pos h3]) rfl zE
       · go_enter func257,ntmps257;go_wp2_with (go_at_call 116;refine (HC.out _ zE).mono ?_;rintro e w1 ⟨rfl,X1,rfl⟩);go_ret3
         rw [HV.out];exact Gives.iib (by unfold Shp.placeF;rw [if_neg zo]) (by unfold Shp.placeW;rw [if_neg zo]) rfl zE
     · have HV:=zH (show Shp.place ⟨false,A,cap,refs⟩ k=.tuple #[.int .i64 0,.int .i64 0,.bool false] by unfold Shp.place;rw [if_neg (by rw [Bool.not_eq_true];unfold Shp.hasField;rw [Bool.and_eq_false_iff];right;rw [decide_eq_false_iff_not];exact h1)]);by_cases h2:k<0
       · go_enter func257,ntmps257;go_wp2_with (go_at_call 116;refine (HC.out _ zE).mono ?_;rintro e w1 ⟨rfl,X1,rfl⟩);go_ret3
         rw [HV.out];exact Gives.iib rfl rfl rfl zE
       · have h4:(refs.length:Int)≤k:=zo;go_enter func257,ntmps257;go_wp2_with (go_at_call 116;refine (HC.out _ zE).mono ?_;rintro e w1 ⟨rfl,X1,rfl⟩);go_ret3
         rw [HV.out];exact Gives.iib rfl rfl rfl zE
   · have HV:=zH (show Shp.place ⟨true,A,cap,refs⟩ k=.tuple #[.int .i64 0,.int .i64 0,.bool false] by unfold Shp.place;rw [if_neg (by rw [Bool.not_eq_true];simp [Shp.hasField])]);go_enter func257,ntmps257;go_wp2_with (go_at_call 116;refine (HC.out _ zE).mono ?_;rintro e w1 ⟨rfl,X1,rfl⟩);go_ret3
     rw [HV.out];exact Gives.iib rfl rfl rfl zE
theorem yaL (w:World):Calls prog 68 #[] w (Gives wNone w):=by
 go_enter func68,ntmps68;go_wp2
 go_ret;exact Gives.mk rfl zE
theorem yd0 (i:Int) (w:World):Calls prog 149 #[.int .i64 i] w (Gives (wRef i) w):=by
 by_cases h:i<0∨1099511627776<i
 · rw [show wRef i=wNone by unfold wRef;rw [if_pos h]];by_cases h':i<0
   · go_enter func149,ntmps149;go_wp2_with (go_at_call 68;refine (yaL _).mono ?_;rintro e w1 ⟨rfl,X1,rfl⟩);go_ret;exact Gives.mk rfl zE
   · have h'':1099511627776<i:=zo;clear h;go_enter func149,ntmps149;go_wp2_with (go_at_call 68;refine (yaL _).mono ?_;rintro e w1 ⟨rfl,X1,rfl⟩);go_ret;exact Gives.mk rfl zE
 · have HV:=zH (show wRef i=.complex .f64 (floatOfInt .f64 (i+1)) 4607182418800017408 by unfold wRef;rw [if_neg h]);have h1:0≤i:=zo;have h2:i≤1099511627776:=zo;clear h;go_enter func149,ntmps149;go_wp2
   go_ret;rw [HV.out];exact Gives.mk rfl zE
theorem ycQ (n:Int) (w:World):Calls prog 152 #[.int .i64 n] w (Gives (wWhole n) w):=by
 by_cases h:n< -9007199254740992
 · have HV:=zH (show wWhole n=wZero by unfold wWhole;rw [if_pos zo]);go_enter func152,ntmps152;go_wp2
   go_ret;rw [HV.out];exact Gives.mk rfl zE
 · by_cases h':9007199254740992<n
   · have HV:=zH (show wWhole n=wZero by unfold wWhole;rw [if_pos zo]);go_enter func152,ntmps152;go_wp2
     go_ret;rw [HV.out];exact Gives.mk rfl zE
   · have HV:=zH (show wWhole n=.complex .f64 (floatOfInt .f64 n) 0 by unfold wWhole;rw [if_neg zo]);go_enter func152,ntmps152;go_wp2
     go_ret;rw [HV.out];exact Gives.mk rfl zE
theorem yiq (b:Bool) (w:World):Calls prog 227 #[.bool b] w (Gives (wBlank b) w):=by
 cases b
 · go_enter func227,ntmps227;go_wp2_with (go_at_call 152;refine (ycQ _ _).mono ?_;rw [ygu];rintro e w1 ⟨rfl,X1,rfl⟩);go_ret;exact Gives.mk rfl zE
 · go_enter func227,ntmps227;go_wp2_with (go_at_call 68;refine (yaL _).mono ?_;rintro e w1 ⟨rfl,X1,rfl⟩);go_ret;exact Gives.mk rfl zE
theorem yfp (k m:Int) (w:World):Calls prog 219 #[.int .i64 k,.int .i64 m] w (Gives (wHead k m) w):=by
 by_cases h:k<0∨1099511627776<k∨m<0∨1099511627776<m
 · have HV:=zH (show wHead k m=wZero by unfold wHead;rw [if_pos h]);by_cases h1:k<0
   · clear h;go_enter func219,ntmps219;go_wp2
     go_ret;rw [HV.out];exact Gives.mk rfl zE
   · by_cases h2:1099511627776<k
     · clear h;go_enter func219,ntmps219;go_wp2
       go_ret;rw [HV.out];exact Gives.mk rfl zE
     · by_cases h3:m<0
       · clear h;go_enter func219,ntmps219;go_wp2
         go_ret;rw [HV.out];exact Gives.mk rfl zE
       · have h4:1099511627776<m:=zo;clear h;go_enter func219,ntmps219;go_wp2
         go_ret;rw [HV.out];exact Gives.mk rfl zE
 · have HV:=zH (show wHead k m=.complex .f64 (floatOfInt .f64 k) (floatOfInt .f64 m) by unfold wHead;rw [if_neg h]);have h1:0≤k:=zo;have h2:k≤1099511627776:=zo;have h3:0≤m:=zo;have h4:m≤1099511627776:=zo;clear h;go_enter func219,ntmps219;go_wp2
   go_ret;rw [HV.out];exact Gives.mk rfl zE
attribute [local go_sem] Lib.run_eql_slice_nil
theorem yde:(prog.info? 4).map (fun i=>(i.zero,i.size,i.bytes))=some (some (.bool false),1,1):=zQ
theorem yeH (A:Option Addr) (cap:Nat) (l:List Bool) (w:World) (hc:CellsAt w A (l.map Value.bool)) (hl:l.length≤140737488355328):
 Calls prog 189 #[.slice A l.length cap] w (fun e w'=> ∃A' cap',e=.returned (.slice A' l.length cap')∧CellsAt w' A' (l.map Value.bool)∧l.length≤cap'∧(∀a,A'=some a→w.heap.size≤a.block)∧Ext w w'):=by
 obtain ⟨i0,hi,hz0,hz1,hz2⟩:=info_parts yde;have hq:=fun w=>Lib.run_eql_slice_nil (P:=prog) w 69 4 A l.length cap 0 0 Tryz.underlying69;rcases A with _|ad
 · obtain rfl:l=[]:=by
    rcases l with _|⟨x,l⟩
    · rfl
    · obtain ⟨b,o,h,_⟩:=hc.at_ (i:=0) (by simp);cases h
   go_enter func189,ntmps189;go_wp2_with fail;go_ret;exact ⟨none,0,rfl,CellsAt.nil _ _,by simp,(fun a h=>by cases h),zE⟩
 · go_enter func189,ntmps189;go_wp2_with (at_builtin;refine wpList_append_own _ rfl (.tmp 5) (.tmp 6) 69 rfl w.heap.size 4 i0 (.bool false) 1 1 Tryz.underlying69 hi hz0 hz1 hz2 rfl zd _ _ _ rfl (World.ownsRow_made (cap:=0) _ #[] (Nat.le_refl _) zd rfl) ad l.length cap (l.map Value.bool) rfl (by simp) (ybN (hc.alloc _)) (by intro u hu;simp at hu;rcases hu with ⟨_,rfl⟩|⟨_,rfl⟩<;>rfl) (by unfold maxLen;omega) zo (by simp) ?_;intro v' w1 hown hgrow hn);simp only [Nat.zero_add,List.nil_append] at hown;obtain ⟨A',c',hv⟩:=yak hown;rw [hv] at hown;have HV:=zH hv;clear hv;go_ret;exact ⟨A',c',congrArg Ending.returned HV.out,yba hown,(ygJ hown).1,ycH hown,yaK (Ext.alloc (Ext.refl _) _) hgrow (fun k hk=>by cases hk;exact Nat.le_refl _)⟩
theorem ydr (s:Shp) (w:World) (hs:s.Ok w):
 Calls prog 127 #[s.val] w (fun e w'=> ∃s':Shp,e=.returned s'.val∧s'.arr=s.arr∧s'.refs=s.refs∧(∀a,s'.A=some a→w.heap.size≤a.block)∧s'.Ok w'∧Ext w w'):=by
 have hl:s.refs.length≤140737488355328:=hs.max;have HC:=zH (fun w' (he:Ext w w')=>yeH s.A s.cap s.refs w' (hs.refs.ext he) hl);obtain ⟨arr,A,cap,refs⟩:=s;unfold Shp.val;simp only at HC ⊢;go_enter func127,ntmps127;go_wp2_with fail;refine yab [zT,zT,zT,zT,zU,zU,zU] 3 6 ?_;intro X00;simp only [pickOps];repeat (go_big_quiet_step (fail))
 refine wpQuiet_nil (fun X0=>?_);clear X00;refine yaj 4 _ zQ rfl rfl zd (fun X1 K Q' hK=>?_);go_simp;refine (HC.out _ zE).mono ?_;rintro e w1 ⟨A',cap',rfl,hcell,hle,hfr,X3,rfl⟩;refine hK _ _ ?_ ?_
 · exact zE
 clear hK K Q';refine yaj 5 _ zQ rfl rfl zd (fun X1 K Q' hK=>?_);go_simp;refine hK _ _ ?_ ?_
 · exact zE
 clear hK K Q';refine yai 6 _ zQ zQ rfl rfl (fun X1 K Q' hK=>?_);go_simp;refine hK _ _ (fun X2=>?_);clear hK K Q';go_wp2_with fail;rw [World.patch_patch] at hcell ⊢;refine bodyPost_ret (v:=.agg #[.bool arr,.slice A' refs.length cap']) (by simp [results,Tryz.results127,go_sem]) rfl ⟨⟨arr,A',cap',refs⟩,rfl,rfl,rfl,(fun a ha=>Nat.le_trans (Ext.size zE) (hfr a ha)),⟨hcell.rebase (fun a ha=>Nat.le_trans (Ext.size ⟨_,rfl⟩) (hfr a ha)) (by simp) ⟨_,by simp only [Array.append_assoc];rfl⟩,hle,hl⟩,zE⟩
def ShapeGot (c:Cnf) (k:Int) (w:World) (e:Ending) (w':World):Prop:=
 ∃s':Shp,e=.returned (.tuple #[s'.val,.bool (c.shapeAt k).isSome])∧(s'.arr,s'.refs)=(c.shapeAt k).getD (false,[])∧(∀a,s'.A=some a→w.heap.size≤a.block)∧s'.Ok w'∧Ext w w'
theorem yax (c:Cnf) (k:Int) (w:World) (hc:c.Ok w):Calls prog 195 #[c.val,.int .i64 k] w (ShapeGot c k w):=by
 have hl:=hc.max;unfold Cnf.val;by_cases h0:k<0
 · go_enter func195,ntmps195;go_wp2_with fail;refine bodyPost_ret (v:=.tuple #[.agg #[.bool false,.slice none 0 0],.bool false]) (by simp [results,Tryz.results195,go_sem]) rfl ?_;exact ⟨⟨false,none,0,[]⟩,by rw [Cnf.shapeAt_neg h0];rfl,by rw [Cnf.shapeAt_neg h0];rfl,(fun a h=>by cases h),⟨CellsAt.nil _ _,by simp,by simp⟩,zE⟩
 · by_cases h1:k<c.shapes.length
   · obtain ⟨n,rfl⟩:=Int.eq_ofNat_of_zero_le (show 0≤k by omega);have h2:n<c.shapes.length:=zo;obtain ⟨b,o,hA,hb,g0,g1⟩:=ycN hc.cells h2;rw [hA];have hsk:=hc.shapes _ (List.getElem_mem h2);have HC:=zH (fun w' (he:Ext w w')=>ydr c.shapes[n] w' (hsk.ext he));have HS:=zH (Cnf.shapeAt_in (List.getElem?_eq_getElem h2));generalize c.shapes[n]=s at *;clear hc hA;go_enter func195,ntmps195;go_wp2_with fail;refine (HC.out _ zE).mono ?_;rintro e w1 ⟨s',rfl,ha,hr,hfr,hok,X,rfl⟩;unfold Shp.val;have HA:=zH ha;have HR:=zH hr;clear ha hr;go_wp2_with fail;refine bodyPost_ret (v:=.tuple #[.agg #[.bool s'.arr,.slice s'.A s'.refs.length s'.cap],.bool true]) (by simp [results,Tryz.results195,go_sem]) rfl ?_;exact ⟨s',by rw [HS.out];rfl,by rw [HS.out,HA.out,HR.out];rfl,(fun a ha=>Nat.le_trans (Ext.size zE) (hfr a ha)),hok.rebase hfr (by simp) ⟨#[],by simp⟩,zE⟩
   · have h2:(c.shapes.length:Int)≤k:=zo;clear h1;go_enter func195,ntmps195;go_wp2_with fail;refine bodyPost_ret (v:=.tuple #[.agg #[.bool false,.slice none 0 0],.bool false]) (by simp [results,Tryz.results195,go_sem]) rfl ?_;exact ⟨⟨false,none,0,[]⟩,by rw [Cnf.shapeAt_big h2];rfl,by rw [Cnf.shapeAt_big h2];rfl,(fun a h=>by cases h),⟨CellsAt.nil _ _,by simp,by simp⟩,zE⟩
end Go.Proofs.YtdhjjpnajjingaaGreat
namespace Go
open Go.RowKit
theorem yhB (l:List Bool) (f i:Nat):PoolS.lowGo l 0 f i=[]:=by cases f<;>rfl
theorem yjd (l:List Bool) (k i:Nat):PoolS.lowGo l k 0 i=[]:=rfl
theorem yje {l:List Bool} {k f i:Nat} (hk:0<k) (h:l.getD i false=true):PoolS.lowGo l k (f+1) i=(i:Int)::PoolS.lowGo l (k-1) f (i+1):=by
 rw [PoolS.lowGo,if_neg zo,if_pos h]
theorem ykA {l:List Bool} {k f i:Nat} (hk:0<k) (h:l.getD i false=false):PoolS.lowGo l k (f+1) i=PoolS.lowGo l k f (i+1):=by
 rw [PoolS.lowGo,if_neg zo,if_neg (by rw [h];simp)]
namespace PoolS
theorem takes_snoc (p:PoolS) (acc:List Int) (k:Nat):p.takes (acc++[(k:Int)])=⟨(p.takes acc).l.set k false⟩:=by
 unfold takes;rw [List.foldl_append];rfl
theorem takes_len (p:PoolS) (acc:List Int):(p.takes acc).l.length=p.l.length:=by
 unfold takes;simp only;generalize p.l=l;induction acc generalizing l with
 |nil=>rfl
 |cons x acc ih=>rw [List.foldl_cons,ih,List.length_set]
theorem takes_getD (p:PoolS) (acc:List Int) (q:Nat) (h: ∀x∈acc,x.toNat≠q):(p.takes acc).l.getD q false=p.l.getD q false:=by
 unfold takes;simp only;generalize p.l=l;induction acc generalizing l with
 |nil=>rfl
 |cons x acc ih=>
  rw [List.foldl_cons,ih (fun y hy=>h y (List.mem_cons_of_mem _ hy)),List.getD_eq_getElem?_getD,List.getElem?_set_ne (h x List.mem_cons_self), ←List.getD_eq_getElem?_getD]
theorem below_snoc {acc:List Int} {j:Nat} (h: ∀x∈acc,x.toNat<j): ∀x∈acc++[(j:Int)],x.toNat<j+1:=by
 intro x hx;rcases List.mem_append.1 hx with hx|hx
 · have:=h x hx;omega
 · simp at hx;subst hx;simp
theorem yce {l:List Bool} {k:Nat}: ∀(j m a:Nat),runGo l k j m=some a→(∀q,j≤q→q<j+m→l.getD q false=true)→m<k→j+m≤l.length→a+k≤l.length∧ ∀q,a≤q→q<a+k→l.getD q false=true
 |0,_,_,h,_,_,_=>by cases h
 |j+1,m,a,h,hq,hm,hl=>by
  unfold runGo at h;split at h
  · rename_i hj
    split at h
    · rename_i hk
      injection h with h;subst h;refine ⟨zo,fun q h1 h2=>?_⟩;by_cases hqj:q=j
      · subst hqj;exact hj
      · exact hq q zo zo
    · refine yce j (m+1) a h (fun q h1 h2=>?_) zo zo;by_cases hqj:q=j
      · subst hqj;exact hj
      · exact hq q zo zo
  · exact yce j 0 a h (fun q h1 h2=>by omega) zo zo
theorem run_spec {p:PoolS} {k:Int} {a:Nat} (h:p.run k=some a):1≤k∧a+k.toNat≤p.l.length∧ ∀q,a≤q→q<a+k.toNat→p.l.getD q false=true:=by
 unfold run at h;split at h
 · cases h
 · exact ⟨zo,yce _ 0 a h (fun q h1 h2=>by omega) zo zo⟩
def span (a k:Nat):List Int:=(List.range k).map fun j=>((a+j:Nat):Int)
theorem span_succ (a k:Nat):span a (k+1)=span a k++[((a+k:Nat):Int)]:=by unfold span;rw [List.range_succ,List.map_append];rfl
theorem span_len (a k:Nat):(span a k).length=k:=by simp [span]
theorem span_mem {a k:Nat} {x:Int} (h:x∈span a k): ∃j,j<k∧x=((a+j:Nat):Int):=by
 simp only [span,List.mem_map,List.mem_range] at h;obtain ⟨j,hj,rfl⟩:=h;exact ⟨j,hj,rfl⟩
end PoolS
end Go
namespace Go.Proofs.YtdhjjpnajjingaaGreat
open Go Go.RowKit
theorem ydg (g:GW) (t b:Nat) (k:Int) (p:PoolS) (h:PoolAt g t b p) (ht:t≠0) (hk2:k≤1099511627776):
 Calls prog 245 #[.pointer (some ⟨b,0,none⟩),.int .i64 k] g.w (Makes g (fun x=>x=t) (fun v g'=>PoolAt g' t b (p.takes (p.lowOnes k))∧Row g' 0 3 1 v (p.lowOnes k).length ((p.lowOnes k).map (Value.int .i64)))):=by
 obtain ⟨i0,hi,hz0,hz1,hz2⟩:=info_parts ya1;have HT:=zH ht;have hlen:=h.len;have HP:=zH h;clear h ht;go_enter func245,ntmps245;go_wp2_with fail
 go_loopw [5,6] (fun v i wr=> ∃(j:Nat) (acc:List Int) (own:Nat→Nat),j≤p.l.length∧acc.length≤k.toNat∧acc.length≤j∧i=.int .i64 j∧Hid (p.lowOnes k=acc++PoolS.lowGo p.l (k.toNat-acc.length) (p.l.length-j) j)∧Hid (∀x∈acc,x.toNat<j)∧
  Hid (Mod (fun x=>x=t) g ⟨own,wr⟩)∧Hid (PoolAt ⟨own,wr⟩ t b (p.takes acc))∧Hid (Mine g ⟨own,wr⟩ 3 1 v acc.length (acc.map (Value.int .i64)))) (fun _ i _=>p.l.length-(intOf i).toNat)
 case atStart=>exact ⟨0,[],g.own,Nat.zero_le _,Nat.zero_le _,Nat.le_refl _,rfl,zH rfl,zH (by simp),zH (Mod.refl _ _),HP,zH (Mine.nil _ _ _ _)⟩
 case round=>
  obtain ⟨j,acc,own,hj,hm,hmj,rfl,HL,HA,HM,HQ,HR⟩:=hrel;have hQl:=PoolS.takes_len p acc;obtain ⟨A,c,hb,hr⟩:=HQ.out.ex;have c0:=hb.cell (i:=0) rfl;simp only at c0;rw [hQl] at c0;obtain ⟨A5,c5,hv5⟩:=yak HR.out.row.row;subst hv5;clear hb hr;have hQlH:=zH hQl;clear hQl;by_cases hlt:j<p.l.length
  · by_cases hmk:acc.length<k.toNat
    · have hd:decide ((acc.length:Int)<k)=true:=decide_eq_true zo;obtain ⟨r,c',hb', -,hrl,k0, -, -⟩:=HQ.out.place (k:=j) (by rw [hQlH.out];exact hlt);have c0':=hb'.cell (i:=0) rfl;simp only at c0' k0 hrl;rw [hQlH.out] at c0';rw [PoolS.takes_getD _ _ _ (fun x hx e=>by have:=HA.out x hx;omega)] at k0;rw [c0'] at c0;injection c0 with c0;injection c0 with e1 _ e2;subst e1 e2;have c0:=c0';clear hb' c0';cases hx:p.l.getD j false
      · rw [hx] at k0;have HN:=zH (HL.out.trans (by rw [show p.l.length-j=(p.l.length-(j+1))+1 by omega,ykA zo hx]));clear hx;go_wp2_with fail;go_roundw
        case rel=>exact ⟨j+1,acc,own,zo,hm,zo,by go_num,HN,zH (fun x hx=>by have:=HA.out x hx;omega),HM,HQ,HR⟩
        case measure=>simp [intOf];omega
      · rw [hx] at k0;have HN:=zH (HL.out.trans (by rw [show p.l.length-j=(p.l.length-(j+1))+1 by omega,yje zo hx,List.append_cons,show k.toNat-acc.length-1=k.toNat-(acc++[(j:Int)]).length by simp;omega]));have HX:=zH (show (p.takes acc).l.getD j false=true by rw [PoolS.takes_getD _ _ _ (fun x hx e=>by have:=HA.out x hx;omega)];exact hx);clear hx;go_wp2_with fail;refine (ydC ⟨own,wr⟩ t b j _ HQ.out (by rw [hQlH.out];exact hlt) HX.out).mono ?_;rintro e w1 ⟨rfl,own1,m1,a1⟩;have M1:=zH (Mod.trans HM.out m1);have Q1:=zH (PoolS.takes_snoc p acc j▸a1);have R1:=zH (HR.out.keep m1 (fun e=>HT.out e.symm));clear m1 a1 c0 k0 hrl;go_wp2_with (at_builtin;refine wpList_append_own_at _ rfl (.tmp 32) (.tmp 34) 97 rfl 0 3 i0 (zI z6 0) 1 8 Tryz.underlying97 hi hz0 hz1 hz2 rfl zd _ _ _ rfl (R1.out.row.row.alloc _) ⟨w1.heap.size,0,none⟩ 1 1 [.int .i64 (j:Int)] rfl rfl (cell_one_new _ _ _) (by intro u hu;simp at hu;subst hu;rfl) (by unfold maxLen;omega) zo (Nat.zero_le _) ?_;intro v2 w2 hown hgrow hnil hat);obtain ⟨own2,m2,r2,k2⟩:=R1.out.app M1.out (Ext.alloc (Ext.refl _) _) hown hgrow hat;have M2:=zH m2;have R2:=zH r2;have Q2:=zH (Q1.out.keep k2 HT.out);clear m2 r2 k2 hown hgrow hnil hat
        go_wp2_with fail;go_roundw
        case rel=>exact ⟨j+1,acc++[(j:Int)],own2,zo,by simp;omega,by simp;omega,by go_num,HN,zH (PoolS.below_snoc HA.out),M2,Q2,zH ⟨R2.out.row.weak (by simp) (by simp),R2.out.new⟩⟩
        case measure=>simp [intOf];omega
    · have hd:decide ((acc.length:Int)<k)=false:=decide_eq_false zo;have HN:=zH (HL.out.trans (by rw [show k.toNat-acc.length=0 by omega,yhB,List.append_nil]));go_wp2_with fail;go_ret;exact ⟨_,own,rfl,HM.out,by rw [HN.out];exact HQ.out,by rw [HN.out];exact HR.out.row⟩
  · obtain rfl:j=p.l.length:=zo;have HN:=zH (HL.out.trans (by rw [show p.l.length-p.l.length=0 by omega,yjd,List.append_nil]));go_wp2_with fail;go_ret;exact ⟨_,own,rfl,HM.out,by rw [HN.out];exact HQ.out,by rw [HN.out];exact HR.out.row⟩
def TookIt (t b:Nat) (p:PoolS) (l:List Int) (v:Value) (g':GW):Prop:= ∃s,v=.tuple #[s,.bool true]∧Row g' 0 3 1 s l.length (l.map (Value.int .i64))∧PoolAt g' t b (p.takes l)
theorem yeW (g:GW) (t b:Nat) (k:Int) (l:List Int) (p:PoolS) (h:PoolAt g t b p) (ht:t≠0) (hl:p.taken k=some l):
 Calls prog 236 #[.pointer (some ⟨b,0,none⟩),.int .i64 k] g.w (Makes g (fun x=>x=t) (TookIt t b p l)):=by
 obtain ⟨i0,hi,hz0,hz1,hz2⟩:=info_parts ya1;have hlen:=h.len;have hfr:p.free≤1024:=Nat.le_trans List.countP_le_length hlen
 have hk:1≤k∧k≤p.free:=by
  unfold PoolS.taken at hl;split at hl
  · cases hl
  · omega
 obtain ⟨hk1,hk2⟩:=hk;have HRun:=zH (yfA g t b k p h zo);obtain ⟨A,c,hb,hr⟩:=h.ex;have c1:=hb.cell (i:=1) rfl;have HT:=zH ht;have HP:=zH h;cases hrun:p.run k with
 |none=>
  obtain rfl:p.lowOnes k=l:=by
   unfold PoolS.taken at hl;rw [if_neg zo,hrun] at hl;exact Option.some.inj hl
  have HL:=zH (ydg g t b k p h ht zo);rw [hrun] at HRun;unfold runVal at HRun;clear hb hr h ht hrun hl;generalize p.free=f at *;go_enter func236,ntmps236;go_wp2_with fail;refine (HRun.out).mono ?_;rintro e w1 ⟨rfl,rfl⟩;go_wp2_with fail;refine HL.out.mono ?_;rintro e w1 ⟨v,own1,rfl,m1,a1,r1⟩;have M1:=zH m1;have Q1:=zH a1;have R1:=zH r1;clear m1 a1 r1;go_wp2_with fail;go_ret2;exact ⟨_,own1,rfl,M1.out,_,rfl,R1.out,Q1.out⟩
 |some a=>
  obtain rfl:PoolS.span a k.toNat=l:=by
   unfold PoolS.taken at hl;rw [if_neg zo,hrun] at hl;exact Option.some.inj hl
  obtain ⟨-,ha,hq⟩:=PoolS.run_spec hrun;have HQ0:=zH hq;rw [hrun] at HRun;unfold runVal at HRun;clear hb hr h ht hrun hl hq;generalize p.free=f at *;obtain ⟨kn,rfl⟩:=Int.eq_ofNat_of_zero_le (show 0≤k by omega);rw [Int.toNat_natCast] at *;go_enter func236,ntmps236;go_wp2_with fail;refine (HRun.out).mono ?_;rintro e w1 ⟨rfl,rfl⟩;go_wp2_with fail;go_loopw [8,9] (fun v i wr=> ∃(j:Nat) (own:Nat→Nat),j≤kn∧i=.int .i64 ((a:Int)+j)∧Hid (Mod (fun x=>x=t) g ⟨own,wr⟩)∧Hid (PoolAt ⟨own,wr⟩ t b (p.takes (PoolS.span a j)))∧Hid (Mine g ⟨own,wr⟩ 3 1 v j ((PoolS.span a j).map (Value.int .i64)))) (fun _ i _=>(a+kn-intOf i).toNat)
  case atStart=>exact ⟨0,g.own,Nat.zero_le _,by simp,zH (Mod.refl _ _),HP,zH (Mine.nil _ _ _ _)⟩
  case round=>
   obtain ⟨j,own,hj,rfl,HM,HQ,HR⟩:=hrel;obtain ⟨A5,c5,hv5⟩:=yak HR.out.row.row;subst hv5;rw [show ((a:Int)+(j:Int))=((a+j:Nat):Int) by omega];by_cases hlt:j<kn
   · have HX:=zH (show (p.takes (PoolS.span a j)).l.getD (a+j) false=true by
      rw [PoolS.takes_getD _ _ _ (fun x hx e=>by obtain ⟨i,hi,rfl⟩:=PoolS.span_mem hx;rw [Int.toNat_natCast] at e;omega)];exact HQ0.out _ zo zo)
     have hd:decide (((a+j:Nat):Int)<(a:Int)+kn)=true:=decide_eq_true zo;go_wp2_with fail;refine (ydC ⟨own,wr⟩ t b (a+j) _ HQ.out (by rw [PoolS.takes_len];omega) HX.out).mono ?_;rintro e w1 ⟨rfl,own1,m1,a1⟩;have M1:=zH (Mod.trans HM.out m1);have Q1:=zH (show PoolAt ⟨own1,w1⟩ t b (p.takes (PoolS.span a (j+1))) by rw [PoolS.span_succ,PoolS.takes_snoc];exact a1);have R1:=zH (HR.out.keep m1 (fun e=>HT.out e.symm));clear m1 a1;go_wp2_with (at_builtin;refine wpList_append_own_at _ rfl (.tmp 42) (.tmp 44) 97 rfl 0 3 i0 (zI z6 0) 1 8 Tryz.underlying97 hi hz0 hz1 hz2 rfl zd _ _ _ rfl (R1.out.row.row.alloc _) ⟨w1.heap.size,0,none⟩ 1 1 [.int .i64 ((a+j:Nat):Int)] rfl rfl (cell_one_new _ _ _) (by intro u hu;simp at hu;subst hu;rfl) (by unfold maxLen;omega) zo (Nat.zero_le _) ?_;intro v2 w2 hown hgrow hnil hat);obtain ⟨own2,m2,r2,k2⟩:=R1.out.app M1.out (Ext.alloc (Ext.refl _) _) hown hgrow hat;have M2:=zH m2;have R2:=zH r2;have Q2:=zH (Q1.out.keep k2 HT.out);clear m2 r2 k2 hown hgrow hnil hat;go_wp2_with fail;go_roundw
     case rel=>exact ⟨j+1,own2,zo,by go_num,M2,Q2,zH ⟨R2.out.row.weak rfl (by rw [PoolS.span_succ];simp),R2.out.new⟩⟩
     case measure=>simp [intOf];omega
   · obtain rfl:j=kn:=zo;have hd:decide (((a+j:Nat):Int)<(a:Int)+j)=false:=decide_eq_false zo;go_wp2_with fail;go_ret2;exact ⟨_,own,rfl,HM.out,_,rfl,HR.out.row.weak (PoolS.span_len _ _).symm rfl,HQ.out⟩
def PoolMade (n:Int) (t:Nat) (g:GW) (e:Ending) (w':World):Prop:=
 if 0≤n∧n≤1024 then∃own' b,e=.returned (.tuple #[.pointer (some ⟨b,0,none⟩),.int .i64 0])∧Mod (fun _=>False) g ⟨own',w'⟩∧PoolAt ⟨own',w'⟩ t b ⟨List.replicate n.toNat true⟩
 else e=.returned (.tuple #[.pointer none,.int .i64 1])∧Ext g.w w'
theorem yeh {n k:Nat} (h:k<n):(List.replicate k true++List.replicate (n-k) false).set k true=List.replicate (k+1) true++List.replicate (n-(k+1)) false:=by
 rw [show n-k=(n-(k+1))+1 by omega,List.replicate_succ,List.set_append_right _ _ (by simp),List.length_replicate,Nat.sub_self,List.set_cons_zero,List.replicate_succ',List.append_assoc];rfl
theorem ykP (n:Int) (t:Nat) (g:GW):Calls prog 121 #[.int .i64 n] g.w (PoolMade n t g):=by
 obtain ⟨i0,hi,hz0,hz1,hz2⟩:=info_parts yde;by_cases h0:n<0
 · have HV:=zH (show¬(0≤n∧n≤1024) by omega);go_enter func121,ntmps121;go_wp2_with fail;go_ret2;unfold PoolMade;rw [if_neg HV.out];exact ⟨rfl,Ext.refl _⟩
 by_cases h1:1024<n
 · have HV:=zH (show¬(0≤n∧n≤1024) by omega);go_enter func121,ntmps121;go_wp2_with fail;go_ret2;unfold PoolMade;rw [if_neg HV.out];exact ⟨rfl,Ext.refl _⟩
 obtain ⟨k,rfl⟩:=Int.eq_ofNat_of_zero_le (show 0≤n by omega);have HV:=zH (show (0:Int)≤k∧(k:Int)≤1024 by omega);have hmk:=ybg (P:=prog) 69 4 i0 _ 1 1 Tryz.underlying69 hi hz0 hz1 hz2 k zo zo;simp only [Value.cells,yb8] at hmk;have hk:k≤1024:=zo;go_enter func121,ntmps121;go_wp2_with fail;obtain ⟨q1,q2⟩:=yaA g.w (.cells (List.replicate k (Value.bool false)).toArray 4) (.cells #[.slice (some ⟨g.w.heap.size,0,none⟩) k k,.int .i64 k] 148);have HB:=zH (Blk.made (g:=g) (t:=t) q2 zo);have HR:=zH (Row.made (g:=g) (t:=t) (n:=k) (size:=1) q1 (Nat.le_refl _) (by simp) zo);have HE:=zH (Mod.ext (T:=fun _=>False) (show Ext g.w ((g.w.alloc (.cells (List.replicate k (Value.bool false)).toArray 4)).alloc (.cells #[.slice (some ⟨g.w.heap.size,0,none⟩) k k,.int .i64 k] 148)) from zE) t);have hsz:g.w.heap.size<((g.w.alloc (.cells (List.replicate k (Value.bool false)).toArray 4)).alloc (.cells #[.slice (some ⟨g.w.heap.size,0,none⟩) k k,.int .i64 k] 148)).heap.size:=by rw [World.size_alloc,World.size_alloc];omega
 clear q1 q2;have c0:=HB.out.cell (i:=0) rfl;simp only [GW.to] at c0;go_loopw [22] (fun i wr=> ∃(j:Nat) (own:Nat→Nat),j≤k∧i=.int .i64 j∧Hid (Mod (fun _=>False) g ⟨own,wr⟩)∧Hid (Blk ⟨own,wr⟩ t (g.w.heap.size+1) 148 [.slice (some ⟨g.w.heap.size,0,none⟩) k k,.int .i64 k])∧Hid (Row ⟨own,wr⟩ t 4 1 (.slice (some ⟨g.w.heap.size,0,none⟩) k k) k ((List.replicate j true++List.replicate (k-j) false).map Value.bool))) (fun i _=>k-(intOf i).toNat)
 case atStart=>exact ⟨0,_,Nat.zero_le _,rfl,HE,HB,zH (HR.out.weak rfl (by simp))⟩
 case round=>
  obtain ⟨j,own,hj,rfl,M,B,R⟩:=hrel;clear c0 hsz HE HB HR;by_cases hlt:j<k
  · obtain ⟨r,hr,hrl,ho,hcell,hfr⟩:=R.out.block zo;simp only [Option.some.injEq,Addr.mk.injEq,and_true] at hr;obtain rfl:=hr;have k0:=hcell j (.bool false) (by rw [List.getElem?_map,List.getElem?_append_right (by simp),List.length_replicate,Nat.sub_self,List.getElem?_replicate,if_pos zo];rfl);have kf:=hfr j;simp only at k0 kf hrl;have c0:=B.out.cell (i:=0) rfl;simp only at c0;clear hcell hfr ho;go_wp2_with fail;go_roundw
    case rel=>exact ⟨j+1,own,zo,by go_num,zH (Mod.stn M.out (Nat.le_refl _)),zH (B.out.setOther j _ zo),zH ((R.out.store j (.bool true)).weak rfl (by rw [←yeh hlt,List.map_set]))⟩
    case measure=>simp [intOf];omega
  · obtain rfl:j=k:=zo;go_wp2_with fail;go_ret2;unfold PoolMade;rw [if_pos HV.out];refine ⟨own,_,rfl,M.out,⟨⟨some ⟨g.w.heap.size,0,none⟩,j,?_,?_⟩,by simpa using hk⟩⟩
    · have:=B.out;simpa [PoolS.free,List.countP_replicate] using this
    · have:=R.out;simpa using this
end Go.Proofs.YtdhjjpnajjingaaGreat
namespace Go
open Go.RowKit
structure StockS where
 l:List Int
 most:Int
end Go
namespace Go.Proofs.YtdhjjpnajjingaaGreat
open Go Go.RowKit
structure StockAt (g:GW) (t b:Nat) (s:StockS):Prop where
 ex: ∃A c,Blk g t b 229 [.slice A s.l.length c,.int .i64 s.most]∧Row g t 3 1 (.slice A s.l.length c) s.l.length (s.l.map (Value.int .i64))
 most:0≤s.most∧s.most≤8
 len:(s.l.length:Int)≤s.most
theorem StockAt.keep {S:Nat→Prop} {g g':GW} {t b:Nat} {s:StockS} (h:StockAt g t b s) (d:Mod S g g') (hs: ¬S t):StockAt g' t b s:=by
 obtain ⟨A,c,h1,h2⟩:=h.ex;exact ⟨⟨A,c,h1.keep d hs,h2.keep d hs⟩,h.most,h.len⟩
theorem StockAt.pt {g:GW} {t b:Nat} {s:StockS} (h:StockAt g t b s) (X:Extra):StockAt (g.pt X) t b s:=h.keep (S:=fun _=>False) (Mod.pt (Mod.refl _ _) X) id
theorem ych (g:GW) (t b:Nat) (s:StockS) (h:StockAt g t b s):
 Calls prog 246 #[.pointer (some ⟨b,0,none⟩)] g.w (Gives (zI z6 (s.most-s.l.length)) g.w):=by
 obtain ⟨A,c,hb,hr⟩:=h.ex;have c0:=hb.cell (i:=0) rfl;have c1:=hb.cell (i:=1) rfl;have hbl:=hb.lt;obtain ⟨h1,h2⟩:=h.most;have h3:=h.len;clear hb hr h;generalize s.l.length=n at *;generalize s.most=m at *;have hw:=IntWalk.i64_in (m-n) zo;go_enter func246,ntmps246;go_wp2_with fail;refine yab [zT,zT,zT,zT,zT,zT,zT,zT,zT,zT,zT] 0 11 ?_;intro X00;simp only [pickOps];repeat (go_big_quiet_step (fail))
 refine wpQuiet_nil (fun X0=>?_);clear X00;refine yaa zQ (fun X0'=>?_) _;go_wp2_with fail;go_ret;exact Gives.int rfl zE
theorem ygr (g:GW) (t b:Nat) (s:StockS) (h:StockAt g t b s):
 Calls prog 130 #[.pointer (some ⟨b,0,none⟩)] g.w (Makes g (fun x=>x=t) (fun v g'=>StockAt g' t b ⟨[],s.most⟩∧Row g' t 3 1 v s.l.length (s.l.map (Value.int .i64)))):=by
 obtain ⟨A,c,hb,hr⟩:=h.ex;have c0:=hb.cell (i:=0) rfl;have f0:=hb.live 0;have hbl:=hb.lt;have HB:=zH hb;have HR:=zH hr;have HM:=zH h.most;clear hb hr h;go_enter func130,ntmps130;go_wp2_with fail;go_ret;exact ⟨_,g.own,rfl,Mod.st Mod.self HB.out.own,⟨⟨none,0,HB.out.set 0 _,Row.nil _ _ _ _⟩,HM.out,by simpa using HM.out.1⟩,HR.out.setOther _ _ (fun x hx=>HR.out.ne_type HB.out zd hx)⟩
theorem yjQ (n:Int) (t:Nat) (g:GW) (hn:0≤n∧n≤8):Calls prog 124 #[.int .i64 n] g.w (fun e w'=> ∃b,e=.returned (.tuple #[.pointer (some ⟨b,0,none⟩),.int .i64 0])∧Mod (fun _=>False) g (g.to t w')∧StockAt (g.to t w') t b ⟨[],n⟩∧Ext g.w w'∧g.w.heap.size≤b∧b<w'.heap.size):=by
 have HV:=zH hn;obtain ⟨h0,h1⟩:=hn;go_enter func124,ntmps124;go_wp2_with fail;go_ret2;have he:Ext g.w (g.w.alloc (.cells #[.slice none 0 0,.int .i64 n] 229)):=zE;exact ⟨_,rfl,Mod.ext he t,⟨⟨none,0,Blk.made (World.row_alloc_new _) (Nat.le_refl _),Row.nil _ _ _ _⟩,HV.out,HV.out.1⟩,he,Nat.le_refl _,by rw [World.size_alloc];omega⟩
theorem ye0 (g:GW) (t b:Nat) (k:Int) (s:StockS) (h:StockAt g t b s) (hk:k<1∨(s.l.length:Int)<k):
 Calls prog 243 #[.pointer (some ⟨b,0,none⟩),.int .i64 k] g.w (fun e w'=>e=.returned (.tuple #[.slice none 0 0,.bool false])∧g.w=w'):=by
 obtain ⟨A,c,hb,hr⟩:=h.ex;have c0:=hb.cell (i:=0) rfl;clear hb hr h;generalize s.l.length=n at *;by_cases h1:k<1
 · clear hk;go_enter func243,ntmps243;go_wp2_with fail;go_ret2;exact ⟨rfl,rfl⟩
 · have h2:(n:Int)<k:=zo;clear hk;go_enter func243,ntmps243;go_wp2_with fail;go_ret2;exact ⟨rfl,rfl⟩
theorem yd4 (g:GW) (t b k:Nat) (s:StockS) (h:StockAt g t b s) (ht:t≠0) (hk:1≤k) (hk2:k≤s.l.length):
 Calls prog 243 #[.pointer (some ⟨b,0,none⟩),.int .i64 k] g.w (Makes g (fun x=>x=t) (fun v g'=> ∃x,v=.tuple #[x,.bool true]∧StockAt g' t b ⟨s.l.drop k,s.most⟩∧Row g' 0 3 1 x k ((s.l.take k).map (Value.int .i64)))):=by
 obtain ⟨A,c,hb,hr⟩:=h.ex;obtain ⟨r,rfl,hrl, -, -, -⟩:=hr.block zo;obtain ⟨A',c',hv,hnc,hc63, -⟩:=hr.form;injection hv with e1 _ e3;subst e3;have hm1:=h.most;have hm2:=h.len;have HT:=zH ht;have H:=zH h;have HB:=zH hb;have HR:=zH hr;have c0:=hb.cell (i:=0) rfl;have f0:=hb.live 0;have hbl:=hb.lt;have HC1:=zH (fun w' (he:Ext g.w w')=>ybl (some ⟨r,0,none⟩) c k (s.l.take k) 0 ⟨g.own,w'⟩ (by simp;omega) (by rw [List.map_take];exact (hr.cells.ext he).take k) zo);have HL2:=zH (show (s.l.drop k).length=s.l.length-k by simp);generalize hn:s.l.length=n at *;have HN:=zH hn;clear hb hr h hn e1 ht;have hd1: ¬((n:Int)<k):=zo;by_cases hkc:k=c
 · subst hkc;go_enter func243,ntmps243;go_wp2_with fail;refine (HC1.out _ (Ext.refl _)).mono ?_;rintro e w1 ⟨A1,c1,rfl,m1,r1,he1,fr1⟩;have M1:=zH m1;have R1:=zH r1;have HE1:=zH (show Ext g.w w1 from he1);have d0:=(HE1.out.cell hbl).trans c0;have e0:=(HE1.out.live hbl).trans f0;have hbl1:=Nat.lt_of_lt_of_le hbl HE1.out.size;clear m1 r1 he1 fr1 c0 f0;go_wp2_with fail;have hnk:k=n:=zo;subst hnk;have HD:s.l.drop k=[]:=List.drop_eq_nil_of_le (by rw [HN.out];exact Nat.le_refl _);have HC2:=zH (ybl (some ⟨r,0,none⟩) 0 0 [] t (GW.to g 0 w1) rfl (CellsAt.nil _ _) zo);refine HC2.out.mono ?_;rintro e w2 ⟨A2,c2,rfl,m2,r2,he2,fr2⟩;have M2:=zH m2;have R2:=zH r2;have HE2:=zH (show Ext w1 w2 from he2);have B2:=zH ((HB.out.keep M1.out id).keep m2 id);have HA2:=zH (show∀x,(Value.slice A2 0 c2).ownBlock=some x→b≠x from fun x hx=>r2.ne_type B2.out zd hx);have g0:=(HE2.out.cell hbl1).trans d0;have gf:=(HE2.out.live hbl1).trans e0;have hbl2:=Nat.lt_of_lt_of_le hbl1 HE2.out.size;have X1:=zH (R1.out.ext he2 t);clear m2 r2 he2 fr2 d0 e0;go_wp2_with fail;go_ret2
   refine ⟨_,((g.to 0 w1).to t w2).own,rfl,(Mod.st (g:=g) (((M1.out.trans M2.out).mono (fun x hx=>hx.elim))) B2.out.own),_,rfl,⟨⟨A2,c2,?_,?_⟩,hm1,?_⟩,?_⟩
   · simp only [HD];exact B2.out.set 0 _
   · simp only [HD];exact R2.out.setOther 0 _ HA2.out
   · simp only [HD];simpa using hm1.1
   · exact (X1.out.setOther 0 _ (fun x hx=>X1.out.ne_type B2.out zd hx)).weak rfl rfl
 · go_enter func243,ntmps243;go_wp2_with fail;refine (HC1.out _ (Ext.refl _)).mono ?_;rintro e w1 ⟨A1,c1,rfl,m1,r1,he1,fr1⟩;have M1:=zH m1;have R1:=zH r1;have HE1:=zH (show Ext g.w w1 from he1);have d0:=(HE1.out.cell hbl).trans c0;have e0:=(HE1.out.live hbl).trans f0;have hbl1:=Nat.lt_of_lt_of_le hbl HE1.out.size;clear m1 r1 he1 fr1 c0 f0;go_wp2_with fail;have HC2:=zH (ybl (some ⟨r,k,none⟩) (c-k) (n-k) (s.l.drop k) t (GW.to g 0 w1) HL2.out (by rw [List.map_drop];have:=(HR.out.cells.ext HE1.out).sub k;simp only [Option.map,Addr.add] at this;rw [if_neg zo,Nat.zero_add] at this;exact this) zo);refine HC2.out.mono ?_;rintro e w2 ⟨A2,c2,rfl,m2,r2,he2,fr2⟩;have M2:=zH m2;have R2:=zH r2;have HE2:=zH (show Ext w1 w2 from he2);have B2:=zH ((HB.out.keep M1.out id).keep m2 id);have HA2:=zH (show∀x,(Value.slice A2 (n-k) c2).ownBlock=some x→b≠x from fun x hx=>r2.ne_type B2.out zd hx);have g0:=(HE2.out.cell hbl1).trans d0;have gf:=(HE2.out.live hbl1).trans e0;have hbl2:=Nat.lt_of_lt_of_le hbl1 HE2.out.size;have X1:=zH (R1.out.ext he2 t);clear m2 r2 he2 fr2 d0 e0;go_wp2_with fail;go_ret2
   refine ⟨_,((g.to 0 w1).to t w2).own,rfl,(Mod.st (g:=g) (((M1.out.trans M2.out).mono (fun x hx=>hx.elim))) B2.out.own),_,rfl,⟨⟨A2,c2,?_,?_⟩,hm1,?_⟩,?_⟩
   · simp only [HL2.out];exact B2.out.set 0 _
   · simp only [HL2.out];exact R2.out.setOther 0 _ HA2.out
   · simp only [HL2.out];omega
   · exact (X1.out.setOther 0 _ (fun x hx=>X1.out.ne_type B2.out zd hx)).weak rfl rfl
theorem yez (g:GW) (t b:Nat) (A:Option Addr) (c:Nat) (l:List Int) (s:StockS) (h:StockAt g t b s) (hl:CellsAt g.w A (l.map (Value.int .i64))) (hA:A=none→l=[]∧c=0) (hm:(s.l.length:Int)+l.length≤s.most):
 Calls prog 247 #[.pointer (some ⟨b,0,none⟩),.slice A l.length c] g.w (Does (.bool true) g (fun x=>x=t) (fun g'=>StockAt g' t b ⟨s.l++l,s.most⟩)):=by
 obtain ⟨i0,hi,hz0,hz1,hz2⟩:=info_parts ya1;obtain ⟨A0,c',hb,hr⟩:=h.ex;have hm1:=h.most;have HRoom:=zH (ych g t b s h);have HB:=zH hb;have HR:=zH hr;have HM:=zH h.most;have c0:=hb.cell (i:=0) rfl;have f0:=hb.live 0;have hbl:=hb.lt;have hd:decide (s.most-(s.l.length:Int)<(l.length:Int))=false:=decide_eq_false zo;generalize hn:s.l.length=n at *;have HN:=zH hn;clear hb hr h hn;cases A with
 |none=>
  obtain ⟨rfl,rfl⟩:=hA rfl;clear hA hl;simp only [List.length_nil,List.append_nil] at hd hm ⊢;go_enter func247,ntmps247;go_wp2_with fail;refine HRoom.out.mono ?_;rintro e w1 ⟨rfl,X1,rfl⟩;have R1:=zH (HR.out.ptx X1);go_wp2_with (at_builtin;refine wpList_append_own_none rfl (.tmp 14) (.tmp 15) 97 rfl 0 3 i0 1 Tryz.underlying97 hi _ _ _ rfl R1.out.row rfl ?_);go_ret;(try rw [World.patch_patch]);refine Does.of (GW.pt ⟨g.own,_⟩ _) rfl rfl (Mod.pt (Mod.st Mod.self HB.out.own) _) (StockAt.pt (s:=⟨s.l,s.most⟩) ⟨⟨A0,c',?_,?_⟩,HM.out,?_⟩ _)
  · simp only [HN.out];exact HB.out.set 0 _
  · simp only [HN.out];exact HR.out.setOther 0 _ (fun x hx=>HR.out.ne_type HB.out zd hx)
  · simp only [HN.out];omega
 |some ad=>
  have HL:=zH hl;clear hA hl;generalize hm':l.length=m at *;have HM':=zH hm';clear hm';go_enter func247,ntmps247;go_wp2_with fail;refine HRoom.out.mono ?_;rintro e w1 ⟨rfl,X1,rfl⟩;have R1:=zH (HR.out.ptx X1);have B1:=zH (HB.out.pt X1);have L1:=zH (HL.out.patch X1);go_wp2_with (at_builtin;refine wpList_append_own_at _ rfl (.tmp 14) (.tmp 15) 97 rfl 0 3 i0 (zI z6 0) 1 8 Tryz.underlying97 hi hz0 hz1 hz2 rfl zd _ _ _ rfl R1.out.row ad m c (l.map (Value.int .i64)) rfl (by simp [HM'.out]) (ybN L1.out) (by intro u hu;simp at hu;obtain ⟨_,_,rfl⟩:=hu;rfl) (by unfold maxLen;omega) zo (Nat.zero_le _) ?_;intro v2 w2 hown hgrow hnil hat;obtain ⟨A2,c2,rfl⟩:=yak hown;have R2:=zH (R1.out.grown (g:=g.pt X1) hown hat);have B2:=zH (B1.out.grown (t':=t) hgrow (fun x hx=>R1.out.ne_type B1.out zd hx));have M2:=zH ((Mod.pt (Mod.refl (fun x=>x=t) g) X1).trans (Mod.grown hgrow t (fun k hk hl=>R1.out.own k hk)));have d0:=B2.out.cell (i:=0) rfl;have e0:=B2.out.live 0;have hbl2:=B2.out.lt;simp only [GW.to] at d0 e0 hbl2;clear hown hgrow hnil hat c0 f0 hbl);go_ret;refine ⟨rfl,_,Mod.st (g:=g) M2.out B2.out.own,⟨⟨A2,c2,?_,?_⟩,HM.out,?_⟩⟩
  · simp only [List.length_append,HN.out,HM'.out];exact B2.out.set 0 _
  · simp only [List.length_append,HN.out,HM'.out];exact (R2.out.setOther 0 _ (fun x hx=>R2.out.ne_type B2.out zd hx)).weak rfl (by simp)
  · simp only [List.length_append,HN.out,HM'.out];omega
end Go.Proofs.YtdhjjpnajjingaaGreat
namespace Go
open Go.RowKit
structure Ent where
 thread:Int
 frags:Int
 spine:Int
 state:Int
 cycles:Int
 at_:Int
 got:List Int
 noted:Bool
structure EntM where
 e:Ent
 A:Option Addr
 cap:Nat
namespace EntM
def req (m:EntM):List Value:=[.int .i64 m.e.thread,.int .i64 m.e.frags,.int .i64 m.e.spine,.int .i64 m.e.state,.int .i64 m.e.cycles,.int .i64 m.e.at_,.slice m.A m.e.got.length m.cap]
def cells (m:EntM):List Value:=m.req++[.bool m.e.noted]
theorem cells_len (m:EntM):m.cells.length=8:=rfl
structure At (g:GW) (t:Nat) (m:EntM):Prop where
 seg:Seg g t m.A (m.e.got.map (Value.int .i64))
 len:m.e.got.length≤1024
theorem At.keep {S:Nat→Prop} {g g':GW} {t:Nat} {m:EntM} (h:At g t m) (d:Mod S g g') (hs: ¬S t):At g' t m:=⟨h.seg.keep d hs,h.len⟩
end EntM
def placeOf (p:Ent→Bool) (l:List Ent):Int:=match l.findIdx? p with|some i=>(i:Int)|none=> -1
theorem ycJ {p:Ent→Bool} {l:List Ent} (h: ∀e∈l,p e=false):placeOf p l= -1:=by
 unfold placeOf;rw [List.findIdx?_eq_none_iff.2 h]
theorem ycK {p:Ent→Bool} {l:List Ent} {k:Nat} {e:Ent} (hk:l[k]?=some e) (hp:p e=true) (h: ∀x∈l.take k,p x=false):placeOf p l=k:=by
 obtain ⟨hl,hx⟩:=List.getElem?_eq_some_iff.1 hk
 have:l.findIdx? p=some k:=by
  rw [List.findIdx?_eq_some_iff_getElem];refine ⟨hl,by rw [hx];exact hp,fun j hj=>?_⟩;have:=h l[j] (by rw [List.mem_take_iff_getElem];exact ⟨j,zo,rfl⟩);simp [this]
 unfold placeOf;rw [this]
theorem ybt (p:Ent→Bool) (l:List Ent): -1≤placeOf p l∧placeOf p l<l.length:=by
 unfold placeOf;cases h:l.findIdx? p with
 |none=>simp only;omega
 |some i=>
  obtain ⟨hl,_⟩:=List.findIdx?_eq_some_iff_getElem.1 h;simp only;omega
def ofB (th:Int) (e:Ent):Bool:=e.thread==th
def waitB (e:Ent):Bool:=e.state==0
end Go
