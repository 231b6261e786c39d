import Derived.Test.YtdhjjpnajjingaaGreatKF00
import Derived.Test.YtdhjjpnajjingaaGreatChecked
import Derived.Laws.AppendOwnNone
set_option linter.unusedVariables false
set_option linter.unnecessarySimpa false
set_option linter.unusedSimpArgs false
open Bool renaming true→zT,false→zU
open Go.Value renaming int→zI,complex→zc,pointer→zp,bool→zb
open Go.IntKind renaming i64→z6
open Go.FloatKind renaming f64→z4
set_option maxHeartbeats 8000000
set_option maxRecDepth 100000
open Go.Proofs.Tryz
theorem Go.zE {p:Prop} (h:p:=by (repeat (first|(with_reducible (first|assumption|exact Go.Ext.refl _|exact Go.Ext.more _ _ _ _))|apply Go.Ext.alloc|refine Go.Ext.setCell ?_ (by first|exact Nat.le_refl _|exact Nat.le_add_right _ _|assumption) _|apply Go.Ext.patch|apply Go.Ext.drew|apply Go.Ext.drewN))):p:=h
theorem Go.zF {p:Prop} (h:p:=by (repeat (with_reducible (first|assumption|exact Go.Ext.refl _|exact Go.Ext.more _ _ _ _|apply Go.Ext.alloc|apply Go.Ext.patch|apply Go.Ext.drew|apply Go.Ext.drewN|refine Go.Ext.setCell ?_ (by first|assumption|exact Nat.le_refl _|exact Nat.le_add_right _ _) _)))):p:=h
open Go.Lib renaming hid→zH
open Go.Ext renaming alloc→zA,patch→zP,drew→zD,drewN→zN,more→zM,refl→zR,setCell→zS
open Nat renaming le_refl→zL,le_add_right→zK
namespace Go.Proofs.YtdhjjpnajjingaaGreat
open Go Go.RowKit
attribute [local go_sem] Lib.run_eql_slice_nil
def Cloned (t:Nat) (l:List Int) (g:GW) (e:Ending) (w':World):Prop:=
 ∃A' c',e=.returned (.slice A' l.length c')∧Mod (fun _=>False) g (g.to t w')∧Row (g.to t w') t 3 1 (.slice A' l.length c') l.length (l.map (zI z6))∧Ext g.w w'∧(∀a,A'=some a→g.w.heap.size≤a.block)
theorem ykI (A:Option Addr) (cap:Nat) (l:List Int) (t:Nat) (g:GW) (hc:CellsAt g.w A (l.map (zI z6))) (hl:l.length≤1099511627776):
 Calls prog 239 #[.slice A l.length cap] g.w (Cloned t l g):=by
 obtain ⟨i0,hi,hz0,hz1,hz2⟩:=info_parts ya7;have hq:=fun w=>Lib.run_eql_slice_nil (P:=prog) w 97 3 A l.length cap 0 0 Tryz.underlying97;rcases A with _|ad
 · obtain rfl:l=[]:=by
    rcases l with _|⟨x,l⟩
    · rfl
    · obtain ⟨b,o,h,_⟩:=hc.at_ (i:=0) (by simp);cases h
   go_enter func239,ntmps239;go_wp2_with fail;go_ret;exact ⟨none,0,rfl,Mod.ext (Ext.refl _) _,Row.nil _ _ _ _,Ext.refl _,fun a h=>by cases h⟩
 · go_enter func239,ntmps239;go_wp2_with (at_builtin;refine wpList_append_own _ rfl (.tmp 5) (.tmp 6) 97 rfl g.w.heap.size 3 i0 (zI z6 0) 1 8 Tryz.underlying97 hi hz0 hz1 hz2 rfl zd _ _ _ rfl (World.ownsRow_made (cap:=0) _ #[] (Nat.le_refl _) zd rfl) ad l.length cap (l.map (zI z6)) rfl (by simp) (ybo (hc.alloc _)) (by intro u hu;simp at hu;obtain ⟨_,_,rfl⟩:=hu;rfl) (by unfold maxLen;omega) zo (by simp) ?_;intro v' w1 hown hgrow hn);simp only [Nat.zero_add,List.nil_append] at hown;obtain ⟨A',c',hv⟩:=yak hown;rw [hv] at hown;have HV:=zH hv;clear hv;go_ret;have he:Ext g.w w1:=yaC (Ext.alloc (Ext.refl _) _) hgrow (fun k hk=>by cases hk;exact Nat.le_refl _);have hf:=ybZ hown
   exact ⟨A',c',congrArg Ending.returned HV.o,Mod.ext he _,⟨ya9 hown (Nat.zero_le _),fun k hk=>GW.to_new (by
    cases A' with
    |none=>cases hk
    |some a=>injection hk with hk;subst hk;exact hf a rfl)⟩,he,hf⟩
def ClonedN (t n:Nat) (l:List Int) (g:GW) (e:Ending) (w':World):Prop:=
 ∃A' c',e=.returned (.slice A' n c')∧Mod (fun _=>False) g (g.to t w')∧Row (g.to t w') t 3 1 (.slice A' n c') n (l.map (zI z6))∧Ext g.w w'∧(∀a,A'=some a→g.w.heap.size≤a.block)
theorem ybp (A:Option Addr) (cap n:Nat) (l:List Int) (t:Nat) (g:GW) (hn:l.length=n) (hc:CellsAt g.w A (l.map (zI z6))) (hl:n≤1099511627776):
 Calls prog 239 #[.slice A n cap] g.w (ClonedN t n l g):=by
 subst hn;exact ykI A cap l t g hc hl
end Go.Proofs.YtdhjjpnajjingaaGreat
namespace Go
open Go.RowKit
def inB (i:Int) (n:Nat):Bool:=decide (0≤i∧i<n)
theorem yap {i:Int} {n:Nat} (h:inB i n=true): ∃k:Nat,i=k∧k<n:=by
 unfold inB at h;simp only [decide_eq_true_eq] at h;exact ⟨i.toNat,zo,zo⟩
theorem yb9 {k n:Nat} (h:k<n):inB (k:Int) n=true:=by unfold inB;simp;omega
theorem ybX {i:Int} {n:Nat} (h:inB i n=false):i<0∨(n:Int)≤i:=by
 unfold inB at h;simp only [decide_eq_false_iff_not] at h;omega
theorem yhd {i:Int} {n:Nat} (h:i<0):inB i n=false:=by unfold inB;simp;omega
theorem yhc {i:Int} {n:Nat} (h:(n:Int)≤i):inB i n=false:=by unfold inB;simp;omega
theorem yaH {α:Type} {f:α→List Value} {s:Nat} (l:List α) (hf: ∀x,(f x).length=s):(l.flatMap f).length=l.length*s:=by
 induction l with
 |nil=>simp
 |cons x l ih=>rw [List.flatMap_cons,List.length_append,hf,ih,List.length_cons,Nat.succ_mul];omega
theorem yaP {α:Type} {f:α→List Value} {s:Nat} (hf: ∀x,(f x).length=s) (l:List α) (k j:Nat) (x:α) (h:l[k]?=some x) (hj:j<s):(l.flatMap f)[k*s+j]?=(f x)[j]?:=by
 induction l generalizing k with
 |nil=>simp at h
 |cons y l ih=>
  rw [List.flatMap_cons];cases k with
  |zero=>
   simp at h;subst h;rw [Nat.zero_mul,Nat.zero_add,List.getElem?_append_left (by rw [hf];exact hj)]
  |succ k=>
   have:=ih k (by simpa using h);rw [List.getElem?_append_right (by rw [hf,Nat.succ_mul];omega),hf, ←this];congr 1
   rw [Nat.succ_mul];omega
structure One where
 state:Nat
 head:Bool
 sense:Bool
 deriving DecidableEq
def One.cells (o:One):List Value:=[zI z6 o.state,zb o.head,zb o.sense]
theorem One.cells_len (o:One):o.cells.length=3:=rfl
structure TabS where
 l:List One
namespace TabS
def at_ (t:TabS) (i:Int):Option One:=if inB i t.l.length then t.l[i.toNat]? else none
def state (t:TabS) (i:Int):Nat:=((t.at_ i).map One.state).getD 0
def head (t:TabS) (i:Int):Bool:=((t.at_ i).map One.head).getD false
def sense (t:TabS) (i:Int):Bool:=((t.at_ i).map One.sense).getD false
def black (t:TabS) (i:Int) (s:Bool):Bool:=t.state i==2&&t.sense i==s
def cnt (t:TabS) (s:Nat):Nat:=t.l.countP (fun o=>o.state==s)
def may (t:TabS) (i s:Int):Bool:=inB i t.l.length&&decide (0≤s∧s≤2)
def set (t:TabS) (i s:Int) (head sense:Bool):TabS:=if t.may i s then ⟨t.l.set i.toNat ⟨s.toNat,head&&s.toNat==2,sense⟩⟩ else t
def mark (t:TabS) (i:Int) (s:Bool):TabS:=if t.state i==2&& !t.black i s then ⟨t.l.modify i.toNat fun o=>{ o with sense:=s }⟩ else t
def born (t:TabS) (i:Int):TabS:=if t.state i==2&& !t.head i then ⟨t.l.modify i.toNat fun o=>{ o with head:=true }⟩ else t
theorem at_in {t:TabS} {k:Nat} {o:One} (h:t.l[k]?=some o):t.at_ k=some o:=by
 unfold at_;rw [if_pos (yb9 (List.getElem?_eq_some_iff.1 h).1),Int.toNat_natCast,h]
theorem at_out {t:TabS} {i:Int} (h:inB i t.l.length=false):t.at_ i=none:=by unfold at_;rw [h];rfl
end TabS
structure MemS where
 l:List (Nat × Nat)
 count:Int
namespace MemS
def peek (m:MemS) (a:Int):Nat × Nat:=if inB a m.l.length then m.l.getD a.toNat (0,0) else (0,0)
def tick (m:MemS):MemS:={ m with count:=m.count+1 }
def lay (m:MemS) (a:Int) (x:Nat × Nat):MemS:=if inB a m.l.length then { m with l:=m.l.set a.toNat x } else m
end MemS
structure CoilS where
 size:Int
 cur:Nat
 u0:Int
 u1:Int
 kept:Int
namespace CoilS
def used (c:CoilS) (s:Nat):Int:=if s=0 then c.u0 else c.u1
def room (c:CoilS):Int:=c.size-c.used c.cur-c.kept
def lays (c:CoilS) (n:Int):CoilS:=if c.cur=0 then { c with u0:=c.u0+n } else { c with u1:=c.u1+n }
structure Ok (c:CoilS):Prop where
 cur:c.cur<2
 s0:0≤c.size∧c.size≤2048
 b0:0≤c.u0∧c.u0≤2048
 b1:0≤c.u1∧c.u1≤2048
 bk:0≤c.kept∧c.kept≤2048
 fit:c.used c.cur+c.kept≤c.size
def takeable (c:CoilS) (n:Int):Bool:=decide (1≤n∧n≤c.room)
def take (c:CoilS) (n:Int):CoilS:=if c.takeable n then c.lays n else c
def takenAt (c:CoilS) (n:Int):Int:=if c.takeable n then c.used c.cur else 0
def turnable (c:CoilS):Bool:=decide (c.used (1-c.cur)≤0)
def turn (c:CoilS):CoilS:=if c.turnable then { c with kept:=c.used c.cur,cur:=1-c.cur } else c
def skippable (c:CoilS) (n:Int):Bool:=decide (1≤n∧n≤c.kept)
def skip (c:CoilS) (n:Int):CoilS:=if c.skippable n then { c with kept:=c.kept-n } else c
def copy (c:CoilS) (n:Int):CoilS:=if c.skippable n then (c.skip n).lays n else c
def doneable (c:CoilS):Bool:=decide (c.kept≤0)
def done (c:CoilS):CoilS:=if c.doneable then (if c.cur=0 then { c with u1:=0 } else { c with u0:=0 }) else c
end CoilS
structure PoolS where
 l:List Bool
namespace PoolS
def free (p:PoolS):Nat:=p.l.countP id
def runGo (l:List Bool) (k:Nat):Nat→Nat→Option Nat
 |0,_=>none
 |i+1,n=>if l.getD i false then (if n+1=k then some i else runGo l k i (n+1)) else runGo l k i 0
def run (p:PoolS) (k:Int):Option Nat:=if k<1 then none else runGo p.l k.toNat p.l.length 0
def lowGo (l:List Bool) (k:Nat):Nat→Nat→List Int
 |0,_=>[]
 |f+1,i=>if k=0 then [] else if l.getD i false then (i:Int)::lowGo l (k-1) f (i+1) else lowGo l k f (i+1)
def lowOnes (p:PoolS) (k:Int):List Int:=lowGo p.l k.toNat p.l.length 0
def takes (p:PoolS) (got:List Int):PoolS:=⟨got.foldl (fun l i=>l.set i.toNat false) p.l⟩
def taken (p:PoolS) (k:Int):Option (List Int):=if k<1∨(p.free:Int)<k then none else match p.run k with
 |some a=>some ((List.range k.toNat).map fun j=>((a+j:Nat):Int))
 |none=>some (p.lowOnes k)
def give (p:PoolS) (i:Int):PoolS:=if inB i p.l.length then ⟨p.l.set i.toNat true⟩ else p
end PoolS
structure PileS where
 l:List Int
 most:Int
 lost:Bool
structure HandS where
 status:Int
 sense:Bool
 l:List Int
 count:Int
namespace HandS
def own (h:HandS) (t:Int):Int:=if inB t h.l.length then h.l.getD t.toNat 0 else-1
def tick (h:HandS):HandS:={ h with count:=h.count+1 }
end HandS
end Go
namespace Go.Proofs.YtdhjjpnajjingaaGreat
open Go Go.RowKit
structure PileAt (g:GW) (t b:Nat) (p:PileS):Prop where
 ex: ∃A c,Blk g t b 227 [.slice A p.l.length c,zI z6 p.most,zb p.lost]∧Row g t 3 1 (.slice A p.l.length c) p.l.length (p.l.map (zI z6))
 most:1≤p.most∧p.most≤256
 len:(p.l.length:Int)≤p.most
theorem PileAt.keep {S:Nat→Prop} {g g':GW} {t b:Nat} {p:PileS} (h:PileAt g t b p) (d:Mod S g g') (hs: ¬S t):PileAt g' t b p:=by
 obtain ⟨A,c,h1,h2⟩:=h.ex;exact ⟨⟨A,c,h1.keep d hs,h2.keep d hs⟩,h.most,h.len⟩
def PileMade (n:Int) (t:Nat) (g:GW) (e:Ending) (w':World):Prop:=
 if 1≤n∧n≤256 then∃b,e=.returned (.tuple #[zp (some ⟨b,0,none⟩),zI z6 0])∧Ext g.w w'∧PileAt (g.to t w') t b ⟨[],n,false⟩
 else e=.returned (.tuple #[zp none,zI z6 1])∧Ext g.w w'
theorem yla (n:Int) (t:Nat) (g:GW):Calls prog 119 #[zI z6 n] g.w (PileMade n t g):=by
 by_cases h0:n<1
 · have HV:=zH (show¬(1≤n∧n≤256) by omega);go_enter func119,ntmps119;go_wp2_with fail;go_ret2;unfold PileMade;rw [if_neg HV.o];exact ⟨rfl,Ext.refl _⟩
 by_cases h1:256<n
 · have HV:=zH (show¬(1≤n∧n≤256) by omega);go_enter func119,ntmps119;go_wp2_with fail;go_ret2;unfold PileMade;rw [if_neg HV.o];exact ⟨rfl,Ext.refl _⟩
 have HV:=zH (show (1:Int)≤n∧n≤256 by omega);go_enter func119,ntmps119;go_wp2_with fail;go_ret2;unfold PileMade;rw [if_pos HV.o];exact ⟨_,rfl,zE,⟨none,0,Blk.made (World.row_alloc_new _) (Nat.le_refl _),Row.nil _ _ _ _⟩,HV.o,by have:=HV.o.1;show (0:Int)≤n;omega⟩
structure HandAt (g:GW) (t b:Nat) (h:HandS):Prop where
 ex: ∃A c,Blk g t b 137 [zI z6 h.status,zb h.sense,.slice A h.l.length c,zI z6 h.count]∧Row g t 3 1 (.slice A h.l.length c) h.l.length (h.l.map (zI z6))
 len:h.l.length≤16
theorem HandAt.keep {S:Nat→Prop} {g g':GW} {t b:Nat} {h:HandS} (H:HandAt g t b h) (d:Mod S g g') (hs: ¬S t):HandAt g' t b h:=by
 obtain ⟨A,c,h1,h2⟩:=H.ex;exact ⟨⟨A,c,h1.keep d hs,h2.keep d hs⟩,H.len⟩
theorem yhV (g:GW) (t b:Nat) (h:HandS) (H:HandAt g t b h):
 Calls prog 187 #[zp (some ⟨b,0,none⟩)] g.w (fun e w'=>e=.returned (zI z6 h.count)∧g.w=w'):=by
 obtain ⟨A,c,hb,hr⟩:=H.ex;have c0:=hb.cell (i:=3) rfl;clear hb hr H;go_enter func187,ntmps187;go_wp2_with fail;go_ret;exact ⟨rfl,rfl⟩
theorem yb2 (g:GW) (t b:Nat) (i:Int) (h:HandS) (H:HandAt g t b h):
 Calls prog 190 #[zp (some ⟨b,0,none⟩),zI z6 i] g.w (fun e w'=>e=.returned (zI z6 (h.own i))∧g.w=w'):=by
 cases hin:inB i h.l.length
 · have HV:=zH (show h.own i= -1 by unfold HandS.own;rw [hin];rfl);obtain ⟨A,c,hb,hr⟩:=H.ex;have c0:=hb.cell (i:=2) rfl;have hc:=ybX hin;clear hb hr H hin;by_cases h0:i<0
   · clear hc;go_enter func190,ntmps190;go_wp2_with fail;go_ret;exact ⟨by rw [HV.o];try rfl,rfl⟩
   · have h1:(h.l.length:Int)≤i:=zo;clear hc;go_enter func190,ntmps190;go_wp2_with fail;go_ret;exact ⟨by rw [HV.o];try rfl,rfl⟩
 · obtain ⟨k,rfl,hk⟩:=yap hin;have HV:=zH (show h.own k=h.l.getD k 0 by unfold HandS.own;rw [hin,if_pos rfl,Int.toNat_natCast]);obtain ⟨A,c,hb,hr⟩:=H.ex;obtain ⟨r,rfl,hrl,ho,hcell,hfr⟩:=hr.block zo;have k0:=hcell k (zI z6 (h.l.getD k 0)) (by simp [List.getD_eq_getElem?_getD,hk]);have c0:=hb.cell (i:=2) rfl;have hlen:=H.len;generalize h.l.getD k 0=x at *;generalize h.l.length=n at *;clear hb hr H hcell hfr hin;go_enter func190,ntmps190;go_wp2_with fail;go_ret;exact ⟨by rw [HV.o];try rfl,rfl⟩
theorem yjq (g:GW) (t b:Nat) (h:HandS) (H:HandAt g t b h) (hc:0≤h.count∧h.count≤1099511627776):
 Calls prog 55 #[zp (some ⟨b,0,none⟩)] g.w (Does (.tuple #[zI z6 h.status,zb h.sense]) g (fun x=>x=t) (fun g'=>HandAt g' t b h.tick)):=by
 obtain ⟨A,c,hb,hr⟩:=H.ex;obtain ⟨hc0,hc1⟩:=hc;have c0:=hb.cell (i:=0) rfl;have c1:=hb.cell (i:=1) rfl;have c3:=hb.cell (i:=3) rfl;have f3:=hb.live 3;have hbl:=hb.lt;have HB:=zH hb;have HR:=zH hr;have HL:=zH H.len;clear hb hr H;go_enter func55,ntmps55;go_wp2_with fail;refine yab [zT,zT,zT,zT,zT,zT,zT,zT,zT,zT] 0 10 ?_;intro X00;simp only [pickOps];repeat (go_big_quiet_step (fail))
 refine wpQuiet_nil (fun X0=>?_);clear X00;refine yaa zQ (fun X0'=>?_) _;go_wp2_with fail;go_ret2;exact Does.ext ⟨g.own,g.w.setCell ⟨b,3,none⟩ (zI z6 (h.count+1))⟩ zE rfl (Mod.st Mod.self HB.o.own) (fun g2 m=>HandAt.keep ⟨⟨A,c,HB.o.set 3 _,HR.o.setOther 3 _ (fun x hx=>HR.o.ne_type HB.o zd hx)⟩,HL.o⟩ m id)
def HandMade (n:Int) (t:Nat) (g:GW) (e:Ending) (w':World):Prop:=
 if 1≤n∧n≤16 then∃own' b,e=.returned (.tuple #[zp (some ⟨b,0,none⟩),zI z6 0])∧Mod (fun _=>False) g ⟨own',w'⟩∧HandAt ⟨own',w'⟩ t b ⟨0,false,List.replicate n.toNat (-1),0⟩
 else e=.returned (.tuple #[zp none,zI z6 1])∧Ext g.w w'
theorem ykO {n k:Nat} (h:k<n):(List.replicate k (-1:Int)++List.replicate (n-k) 0).set k (-1)=List.replicate (k+1) (-1)++List.replicate (n-(k+1)) 0:=by
 rw [show n-k=(n-(k+1))+1 by omega,List.replicate_succ,List.set_append_right _ _ (by simp),List.length_replicate,Nat.sub_self,List.set_cons_zero,List.replicate_succ',List.append_assoc];rfl
theorem ykU (n:Int) (t:Nat) (g:GW):Calls prog 65 #[zI z6 n] g.w (HandMade n t g):=by
 obtain ⟨i0,hi,hz0,hz1,hz2⟩:=info_parts ya7;by_cases h0:n<1
 · have HV:=zH (show¬(1≤n∧n≤16) by omega);go_enter func65,ntmps65;go_wp2_with fail;go_ret2;unfold HandMade;rw [if_neg HV.o];exact ⟨rfl,Ext.refl _⟩
 by_cases h1:16<n
 · have HV:=zH (show¬(1≤n∧n≤16) by omega);go_enter func65,ntmps65;go_wp2_with fail;go_ret2;unfold HandMade;rw [if_neg HV.o];exact ⟨rfl,Ext.refl _⟩
 obtain ⟨k,rfl⟩:=Int.eq_ofNat_of_zero_le (show 0≤n by omega);have HV:=zH (show (1:Int)≤k∧(k:Int)≤16 by omega);have hmk:=ybR (P:=prog) 97 3 i0 _ 1 8 Tryz.underlying97 hi hz0 hz1 hz2 k zo zo;simp only [Value.cells,ydi] at hmk;have hk:k≤16:=zo;go_enter func65,ntmps65;go_wp2_with fail;obtain ⟨q1,q2⟩:=yaI g.w (.cells (List.replicate k (zI z6 0)).toArray 3) (.cells #[zI z6 0,zb false,.slice (some ⟨g.w.heap.size,0,none⟩) k k,zI z6 0] 137);have HB:=zH (Blk.made (g:=g) (t:=t) q2 zo);have HR:=zH (Row.made (g:=g) (t:=t) (n:=k) (size:=1) q1 (Nat.le_refl _) (by simp) zo);have HE:=zH (Mod.ext (T:=fun _=>False) (show Ext g.w ((g.w.alloc (.cells (List.replicate k (zI z6 0)).toArray 3)).alloc (.cells #[zI z6 0,zb false,.slice (some ⟨g.w.heap.size,0,none⟩) k k,zI z6 0] 137)) from zE) t);clear q1 q2;have c0:=HB.o.cell (i:=2) rfl;simp only [GW.to] at c0
 go_loopw [21] (fun i wr=> ∃(j:Nat) (own:Nat→Nat),j≤k∧i=zI z6 j∧Hid (Mod (fun _=>False) g ⟨own,wr⟩)∧Hid (Blk ⟨own,wr⟩ t (g.w.heap.size+1) 137 [zI z6 0,zb false,.slice (some ⟨g.w.heap.size,0,none⟩) k k,zI z6 0])∧Hid (Row ⟨own,wr⟩ t 3 1 (.slice (some ⟨g.w.heap.size,0,none⟩) k k) k ((List.replicate j (-1)++List.replicate (k-j) 0).map (zI z6)))) (fun i _=>k-(intOf i).toNat)
 case atStart=>exact ⟨0,_,Nat.zero_le _,rfl,HE,HB,zH (HR.o.weak rfl (by simp))⟩
 case round=>
  obtain ⟨j,own,hj,rfl,M,B,R⟩:=hrel;clear c0 HE HB HR;by_cases hlt:j<k
  · obtain ⟨r,hr,hrl,ho,hcell,hfr⟩:=R.o.block zo;simp only [Option.some.injEq,Addr.mk.injEq,and_true] at hr;obtain rfl:=hr;have k0:=hcell j (zI z6 0) (by rw [List.getElem?_map,List.getElem?_append_right (by simp),List.length_replicate,Nat.sub_self,List.getElem?_replicate,if_pos zo];rfl);have kf:=hfr j;simp only at k0 kf hrl;have c0:=B.o.cell (i:=2) rfl;simp only at c0;clear hcell hfr ho;go_wp2_with fail;go_roundw
    case rel=>exact ⟨j+1,own,zo,by go_num,zH (Mod.stn M.o (Nat.le_refl _)),zH (B.o.setOther j _ zo),zH ((R.o.store j (zI z6 (-1))).weak rfl (by rw [←ykO hlt,List.map_set]))⟩
    case measure=>simp [intOf];omega
  · obtain rfl:j=k:=zo;go_wp2_with fail;go_ret2;unfold HandMade;rw [if_pos HV.o];refine ⟨own,_,rfl,M.o,⟨⟨some ⟨g.w.heap.size,0,none⟩,j,?_,?_⟩,by simpa using hk⟩⟩
    · have:=B.o;simpa using this
    · have:=R.o;simpa using this
structure TabAt (g:GW) (t b:Nat) (T:TabS):Prop where
 ex: ∃A c,Blk g t b 109 [.slice A T.l.length c,zI z6 (T.cnt 0),zI z6 (T.cnt 1),zI z6 (T.cnt 2)]∧Row g t 265 3 (.slice A T.l.length c) T.l.length (T.l.flatMap One.cells)
 len:T.l.length≤1024
 st: ∀o∈T.l,o.state≤2
theorem TabAt.keep {S:Nat→Prop} {g g':GW} {t b:Nat} {T:TabS} (h:TabAt g t b T) (m:Mod S g g') (hs: ¬S t):TabAt g' t b T:=by
 obtain ⟨A,c,h1,h2⟩:=h.ex;exact ⟨⟨A,c,h1.keep m hs,h2.keep m hs⟩,h.len,h.st⟩
theorem yaZ (b:Nat) (i:Int) (A:Option Addr) (n c:Nat) (w:World) (h0:w.cell? ⟨b,0,none⟩=some (.slice A n c)):
 Calls prog 230 #[zp (some ⟨b,0,none⟩),zI z6 i] w (fun e w'=>e=.returned (zb (inB i n))∧w=w'):=by
 by_cases hi:0≤i
 · by_cases hl:i<n
   · have HV:=zH (show inB i n=true by unfold inB;simp;omega);go_enter func230,ntmps230;go_wp2_with fail;go_ret;exact ⟨by rw [HV.o];try rfl,rfl⟩
   · have HV:=zH (show inB i n=false from yhc zo);go_enter func230,ntmps230;go_wp2_with fail;go_ret;exact ⟨by rw [HV.o];try rfl,rfl⟩
 · have HV:=zH (show inB i n=false from yhd zo);go_enter func230,ntmps230;go_wp2_with fail;go_ret;exact ⟨by rw [HV.o];try rfl,rfl⟩
theorem ylP (g:GW) (t b:Nat) (T:TabS) (h:TabAt g t b T):
 Calls prog 120 #[zp (some ⟨b,0,none⟩)] g.w (fun e w'=>e=.returned (zI z6 T.l.length)∧g.w=w'):=by
 obtain ⟨A,c,hb,hr⟩:=h.ex;have c0:=hb.cell (i:=0) rfl;clear hb hr h;go_enter func120,ntmps120;go_wp2_with fail;go_ret;exact ⟨rfl,rfl⟩
theorem TabAt.one {g:GW} {t b:Nat} {T:TabS} (h:TabAt g t b T) {k:Nat} (hk:k<T.l.length): ∃r c o,T.l[k]?=some o∧o.state≤2∧
 Blk g t b 109 [.slice (some ⟨r,0,none⟩) T.l.length c,zI z6 (T.cnt 0),zI z6 (T.cnt 1),zI z6 (T.cnt 2)]∧Row g t 265 3 (.slice (some ⟨r,0,none⟩) T.l.length c) T.l.length (T.l.flatMap One.cells)∧r<g.w.heap.size∧
 g.w.cell? ⟨r,k*3,none⟩=some (zI z6 o.state)∧g.w.cell? ⟨r,k*3+1,none⟩=some (zb o.head)∧g.w.cell? ⟨r,k*3+2,none⟩=some (zb o.sense)∧(∀j,g.w.frozen? ⟨r,j,none⟩=false)∧b≠r:=by
 obtain ⟨A,c,hb,hr⟩:=h.ex;obtain ⟨r,rfl,hl,ho,hc,hf⟩:=hr.block zo;have hx:=List.getElem?_eq_getElem hk;have hm:=h.st _ (List.getElem_mem hk);generalize T.l[k]=o at *;refine ⟨r,c,o,hx,hm,hb,hr,hl,?_,?_,?_,hf,?_⟩
 · exact hc _ _ (yaP One.cells_len T.l k 0 o hx zo)
 · exact hc _ _ (yaP One.cells_len T.l k 1 o hx zo)
 · exact hc _ _ (yaP One.cells_len T.l k 2 o hx zo)
 · exact hr.ne_type hb zd rfl
theorem ybu (g:GW) (t b:Nat) (i:Int) (T:TabS) (h:TabAt g t b T):
 Calls prog 176 #[zp (some ⟨b,0,none⟩),zI z6 i] g.w (fun e w'=>e=.returned (zI z6 (T.state i))∧g.w=w'):=by
 cases hin:inB i T.l.length
 · have HV:=zH (show T.state i=0 by unfold TabS.state;rw [TabS.at_out hin];rfl);obtain ⟨A,c,hb,hr⟩:=h.ex;have c0:=hb.cell (i:=0) rfl;clear hb hr h;go_enter func176,ntmps176;go_wp2_with fail;refine (yaZ _ _ _ _ _ _ c0).mono ?_;rintro e w1 ⟨rfl,rfl⟩;go_wp2_with fail;go_ret;exact ⟨by rw [HV.o];try rfl,rfl⟩
 · obtain ⟨k,rfl,hk⟩:=yap hin;obtain ⟨r,c,o,ho,h2,hb, -,hrl,k0, -, -, -, -⟩:=h.one hk;have HV:=zH (show T.state k=o.state by unfold TabS.state;rw [TabS.at_in ho];rfl);have c0:=hb.cell (i:=0) rfl;have hlen:=h.len;generalize T.l.length=n at *;clear hb h ho;go_enter func176,ntmps176;go_wp2_with fail;refine (yaZ _ _ _ _ _ _ c0).mono ?_;rintro e w1 ⟨rfl,rfl⟩;go_wp2_with fail;go_ret;exact ⟨by rw [HV.o];try rfl,rfl⟩
theorem ylm (g:GW) (t b:Nat) (i:Int) (T:TabS) (h:TabAt g t b T):
 Calls prog 171 #[zp (some ⟨b,0,none⟩),zI z6 i] g.w (fun e w'=>e=.returned (zb (T.head i))∧g.w=w'):=by
 cases hin:inB i T.l.length
 · have HV:=zH (show T.head i=false by unfold TabS.head;rw [TabS.at_out hin];rfl);obtain ⟨A,c,hb,hr⟩:=h.ex;have c0:=hb.cell (i:=0) rfl;clear hb hr h;go_enter func171,ntmps171;go_wp2_with fail;refine (yaZ _ _ _ _ _ _ c0).mono ?_;rintro e w1 ⟨rfl,rfl⟩;go_wp2_with fail;go_ret;exact ⟨by rw [HV.o];try rfl,rfl⟩
 · obtain ⟨k,rfl,hk⟩:=yap hin;obtain ⟨r,c,o,ho,h2,hb, -,hrl, -,k1, -, -, -⟩:=h.one hk;have HV:=zH (show T.head k=o.head by unfold TabS.head;rw [TabS.at_in ho];rfl);have c0:=hb.cell (i:=0) rfl;have hlen:=h.len;generalize T.l.length=n at *;clear hb h ho;go_enter func171,ntmps171;go_wp2_with fail;refine (yaZ _ _ _ _ _ _ c0).mono ?_;rintro e w1 ⟨rfl,rfl⟩;go_wp2_with fail;go_ret;exact ⟨by rw [HV.o];try rfl,rfl⟩
theorem ycR (g:GW) (t b:Nat) (i:Int) (s:Bool) (T:TabS) (h:TabAt g t b T):
 Calls prog 172 #[zp (some ⟨b,0,none⟩),zI z6 i,zb s] g.w (fun e w'=>e=.returned (zb (T.black i s))∧g.w=w'):=by
 cases hst:T.state i==2
 · have HV:=zH (show T.black i s=false by unfold TabS.black;rw [hst];rfl);have hz:((T.state i:Int)==2)=false:=by rw [show (2:Int)=((2:Nat):Int) from rfl,ybg];simpa using hst
   have HS:=zH (ybu g t b i T h);generalize T.state i=x at *;clear hst;go_enter func172,ntmps172;go_wp2_with fail;refine (HS.o).mono ?_;rintro e w1 ⟨rfl,rfl⟩;go_wp2_with fail;go_ret;exact ⟨by rw [HV.o];try rfl,rfl⟩
 · cases hin:inB i T.l.length
   · rw [show T.state i=0 by unfold TabS.state;rw [TabS.at_out hin];rfl] at hst;cases hst
   obtain ⟨k,rfl,hk⟩:=yap hin;obtain ⟨r,c,o,ho,h2,hb, -,hrl, -, -,k2, -, -⟩:=h.one hk;have HV:=zH (show T.black k s=(o.sense==s) by unfold TabS.black TabS.sense;rw [hst,TabS.at_in ho];rfl);have HS:=zH (ybu g t b k T h);have e2:T.state k=2:=by simpa using hst
   rw [e2] at HS;have c0:=hb.cell (i:=0) rfl;have hlen:=h.len;generalize T.l.length=n at *;clear hb h ho hst e2;go_enter func172,ntmps172;go_wp2_with fail;refine (HS.o).mono ?_;rintro e w1 ⟨rfl,rfl⟩;go_wp2_with fail;go_ret;exact ⟨by rw [HV.o];try rfl,rfl⟩
theorem yiD (g:GW) (t b:Nat) (T:TabS) (h:TabAt g t b T):
 Calls prog 13 #[zp (some ⟨b,0,none⟩)] g.w (Gives (.tuple #[zI z6 (T.cnt 0),zI z6 (T.cnt 1),zI z6 (T.cnt 2)]) g.w):=by
 obtain ⟨A,c,hb,hr⟩:=h.ex;have c1:=hb.cell (i:=1) rfl;have c2:=hb.cell (i:=2) rfl;have c3:=hb.cell (i:=3) rfl;have hbl:=hb.lt;clear hb hr h;go_enter func13,ntmps13;go_wp2_with fail;refine yab [zT,zT,zT,zT,zT,zT,zT,zT,zT,zT,zT,zT,zT,zT,zT,zT,zT,zT] 0 18 ?_;intro X00;simp only [pickOps];repeat (go_big_quiet_step (fail))
 refine wpQuiet_nil (fun X0=>?_);clear X00;refine yaa zQ (fun X0'=>?_) _;go_wp2_with fail;go_ret3
 exact Gives.mk rfl zE
theorem TabS.cnt_set {l:List One} {k:Nat} {o o':One} (h:l[k]?=some o) (q:Nat):((TabS.cnt ⟨l.set k o'⟩ q:Nat):Int)=(TabS.cnt ⟨l⟩ q:Int)-(if o.state==q then 1 else 0)+(if o'.state==q then 1 else 0):=by
 obtain ⟨hk,hx⟩:=List.getElem?_eq_some_iff.1 h;unfold TabS.cnt;simp only;rw [List.countP_set hk,hx];have hp:(o.state==q)=true→0<l.countP (fun o=>o.state==q):=fun ho=>List.countP_pos_iff.2 ⟨o,List.mem_of_getElem? h,ho⟩;by_cases h1:(o.state==q)=true
 · have:=hp h1;rw [if_pos h1,if_pos h1];split<;>omega
 · rw [if_neg h1,if_neg h1];split<;>omega
theorem ymi {t:TabS} {k:Nat} {s:Nat} {head sense:Bool} (hk:k<t.l.length) (hs:s≤2):t.set k s head sense=⟨t.l.set k ⟨s,head&&s==2,sense⟩⟩:=by
 unfold TabS.set TabS.may;rw [yb9 hk,if_pos (by simp;omega)];simp
theorem ycG (l:List One) (k:Nat) (hk:k<l.length) (y:One):(l.set k y).flatMap One.cells=(((l.flatMap One.cells).set (k*3) (zI z6 y.state)).set (k*3+1) (zb y.head)).set (k*3+2) (zb y.sense):=by
 induction l generalizing k with
 |nil=>simp at hk
 |cons x l ih=>
  cases k with
  |zero=>rfl
  |succ k=>
   have:=ih k (by simpa using hk);rw [List.set_cons_succ,List.flatMap_cons,this,List.flatMap_cons];rw [show (k+1)*3=(One.cells x).length+k*3 from by rw [One.cells_len];omega];rw [List.set_append_right _ _ zo,List.set_append_right _ _ zo,List.set_append_right _ _ zo];congr 4<;>omega
theorem TabAt.stored {g:GW} {t b r c k st q:Nat} {T:TabS} {o1 o2 hd sense:Bool} {y1 y2:Int} {W:World} (h:TabAt g t b T) (hk:k<T.l.length) (ho:T.l[k]?=some ⟨st,o1,o2⟩) (h1:st≤2) (h2:q≤2)
 (hb:Blk ⟨g.own,W⟩ t b 109 (([.slice (some ⟨r,0,none⟩) T.l.length c,zI z6 (T.cnt 0),zI z6 (T.cnt 1),zI z6 (T.cnt 2)].set (1+st) (zI z6 y1)).set (1+q) (zI z6 y2)))
 (hr:Row ⟨g.own,W⟩ t 265 3 (.slice (some ⟨r,0,none⟩) T.l.length c) T.l.length ((((T.l.flatMap One.cells).set (k*3) (zI z6 q)).set (k*3+1) (zb hd)).set (k*3+2) (zb sense)))
 (e1:y1=T.cnt st-1) (e2:y2=if st=q then (T.cnt st:Int) else T.cnt q+1):
 TabAt ⟨g.own,W⟩ t b ⟨T.l.set k ⟨q,hd,sense⟩⟩:=by
 refine ⟨⟨some ⟨r,0,none⟩,c,?_,?_⟩,by simpa using h.len,fun u hu=>?_⟩
 · simp only [List.length_set];rw [TabS.cnt_set ho,TabS.cnt_set ho,TabS.cnt_set ho];subst e1 e2;rcases (show st=0∨st=1∨st=2 by omega) with rfl|rfl|rfl<;>rcases (show q=0∨q=1∨q=2 by omega) with rfl|rfl|rfl<;>simpa using hb
 · simp only [List.length_set];rw [ycG _ _ hk];exact hr
 · rcases List.mem_or_eq_of_mem_set hu with hu|rfl
   · exact h.st u hu
   · exact h2
theorem TabAt.cell {g:GW} {t b r c:Nat} {T:TabS} (hb:Blk g t b 109 [.slice (some ⟨r,0,none⟩) T.l.length c,zI z6 (T.cnt 0),zI z6 (T.cnt 1),zI z6 (T.cnt 2)]) {q:Nat} (hq:q≤2):
 g.w.cell? ⟨b,1+q,none⟩=some (zI z6 (T.cnt q)):=by
 rcases (show q=0∨q=1∨q=2 by omega) with rfl|rfl|rfl
 · exact hb.cell (i:=1) rfl
 · exact hb.cell (i:=2) rfl
 · exact hb.cell (i:=3) rfl
theorem TabAt.pt {g:GW} {t b:Nat} {T:TabS} (h:TabAt g t b T) (X:Extra):TabAt (g.pt X) t b T:=h.keep (S:=fun _=>False) (Mod.pt (Mod.refl _ _) X) id
theorem yhi (g:GW) (t b:Nat) (i s:Int) (hd sense:Bool) (T:TabS) (h:TabAt g t b T):
 Calls prog 191 #[zp (some ⟨b,0,none⟩),zI z6 i,zI z6 s,zb hd,zb sense] g.w (Does (zb (T.may i s)) g (fun x=>x=t) (fun g'=>TabAt g' t b (T.set i s hd sense))):=by
 cases hin:inB i T.l.length
 · have hm:T.may i s=false:=by unfold TabS.may;rw [hin];rfl
   have HV:=zH hm;have HT:=zH (show T.set i s hd sense=T by unfold TabS.set;rw [hm];rfl);obtain ⟨A,c,hb,hr⟩:=h.ex;have c0:=hb.cell (i:=0) rfl;have H:=zH h;clear hb hr h hm;go_enter func191,ntmps191;go_wp2_with fail;refine (yaZ _ _ _ _ _ _ c0).mono ?_;rintro e w1 ⟨rfl,rfl⟩;go_wp2_with fail;go_ret;exact Does.of g rfl (by rw [HV.o];try rfl) (Mod.refl _ _) (by rw [HT.o];exact H.o)
 · obtain ⟨k,rfl,hk⟩:=yap hin;by_cases hs:0≤s∧s≤2
   · obtain ⟨q,rfl⟩:=Int.eq_ofNat_of_zero_le hs.1;have hq:q≤2:=zo;have HM:=zH (show T.may k q=true by unfold TabS.may;rw [hin];simp;omega);obtain ⟨r,c,o,ho,h2,hb,hr,hrl,k0,k1,k2,kf,hne⟩:=h.one hk;have HT:=zH (ymi (head:=hd) (sense:=sense) hk hq);have HO:=zH ho;have HB:=zH hb;have HR:=zH hr;have H:=zH h;have HOB:=zH hb.own;have HOR:=zH (hr.own r rfl);have HK:=zH hk;have hlen:=h.len;have hbl:=hb.lt;have c0:=hb.cell (i:=0) rfl;obtain ⟨st,ho1,ho2⟩:=o;simp only at h2 k0 k1 k2;have cs:=TabAt.cell hb h2;have cq:=TabAt.cell hb hq;have fs:=hb.live (1+st);have fq:=hb.live (1+q);have ns:T.cnt st≤1024:=Nat.le_trans List.countP_le_length hlen;have nq:T.cnt q≤1024:=Nat.le_trans List.countP_le_length hlen;have g0:=kf (k*3);have g1:=kf (k*3+1);have g2:=kf (k*3+2);have hne':r≠b:=fun e=>hne e.symm;have HN:=zH hne';clear hb hr h ho hs kf
     obtain ⟨hd',hhd,hcase⟩: ∃hd',(hd&&q==2)=hd'∧((hd=false∧hd'=false)∨(hd=true∧((q:Int)==2)=true∧hd'=true)∨(hd=true∧((q:Int)==2)=false∧hd'=false)):=by
      refine ⟨_,rfl,?_⟩;rw [show (2:Int)=((2:Nat):Int) from rfl,ybg];cases hd
      · simp
      · by_cases h:q=2<;>simp [h]
     rw [hhd] at HT;clear hhd;by_cases hsq:st=q
     · subst hsq;clear cq fq nq;rcases hcase with ⟨rfl,rfl⟩|⟨rfl,hq2,rfl⟩|⟨rfl,hq2,rfl⟩
       all_goals
        go_enter func191,ntmps191;go_wp2_with fail;refine (yaZ _ _ _ _ _ _ c0).mono ?_;rintro e w1 ⟨rfl,rfl⟩;go_wp2_with fail;refine yab [zT,zT,zT,zT,zT,zT,zT,zT,zT,zT,zT,zT,zT,zT,zT,zT,zT,zU] 1 17 ?_;intro X00;simp only [pickOps];repeat (go_big_quiet_step (fail))
        refine wpQuiet_nil (fun X0=>?_);clear X00;refine yaj 17 _ zQ zQ rfl rfl (fun X1 K Q' hK=>?_);go_simp;refine hK _ _ (fun X2=>?_);clear hK K Q';go_wp2_with fail;refine yab [zT,zT,zT,zT,zT,zT,zT,zT,zT,zT,zU] 1 10 ?_;intro X00;simp only [pickOps];repeat (go_big_quiet_step (fail))
        refine wpQuiet_nil (fun X0=>?_);clear X00;refine yaj 10 _ zQ zQ rfl rfl (fun X1 K Q' hK=>?_);go_simp;refine hK _ _ (fun X2=>?_);clear hK K Q';go_wp2_with fail;go_ret;refine Does.of (GW.pt ⟨g.own,_⟩ _) rfl (by rw [HM.o];rfl) (Mod.pt (Mod.st (Mod.st (Mod.st (Mod.st (Mod.st Mod.self HOB.o) HOB.o) HOR.o) HOR.o) HOR.o) _) ?_;rw [HT.o];refine TabAt.pt (TabAt.stored (r:=r) (c:=c) H.o HK.o HO.o h2 hq ?hb ?hr rfl (if_pos rfl).symm) _
        case hb=>exact ((((HB.o.set _ _).set _ _).setOther _ _ HN.o).setOther _ _ HN.o).setOther _ _ HN.o
        case hr=>exact ((((HR.o.setOther _ _ (fun x hx e=>HN.o (by injection hx with hx;exact hx.trans e.symm))).setOther _ _ (fun x hx e=>HN.o (by injection hx with hx;exact hx.trans e.symm))).store _ _).store _ _).store _ _
     · have hsq': ¬q=st:=fun e=>hsq e.symm;rcases hcase with ⟨rfl,rfl⟩|⟨rfl,hq2,rfl⟩|⟨rfl,hq2,rfl⟩
       all_goals
        go_enter func191,ntmps191;go_wp2_with fail;refine (yaZ _ _ _ _ _ _ c0).mono ?_;rintro e w1 ⟨rfl,rfl⟩;go_wp2_with fail;refine yab [zT,zT,zT,zT,zT,zT,zT,zT,zT,zT,zT,zT,zT,zT,zT,zT,zT,zU] 1 17 ?_;intro X00;simp only [pickOps];repeat (go_big_quiet_step (fail))
        refine wpQuiet_nil (fun X0=>?_);clear X00;refine yaj 17 _ zQ zQ rfl rfl (fun X1 K Q' hK=>?_);go_simp;refine hK _ _ (fun X2=>?_);clear hK K Q';go_wp2_with fail;refine yab [zT,zT,zT,zT,zT,zT,zT,zT,zT,zT,zU] 1 10 ?_;intro X00;simp only [pickOps];repeat (go_big_quiet_step (fail))
        refine wpQuiet_nil (fun X0=>?_);clear X00;refine yaj 10 _ zQ zQ rfl rfl (fun X1 K Q' hK=>?_);go_simp;refine hK _ _ (fun X2=>?_);clear hK K Q';go_wp2_with fail;go_ret;refine Does.of (GW.pt ⟨g.own,_⟩ _) rfl (by rw [HM.o];rfl) (Mod.pt (Mod.st (Mod.st (Mod.st (Mod.st (Mod.st Mod.self HOB.o) HOB.o) HOR.o) HOR.o) HOR.o) _) ?_;rw [HT.o];refine TabAt.pt (TabAt.stored (r:=r) (c:=c) H.o HK.o HO.o h2 hq ?hb ?hr rfl (if_neg hsq).symm) _
        case hb=>exact ((((HB.o.set _ _).set _ _).setOther _ _ HN.o).setOther _ _ HN.o).setOther _ _ HN.o
        case hr=>exact ((((HR.o.setOther _ _ (fun x hx e=>HN.o (by injection hx with hx;exact hx.trans e.symm))).setOther _ _ (fun x hx e=>HN.o (by injection hx with hx;exact hx.trans e.symm))).store _ _).store _ _).store _ _
   · have hm:T.may k s=false:=by unfold TabS.may;rw [hin];simp;omega
     have HV:=zH hm;have HT:=zH (show T.set k s hd sense=T by unfold TabS.set;rw [hm];rfl);obtain ⟨A,c,hb,hr⟩:=h.ex;have c0:=hb.cell (i:=0) rfl;have H:=zH h;have hlen:=h.len;clear hb hr h hm;by_cases h0:s<0
     · clear hs;go_enter func191,ntmps191;go_wp2_with fail;refine (yaZ _ _ _ _ _ _ c0).mono ?_;rintro e w1 ⟨rfl,rfl⟩;go_wp2_with fail;go_ret;exact Does.of g rfl (by rw [HV.o];try rfl) (Mod.refl _ _) (by rw [HT.o];exact H.o)
     · have h2:2<s:=zo;clear hs;go_enter func191,ntmps191;go_wp2_with fail;refine (yaZ _ _ _ _ _ _ c0).mono ?_;rintro e w1 ⟨rfl,rfl⟩;go_wp2_with fail;go_ret;exact Does.of g rfl (by rw [HV.o];try rfl) (Mod.refl _ _) (by rw [HT.o];exact H.o)
theorem ycn (a b c:Int) (w:World):
 Calls prog 113 #[zI z6 a,zI z6 b,zI z6 c] w (Gives (zb (within a b c)) w):=by
 by_cases h:b≤a
 · go_enter func113,ntmps113;go_wp2
   go_ret;exact Gives.bool (by simp [within,h]) (.refl _)
 · go_enter func113,ntmps113;go_wp2
   go_ret;exact Gives.bool (by simp [within];omega) (.refl _)
theorem ycY (s:Shp) (w:World) (hs:s.Ok w):Calls prog 116 #[s.val] w (Gives (zb s.may) w):=by
 obtain ⟨arr,A,cap,refs⟩:=s;have hl:=hs.max;simp only [Shp.val,Shp.may] at hl ⊢;generalize refs.length=n at *;clear hs;by_cases h:n≤40
 · cases arr
   · go_enter func116,ntmps116;go_wp2
     go_ret;exact Gives.bool (by simp [h]) zE
   · go_enter func116,ntmps116;go_wp2
     go_ret;exact Gives.bool (by rw [show (1:Int)=((1:Nat):Int) from rfl,ybg];simp [h]) zE
 · go_enter func116,ntmps116;go_wp2
   go_ret;exact Gives.bool (by simp) zE
theorem yhx (s:Shp) (w:World) (hs:s.Ok w):Calls prog 115 #[s.val] w (Gives (zb (!s.may)) w):=by
 unfold Shp.val;go_enter func115,ntmps115;go_wp2_with fail;refine (ycY s _ (hs.ext zE)).mono ?_;rintro e w1 ⟨rfl,X,rfl⟩;go_wp2_with fail;go_ret;exact Gives.bool rfl zE
theorem yjA (A:Option Addr) (cap:Nat) (l:List Shp) (w:World) (hc:CellsAt w A (l.flatMap Shp.cells)) (hs: ∀s∈l,s.Ok w) (hl:l.length≤140737488355328):
 Calls prog 188 #[.slice A l.length cap,.func (.func 115) #[] #[]] w
  (fun e w'=> ∃n:Int,e=.returned (zI z6 n)∧decide (0≤n)=badIn l∧ ∃X,w'=w.patch X):=by
 go_enter func188,ntmps188;go_wp2_with fail;go_loopw [8] (fun i wr=> ∃k:Nat,k≤l.length∧i=zI z6 k∧(∀s∈l.take k,s.may=true)∧Ext w wr) (fun i _=>l.length-(intOf i).toNat)
 case atStart=>exact ⟨0,Nat.zero_le _,rfl,by simp,Ext.refl _⟩
 case round=>
  obtain ⟨k,hk,rfl,hm,X,rfl⟩:=hrel;have HM:=zH hm;clear hm;by_cases hlt:k<l.length
  · obtain ⟨b,o,rfl,hb,g0,g1⟩:=ycP hc hlt;have hsk:=hs l[k] (List.getElem_mem hlt);generalize hS:l[k]=s at *;have HS:=zH hS;clear hS hc hs;go_wp2_with fail;refine (yhx s _ (hsk.ext zE)).mono ?_;rintro e w1 ⟨rfl,X1,rfl⟩;have hk':l[k]?=some s:=by rw [List.getElem?_eq_getElem hlt,HS.o]
    cases hb:s.may
    · have HB:=zH (yew hk' hb);have HK:=zH hk';clear hk';go_wp2_with fail;go_ret;exact ⟨_,rfl,by rw [HB.o];simp,zE⟩
    · have HT:=zH (ybS hk' HM.o hb);clear hk';go_wp2_with fail;go_roundw
      case rel=>exact ⟨k+1,zo,by go_num,HT.o,zE⟩
      case measure=>simp [intOf];omega
  · have HB:=zH (ykG (l:=l) (by intro s hs;exact HM.o s (by rw [List.take_of_length_le zo];exact hs)));go_wp2_with fail;go_ret;exact ⟨_,rfl,by rw [HB.o];simp,zE⟩
theorem yfC (A:Option Addr) (cap:Nat) (l:List Shp) (w:World) (hc:CellsAt w A (l.flatMap Shp.cells)) (hs: ∀s∈l,s.Ok w) (hl:l.length≤140737488355328):
 Calls prog 114 #[.slice A l.length cap,.func (.func 115) #[] #[]] w (Gives (zb (badIn l)) w):=by
 go_enter func114,ntmps114;go_wp2_with fail;refine (yjA A cap l _ hc hs hl).mono ?_;rintro e w1 ⟨n,rfl,hn,X,rfl⟩;have HN:=zH hn;clear hn;go_wp2_with fail;go_ret;exact Gives.bool HN.o zE
theorem yaw (c:Cnf) (w:World) (hc:c.Ok w):Calls prog 60 #[c.val] w (Gives (zI z6 c.check) w):=by
 unfold Cnf.val;go_enter func60,ntmps60;go_wp2_with fail;refine yab [zT,zT,zT,zT,zT,zT,zT,zT,zT,zT,zT,zT,zT,zT,zT,zT,zT,zT,zT,zT,zT,zT,zT,zT,zT,zT,zU,zU,zT] 2 29 ?_;intro X00;simp only [pickOps];repeat (go_big_quiet_step ((go_at_call 113;exact Calls.added (ycn _ _ _ _))))
 refine wpQuiet_nil (fun X0=>?_);clear X00;refine yah 26 _ zQ rfl rfl zd (fun X1 K Q' hK=>?_);go_simp;refine hK _ _ ?_ ?_
 · exact zE
 clear hK K Q';refine yah 27 _ zQ rfl rfl zd (fun X1 K Q' hK=>?_);go_simp;refine hK _ _ ?_ ?_
 · exact zE
 clear hK K Q';refine yaa zQ (fun X2=>?_) _;go_wp2_with fail;go_loop [33] (fun i=> ∃k:Nat,k≤8∧i=zI z6 k∧c.rangedTo k=true) (fun i=>8-(intOf i).toNat)
 case atStart=>exact ⟨0,zo,rfl,rfl⟩
 case round=>
  obtain ⟨k,hk,rfl,hb⟩:=hrel;have HB:=zH hb;clear hb;by_cases hlt:k<8
  · rcases (show k=0∨k=1∨k=2∨k=3∨k=4∨k=5∨k=6∨k=7 by omega) with rfl|rfl|rfl|rfl|rfl|rfl|rfl|rfl
    · clear hk hlt;go_wp2_with fail
      · have h:(!within c.frags 4 1024)=true:=by assumption
        go_ret;exact Gives.int (Eq.symm (Cnf.check_out (k:=0) (by simp only [Bool.not_eq_true'] at h;simp [Cnf.ranges,h]))) zE
      · have h:(!within c.frags 4 1024)=false:=by assumption
        have HN:=Cnf.rangedTo_succ HB.o (k:=0) (b:=true) (by simp only [Bool.not_eq_false'] at h;simp [Cnf.ranges,h]) rfl;exact ⟨⟨_,_,_,⟨1,zo,rfl,HN⟩,rfl,rfl,rfl⟩,by simp [intOf]⟩
    · clear hk hlt;go_wp2_with fail
      · have h:(!within c.spine 0 2048)=true:=by assumption
        go_ret;exact Gives.int (Eq.symm (Cnf.check_out (k:=1) (by simp only [Bool.not_eq_true'] at h;simp [Cnf.ranges,h]))) zE
      · have h:(!within c.spine 0 2048)=false:=by assumption
        have HN:=Cnf.rangedTo_succ HB.o (k:=1) (b:=true) (by simp only [Bool.not_eq_false'] at h;simp [Cnf.ranges,h]) rfl;exact ⟨⟨_,_,_,⟨2,zo,rfl,HN⟩,rfl,rfl,rfl⟩,by simp [intOf]⟩
    · clear hk hlt;go_wp2_with fail
      · have h:(!within c.globals 0 8)=true:=by assumption
        go_ret;exact Gives.int (Eq.symm (Cnf.check_out (k:=2) (by simp only [Bool.not_eq_true'] at h;simp [Cnf.ranges,h]))) zE
      · have h:(!within c.globals 0 8)=false:=by assumption
        have HN:=Cnf.rangedTo_succ HB.o (k:=2) (b:=true) (by simp only [Bool.not_eq_false'] at h;simp [Cnf.ranges,h]) rfl;exact ⟨⟨_,_,_,⟨3,zo,rfl,HN⟩,rfl,rfl,rfl⟩,by simp [intOf]⟩
    · clear hk hlt;go_wp2_with fail
      · have h:(!within c.threads 1 16)=true:=by assumption
        go_ret;exact Gives.int (Eq.symm (Cnf.check_out (k:=3) (by simp only [Bool.not_eq_true'] at h;simp [Cnf.ranges,h]))) zE
      · have h:(!within c.threads 1 16)=false:=by assumption
        have HN:=Cnf.rangedTo_succ HB.o (k:=3) (b:=true) (by simp only [Bool.not_eq_false'] at h;simp [Cnf.ranges,h]) rfl;exact ⟨⟨_,_,_,⟨4,zo,rfl,HN⟩,rfl,rfl,rfl⟩,by simp [intOf]⟩
    · clear hk hlt;go_wp2_with fail
      · have h:(!within c.locals 1 8)=true:=by assumption
        go_ret;exact Gives.int (Eq.symm (Cnf.check_out (k:=4) (by simp only [Bool.not_eq_true'] at h;simp [Cnf.ranges,h]))) zE
      · have h:(!within c.locals 1 8)=false:=by assumption
        have HN:=Cnf.rangedTo_succ HB.o (k:=4) (b:=true) (by simp only [Bool.not_eq_false'] at h;simp [Cnf.ranges,h]) rfl;exact ⟨⟨_,_,_,⟨5,zo,rfl,HN⟩,rfl,rfl,rfl⟩,by simp [intOf]⟩
    · clear hk hlt;go_wp2_with fail
      · have h:(!within c.cache 0 8)=true:=by assumption
        go_ret;exact Gives.int (Eq.symm (Cnf.check_out (k:=5) (by simp only [Bool.not_eq_true'] at h;simp [Cnf.ranges,h]))) zE
      · have h:(!within c.cache 0 8)=false:=by assumption
        have HN:=Cnf.rangedTo_succ HB.o (k:=5) (b:=true) (by simp only [Bool.not_eq_false'] at h;simp [Cnf.ranges,h]) rfl;exact ⟨⟨_,_,_,⟨6,zo,rfl,HN⟩,rfl,rfl,rfl⟩,by simp [intOf]⟩
    · clear hk hlt;go_wp2_with fail
      · have h:(!within c.stack 1 256)=true:=by assumption
        go_ret;exact Gives.int (Eq.symm (Cnf.check_out (k:=6) (by simp only [Bool.not_eq_true'] at h;simp [Cnf.ranges,h]))) zE
      · have h:(!within c.stack 1 256)=false:=by assumption
        have HN:=Cnf.rangedTo_succ HB.o (k:=6) (b:=true) (by simp only [Bool.not_eq_false'] at h;simp [Cnf.ranges,h]) rfl;exact ⟨⟨_,_,_,⟨7,zo,rfl,HN⟩,rfl,rfl,rfl⟩,by simp [intOf]⟩
    · clear hk hlt;go_wp2_with fail
      · have h:(!within c.low 0 c.frags)=true:=by assumption
        go_ret;exact Gives.int (Eq.symm (Cnf.check_out (k:=7) (by simp only [Bool.not_eq_true'] at h;simp [Cnf.ranges,h]))) zE
      · have h:(!within c.low 0 c.frags)=false:=by assumption
        have HN:=Cnf.rangedTo_succ HB.o (k:=7) (b:=true) (by simp only [Bool.not_eq_false'] at h;simp [Cnf.ranges,h]) rfl;exact ⟨⟨_,_,_,⟨8,zo,rfl,HN⟩,rfl,rfl,rfl⟩,by simp [intOf]⟩
  · obtain rfl:k=8:=zo;clear hk hlt;obtain ⟨⟨_,_⟩,_,_,⟨_,_⟩,_,⟨_,_⟩,_,_⟩:=Cnf.ranged HB.o;have hm1:0≤c.threads*c.cache:=Int.mul_nonneg zo zo;have hm2:c.threads*c.cache≤16*8:=Int.mul_le_mul zo zo zo zo;by_cases hp:c.threads*c.cache≤c.frags
    · cases hw:within c.shapes.length 1 8
      · have HC:=zH (show c.check=4 by simp [Cnf.check,HB.o,hp,hw]);go_wp2_with fail;refine (ycn _ _ _ _).mono ?_;rw [hw];rintro e w1 ⟨rfl,X3,rfl⟩;go_wp2_with fail;go_ret;exact Gives.int HC.o.symm zE
      · have HC:=zH (show c.check=if badIn c.shapes then 4 else 0 by simp only [Cnf.check,HB.o,hp,hw];cases badIn c.shapes<;>simp);go_wp2_with fail;refine (ycn _ _ _ _).mono ?_;rw [hw];rintro e w1 ⟨rfl,X3,rfl⟩;go_wp2_with fail;refine (yfC _ _ _ _ (hc.cells.ext zE) (fun s hs=>(hc.shapes s hs).ext zE) hc.max).mono ?_;rintro e w1 ⟨rfl,X4,rfl⟩;cases hb:badIn c.shapes
        · rw [hb] at HC;go_wp2_with fail;go_ret;exact Gives.int HC.o.symm zE
        · rw [hb] at HC;go_wp2_with fail;go_ret;exact Gives.int HC.o.symm zE
    · have HC:=zH (show c.check=1 by simp [Cnf.check,hp]);go_wp2_with fail;go_ret;exact Gives.int HC.o.symm zE
end Go.Proofs.YtdhjjpnajjingaaGreat
namespace Go
open Go.RowKit
def One.zero:One:=⟨0,false,false⟩
theorem yia (n:Nat):madeCells #[zI z6 0,zb false,zb false] (n*3)=((List.replicate n One.zero).flatMap One.cells).toArray:=by
 apply Array.ext_getElem?;intro j;conv=>rhs;rw [List.getElem?_toArray]
 by_cases hj:j<n*3
 · have e:=yaP One.cells_len (List.replicate n One.zero) (j/3) (j%3) One.zero (by rw [List.getElem?_replicate,if_pos zo]) zo;rw [show j/3*3+j%3=j by omega] at e;rw [e];simp only [madeCells,Array.getElem?_map,Array.getElem?_range,if_pos hj,Option.map_some];have:j%3=0∨j%3=1∨j%3=2:=zo;rcases this with h|h|h<;>simp [h,One.cells,One.zero]
 · rw [Array.getElem?_eq_none (by rw [size_madeCells];omega),List.getElem?_eq_none (by rw [yaH _ One.cells_len];simp;omega)]
def TabS.fresh (n:Nat):TabS:=⟨List.replicate n One.zero⟩
end Go
namespace Go.Proofs.YtdhjjpnajjingaaGreat
open Go Go.RowKit
theorem ylw:(prog.info? 265).map (fun i=>(i.zero,i.size,i.bytes))=some (some (.agg #[zI z6 0,zb false,zb false]),3,16):=zQ
theorem ylQ (n:Nat) (t:Nat) (g:GW) (hn:n≤1024):Calls prog 118 #[zI z6 n] g.w (fun e w'=> ∃own' b,e=.returned (.tuple #[zp (some ⟨b,0,none⟩),zI z6 0])∧Mod (fun _=>False) g ⟨own',w'⟩∧TabAt ⟨own',w'⟩ t b (TabS.fresh n)):=by
 obtain ⟨i0,hi,hz0,hz1,hz2⟩:=info_parts ylw;have hmk:=ybR (P:=prog) 106 265 i0 _ 3 16 Tryz.underlying106 hi hz0 hz1 hz2 n zo zo;simp only [Value.cells,yia] at hmk;obtain ⟨arr,harr⟩: ∃arr:Array Value,((List.replicate n One.zero).flatMap One.cells).toArray=arr:=⟨_,rfl⟩;rw [harr] at hmk;have HA:=zH harr;have HN:=zH hn;clear harr;go_enter func118,ntmps118;go_wp2_with fail;go_ret2;obtain ⟨q1,q2⟩:=yaI g.w (.cells arr 265) (.cells #[.slice (some ⟨g.w.heap.size,0,none⟩) n n,zI z6 n,zI z6 0,zI z6 0] 109);refine ⟨_,_,rfl,Mod.ext (show Ext g.w _ from zE) t,⟨⟨some ⟨g.w.heap.size,0,none⟩,n,?_,?_⟩,by simpa [TabS.fresh] using HN.o,fun o ho=>?_⟩⟩
 · have:=Blk.made (g:=g) (t:=t) (vs:=[.slice (some ⟨g.w.heap.size,0,none⟩) n n,zI z6 n,zI z6 0,zI z6 0]) q2 zo;have e0:TabS.cnt (TabS.fresh n) 0=n:=by simp [TabS.cnt,TabS.fresh,List.countP_replicate,One.zero]
   have e1:TabS.cnt (TabS.fresh n) 1=0:=by simp [TabS.cnt,TabS.fresh,List.countP_replicate,One.zero]
   have e2:TabS.cnt (TabS.fresh n) 2=0:=by simp [TabS.cnt,TabS.fresh,List.countP_replicate,One.zero]
   rw [e0,e1,e2,show (TabS.fresh n).l.length=n by simp [TabS.fresh]];exact this
 · rw [show (TabS.fresh n).l.length=n by simp [TabS.fresh]];exact Row.made (HA.o▸q1) (Nat.le_refl _) (by rw [yaH _ One.cells_len];simp [TabS.fresh]) (by have:=HN.o;omega)
 · rw [(List.mem_replicate.1 ho).2];decide
theorem ykf (n:Nat) (most:Int) (t tt tp:Nat) (g:GW) (hn:n≤1024) (hm:1≤most∧most≤256):Calls prog 63 #[zI z6 n,zI z6 most] g.w (fun e w'=> ∃own' b bt bp,e=.returned (.tuple #[zp (some ⟨b,0,none⟩),zI z6 0])∧Mod (fun _=>False) g ⟨own',w'⟩∧Blk ⟨own',w'⟩ t b 57 [zp (some ⟨bt,0,none⟩),zp (some ⟨bp,0,none⟩),zI z6 0]∧TabAt ⟨own',w'⟩ tt bt (TabS.fresh n)∧PileAt ⟨own',w'⟩ tp bp ⟨[],most,false⟩):=by
 have HT:=zH (ylQ n tt g hn)
 have HP:=zH (fun g'=>(yla most tp g').mono fun e w' hh=>by
  unfold PileMade at hh;rw [if_pos hm] at hh;exact hh)
 clear hn;go_enter func63,ntmps63;go_wp2_with fail;refine HT.o.mono ?_;rintro e w1 ⟨own1,bt,rfl,m1,t1⟩;have M1:=zH m1;have T1:=zH t1;clear m1 t1 HT;go_wp2_with fail;refine (HP.o ⟨own1,w1⟩).mono ?_;rintro e w2 ⟨bp,rfl,he,p2⟩;have m2:=Mod.ext (T:=fun _=>False) (g:=⟨own1,w1⟩) he tp;have M2:=zH (M1.o.trans m2);have T2:=zH (T1.o.keep m2 id);have P2:=zH p2;clear m2 p2 he HP;go_wp2_with fail;go_ret2;have m3:=Mod.ext (T:=fun _=>False) (g:=(⟨own1,w1⟩:GW).to tp w2) (show Ext w2 (w2.alloc (.cells #[zp (some ⟨bt,0,none⟩),zp (some ⟨bp,0,none⟩),zI z6 0] 57)) from zE) t;exact ⟨_,_,_,_,rfl,M2.o.trans m3,Blk.made (World.row_alloc_new _) (Nat.le_refl _),T2.o.keep m3 id,P2.o.keep m3 id⟩
theorem yc9 (bt:Nat) (w:World):Calls prog 12 #[.agg #[zp (some ⟨bt,0,none⟩)]] w (Gives (zp (some ⟨bt,0,none⟩)) w):=by
 go_enter func12,ntmps12;go_wp2_with fail;go_ret;exact Gives.of_ext zE
structure CoilAt (g:GW) (t b:Nat) (c:CoilS):Prop where
 blk:Blk g t b 212 [zI z6 c.size,zI z6 c.cur,zI z6 c.u0,zI z6 c.u1,zI z6 c.kept]
 ok:c.Ok
theorem CoilAt.keep {S:Nat→Prop} {g g':GW} {t b:Nat} {c:CoilS} (h:CoilAt g t b c) (d:Mod S g g') (hs: ¬S t):CoilAt g' t b c:=⟨h.blk.keep d hs,h.ok⟩
theorem CoilAt.pt {g:GW} {t b:Nat} {c:CoilS} (h:CoilAt g t b c) (X:Extra):CoilAt (g.pt X) t b c:=h.keep (S:=fun _=>False) (Mod.pt (Mod.refl _ _) X) id
theorem ycA (g:GW) (t b:Nat) (c:CoilS) (h:CoilAt g t b c):
 Calls prog 100 #[zp (some ⟨b,0,none⟩)] g.w (fun e w'=>e=.returned (zI z6 c.cur)∧g.w=w'):=by
 have c1:=h.blk.cell (i:=1) rfl;clear h;go_enter func100,ntmps100;go_wp2_with fail;go_ret;exact ⟨rfl,rfl⟩
theorem yeA (g:GW) (t b s:Nat) (c:CoilS) (h:CoilAt g t b c) (hs:s<2):
 Calls prog 102 #[zp (some ⟨b,0,none⟩),zI z6 s] g.w (fun e w'=>e=.returned (zI z6 (c.used s))∧g.w=w'):=by
 have c2:=h.blk.cell (i:=2) rfl;have c3:=h.blk.cell (i:=3) rfl;clear h;rcases (show s=0∨s=1 by omega) with rfl|rfl
 · have HV:=zH (show c.used 0=c.u0 from rfl);go_enter func102,ntmps102;go_wp2_with fail;go_ret;exact ⟨by rw [HV.o];try rfl,rfl⟩
 · have HV:=zH (show c.used 1=c.u1 from rfl);go_enter func102,ntmps102;go_wp2_with fail;go_ret;exact ⟨by rw [HV.o];try rfl,rfl⟩
theorem yez (g:GW) (t b:Nat) (c:CoilS) (h:CoilAt g t b c):
 Calls prog 235 #[zp (some ⟨b,0,none⟩)] g.w (Gives (zI z6 c.room) g.w):=by
 have c0:=h.blk.cell (i:=0) rfl;have c1:=h.blk.cell (i:=1) rfl;have c2:=h.blk.cell (i:=2) rfl;have c3:=h.blk.cell (i:=3) rfl;have c4:=h.blk.cell (i:=4) rfl;have hbl:=h.blk.lt;obtain ⟨o1,⟨_,_⟩,⟨_,_⟩,⟨_,_⟩,⟨_,_⟩,_⟩:=h.ok;clear h;obtain ⟨size,cur,u0,u1,kept⟩:=c;simp only at *;rcases (show cur=0∨cur=1 by omega) with rfl|rfl
 · replace c1:g.w.cell? ⟨b,1,none⟩=some (zI z6 0):=c1;have HV:=zH (show CoilS.room ⟨size,0,u0,u1,kept⟩=size-u0-kept from rfl);go_enter func235,ntmps235;go_wp2_with fail;refine yab [zT,zT,zT,zT,zT,zT,zT,zT,zT,zT,zT,zT,zT,zT,zT,zT,zT,zT,zT,zT] 0 20 ?_;intro X00;simp only [pickOps];repeat (go_big_quiet_step (fail))
   refine wpQuiet_nil (fun X0=>?_);clear X00;refine yaa zQ (fun X0'=>?_) _;go_wp2_with fail;go_ret;exact Gives.int (by rw [HV.o];try rfl) zE
 · replace c1:g.w.cell? ⟨b,1,none⟩=some (zI z6 1):=c1;have HV:=zH (show CoilS.room ⟨size,1,u0,u1,kept⟩=size-u1-kept from rfl);go_enter func235,ntmps235;go_wp2_with fail;refine yab [zT,zT,zT,zT,zT,zT,zT,zT,zT,zT,zT,zT,zT,zT,zT,zT,zT,zT,zT,zT] 0 20 ?_;intro X00;simp only [pickOps];repeat (go_big_quiet_step (fail))
   refine wpQuiet_nil (fun X0=>?_);clear X00;refine yaa zQ (fun X0'=>?_) _;go_wp2_with fail;go_ret;exact Gives.int (by rw [HV.o];try rfl) zE
theorem yi4 (g:GW) (t b:Nat) (n:Int) (c:CoilS) (h:CoilAt g t b c) (hn:0≤n∧n≤4096) (hok:(c.lays n).Ok):
 Calls prog 273 #[zp (some ⟨b,0,none⟩),zI z6 n] g.w (Does (zI z6 (c.used c.cur)) g (fun x=>x=t) (fun g'=>CoilAt g' t b (c.lays n))):=by
 have c0:=h.blk.cell (i:=0) rfl;have c1:=h.blk.cell (i:=1) rfl;have c2:=h.blk.cell (i:=2) rfl;have c3:=h.blk.cell (i:=3) rfl;have c4:=h.blk.cell (i:=4) rfl;have f2:=h.blk.live 2;have f3:=h.blk.live 3;have hbl:=h.blk.lt;obtain ⟨o1,⟨_,_⟩,⟨_,_⟩,⟨_,_⟩,⟨_,_⟩,_⟩:=h.ok;have HO:=zH h.blk.own;have HB:=zH h.blk;have HK:=zH hok;obtain ⟨hn0,hn1⟩:=hn;clear h hok;obtain ⟨size,cur,u0,u1,kept⟩:=c;simp only at *;rcases (show cur=0∨cur=1 by omega) with rfl|rfl
 · replace c1:g.w.cell? ⟨b,1,none⟩=some (zI z6 0):=c1;have HT:=zH (show CoilS.lays ⟨size,0,u0,u1,kept⟩ n=⟨size,0,u0+n,u1,kept⟩ from rfl);rw [HT.o] at HK;go_enter func273,ntmps273;go_wp2_with fail;refine yab [zT,zT,zT,zT,zT,zT,zT,zT,zT,zT] 0 10 ?_;intro X00;simp only [pickOps];repeat (go_big_quiet_step (fail))
   refine wpQuiet_nil (fun X0=>?_);clear X00;refine yaa zQ (fun X0'=>?_) _;go_wp2_with fail;refine yab [zT,zT,zT,zT,zT,zT,zT,zT,zT,zT,zT,zT,zT,zT,zU] 1 14 ?_;intro X00;simp only [pickOps];repeat (go_big_quiet_step (fail))
   refine wpQuiet_nil (fun X0=>?_);clear X00;refine yaj 14 _ zQ zQ rfl rfl (fun X1 K Q' hK=>?_);go_simp;refine hK _ _ (fun X2=>?_);clear hK K Q';go_wp2_with fail;go_ret;(try rw [World.patch_patch]);refine Does.of (GW.pt ⟨g.own,_⟩ _) rfl rfl (Mod.pt (Mod.st Mod.self HO.o) _) ?_;rw [HT.o];exact CoilAt.pt ⟨HB.o.set 2 _,HK.o⟩ _
 · replace c1:g.w.cell? ⟨b,1,none⟩=some (zI z6 1):=c1;have HT:=zH (show CoilS.lays ⟨size,1,u0,u1,kept⟩ n=⟨size,1,u0,u1+n,kept⟩ from rfl);rw [HT.o] at HK;go_enter func273,ntmps273;go_wp2_with fail;refine yab [zT,zT,zT,zT,zT,zT,zT,zT,zT,zT] 0 10 ?_;intro X00;simp only [pickOps];repeat (go_big_quiet_step (fail))
   refine wpQuiet_nil (fun X0=>?_);clear X00;refine yaa zQ (fun X0'=>?_) _;go_wp2_with fail;refine yab [zT,zT,zT,zT,zT,zT,zT,zT,zT,zT,zT,zT,zT,zT,zU] 1 14 ?_;intro X00;simp only [pickOps];repeat (go_big_quiet_step (fail))
   refine wpQuiet_nil (fun X0=>?_);clear X00;refine yaj 14 _ zQ zQ rfl rfl (fun X1 K Q' hK=>?_);go_simp;refine hK _ _ (fun X2=>?_);clear hK K Q';go_wp2_with fail;go_ret;(try rw [World.patch_patch]);refine Does.of (GW.pt ⟨g.own,_⟩ _) rfl rfl (Mod.pt (Mod.st Mod.self HO.o) _) ?_;rw [HT.o];exact CoilAt.pt ⟨HB.o.set 3 _,HK.o⟩ _
theorem CoilS.Ok.take {c:CoilS} (h:c.Ok) {n:Int} (hn:c.takeable n=true):(c.lays n).Ok:=by
 obtain ⟨size,cur,u0,u1,kept⟩:=c;obtain ⟨o1,o2,o3,o4,o5,o6⟩:=h;have hn':1≤n∧n≤CoilS.room ⟨size,cur,u0,u1,kept⟩:=by simpa [CoilS.takeable] using hn
 obtain ⟨hn1,hn2⟩:=hn';unfold CoilS.room at hn2;simp only at o1 o2 o3 o4 o5 o6 hn2;rcases (show cur=0∨cur=1 by omega) with rfl|rfl
 · have e:CoilS.used ⟨size,0,u0,u1,kept⟩ 0=u0:=rfl;rw [e] at o6 hn2;exact ⟨by show 0<2;decide,o2,⟨by show 0≤u0+n;omega,by show u0+n≤2048;omega⟩,o4,o5,by show u0+n+kept≤size;omega⟩
 · have e:CoilS.used ⟨size,1,u0,u1,kept⟩ 1=u1:=rfl;rw [e] at o6 hn2;exact ⟨by show 1<2;decide,o2,o3,⟨by show 0≤u1+n;omega,by show u1+n≤2048;omega⟩,o5,by show u1+n+kept≤size;omega⟩
theorem CoilS.takenAt_no {c:CoilS} {n:Int} (h:c.takeable n=false):c.takenAt n=0:=by unfold CoilS.takenAt;rw [h];rfl
theorem CoilS.takenAt_yes {c:CoilS} {n:Int} (h:c.takeable n=true):c.takenAt n=c.used c.cur:=by unfold CoilS.takenAt;rw [h];rfl
theorem yi5 (g:GW) (t b:Nat) (n:Int) (c:CoilS) (h:CoilAt g t b c) (hn:n≤1099511627776):
 Calls prog 237 #[zp (some ⟨b,0,none⟩),zI z6 n] g.w (Does (.tuple #[zI z6 (c.takenAt n),zb (c.takeable n)]) g (fun x=>x=t) (fun g'=>CoilAt g' t b (c.take n))):=by
 have H:=zH h;by_cases h1:n<1
 · have HV:=zH (show c.takeable n=false by unfold CoilS.takeable;simp;omega);have HT:=zH (show c.take n=c by unfold CoilS.take;rw [HV.o];try rfl);clear h;go_enter func237,ntmps237;go_wp2_with fail;go_ret2;exact Does.of g rfl (by rw [CoilS.takenAt_no HV.o,HV.o];try rfl) (Mod.refl _ _) (by rw [HT.o];exact H.o)
 · have HR:=zH (yez g t b c h);by_cases h2:c.room<n
   · have HV:=zH (show c.takeable n=false by unfold CoilS.takeable;simp;omega);have HT:=zH (show c.take n=c by unfold CoilS.take;rw [HV.o];try rfl);generalize c.room=rm at *;clear h;go_enter func237,ntmps237;go_wp2_with fail;refine (HR.o).mono ?_;rintro e w1 ⟨rfl,X1,rfl⟩;go_wp2_with fail;go_ret2;exact Does.ext g zE (by rw [CoilS.takenAt_no HV.o,HV.o];try rfl) (Mod.refl _ _) (fun g2 m=>by rw [HT.o];exact H.o.keep m id)
   · have hv:c.takeable n=true:=by unfold CoilS.takeable;simp;omega
     have hok:=CoilS.Ok.take h.ok hv
     have hrm:c.room≤4096:=by
      obtain ⟨o1,⟨_,_⟩,⟨_,_⟩,⟨_,_⟩,⟨_,_⟩,o6⟩:=h.ok;unfold CoilS.room CoilS.used;split<;>omega
     have HL:=zH (fun X=>yi4 (g.pt X) t b n c (h.pt X) zo hok);have HV:=zH hv;have HT:=zH (show c.take n=c.lays n by unfold CoilS.take;rw [HV.o];try rfl);have h2':n≤c.room:=zo;generalize c.room=rm at *;clear h hok hv h2;go_enter func237,ntmps237;go_wp2_with fail;refine (HR.o).mono ?_;rintro e w1 ⟨rfl,X1,rfl⟩;go_wp2_with fail;refine (HL.o X1).mono ?_;rintro e w1 ⟨rfl,own1,m1,a1⟩;have M:=zH m1;have Q:=zH a1;clear m1 a1;go_wp2_with fail;go_ret2;exact Does.of ⟨own1,_⟩ rfl (by rw [CoilS.takenAt_yes HV.o,HV.o];try rfl) (Mod.trans (Mod.pt (Mod.refl _ _) _) M.o) (by rw [HT.o];exact Q.o)
theorem yi6 (g:GW) (t b:Nat) (c:CoilS) (h:CoilAt g t b c):
 Calls prog 173 #[zp (some ⟨b,0,none⟩)] g.w (Does (zb c.turnable) g (fun x=>x=t) (fun g'=>CoilAt g' t b c.turn)):=by
 have c0:=h.blk.cell (i:=0) rfl;have c1:=h.blk.cell (i:=1) rfl;have c2:=h.blk.cell (i:=2) rfl;have c3:=h.blk.cell (i:=3) rfl;have c4:=h.blk.cell (i:=4) rfl;have f1:=h.blk.live 1;have f4:=h.blk.live 4;have hbl:=h.blk.lt;obtain ⟨o1,⟨_,_⟩,⟨_,_⟩,⟨_,_⟩,⟨_,_⟩,o6⟩:=h.ok;have HO:=zH h.blk.own;have HB:=zH h.blk;have H:=zH h;clear h;obtain ⟨size,cur,u0,u1,kept⟩:=c;simp only at *;rcases (show cur=0∨cur=1 by omega) with rfl|rfl
 · replace c1:g.w.cell? ⟨b,1,none⟩=some (zI z6 0):=c1;by_cases hz:0<u1
   · have HV:=zH (show CoilS.turnable ⟨size,0,u0,u1,kept⟩=false by unfold CoilS.turnable CoilS.used;simp;omega);have HT:=zH (show CoilS.turn ⟨size,0,u0,u1,kept⟩=⟨size,0,u0,u1,kept⟩ by unfold CoilS.turn;rw [HV.o];try rfl);have hd:decide (0<u1)=true:=decide_eq_true hz;clear o6;go_enter func173,ntmps173;go_wp2_with fail;refine yab [zT,zT,zT,zT,zT,zT,zT,zT,zT,zT,zT] 0 11 ?_;intro X00;simp only [pickOps];repeat (go_big_quiet_step (fail))
     refine wpQuiet_nil (fun X0=>?_);clear X00;refine yaa zQ (fun X0'=>?_) _;go_wp2_with fail;go_ret;exact Does.ext g zE (by rw [HV.o];try rfl) (Mod.refl _ _) (fun g2 m=>by rw [HT.o];exact H.o.keep m id)
   · have HV:=zH (show CoilS.turnable ⟨size,0,u0,u1,kept⟩=true by unfold CoilS.turnable CoilS.used;simp;omega);have HT:=zH (show CoilS.turn ⟨size,0,u0,u1,kept⟩=⟨size,1,u0,u1,u0⟩ by unfold CoilS.turn;rw [HV.o];try rfl);have HK:=zH (show CoilS.Ok ⟨size,1,u0,u1,u0⟩ from ⟨by simp,by simp only;omega,by simp only;omega,by simp only;omega,by simp only;omega,by simp only [CoilS.used,if_true,if_false,Nat.one_ne_zero] at *;omega⟩);have hd:decide (0<u1)=false:=decide_eq_false hz;clear o6;go_enter func173,ntmps173;go_wp2_with fail;refine yab [zT,zT,zT,zT,zT,zT,zT,zT,zT,zT,zT] 0 11 ?_;intro X00;simp only [pickOps];repeat (go_big_quiet_step (fail))
     refine wpQuiet_nil (fun X0=>?_);clear X00;refine yaa zQ (fun X0'=>?_) _;go_wp2_with fail;refine yab [zT,zT,zT,zT,zT,zT,zT,zT,zT,zT,zT,zT,zU] 1 12 ?_;intro X00;simp only [pickOps];repeat (go_big_quiet_step (fail))
     refine wpQuiet_nil (fun X0=>?_);clear X00;refine yaj 12 _ zQ zQ rfl rfl (fun X1 K Q' hK=>?_);go_simp;refine hK _ _ (fun X2=>?_);clear hK K Q';go_wp2_with fail;go_ret;(try rw [World.patch_patch]);refine Does.of (GW.pt ⟨g.own,_⟩ _) rfl (by rw [HV.o];try rfl) (Mod.pt (Mod.st (Mod.st Mod.self HO.o) HO.o) _) ?_;rw [HT.o];exact CoilAt.pt ⟨(HB.o.set 4 _).set 1 _,HK.o⟩ _
 · replace c1:g.w.cell? ⟨b,1,none⟩=some (zI z6 1):=c1;by_cases hz:0<u0
   · have HV:=zH (show CoilS.turnable ⟨size,1,u0,u1,kept⟩=false by unfold CoilS.turnable CoilS.used;simp;omega);have HT:=zH (show CoilS.turn ⟨size,1,u0,u1,kept⟩=⟨size,1,u0,u1,kept⟩ by unfold CoilS.turn;rw [HV.o];try rfl);have hd:decide (0<u0)=true:=decide_eq_true hz;clear o6;go_enter func173,ntmps173;go_wp2_with fail;refine yab [zT,zT,zT,zT,zT,zT,zT,zT,zT,zT,zT] 0 11 ?_;intro X00;simp only [pickOps];repeat (go_big_quiet_step (fail))
     refine wpQuiet_nil (fun X0=>?_);clear X00;refine yaa zQ (fun X0'=>?_) _;go_wp2_with fail;go_ret;exact Does.ext g zE (by rw [HV.o];try rfl) (Mod.refl _ _) (fun g2 m=>by rw [HT.o];exact H.o.keep m id)
   · have HV:=zH (show CoilS.turnable ⟨size,1,u0,u1,kept⟩=true by unfold CoilS.turnable CoilS.used;simp;omega);have HT:=zH (show CoilS.turn ⟨size,1,u0,u1,kept⟩=⟨size,0,u0,u1,u1⟩ by unfold CoilS.turn;rw [HV.o];try rfl);have HK:=zH (show CoilS.Ok ⟨size,0,u0,u1,u1⟩ from ⟨by simp,by simp only;omega,by simp only;omega,by simp only;omega,by simp only;omega,by simp only [CoilS.used,if_true,if_false,Nat.one_ne_zero] at *;omega⟩);have hd:decide (0<u0)=false:=decide_eq_false hz;clear o6;go_enter func173,ntmps173;go_wp2_with fail;refine yab [zT,zT,zT,zT,zT,zT,zT,zT,zT,zT,zT] 0 11 ?_;intro X00;simp only [pickOps];repeat (go_big_quiet_step (fail))
     refine wpQuiet_nil (fun X0=>?_);clear X00;refine yaa zQ (fun X0'=>?_) _;go_wp2_with fail;refine yab [zT,zT,zT,zT,zT,zT,zT,zT,zT,zT,zT,zT,zU] 1 12 ?_;intro X00;simp only [pickOps];repeat (go_big_quiet_step (fail))
     refine wpQuiet_nil (fun X0=>?_);clear X00;refine yaj 12 _ zQ zQ rfl rfl (fun X1 K Q' hK=>?_);go_simp;refine hK _ _ (fun X2=>?_);clear hK K Q';go_wp2_with fail;go_ret;(try rw [World.patch_patch]);refine Does.of (GW.pt ⟨g.own,_⟩ _) rfl (by rw [HV.o];try rfl) (Mod.pt (Mod.st (Mod.st Mod.self HO.o) HO.o) _) ?_;rw [HT.o];exact CoilAt.pt ⟨(HB.o.set 4 _).set 1 _,HK.o⟩ _
def CoilMade (n:Int) (t:Nat) (g:GW) (e:Ending) (w':World):Prop:=
 if 0≤n∧n≤2048 then∃own' b,e=.returned (.tuple #[zp (some ⟨b,0,none⟩),zI z6 0])∧Mod (fun _=>False) g ⟨own',w'⟩∧CoilAt ⟨own',w'⟩ t b ⟨n,0,0,0,0⟩
 else e=.returned (.tuple #[zp none,zI z6 1])∧Ext g.w w'
theorem ykJ (n:Int) (t:Nat) (g:GW):Calls prog 122 #[zI z6 n] g.w (CoilMade n t g):=by
 by_cases h0:n<0
 · have HV:=zH (show¬(0≤n∧n≤2048) by omega);go_enter func122,ntmps122;go_wp2_with fail;go_ret2;unfold CoilMade;rw [if_neg HV.o];exact ⟨rfl,Ext.refl _⟩
 by_cases h1:2048<n
 · have HV:=zH (show¬(0≤n∧n≤2048) by omega);go_enter func122,ntmps122;go_wp2_with fail;go_ret2;unfold CoilMade;rw [if_neg HV.o];exact ⟨rfl,Ext.refl _⟩
 have HV:=zH (show (0:Int)≤n∧n≤2048 by omega);go_enter func122,ntmps122;go_wp2_with fail;go_ret2;unfold CoilMade;rw [if_pos HV.o];obtain ⟨_,_⟩:=HV.o;exact ⟨_,_,rfl,Mod.ext (show Ext g.w _ from zE) t,Blk.made (World.row_alloc_new _) (Nat.le_refl _),⟨by simp,by simp only;omega,by simp,by simp,by simp,by simp [CoilS.used];omega⟩⟩
structure PoolAt (g:GW) (t b:Nat) (p:PoolS):Prop where
 ex: ∃A c,Blk g t b 148 [.slice A p.l.length c,zI z6 p.free]∧Row g t 4 1 (.slice A p.l.length c) p.l.length (p.l.map Value.bool)
 len:p.l.length≤1024
theorem PoolAt.keep {S:Nat→Prop} {g g':GW} {t b:Nat} {p:PoolS} (h:PoolAt g t b p) (d:Mod S g g') (hs: ¬S t):PoolAt g' t b p:=by
 obtain ⟨A,c,h1,h2⟩:=h.ex;exact ⟨⟨A,c,h1.keep d hs,h2.keep d hs⟩,h.len⟩
theorem PoolAt.pt {g:GW} {t b:Nat} {p:PoolS} (h:PoolAt g t b p) (X:Extra):PoolAt (g.pt X) t b p:=h.keep (S:=fun _=>False) (Mod.pt (Mod.refl _ _) X) id
theorem yeR (g:GW) (t b:Nat) (p:PoolS) (h:PoolAt g t b p):
 Calls prog 43 #[zp (some ⟨b,0,none⟩)] g.w (fun e w'=>e=.returned (zI z6 p.free)∧g.w=w'):=by
 obtain ⟨A,c,hb,hr⟩:=h.ex;have c1:=hb.cell (i:=1) rfl;clear hb hr h;go_enter func43,ntmps43;go_wp2_with fail;go_ret;exact ⟨rfl,rfl⟩
theorem PoolAt.place {g:GW} {t b:Nat} {p:PoolS} (h:PoolAt g t b p) {k:Nat} (hk:k<p.l.length): ∃r c,Blk g t b 148 [.slice (some ⟨r,0,none⟩) p.l.length c,zI z6 p.free]∧
 Row g t 4 1 (.slice (some ⟨r,0,none⟩) p.l.length c) p.l.length (p.l.map Value.bool)∧r<g.w.heap.size∧g.w.cell? ⟨r,k,none⟩=some (zb (p.l.getD k false))∧g.w.frozen? ⟨r,k,none⟩=false∧b≠r:=by
 obtain ⟨A,c,hb,hr⟩:=h.ex;obtain ⟨r,rfl,hl,ho,hc,hf⟩:=hr.block zo;exact ⟨r,c,hb,hr,hl,hc _ _ (by simp [List.getD_eq_getElem?_getD,hk]),hf _,hr.ne_type hb zd rfl⟩
theorem PoolAt.stored {g:GW} {t b r c k:Nat} {x:Bool} {n:Int} {p:PoolS} (h:PoolAt g t b p) (hk:k<p.l.length) (hb:Blk g t b 148 [.slice (some ⟨r,0,none⟩) p.l.length c,zI z6 p.free])
 (hn:n=(PoolS.free ⟨p.l.set k x⟩:Nat)):PoolAt ⟨g.own,(g.w.setCell ⟨r,k,none⟩ (zb x)).setCell ⟨b,1,none⟩ (zI z6 n)⟩ t b ⟨p.l.set k x⟩:=by
 obtain ⟨A',c',hb',hr⟩:=h.ex;have e:=hb'.same hb;injection e with e _;injection e with e1 _ e2;subst e1 e2 hn;have hne:r≠b:=fun e=>hr.ne_type hb' zd rfl e.symm;refine ⟨⟨some ⟨r,0,none⟩,c',?_,?_⟩,by simpa using h.len⟩
 · simp only [List.length_set];exact (hb'.setOther k (zb x) hne).set 1 _
 · simp only [List.length_set];rw [List.map_set];exact (hr.store k (zb x)).setOther _ _ (fun y hy e=>hne (by injection hy with hy;exact hy.trans e.symm))
theorem PoolS.free_set {l:List Bool} {k:Nat} (hk:k<l.length) (x:Bool):((PoolS.free ⟨l.set k x⟩:Nat):Int)=(PoolS.free ⟨l⟩:Int)-(if l.getD k false then 1 else 0)+(if x then 1 else 0):=by
 unfold PoolS.free;simp only;rw [List.countP_set hk,List.getD_eq_getElem?_getD,List.getElem?_eq_getElem hk];simp only [Option.getD_some,id];have:l[k]=true→0<l.countP id:=fun h=>List.countP_pos_iff.2 ⟨_,List.getElem_mem hk,h⟩;by_cases h1:l[k]=true
 · have:=this h1;rw [if_pos h1,if_pos h1];split<;>omega
 · rw [if_neg h1,if_neg h1];split<;>omega
theorem ydL (g:GW) (t b k:Nat) (p:PoolS) (h:PoolAt g t b p) (hk:k<p.l.length) (hx:p.l.getD k false=true):
 Calls prog 272 #[zp (some ⟨b,0,none⟩),zI z6 k] g.w (Does (.tuple #[]) g (fun x=>x=t) (fun g'=>PoolAt g' t b ⟨p.l.set k false⟩)):=by
 obtain ⟨r,c,hb,hr,hrl,k0,kf,hne⟩:=h.place hk;have HO:=zH hb.own;have HR:=zH (hr.own r rfl);have H:=zH (PoolAt.stored (x:=false) h hk hb (n:=(p.free:Int)-1) (by rw [PoolS.free_set hk,hx];simp));have hne':r≠b:=fun e=>hne e.symm;have c0:=hb.cell (i:=0) rfl;have c1:=hb.cell (i:=1) rfl;have f1:=hb.live 1;have hbl:=hb.lt;have hlen:=h.len;have hfr:p.free≤1024:=Nat.le_trans List.countP_le_length hlen;clear hb h hr hx;go_enter func272,ntmps272;go_wp2_with fail;refine bodyPost_end (results_none rfl _ _ _) rfl (Does.of ⟨g.own,_⟩ rfl rfl (Mod.st (Mod.st Mod.self HR.o) HO.o) H.o)
theorem yj4 (g:GW) (t b:Nat) (i:Int) (p:PoolS) (h:PoolAt g t b p):
 Calls prog 192 #[zp (some ⟨b,0,none⟩),zI z6 i] g.w (Does (zb (inB i p.l.length&& !p.l.getD i.toNat false)) g (fun x=>x=t) (fun g'=>PoolAt g' t b (p.give i))):=by
 cases hin:inB i p.l.length
 · have HT:=zH (show p.give i=p by unfold PoolS.give;rw [hin];rfl);obtain ⟨A,c,hb,hr⟩:=h.ex;have H:=zH h;have c0:=hb.cell (i:=0) rfl;have hc:=ybX hin;clear hb hr h hin;by_cases h0:i<0
   · clear hc;go_enter func192,ntmps192;go_wp2_with fail;go_ret;exact Does.of g rfl rfl (Mod.refl _ _) (by rw [HT.o];exact H.o)
   · have h1:(p.l.length:Int)≤i:=zo;clear hc;go_enter func192,ntmps192;go_wp2_with fail;go_ret;exact Does.of g rfl rfl (Mod.refl _ _) (by rw [HT.o];exact H.o)
 · obtain ⟨k,rfl,hk⟩:=yap hin;obtain ⟨r,c,hb,hr,hrl,k0,kf,hne⟩:=h.place hk;have HO:=zH hb.own;have HR:=zH (hr.own r rfl);have hne':r≠b:=fun e=>hne e.symm;have c0:=hb.cell (i:=0) rfl;have c1:=hb.cell (i:=1) rfl;have f1:=hb.live 1;have hbl:=hb.lt;have hlen:=h.len;have hfr:p.free≤1024:=Nat.le_trans List.countP_le_length hlen;have HT:=zH (show p.give k=⟨p.l.set k true⟩ by unfold PoolS.give;rw [hin,if_pos rfl,Int.toNat_natCast]);rw [Int.toNat_natCast];cases hx:p.l.getD k false
   · have H:=zH (PoolAt.stored (x:=true) h hk hb (n:=(p.free:Int)+1) (by rw [PoolS.free_set hk,hx];simp));rw [hx] at k0;clear hb h hr hx;go_enter func192,ntmps192;go_wp2_with fail;go_ret;exact Does.of ⟨g.own,_⟩ rfl rfl (Mod.st (Mod.st Mod.self HR.o) HO.o) (by rw [HT.o];exact H.o)
   · have HE:=zH (show p.l.set k true=p.l from by
      apply List.ext_getElem?;intro j;by_cases hj:k=j
      · subst hj;rw [List.getElem?_set_self hk,List.getElem?_eq_getElem hk];rw [List.getD_eq_getElem?_getD,List.getElem?_eq_getElem hk] at hx;simpa using hx.symm
      · rw [List.getElem?_set_ne hj])
     have H:=zH h;rw [hx] at k0;clear hb h hr hx;go_enter func192,ntmps192;go_wp2_with fail;go_ret;exact Does.of g rfl rfl (Mod.refl _ _) (by rw [HT.o,HE.o];exact H.o)
theorem yir (l:List Bool) (k m:Nat):PoolS.runGo l k 0 m=none:=rfl
theorem ylf {l:List Bool} {k j m:Nat} (h:l.getD j false=false):PoolS.runGo l k (j+1) m=PoolS.runGo l k j 0:=by
 rw [PoolS.runGo,if_neg (by rw [h];simp)]
theorem yiq {l:List Bool} {k j m:Nat} (h:l.getD j false=true) (hm: ¬m+1=k):PoolS.runGo l k (j+1) m=PoolS.runGo l k j (m+1):=by
 rw [PoolS.runGo,if_pos h,if_neg hm]
theorem yip {l:List Bool} {k j m:Nat} (h:l.getD j false=true) (hm:m+1=k):PoolS.runGo l k (j+1) m=some j:=by
 rw [PoolS.runGo,if_pos h,if_pos hm]
def runVal (o:Option Nat):Value:=.tuple #[zI z6 ((o.getD 0:Nat):Int),zb o.isSome]
theorem ygP (g:GW) (t b k:Nat) (p:PoolS) (h:PoolAt g t b p) (hk:1≤k) (hk2:k≤1099511627776):
 Calls prog 234 #[zp (some ⟨b,0,none⟩),zI z6 k] g.w (fun e w'=>e=.returned (runVal (PoolS.runGo p.l k p.l.length 0))∧g.w=w'):=by
 obtain ⟨A,c,hb,hr⟩:=h.ex;have HC:=zH (fun j (hj:j<p.l.length)=>h.place hj);have HB:=zH hb;have c0:=hb.cell (i:=0) rfl;have hlen:=h.len;clear hr hb h;go_enter func234,ntmps234;go_wp2_with fail;go_loop [6,7] (fun n i=> ∃j m:Nat,j≤p.l.length∧m<k∧i=zI z6 ((j:Int)-1)∧n=zI z6 m∧Hid (PoolS.runGo p.l k p.l.length 0=PoolS.runGo p.l k j m)) (fun _ i=>(intOf i+1).toNat)
 case atStart=>exact ⟨p.l.length,0,Nat.le_refl _,zo,rfl,rfl,zH rfl⟩
 case round=>
  obtain ⟨j,m,hj,hm,rfl,rfl,HJ⟩:=hrel;rcases j with _|j
  · have HV:=zH (HJ.o.trans (yir _ _ _));rw [show (((0:Nat):Int)-1)= -1 by omega];go_wp2_with fail;go_ret2;exact ⟨by rw [HV.o];try rfl,rfl⟩
  · rw [show (((j+1:Nat):Int)-1)=(j:Int) by omega];obtain ⟨r,c',hb', -,hrl,k0, -, -⟩:=HC.o j hj;have e:=HB.o.same hb';injection e with e _;injection e with e1 _ e2;subst e1;cases hx:p.l.getD j false
    · rw [hx] at k0;have HV:=zH (HJ.o.trans (ylf hx));clear hx hb' e2;go_wp2_with fail;go_round
      case rel=>exact ⟨j,0,zo,zo,by go_num,rfl,HV⟩
      case measure=>simp [intOf]
    · rw [hx] at k0;clear hb' e2;by_cases hm2:m+1=k
      · have HV:=zH (HJ.o.trans (yip hx hm2));have hd:((m:Int)+1==(k:Int))=true:=by simp;omega
        clear hx hm2;go_wp2_with fail;go_ret2;exact ⟨by rw [HV.o];try rfl,rfl⟩
      · have HV:=zH (HJ.o.trans (yiq hx hm2));have hd:((m:Int)+1==(k:Int))=false:=by simp;omega
        have hm3:m+1<k:=zo;clear hx hm2;go_wp2_with fail;go_round
        case rel=>exact ⟨j,m+1,zo,zo,by go_num,by go_num,HV⟩
        case measure=>simp [intOf]
theorem yf9 (g:GW) (t b:Nat) (k:Int) (p:PoolS) (h:PoolAt g t b p) (hk2:k≤1099511627776):
 Calls prog 234 #[zp (some ⟨b,0,none⟩),zI z6 k] g.w (fun e w'=>e=.returned (runVal (p.run k))∧g.w=w'):=by
 by_cases h1:k<1
 · have HV:=zH (show p.run k=none by unfold PoolS.run;rw [if_pos h1]);clear h;go_enter func234,ntmps234;go_wp2_with fail;go_ret2;exact ⟨by rw [HV.o];try rfl,rfl⟩
 · obtain ⟨n,rfl⟩:=Int.eq_ofNat_of_zero_le (show 0≤k by omega);rw [show p.run n=PoolS.runGo p.l n p.l.length 0 by unfold PoolS.run;rw [if_neg h1,Int.toNat_natCast]];exact ygP g t b n p h zo zo
theorem yku (n b:Int) (w:World) (h1:1≤n) (h2:n≤1000) (h3:1≤b) (h4:b≤8):Calls prog 258 #[zI z6 n,zI z6 b] w (Gives (zI z6 ((n+b-1)/b)) w):=by
 go_enter func258,ntmps258;go_wp2
 go_ret;exact Gives.int rfl zE
theorem ybI (n:Int) (w:World):Calls prog 224 #[zI z6 n] w (Gives (zI z6 (sData n)) w):=by
 by_cases h1:n<1
 · go_enter func224,ntmps224;go_wp2
   go_ret;exact Gives.int (by unfold sData;rw [if_pos zo]) zE
 · by_cases h2:512<n
   · go_enter func224,ntmps224;go_wp2
     go_ret;exact Gives.int (by unfold sData;rw [if_pos zo]) zE
   · go_enter func224,ntmps224;go_wp2_with (go_at_call 258;refine (yku _ _ _ zo zo zo zo).mono ?_;rintro e w1 ⟨rfl,X1,rfl⟩);go_ret;exact Gives.int (by unfold sData;rw [if_neg zo];omega) zE
theorem yck (s:Shp) (n:Int) (w:World) (hs:s.Ok w):Calls prog 240 #[s.val,zI z6 n] w (Gives (zI z6 (s.size n)) w):=by
 have hl:s.refs.length≤140737488355328:=hs.max;have hM:s.may=true→s.refs.length≤40:=fun h=>(of_decide_eq_true h).1;have hc:=fun w' (he:Ext w w')=>ycY s w' (hs.ext he);obtain ⟨arr,A,cap,refs⟩:=s;unfold Shp.val at hc ⊢;simp only at hl hM hc ⊢;cases hm:Shp.may ⟨arr,A,cap,refs⟩
 · rw [hm] at hc;have HC:=zH hc;clear hc hM;have HV:=zH (show Shp.size ⟨arr,A,cap,refs⟩ n= -1 by simp [Shp.size,hm]);go_enter func240,ntmps240;go_wp2_with (go_at_call 116;refine (HC.o _ zE).mono ?_;rintro e w1 ⟨rfl,X1,rfl⟩);go_ret;exact Gives.int HV.o.symm zE
 · rw [hm] at hc;have HC:=zH hc;have hl40:=hM hm;have HM:=zH hm;clear hc hM hm;by_cases h0:n<0
   · have HV:=zH (show Shp.size ⟨arr,A,cap,refs⟩ n= -1 by unfold Shp.size;rw [if_pos zo]);go_enter func240,ntmps240;go_wp2_with (go_at_call 116;refine (HC.o _ zE).mono ?_;rintro e w1 ⟨rfl,X1,rfl⟩);go_ret;exact Gives.int HV.o.symm zE
   · by_cases h1:512<n
     · have HV:=zH (show Shp.size ⟨arr,A,cap,refs⟩ n= -1 by unfold Shp.size;rw [if_pos zo]);go_enter func240,ntmps240;go_wp2_with (go_at_call 116;refine (HC.o _ zE).mono ?_;rintro e w1 ⟨rfl,X1,rfl⟩);go_ret;exact Gives.int HV.o.symm zE
     · cases arr
       · by_cases h2:0<n
         · have HV:=zH (show Shp.size ⟨false,A,cap,refs⟩ n= -1 by unfold Shp.size;rw [if_pos (by simp;omega)]);go_enter func240,ntmps240;go_wp2_with (go_at_call 116;refine (HC.o _ zE).mono ?_;rintro e w1 ⟨rfl,X1,rfl⟩);go_ret;exact Gives.int HV.o.symm zE
         · by_cases h3:refs.length≤6
           · have HV:=zH (show Shp.size ⟨false,A,cap,refs⟩ n=1 by unfold Shp.size Shp.len;rw [if_neg (by simp [HM.o];omega),if_neg (by simp),if_pos (by simp only;omega)]);go_enter func240,ntmps240;go_wp2_with (go_at_call 116;refine (HC.o _ zE).mono ?_;rintro e w1 ⟨rfl,X1,rfl⟩);go_ret;exact Gives.int HV.o.symm zE
           · have HV:=zH (show Shp.size ⟨false,A,cap,refs⟩ n=1+((refs.length:Int)-6+7-1)/7 by unfold Shp.size Shp.len;rw [if_neg (by simp [HM.o];omega),if_neg (by simp),if_neg (by simp only;omega)];simp only;omega);go_enter func240,ntmps240;go_wp2_with (first|(go_at_call 116;refine (HC.o _ zE).mono ?_;rintro e w1 ⟨rfl,X1,rfl⟩)|(go_at_call 258;refine (yku _ _ _ zo zo zo zo).mono ?_;rintro e w1 ⟨rfl,X1,rfl⟩));go_ret;exact Gives.int HV.o.symm zE
       · have hb:=yaW n;have HV:=zH (show Shp.size ⟨true,A,cap,refs⟩ n=1+sData n by unfold Shp.size;rw [if_neg (by simp [HM.o];omega),if_pos rfl]);go_enter func240,ntmps240;go_wp2_with (first|(go_at_call 116;refine (HC.o _ zE).mono ?_;rintro e w1 ⟨rfl,X1,rfl⟩)|(go_at_call 224;refine (ybI _ _).mono ?_;rintro e w1 ⟨rfl,X1,rfl⟩));go_ret;exact Gives.int HV.o.symm zE
theorem ycN (s:Shp) (k:Int) (w:World) (hs:s.Ok w) (hk: -9223372036854775808≤k) (hk':k≤9223372036854775807):Calls prog 257 #[s.val,zI z6 k] w
 (Gives (s.place k) w):=by
 have hl:s.refs.length≤140737488355328:=hs.max;have hM:s.may=true→s.refs.length≤40:=fun h=>(of_decide_eq_true h).1;have hc:=fun w' (he:Ext w w')=>ycY s w' (hs.ext he);obtain ⟨arr,A,cap,refs⟩:=s;unfold Shp.val at hc ⊢;simp only at hl hM hc ⊢;cases hm:Shp.may ⟨arr,A,cap,refs⟩
 · rw [hm] at hc;have HC:=zH hc;have HV:=zH (show Shp.place ⟨arr,A,cap,refs⟩ k=.tuple #[zI z6 0,zI z6 0,zb false] by unfold Shp.place;rw [if_neg (by rw [Bool.not_eq_true];simp [Shp.hasField,hm])]);clear hc hM hm;go_enter func257,ntmps257;go_wp2_with (go_at_call 116;refine (HC.o _ zE).mono ?_;rintro e w1 ⟨rfl,X1,rfl⟩);go_ret3
   rw [HV.o];exact Gives.iib rfl rfl rfl zE
 · rw [hm] at hc;have HC:=zH hc;have hl40:=hM hm;have HM:=zH hm;clear hc hM hm;cases arr
   · by_cases h1:0≤k∧k<refs.length
     · obtain ⟨h1,h2⟩:=h1;have HV:=zH (show Shp.place ⟨false,A,cap,refs⟩ k=.tuple #[zI z6 (Shp.placeF k),zI z6 (Shp.placeW k),zb true] by unfold Shp.place;rw [if_pos (by simp only [Shp.hasField,HM.o,Shp.len];simp [h1,h2])]);by_cases h3:k<6
       · go_enter func257,ntmps257;go_wp2_with (go_at_call 116;refine (HC.o _ zE).mono ?_;rintro e w1 ⟨rfl,X1,rfl⟩);go_ret3
         rw [HV.o];exact Gives.iib (by unfold Shp.placeF;rw [if_pos h3]) (by unfold Shp.placeW;rw [if_pos h3]) rfl zE
       · go_enter func257,ntmps257;go_wp2_with (go_at_call 116;refine (HC.o _ zE).mono ?_;rintro e w1 ⟨rfl,X1,rfl⟩);go_ret3
         rw [HV.o];exact Gives.iib (by unfold Shp.placeF;rw [if_neg zo]) (by unfold Shp.placeW;rw [if_neg zo]) rfl zE
     · have HV:=zH (show Shp.place ⟨false,A,cap,refs⟩ k=.tuple #[zI z6 0,zI z6 0,zb false] by unfold Shp.place;rw [if_neg (by rw [Bool.not_eq_true];unfold Shp.hasField;rw [Bool.and_eq_false_iff];right;rw [decide_eq_false_iff_not];exact h1)]);by_cases h2:k<0
       · go_enter func257,ntmps257;go_wp2_with (go_at_call 116;refine (HC.o _ zE).mono ?_;rintro e w1 ⟨rfl,X1,rfl⟩);go_ret3
         rw [HV.o];exact Gives.iib rfl rfl rfl zE
       · have h4:(refs.length:Int)≤k:=zo;go_enter func257,ntmps257;go_wp2_with (go_at_call 116;refine (HC.o _ zE).mono ?_;rintro e w1 ⟨rfl,X1,rfl⟩);go_ret3
         rw [HV.o];exact Gives.iib rfl rfl rfl zE
   · have HV:=zH (show Shp.place ⟨true,A,cap,refs⟩ k=.tuple #[zI z6 0,zI z6 0,zb false] by unfold Shp.place;rw [if_neg (by rw [Bool.not_eq_true];simp [Shp.hasField])]);go_enter func257,ntmps257;go_wp2_with (go_at_call 116;refine (HC.o _ zE).mono ?_;rintro e w1 ⟨rfl,X1,rfl⟩);go_ret3
     rw [HV.o];exact Gives.iib rfl rfl rfl zE
theorem yas (w:World):Calls prog 68 #[] w (Gives wNone w):=by
 go_enter func68,ntmps68;go_wp2
 go_ret;exact Gives.mk rfl zE
theorem yaR (i:Int) (w:World):Calls prog 149 #[zI z6 i] w (Gives (wRef i) w):=by
 by_cases h:i<0∨1099511627776<i
 · rw [show wRef i=wNone by unfold wRef;rw [if_pos h]];by_cases h':i<0
   · go_enter func149,ntmps149;go_wp2_with (go_at_call 68;refine (yas _).mono ?_;rintro e w1 ⟨rfl,X1,rfl⟩);go_ret;exact Gives.mk rfl zE
   · have h'':1099511627776<i:=zo;clear h;go_enter func149,ntmps149;go_wp2_with (go_at_call 68;refine (yas _).mono ?_;rintro e w1 ⟨rfl,X1,rfl⟩);go_ret;exact Gives.mk rfl zE
 · have HV:=zH (show wRef i=zc z4 (floatOfInt .f64 (i+1)) 4607182418800017408 by unfold wRef;rw [if_neg h]);have h1:0≤i:=zo;have h2:i≤1099511627776:=zo;clear h;go_enter func149,ntmps149;go_wp2
   go_ret;rw [HV.o];exact Gives.mk rfl zE
theorem yaB (n:Int) (w:World):Calls prog 152 #[zI z6 n] w (Gives (wWhole n) w):=by
 by_cases h:n< -9007199254740992
 · have HV:=zH (show wWhole n=wZero by unfold wWhole;rw [if_pos zo]);go_enter func152,ntmps152;go_wp2
   go_ret;rw [HV.o];exact Gives.mk rfl zE
 · by_cases h':9007199254740992<n
   · have HV:=zH (show wWhole n=wZero by unfold wWhole;rw [if_pos zo]);go_enter func152,ntmps152;go_wp2
     go_ret;rw [HV.o];exact Gives.mk rfl zE
   · have HV:=zH (show wWhole n=zc z4 (floatOfInt .f64 n) 0 by unfold wWhole;rw [if_neg zo]);go_enter func152,ntmps152;go_wp2
     go_ret;rw [HV.o];exact Gives.mk rfl zE
theorem yex (b:Bool) (w:World):Calls prog 227 #[zb b] w (Gives (wBlank b) w):=by
 cases b
 · go_enter func227,ntmps227;go_wp2_with (go_at_call 152;refine (yaB _ _).mono ?_;rw [yg5];rintro e w1 ⟨rfl,X1,rfl⟩);go_ret;exact Gives.mk rfl zE
 · go_enter func227,ntmps227;go_wp2_with (go_at_call 68;refine (yas _).mono ?_;rintro e w1 ⟨rfl,X1,rfl⟩);go_ret;exact Gives.mk rfl zE
theorem ybM (k m:Int) (w:World):Calls prog 219 #[zI z6 k,zI z6 m] w (Gives (wHead k m) w):=by
 by_cases h:k<0∨1099511627776<k∨m<0∨1099511627776<m
 · have HV:=zH (show wHead k m=wZero by unfold wHead;rw [if_pos h]);by_cases h1:k<0
   · clear h;go_enter func219,ntmps219;go_wp2
     go_ret;rw [HV.o];exact Gives.mk rfl zE
   · by_cases h2:1099511627776<k
     · clear h;go_enter func219,ntmps219;go_wp2
       go_ret;rw [HV.o];exact Gives.mk rfl zE
     · by_cases h3:m<0
       · clear h;go_enter func219,ntmps219;go_wp2
         go_ret;rw [HV.o];exact Gives.mk rfl zE
       · have h4:1099511627776<m:=zo;clear h;go_enter func219,ntmps219;go_wp2
         go_ret;rw [HV.o];exact Gives.mk rfl zE
 · have HV:=zH (show wHead k m=zc z4 (floatOfInt .f64 k) (floatOfInt .f64 m) by unfold wHead;rw [if_neg h]);have h1:0≤k:=zo;have h2:k≤1099511627776:=zo;have h3:0≤m:=zo;have h4:m≤1099511627776:=zo;clear h;go_enter func219,ntmps219;go_wp2
   go_ret;rw [HV.o];exact Gives.mk rfl zE
attribute [local go_sem] Lib.run_eql_slice_nil
theorem yfR:(prog.info? 4).map (fun i=>(i.zero,i.size,i.bytes))=some (some (zb false),1,1):=zQ
theorem ye2 (A:Option Addr) (cap:Nat) (l:List Bool) (w:World) (hc:CellsAt w A (l.map Value.bool)) (hl:l.length≤140737488355328):
 Calls prog 189 #[.slice A l.length cap] w (fun e w'=> ∃A' cap',e=.returned (.slice A' l.length cap')∧CellsAt w' A' (l.map Value.bool)∧l.length≤cap'∧(∀a,A'=some a→w.heap.size≤a.block)∧Ext w w'):=by
 obtain ⟨i0,hi,hz0,hz1,hz2⟩:=info_parts yfR;have hq:=fun w=>Lib.run_eql_slice_nil (P:=prog) w 69 4 A l.length cap 0 0 Tryz.underlying69;rcases A with _|ad
 · obtain rfl:l=[]:=by
    rcases l with _|⟨x,l⟩
    · rfl
    · obtain ⟨b,o,h,_⟩:=hc.at_ (i:=0) (by simp);cases h
   go_enter func189,ntmps189;go_wp2_with fail;go_ret;exact ⟨none,0,rfl,CellsAt.nil _ _,by simp,(fun a h=>by cases h),zE⟩
 · go_enter func189,ntmps189;go_wp2_with (at_builtin;refine wpList_append_own _ rfl (.tmp 5) (.tmp 6) 69 rfl w.heap.size 4 i0 (zb false) 1 1 Tryz.underlying69 hi hz0 hz1 hz2 rfl zd _ _ _ rfl (World.ownsRow_made (cap:=0) _ #[] (Nat.le_refl _) zd rfl) ad l.length cap (l.map Value.bool) rfl (by simp) (ybo (hc.alloc _)) (by intro u hu;simp at hu;rcases hu with ⟨_,rfl⟩|⟨_,rfl⟩<;>rfl) (by unfold maxLen;omega) zo (by simp) ?_;intro v' w1 hown hgrow hn);simp only [Nat.zero_add,List.nil_append] at hown;obtain ⟨A',c',hv⟩:=yak hown;rw [hv] at hown;have HV:=zH hv;clear hv;go_ret;exact ⟨A',c',congrArg Ending.returned HV.o,ybh hown,(yek hown).1,ybZ hown,yaC (Ext.alloc (Ext.refl _) _) hgrow (fun k hk=>by cases hk;exact Nat.le_refl _)⟩
theorem ydB (s:Shp) (w:World) (hs:s.Ok w):
 Calls prog 127 #[s.val] w (fun e w'=> ∃s':Shp,e=.returned s'.val∧s'.arr=s.arr∧s'.refs=s.refs∧(∀a,s'.A=some a→w.heap.size≤a.block)∧s'.Ok w'∧Ext w w'):=by
 have hl:s.refs.length≤140737488355328:=hs.max;have HC:=zH (fun w' (he:Ext w w')=>ye2 s.A s.cap s.refs w' (hs.refs.ext he) hl);obtain ⟨arr,A,cap,refs⟩:=s;unfold Shp.val;simp only at HC ⊢;go_enter func127,ntmps127;go_wp2_with fail;refine yab [zT,zT,zT,zT,zU,zU,zU] 3 6 ?_;intro X00;simp only [pickOps];repeat (go_big_quiet_step (fail))
 refine wpQuiet_nil (fun X0=>?_);clear X00;refine yah 4 _ zQ rfl rfl zd (fun X1 K Q' hK=>?_);go_simp;refine (HC.o _ zE).mono ?_;rintro e w1 ⟨A',cap',rfl,hcell,hle,hfr,X3,rfl⟩;refine hK _ _ ?_ ?_
 · exact zE
 clear hK K Q';refine yah 5 _ zQ rfl rfl zd (fun X1 K Q' hK=>?_);go_simp;refine hK _ _ ?_ ?_
 · exact zE
 clear hK K Q';refine yaj 6 _ zQ zQ rfl rfl (fun X1 K Q' hK=>?_);go_simp;refine hK _ _ (fun X2=>?_);clear hK K Q';go_wp2_with fail;rw [World.patch_patch] at hcell ⊢;refine bodyPost_ret (v:=.agg #[zb arr,.slice A' refs.length cap']) (by simp [results,Tryz.results127,go_sem]) rfl ⟨⟨arr,A',cap',refs⟩,rfl,rfl,rfl,(fun a ha=>Nat.le_trans (Ext.size zE) (hfr a ha)),⟨hcell.rebase (fun a ha=>Nat.le_trans (Ext.size ⟨_,rfl⟩) (hfr a ha)) (by simp) ⟨_,by simp only [Array.append_assoc];rfl⟩,hle,hl⟩,zE⟩
def ShapeGot (c:Cnf) (k:Int) (w:World) (e:Ending) (w':World):Prop:=
 ∃s':Shp,e=.returned (.tuple #[s'.val,zb (c.shapeAt k).isSome])∧(s'.arr,s'.refs)=(c.shapeAt k).getD (false,[])∧(∀a,s'.A=some a→w.heap.size≤a.block)∧s'.Ok w'∧Ext w w'
theorem yaA (c:Cnf) (k:Int) (w:World) (hc:c.Ok w):Calls prog 195 #[c.val,zI z6 k] w (ShapeGot c k w):=by
 have hl:=hc.max;unfold Cnf.val;by_cases h0:k<0
 · go_enter func195,ntmps195;go_wp2_with fail;refine bodyPost_ret (v:=.tuple #[.agg #[zb false,.slice none 0 0],zb false]) (by simp [results,Tryz.results195,go_sem]) rfl ?_;exact ⟨⟨false,none,0,[]⟩,by rw [Cnf.shapeAt_neg h0];rfl,by rw [Cnf.shapeAt_neg h0];rfl,(fun a h=>by cases h),⟨CellsAt.nil _ _,by simp,by simp⟩,zE⟩
 · by_cases h1:k<c.shapes.length
   · obtain ⟨n,rfl⟩:=Int.eq_ofNat_of_zero_le (show 0≤k by omega);have h2:n<c.shapes.length:=zo;obtain ⟨b,o,hA,hb,g0,g1⟩:=ycP hc.cells h2;rw [hA];have hsk:=hc.shapes _ (List.getElem_mem h2);have HC:=zH (fun w' (he:Ext w w')=>ydB c.shapes[n] w' (hsk.ext he));have HS:=zH (Cnf.shapeAt_in (List.getElem?_eq_getElem h2));generalize c.shapes[n]=s at *;clear hc hA;go_enter func195,ntmps195;go_wp2_with fail;refine (HC.o _ zE).mono ?_;rintro e w1 ⟨s',rfl,ha,hr,hfr,hok,X,rfl⟩;unfold Shp.val;have HA:=zH ha;have HR:=zH hr;clear ha hr;go_wp2_with fail;refine bodyPost_ret (v:=.tuple #[.agg #[zb s'.arr,.slice s'.A s'.refs.length s'.cap],zb true]) (by simp [results,Tryz.results195,go_sem]) rfl ?_;exact ⟨s',by rw [HS.o];rfl,by rw [HS.o,HA.o,HR.o];rfl,(fun a ha=>Nat.le_trans (Ext.size zE) (hfr a ha)),hok.rebase hfr (by simp) ⟨#[],by simp⟩,zE⟩
   · have h2:(c.shapes.length:Int)≤k:=zo;clear h1;go_enter func195,ntmps195;go_wp2_with fail;refine bodyPost_ret (v:=.tuple #[.agg #[zb false,.slice none 0 0],zb false]) (by simp [results,Tryz.results195,go_sem]) rfl ?_;exact ⟨⟨false,none,0,[]⟩,by rw [Cnf.shapeAt_big h2];rfl,by rw [Cnf.shapeAt_big h2];rfl,(fun a h=>by cases h),⟨CellsAt.nil _ _,by simp,by simp⟩,zE⟩
end Go.Proofs.YtdhjjpnajjingaaGreat
namespace Go
open Go.RowKit
theorem yh9 (l:List Bool) (f i:Nat):PoolS.lowGo l 0 f i=[]:=by cases f<;>rfl
theorem yjM (l:List Bool) (k i:Nat):PoolS.lowGo l k 0 i=[]:=rfl
theorem yjN {l:List Bool} {k f i:Nat} (hk:0<k) (h:l.getD i false=true):PoolS.lowGo l k (f+1) i=(i:Int)::PoolS.lowGo l (k-1) f (i+1):=by
 rw [PoolS.lowGo,if_neg zo,if_pos h]
theorem yk4 {l:List Bool} {k f i:Nat} (hk:0<k) (h:l.getD i false=false):PoolS.lowGo l k (f+1) i=PoolS.lowGo l k f (i+1):=by
 rw [PoolS.lowGo,if_neg zo,if_neg (by rw [h];simp)]
namespace PoolS
theorem takes_snoc (p:PoolS) (acc:List Int) (k:Nat):p.takes (acc++[(k:Int)])=⟨(p.takes acc).l.set k false⟩:=by
 unfold takes;rw [List.foldl_append];rfl
theorem takes_len (p:PoolS) (acc:List Int):(p.takes acc).l.length=p.l.length:=by
 unfold takes;simp only;generalize p.l=l;induction acc generalizing l with
 |nil=>rfl
 |cons x acc ih=>rw [List.foldl_cons,ih,List.length_set]
theorem takes_getD (p:PoolS) (acc:List Int) (q:Nat) (h: ∀x∈acc,x.toNat≠q):(p.takes acc).l.getD q false=p.l.getD q false:=by
 unfold takes;simp only;generalize p.l=l;induction acc generalizing l with
 |nil=>rfl
 |cons x acc ih=>
  rw [List.foldl_cons,ih (fun y hy=>h y (List.mem_cons_of_mem _ hy)),List.getD_eq_getElem?_getD,List.getElem?_set_ne (h x List.mem_cons_self), ←List.getD_eq_getElem?_getD]
theorem below_snoc {acc:List Int} {j:Nat} (h: ∀x∈acc,x.toNat<j): ∀x∈acc++[(j:Int)],x.toNat<j+1:=by
 intro x hx;rcases List.mem_append.1 hx with hx|hx
 · have:=h x hx;omega
 · simp at hx;subst hx;simp
theorem ych {l:List Bool} {k:Nat}: ∀(j m a:Nat),runGo l k j m=some a→(∀q,j≤q→q<j+m→l.getD q false=true)→m<k→j+m≤l.length→a+k≤l.length∧ ∀q,a≤q→q<a+k→l.getD q false=true
 |0,_,_,h,_,_,_=>by cases h
 |j+1,m,a,h,hq,hm,hl=>by
  unfold runGo at h;split at h
  · rename_i hj
    split at h
    · rename_i hk
      injection h with h;subst h;refine ⟨zo,fun q h1 h2=>?_⟩;by_cases hqj:q=j
      · subst hqj;exact hj
      · exact hq q zo zo
    · refine ych j (m+1) a h (fun q h1 h2=>?_) zo zo;by_cases hqj:q=j
      · subst hqj;exact hj
      · exact hq q zo zo
  · exact ych j 0 a h (fun q h1 h2=>by omega) zo zo
theorem run_spec {p:PoolS} {k:Int} {a:Nat} (h:p.run k=some a):1≤k∧a+k.toNat≤p.l.length∧ ∀q,a≤q→q<a+k.toNat→p.l.getD q false=true:=by
 unfold run at h;split at h
 · cases h
 · exact ⟨zo,ych _ 0 a h (fun q h1 h2=>by omega) zo zo⟩
def span (a k:Nat):List Int:=(List.range k).map fun j=>((a+j:Nat):Int)
theorem span_succ (a k:Nat):span a (k+1)=span a k++[((a+k:Nat):Int)]:=by unfold span;rw [List.range_succ,List.map_append];rfl
theorem span_len (a k:Nat):(span a k).length=k:=by simp [span]
theorem span_mem {a k:Nat} {x:Int} (h:x∈span a k): ∃j,j<k∧x=((a+j:Nat):Int):=by
 simp only [span,List.mem_map,List.mem_range] at h;obtain ⟨j,hj,rfl⟩:=h;exact ⟨j,hj,rfl⟩
end PoolS
end Go
namespace Go.Proofs.YtdhjjpnajjingaaGreat
open Go Go.RowKit
theorem ydn (g:GW) (t b:Nat) (k:Int) (p:PoolS) (h:PoolAt g t b p) (ht:t≠0) (hk2:k≤1099511627776):
 Calls prog 245 #[zp (some ⟨b,0,none⟩),zI z6 k] g.w (Makes g (fun x=>x=t) (fun v g'=>PoolAt g' t b (p.takes (p.lowOnes k))∧Row g' 0 3 1 v (p.lowOnes k).length ((p.lowOnes k).map (zI z6)))):=by
 obtain ⟨i0,hi,hz0,hz1,hz2⟩:=info_parts ya7;have HT:=zH ht;have hlen:=h.len;have HP:=zH h;clear h ht;go_enter func245,ntmps245;go_wp2_with fail
 go_loopw [5,6] (fun v i wr=> ∃(j:Nat) (acc:List Int) (own:Nat→Nat),j≤p.l.length∧acc.length≤k.toNat∧acc.length≤j∧i=zI z6 j∧Hid (p.lowOnes k=acc++PoolS.lowGo p.l (k.toNat-acc.length) (p.l.length-j) j)∧Hid (∀x∈acc,x.toNat<j)∧
  Hid (Mod (fun x=>x=t) g ⟨own,wr⟩)∧Hid (PoolAt ⟨own,wr⟩ t b (p.takes acc))∧Hid (Mine g ⟨own,wr⟩ 3 1 v acc.length (acc.map (zI z6)))) (fun _ i _=>p.l.length-(intOf i).toNat)
 case atStart=>exact ⟨0,[],g.own,Nat.zero_le _,Nat.zero_le _,Nat.le_refl _,rfl,zH rfl,zH (by simp),zH (Mod.refl _ _),HP,zH (Mine.nil _ _ _ _)⟩
 case round=>
  obtain ⟨j,acc,own,hj,hm,hmj,rfl,HL,HA,HM,HQ,HR⟩:=hrel;have hQl:=PoolS.takes_len p acc;obtain ⟨A,c,hb,hr⟩:=HQ.o.ex;have c0:=hb.cell (i:=0) rfl;simp only at c0;rw [hQl] at c0;obtain ⟨A5,c5,hv5⟩:=yak HR.o.row.row;subst hv5;clear hb hr;have hQlH:=zH hQl;clear hQl;by_cases hlt:j<p.l.length
  · by_cases hmk:acc.length<k.toNat
    · have hd:decide ((acc.length:Int)<k)=true:=decide_eq_true zo;obtain ⟨r,c',hb', -,hrl,k0, -, -⟩:=HQ.o.place (k:=j) (by rw [hQlH.o];exact hlt);have c0':=hb'.cell (i:=0) rfl;simp only at c0' k0 hrl;rw [hQlH.o] at c0';rw [PoolS.takes_getD _ _ _ (fun x hx e=>by have:=HA.o x hx;omega)] at k0;rw [c0'] at c0;injection c0 with c0;injection c0 with e1 _ e2;subst e1 e2;have c0:=c0';clear hb' c0';cases hx:p.l.getD j false
      · rw [hx] at k0;have HN:=zH (HL.o.trans (by rw [show p.l.length-j=(p.l.length-(j+1))+1 by omega,yk4 zo hx]));clear hx;go_wp2_with fail;go_roundw
        case rel=>exact ⟨j+1,acc,own,zo,hm,zo,by go_num,HN,zH (fun x hx=>by have:=HA.o x hx;omega),HM,HQ,HR⟩
        case measure=>simp [intOf];omega
      · rw [hx] at k0;have HN:=zH (HL.o.trans (by rw [show p.l.length-j=(p.l.length-(j+1))+1 by omega,yjN zo hx,List.append_cons,show k.toNat-acc.length-1=k.toNat-(acc++[(j:Int)]).length by simp;omega]));have HX:=zH (show (p.takes acc).l.getD j false=true by rw [PoolS.takes_getD _ _ _ (fun x hx e=>by have:=HA.o x hx;omega)];exact hx);clear hx;go_wp2_with fail;refine (ydL ⟨own,wr⟩ t b j _ HQ.o (by rw [hQlH.o];exact hlt) HX.o).mono ?_;rintro e w1 ⟨rfl,own1,m1,a1⟩;have M1:=zH (Mod.trans HM.o m1);have Q1:=zH (PoolS.takes_snoc p acc j▸a1);have R1:=zH (HR.o.keep m1 (fun e=>HT.o e.symm));clear m1 a1 c0 k0 hrl;go_wp2_with (at_builtin;refine wpList_append_own_at _ rfl (.tmp 32) (.tmp 34) 97 rfl 0 3 i0 (zI z6 0) 1 8 Tryz.underlying97 hi hz0 hz1 hz2 rfl zd _ _ _ rfl (R1.o.row.row.alloc _) ⟨w1.heap.size,0,none⟩ 1 1 [zI z6 (j:Int)] rfl rfl (cell_one_new _ _ _) (by intro u hu;simp at hu;subst hu;rfl) (by unfold maxLen;omega) zo (Nat.zero_le _) ?_;intro v2 w2 hown hgrow hnil hat);obtain ⟨own2,m2,r2,k2⟩:=R1.o.app M1.o (Ext.alloc (Ext.refl _) _) hown hgrow hat;have M2:=zH m2;have R2:=zH r2;have Q2:=zH (Q1.o.keep k2 HT.o);clear m2 r2 k2 hown hgrow hnil hat
        go_wp2_with fail;go_roundw
        case rel=>exact ⟨j+1,acc++[(j:Int)],own2,zo,by simp;omega,by simp;omega,by go_num,HN,zH (PoolS.below_snoc HA.o),M2,Q2,zH ⟨R2.o.row.weak (by simp) (by simp),R2.o.new⟩⟩
        case measure=>simp [intOf];omega
    · have hd:decide ((acc.length:Int)<k)=false:=decide_eq_false zo;have HN:=zH (HL.o.trans (by rw [show k.toNat-acc.length=0 by omega,yh9,List.append_nil]));go_wp2_with fail;go_ret;exact ⟨_,own,rfl,HM.o,by rw [HN.o];exact HQ.o,by rw [HN.o];exact HR.o.row⟩
  · obtain rfl:j=p.l.length:=zo;have HN:=zH (HL.o.trans (by rw [show p.l.length-p.l.length=0 by omega,yjM,List.append_nil]));go_wp2_with fail;go_ret;exact ⟨_,own,rfl,HM.o,by rw [HN.o];exact HQ.o,by rw [HN.o];exact HR.o.row⟩
def TookIt (t b:Nat) (p:PoolS) (l:List Int) (v:Value) (g':GW):Prop:= ∃s,v=.tuple #[s,zb true]∧Row g' 0 3 1 s l.length (l.map (zI z6))∧PoolAt g' t b (p.takes l)
theorem yfh (g:GW) (t b:Nat) (k:Int) (l:List Int) (p:PoolS) (h:PoolAt g t b p) (ht:t≠0) (hl:p.taken k=some l):
 Calls prog 236 #[zp (some ⟨b,0,none⟩),zI z6 k] g.w (Makes g (fun x=>x=t) (TookIt t b p l)):=by
 obtain ⟨i0,hi,hz0,hz1,hz2⟩:=info_parts ya7;have hlen:=h.len;have hfr:p.free≤1024:=Nat.le_trans List.countP_le_length hlen
 have hk:1≤k∧k≤p.free:=by
  unfold PoolS.taken at hl;split at hl
  · cases hl
  · omega
 obtain ⟨hk1,hk2⟩:=hk;have HRun:=zH (yf9 g t b k p h zo);obtain ⟨A,c,hb,hr⟩:=h.ex;have c1:=hb.cell (i:=1) rfl;have HT:=zH ht;have HP:=zH h;cases hrun:p.run k with
 |none=>
  obtain rfl:p.lowOnes k=l:=by
   unfold PoolS.taken at hl;rw [if_neg zo,hrun] at hl;exact Option.some.inj hl
  have HL:=zH (ydn g t b k p h ht zo);rw [hrun] at HRun;unfold runVal at HRun;clear hb hr h ht hrun hl;generalize p.free=f at *;go_enter func236,ntmps236;go_wp2_with fail;refine (HRun.o).mono ?_;rintro e w1 ⟨rfl,rfl⟩;go_wp2_with fail;refine HL.o.mono ?_;rintro e w1 ⟨v,own1,rfl,m1,a1,r1⟩;have M1:=zH m1;have Q1:=zH a1;have R1:=zH r1;clear m1 a1 r1;go_wp2_with fail;go_ret2;exact ⟨_,own1,rfl,M1.o,_,rfl,R1.o,Q1.o⟩
 |some a=>
  obtain rfl:PoolS.span a k.toNat=l:=by
   unfold PoolS.taken at hl;rw [if_neg zo,hrun] at hl;exact Option.some.inj hl
  obtain ⟨-,ha,hq⟩:=PoolS.run_spec hrun;have HQ0:=zH hq;rw [hrun] at HRun;unfold runVal at HRun;clear hb hr h ht hrun hl hq;generalize p.free=f at *;obtain ⟨kn,rfl⟩:=Int.eq_ofNat_of_zero_le (show 0≤k by omega);rw [Int.toNat_natCast] at *;go_enter func236,ntmps236;go_wp2_with fail;refine (HRun.o).mono ?_;rintro e w1 ⟨rfl,rfl⟩;go_wp2_with fail;go_loopw [8,9] (fun v i wr=> ∃(j:Nat) (own:Nat→Nat),j≤kn∧i=zI z6 ((a:Int)+j)∧Hid (Mod (fun x=>x=t) g ⟨own,wr⟩)∧Hid (PoolAt ⟨own,wr⟩ t b (p.takes (PoolS.span a j)))∧Hid (Mine g ⟨own,wr⟩ 3 1 v j ((PoolS.span a j).map (zI z6)))) (fun _ i _=>(a+kn-intOf i).toNat)
  case atStart=>exact ⟨0,g.own,Nat.zero_le _,by simp,zH (Mod.refl _ _),HP,zH (Mine.nil _ _ _ _)⟩
  case round=>
   obtain ⟨j,own,hj,rfl,HM,HQ,HR⟩:=hrel;obtain ⟨A5,c5,hv5⟩:=yak HR.o.row.row;subst hv5;rw [show ((a:Int)+(j:Int))=((a+j:Nat):Int) by omega];by_cases hlt:j<kn
   · have HX:=zH (show (p.takes (PoolS.span a j)).l.getD (a+j) false=true by
      rw [PoolS.takes_getD _ _ _ (fun x hx e=>by obtain ⟨i,hi,rfl⟩:=PoolS.span_mem hx;rw [Int.toNat_natCast] at e;omega)];exact HQ0.o _ zo zo)
     have hd:decide (((a+j:Nat):Int)<(a:Int)+kn)=true:=decide_eq_true zo;go_wp2_with fail;refine (ydL ⟨own,wr⟩ t b (a+j) _ HQ.o (by rw [PoolS.takes_len];omega) HX.o).mono ?_;rintro e w1 ⟨rfl,own1,m1,a1⟩;have M1:=zH (Mod.trans HM.o m1);have Q1:=zH (show PoolAt ⟨own1,w1⟩ t b (p.takes (PoolS.span a (j+1))) by rw [PoolS.span_succ,PoolS.takes_snoc];exact a1);have R1:=zH (HR.o.keep m1 (fun e=>HT.o e.symm));clear m1 a1;go_wp2_with (at_builtin;refine wpList_append_own_at _ rfl (.tmp 42) (.tmp 44) 97 rfl 0 3 i0 (zI z6 0) 1 8 Tryz.underlying97 hi hz0 hz1 hz2 rfl zd _ _ _ rfl (R1.o.row.row.alloc _) ⟨w1.heap.size,0,none⟩ 1 1 [zI z6 ((a+j:Nat):Int)] rfl rfl (cell_one_new _ _ _) (by intro u hu;simp at hu;subst hu;rfl) (by unfold maxLen;omega) zo (Nat.zero_le _) ?_;intro v2 w2 hown hgrow hnil hat);obtain ⟨own2,m2,r2,k2⟩:=R1.o.app M1.o (Ext.alloc (Ext.refl _) _) hown hgrow hat;have M2:=zH m2;have R2:=zH r2;have Q2:=zH (Q1.o.keep k2 HT.o);clear m2 r2 k2 hown hgrow hnil hat;go_wp2_with fail;go_roundw
     case rel=>exact ⟨j+1,own2,zo,by go_num,M2,Q2,zH ⟨R2.o.row.weak rfl (by rw [PoolS.span_succ];simp),R2.o.new⟩⟩
     case measure=>simp [intOf];omega
   · obtain rfl:j=kn:=zo;have hd:decide (((a+j:Nat):Int)<(a:Int)+j)=false:=decide_eq_false zo;go_wp2_with fail;go_ret2;exact ⟨_,own,rfl,HM.o,_,rfl,HR.o.row.weak (PoolS.span_len _ _).symm rfl,HQ.o⟩
def PoolMade (n:Int) (t:Nat) (g:GW) (e:Ending) (w':World):Prop:=
 if 0≤n∧n≤1024 then∃own' b,e=.returned (.tuple #[zp (some ⟨b,0,none⟩),zI z6 0])∧Mod (fun _=>False) g ⟨own',w'⟩∧PoolAt ⟨own',w'⟩ t b ⟨List.replicate n.toNat true⟩
 else e=.returned (.tuple #[zp none,zI z6 1])∧Ext g.w w'
theorem yje {n k:Nat} (h:k<n):(List.replicate k true++List.replicate (n-k) false).set k true=List.replicate (k+1) true++List.replicate (n-(k+1)) false:=by
 rw [show n-k=(n-(k+1))+1 by omega,List.replicate_succ,List.set_append_right _ _ (by simp),List.length_replicate,Nat.sub_self,List.set_cons_zero,List.replicate_succ',List.append_assoc];rfl
theorem yld (n:Int) (t:Nat) (g:GW):Calls prog 121 #[zI z6 n] g.w (PoolMade n t g):=by
 obtain ⟨i0,hi,hz0,hz1,hz2⟩:=info_parts yfR;by_cases h0:n<0
 · have HV:=zH (show¬(0≤n∧n≤1024) by omega);go_enter func121,ntmps121;go_wp2_with fail;go_ret2;unfold PoolMade;rw [if_neg HV.o];exact ⟨rfl,Ext.refl _⟩
 by_cases h1:1024<n
 · have HV:=zH (show¬(0≤n∧n≤1024) by omega);go_enter func121,ntmps121;go_wp2_with fail;go_ret2;unfold PoolMade;rw [if_neg HV.o];exact ⟨rfl,Ext.refl _⟩
 obtain ⟨k,rfl⟩:=Int.eq_ofNat_of_zero_le (show 0≤n by omega);have HV:=zH (show (0:Int)≤k∧(k:Int)≤1024 by omega);have hmk:=ybR (P:=prog) 69 4 i0 _ 1 1 Tryz.underlying69 hi hz0 hz1 hz2 k zo zo;simp only [Value.cells,ydi] at hmk;have hk:k≤1024:=zo;go_enter func121,ntmps121;go_wp2_with fail;obtain ⟨q1,q2⟩:=yaI g.w (.cells (List.replicate k (zb false)).toArray 4) (.cells #[.slice (some ⟨g.w.heap.size,0,none⟩) k k,zI z6 k] 148);have HB:=zH (Blk.made (g:=g) (t:=t) q2 zo);have HR:=zH (Row.made (g:=g) (t:=t) (n:=k) (size:=1) q1 (Nat.le_refl _) (by simp) zo);have HE:=zH (Mod.ext (T:=fun _=>False) (show Ext g.w ((g.w.alloc (.cells (List.replicate k (zb false)).toArray 4)).alloc (.cells #[.slice (some ⟨g.w.heap.size,0,none⟩) k k,zI z6 k] 148)) from zE) t);have hsz:g.w.heap.size<((g.w.alloc (.cells (List.replicate k (zb false)).toArray 4)).alloc (.cells #[.slice (some ⟨g.w.heap.size,0,none⟩) k k,zI z6 k] 148)).heap.size:=by rw [World.size_alloc,World.size_alloc];omega
 clear q1 q2;have c0:=HB.o.cell (i:=0) rfl;simp only [GW.to] at c0;go_loopw [22] (fun i wr=> ∃(j:Nat) (own:Nat→Nat),j≤k∧i=zI z6 j∧Hid (Mod (fun _=>False) g ⟨own,wr⟩)∧Hid (Blk ⟨own,wr⟩ t (g.w.heap.size+1) 148 [.slice (some ⟨g.w.heap.size,0,none⟩) k k,zI z6 k])∧Hid (Row ⟨own,wr⟩ t 4 1 (.slice (some ⟨g.w.heap.size,0,none⟩) k k) k ((List.replicate j true++List.replicate (k-j) false).map Value.bool))) (fun i _=>k-(intOf i).toNat)
 case atStart=>exact ⟨0,_,Nat.zero_le _,rfl,HE,HB,zH (HR.o.weak rfl (by simp))⟩
 case round=>
  obtain ⟨j,own,hj,rfl,M,B,R⟩:=hrel;clear c0 hsz HE HB HR;by_cases hlt:j<k
  · obtain ⟨r,hr,hrl,ho,hcell,hfr⟩:=R.o.block zo;simp only [Option.some.injEq,Addr.mk.injEq,and_true] at hr;obtain rfl:=hr;have k0:=hcell j (zb false) (by rw [List.getElem?_map,List.getElem?_append_right (by simp),List.length_replicate,Nat.sub_self,List.getElem?_replicate,if_pos zo];rfl);have kf:=hfr j;simp only at k0 kf hrl;have c0:=B.o.cell (i:=0) rfl;simp only at c0;clear hcell hfr ho;go_wp2_with fail;go_roundw
    case rel=>exact ⟨j+1,own,zo,by go_num,zH (Mod.stn M.o (Nat.le_refl _)),zH (B.o.setOther j _ zo),zH ((R.o.store j (zb true)).weak rfl (by rw [←yje hlt,List.map_set]))⟩
    case measure=>simp [intOf];omega
  · obtain rfl:j=k:=zo;go_wp2_with fail;go_ret2;unfold PoolMade;rw [if_pos HV.o];refine ⟨own,_,rfl,M.o,⟨⟨some ⟨g.w.heap.size,0,none⟩,j,?_,?_⟩,by simpa using hk⟩⟩
    · have:=B.o;simpa [PoolS.free,List.countP_replicate] using this
    · have:=R.o;simpa using this
end Go.Proofs.YtdhjjpnajjingaaGreat
namespace Go
open Go.RowKit
structure StockS where
 l:List Int
 most:Int
end Go
namespace Go.Proofs.YtdhjjpnajjingaaGreat
open Go Go.RowKit
structure StockAt (g:GW) (t b:Nat) (s:StockS):Prop where
 ex: ∃A c,Blk g t b 229 [.slice A s.l.length c,zI z6 s.most]∧Row g t 3 1 (.slice A s.l.length c) s.l.length (s.l.map (zI z6))
 most:0≤s.most∧s.most≤8
 len:(s.l.length:Int)≤s.most
theorem StockAt.keep {S:Nat→Prop} {g g':GW} {t b:Nat} {s:StockS} (h:StockAt g t b s) (d:Mod S g g') (hs: ¬S t):StockAt g' t b s:=by
 obtain ⟨A,c,h1,h2⟩:=h.ex;exact ⟨⟨A,c,h1.keep d hs,h2.keep d hs⟩,h.most,h.len⟩
theorem StockAt.pt {g:GW} {t b:Nat} {s:StockS} (h:StockAt g t b s) (X:Extra):StockAt (g.pt X) t b s:=h.keep (S:=fun _=>False) (Mod.pt (Mod.refl _ _) X) id
theorem ycl (g:GW) (t b:Nat) (s:StockS) (h:StockAt g t b s):
 Calls prog 246 #[zp (some ⟨b,0,none⟩)] g.w (Gives (zI z6 (s.most-s.l.length)) g.w):=by
 obtain ⟨A,c,hb,hr⟩:=h.ex;have c0:=hb.cell (i:=0) rfl;have c1:=hb.cell (i:=1) rfl;have hbl:=hb.lt;obtain ⟨h1,h2⟩:=h.most;have h3:=h.len;clear hb hr h;generalize s.l.length=n at *;generalize s.most=m at *;have hw:=IntWalk.i64_in (m-n) zo;go_enter func246,ntmps246;go_wp2_with fail;refine yab [zT,zT,zT,zT,zT,zT,zT,zT,zT,zT,zT] 0 11 ?_;intro X00;simp only [pickOps];repeat (go_big_quiet_step (fail))
 refine wpQuiet_nil (fun X0=>?_);clear X00;refine yaa zQ (fun X0'=>?_) _;go_wp2_with fail;go_ret;exact Gives.int rfl zE
theorem yg0 (g:GW) (t b:Nat) (s:StockS) (h:StockAt g t b s):
 Calls prog 130 #[zp (some ⟨b,0,none⟩)] g.w (Makes g (fun x=>x=t) (fun v g'=>StockAt g' t b ⟨[],s.most⟩∧Row g' t 3 1 v s.l.length (s.l.map (zI z6)))):=by
 obtain ⟨A,c,hb,hr⟩:=h.ex;have c0:=hb.cell (i:=0) rfl;have f0:=hb.live 0;have hbl:=hb.lt;have HB:=zH hb;have HR:=zH hr;have HM:=zH h.most;clear hb hr h;go_enter func130,ntmps130;go_wp2_with fail;go_ret;exact ⟨_,g.own,rfl,Mod.st Mod.self HB.o.own,⟨⟨none,0,HB.o.set 0 _,Row.nil _ _ _ _⟩,HM.o,by simpa using HM.o.1⟩,HR.o.setOther _ _ (fun x hx=>HR.o.ne_type HB.o zd hx)⟩
theorem ykp (n:Int) (t:Nat) (g:GW) (hn:0≤n∧n≤8):Calls prog 124 #[zI z6 n] g.w (fun e w'=> ∃b,e=.returned (.tuple #[zp (some ⟨b,0,none⟩),zI z6 0])∧Mod (fun _=>False) g (g.to t w')∧StockAt (g.to t w') t b ⟨[],n⟩∧Ext g.w w'∧g.w.heap.size≤b∧b<w'.heap.size):=by
 have HV:=zH hn;obtain ⟨h0,h1⟩:=hn;go_enter func124,ntmps124;go_wp2_with fail;go_ret2;have he:Ext g.w (g.w.alloc (.cells #[.slice none 0 0,zI z6 n] 229)):=zE;exact ⟨_,rfl,Mod.ext he t,⟨⟨none,0,Blk.made (World.row_alloc_new _) (Nat.le_refl _),Row.nil _ _ _ _⟩,HV.o,HV.o.1⟩,he,Nat.le_refl _,by rw [World.size_alloc];omega⟩
theorem yfk (g:GW) (t b:Nat) (k:Int) (s:StockS) (h:StockAt g t b s) (hk:k<1∨(s.l.length:Int)<k):
 Calls prog 243 #[zp (some ⟨b,0,none⟩),zI z6 k] g.w (fun e w'=>e=.returned (.tuple #[.slice none 0 0,zb false])∧g.w=w'):=by
 obtain ⟨A,c,hb,hr⟩:=h.ex;have c0:=hb.cell (i:=0) rfl;clear hb hr h;generalize s.l.length=n at *;by_cases h1:k<1
 · clear hk;go_enter func243,ntmps243;go_wp2_with fail;go_ret2;exact ⟨rfl,rfl⟩
 · have h2:(n:Int)<k:=zo;clear hk;go_enter func243,ntmps243;go_wp2_with fail;go_ret2;exact ⟨rfl,rfl⟩
theorem yep (g:GW) (t b k:Nat) (s:StockS) (h:StockAt g t b s) (ht:t≠0) (hk:1≤k) (hk2:k≤s.l.length):
 Calls prog 243 #[zp (some ⟨b,0,none⟩),zI z6 k] g.w (Makes g (fun x=>x=t) (fun v g'=> ∃x,v=.tuple #[x,zb true]∧StockAt g' t b ⟨s.l.drop k,s.most⟩∧Row g' 0 3 1 x k ((s.l.take k).map (zI z6)))):=by
 obtain ⟨A,c,hb,hr⟩:=h.ex;obtain ⟨r,rfl,hrl, -, -, -⟩:=hr.block zo;obtain ⟨A',c',hv,hnc,hc63, -⟩:=hr.form;injection hv with e1 _ e3;subst e3;have hm1:=h.most;have hm2:=h.len;have HT:=zH ht;have H:=zH h;have HB:=zH hb;have HR:=zH hr;have c0:=hb.cell (i:=0) rfl;have f0:=hb.live 0;have hbl:=hb.lt;have HC1:=zH (fun w' (he:Ext g.w w')=>ybp (some ⟨r,0,none⟩) c k (s.l.take k) 0 ⟨g.own,w'⟩ (by simp;omega) (by rw [List.map_take];exact (hr.cells.ext he).take k) zo);have HL2:=zH (show (s.l.drop k).length=s.l.length-k by simp);generalize hn:s.l.length=n at *;have HN:=zH hn;clear hb hr h hn e1 ht;have hd1: ¬((n:Int)<k):=zo;by_cases hkc:k=c
 · subst hkc;go_enter func243,ntmps243;go_wp2_with fail;refine (HC1.o _ (Ext.refl _)).mono ?_;rintro e w1 ⟨A1,c1,rfl,m1,r1,he1,fr1⟩;have M1:=zH m1;have R1:=zH r1;have HE1:=zH (show Ext g.w w1 from he1);have d0:=(HE1.o.cell hbl).trans c0;have e0:=(HE1.o.live hbl).trans f0;have hbl1:=Nat.lt_of_lt_of_le hbl HE1.o.size;clear m1 r1 he1 fr1 c0 f0;go_wp2_with fail;have hnk:k=n:=zo;subst hnk;have HD:s.l.drop k=[]:=List.drop_eq_nil_of_le (by rw [HN.o];exact Nat.le_refl _);have HC2:=zH (ybp (some ⟨r,0,none⟩) 0 0 [] t (GW.to g 0 w1) rfl (CellsAt.nil _ _) zo);refine HC2.o.mono ?_;rintro e w2 ⟨A2,c2,rfl,m2,r2,he2,fr2⟩;have M2:=zH m2;have R2:=zH r2;have HE2:=zH (show Ext w1 w2 from he2);have B2:=zH ((HB.o.keep M1.o id).keep m2 id);have HA2:=zH (show∀x,(Value.slice A2 0 c2).ownBlock=some x→b≠x from fun x hx=>r2.ne_type B2.o zd hx);have g0:=(HE2.o.cell hbl1).trans d0;have gf:=(HE2.o.live hbl1).trans e0;have hbl2:=Nat.lt_of_lt_of_le hbl1 HE2.o.size;have X1:=zH (R1.o.ext he2 t);clear m2 r2 he2 fr2 d0 e0;go_wp2_with fail;go_ret2
   refine ⟨_,((g.to 0 w1).to t w2).own,rfl,(Mod.st (g:=g) (((M1.o.trans M2.o).mono zG)) B2.o.own),_,rfl,⟨⟨A2,c2,?_,?_⟩,hm1,?_⟩,?_⟩
   · simp only [HD];exact B2.o.set 0 _
   · simp only [HD];exact R2.o.setOther 0 _ HA2.o
   · simp only [HD];simpa using hm1.1
   · exact (X1.o.setOther 0 _ (fun x hx=>X1.o.ne_type B2.o zd hx)).weak rfl rfl
 · go_enter func243,ntmps243;go_wp2_with fail;refine (HC1.o _ (Ext.refl _)).mono ?_;rintro e w1 ⟨A1,c1,rfl,m1,r1,he1,fr1⟩;have M1:=zH m1;have R1:=zH r1;have HE1:=zH (show Ext g.w w1 from he1);have d0:=(HE1.o.cell hbl).trans c0;have e0:=(HE1.o.live hbl).trans f0;have hbl1:=Nat.lt_of_lt_of_le hbl HE1.o.size;clear m1 r1 he1 fr1 c0 f0;go_wp2_with fail;have HC2:=zH (ybp (some ⟨r,k,none⟩) (c-k) (n-k) (s.l.drop k) t (GW.to g 0 w1) HL2.o (by rw [List.map_drop];have:=(HR.o.cells.ext HE1.o).sub k;simp only [Option.map,Addr.add] at this;rw [if_neg zo,Nat.zero_add] at this;exact this) zo);refine HC2.o.mono ?_;rintro e w2 ⟨A2,c2,rfl,m2,r2,he2,fr2⟩;have M2:=zH m2;have R2:=zH r2;have HE2:=zH (show Ext w1 w2 from he2);have B2:=zH ((HB.o.keep M1.o id).keep m2 id);have HA2:=zH (show∀x,(Value.slice A2 (n-k) c2).ownBlock=some x→b≠x from fun x hx=>r2.ne_type B2.o zd hx);have g0:=(HE2.o.cell hbl1).trans d0;have gf:=(HE2.o.live hbl1).trans e0;have hbl2:=Nat.lt_of_lt_of_le hbl1 HE2.o.size;have X1:=zH (R1.o.ext he2 t);clear m2 r2 he2 fr2 d0 e0;go_wp2_with fail;go_ret2
   refine ⟨_,((g.to 0 w1).to t w2).own,rfl,(Mod.st (g:=g) (((M1.o.trans M2.o).mono zG)) B2.o.own),_,rfl,⟨⟨A2,c2,?_,?_⟩,hm1,?_⟩,?_⟩
   · simp only [HL2.o];exact B2.o.set 0 _
   · simp only [HL2.o];exact R2.o.setOther 0 _ HA2.o
   · simp only [HL2.o];omega
   · exact (X1.o.setOther 0 _ (fun x hx=>X1.o.ne_type B2.o zd hx)).weak rfl rfl
theorem yeV (g:GW) (t b:Nat) (A:Option Addr) (c:Nat) (l:List Int) (s:StockS) (h:StockAt g t b s) (hl:CellsAt g.w A (l.map (zI z6))) (hA:A=none→l=[]∧c=0) (hm:(s.l.length:Int)+l.length≤s.most):
 Calls prog 247 #[zp (some ⟨b,0,none⟩),.slice A l.length c] g.w (Does (zb true) g (fun x=>x=t) (fun g'=>StockAt g' t b ⟨s.l++l,s.most⟩)):=by
 obtain ⟨i0,hi,hz0,hz1,hz2⟩:=info_parts ya7;obtain ⟨A0,c',hb,hr⟩:=h.ex;have hm1:=h.most;have HRoom:=zH (ycl g t b s h);have HB:=zH hb;have HR:=zH hr;have HM:=zH h.most;have c0:=hb.cell (i:=0) rfl;have f0:=hb.live 0;have hbl:=hb.lt;have hd:decide (s.most-(s.l.length:Int)<(l.length:Int))=false:=decide_eq_false zo;generalize hn:s.l.length=n at *;have HN:=zH hn;clear hb hr h hn;cases A with
 |none=>
  obtain ⟨rfl,rfl⟩:=hA rfl;clear hA hl;simp only [List.length_nil,List.append_nil] at hd hm ⊢;go_enter func247,ntmps247;go_wp2_with fail;refine HRoom.o.mono ?_;rintro e w1 ⟨rfl,X1,rfl⟩;have R1:=zH (HR.o.ptx X1);go_wp2_with (at_builtin;refine wpList_append_own_none rfl (.tmp 14) (.tmp 15) 97 rfl 0 3 i0 1 Tryz.underlying97 hi _ _ _ rfl R1.o.row rfl ?_);go_ret;(try rw [World.patch_patch]);refine Does.of (GW.pt ⟨g.own,_⟩ _) rfl rfl (Mod.pt (Mod.st Mod.self HB.o.own) _) (StockAt.pt (s:=⟨s.l,s.most⟩) ⟨⟨A0,c',?_,?_⟩,HM.o,?_⟩ _)
  · simp only [HN.o];exact HB.o.set 0 _
  · simp only [HN.o];exact HR.o.setOther 0 _ (fun x hx=>HR.o.ne_type HB.o zd hx)
  · simp only [HN.o];omega
 |some ad=>
  have HL:=zH hl;clear hA hl;generalize hm':l.length=m at *;have HM':=zH hm';clear hm';go_enter func247,ntmps247;go_wp2_with fail;refine HRoom.o.mono ?_;rintro e w1 ⟨rfl,X1,rfl⟩;have R1:=zH (HR.o.ptx X1);have B1:=zH (HB.o.pt X1);have L1:=zH (HL.o.patch X1);go_wp2_with (at_builtin;refine wpList_append_own_at _ rfl (.tmp 14) (.tmp 15) 97 rfl 0 3 i0 (zI z6 0) 1 8 Tryz.underlying97 hi hz0 hz1 hz2 rfl zd _ _ _ rfl R1.o.row ad m c (l.map (zI z6)) rfl (by simp [HM'.o]) (ybo L1.o) (by intro u hu;simp at hu;obtain ⟨_,_,rfl⟩:=hu;rfl) (by unfold maxLen;omega) zo (Nat.zero_le _) ?_;intro v2 w2 hown hgrow hnil hat;obtain ⟨A2,c2,rfl⟩:=yak hown;have R2:=zH (R1.o.grown (g:=g.pt X1) hown hat);have B2:=zH (B1.o.grown (t':=t) hgrow (fun x hx=>R1.o.ne_type B1.o zd hx));have M2:=zH ((Mod.pt (Mod.refl (fun x=>x=t) g) X1).trans (Mod.grown hgrow t (fun k hk hl=>R1.o.own k hk)));have d0:=B2.o.cell (i:=0) rfl;have e0:=B2.o.live 0;have hbl2:=B2.o.lt;simp only [GW.to] at d0 e0 hbl2;clear hown hgrow hnil hat c0 f0 hbl);go_ret;refine ⟨rfl,_,Mod.st (g:=g) M2.o B2.o.own,⟨⟨A2,c2,?_,?_⟩,HM.o,?_⟩⟩
  · simp only [List.length_append,HN.o,HM'.o];exact B2.o.set 0 _
  · simp only [List.length_append,HN.o,HM'.o];exact (R2.o.setOther 0 _ (fun x hx=>R2.o.ne_type B2.o zd hx)).weak rfl (by simp)
  · simp only [List.length_append,HN.o,HM'.o];omega
end Go.Proofs.YtdhjjpnajjingaaGreat
namespace Go
open Go.RowKit
structure Ent where
 thread:Int
 frags:Int
 spine:Int
 state:Int
 cycles:Int
 at_:Int
 got:List Int
 noted:Bool
structure EntM where
 e:Ent
 A:Option Addr
 cap:Nat
namespace EntM
def req (m:EntM):List Value:=[zI z6 m.e.thread,zI z6 m.e.frags,zI z6 m.e.spine,zI z6 m.e.state,zI z6 m.e.cycles,zI z6 m.e.at_,.slice m.A m.e.got.length m.cap]
def cells (m:EntM):List Value:=m.req++[zb m.e.noted]
theorem cells_len (m:EntM):m.cells.length=8:=rfl
structure At (g:GW) (t:Nat) (m:EntM):Prop where
 seg:Seg g t m.A (m.e.got.map (zI z6))
 len:m.e.got.length≤1024
theorem At.keep {S:Nat→Prop} {g g':GW} {t:Nat} {m:EntM} (h:At g t m) (d:Mod S g g') (hs: ¬S t):At g' t m:=⟨h.seg.keep d hs,h.len⟩
end EntM
def placeOf (p:Ent→Bool) (l:List Ent):Int:=match l.findIdx? p with|some i=>(i:Int)|none=> -1
theorem ycL {p:Ent→Bool} {l:List Ent} (h: ∀e∈l,p e=false):placeOf p l= -1:=by
 unfold placeOf;rw [List.findIdx?_eq_none_iff.2 h]
theorem ycM {p:Ent→Bool} {l:List Ent} {k:Nat} {e:Ent} (hk:l[k]?=some e) (hp:p e=true) (h: ∀x∈l.take k,p x=false):placeOf p l=k:=by
 obtain ⟨hl,hx⟩:=List.getElem?_eq_some_iff.1 hk
 have:l.findIdx? p=some k:=by
  rw [List.findIdx?_eq_some_iff_getElem];refine ⟨hl,by rw [hx];exact hp,fun j hj=>?_⟩;have:=h l[j] (by rw [List.mem_take_iff_getElem];exact ⟨j,zo,rfl⟩);simp [this]
 unfold placeOf;rw [this]
theorem ybd (p:Ent→Bool) (l:List Ent): -1≤placeOf p l∧placeOf p l<l.length:=by
 unfold placeOf;cases h:l.findIdx? p with
 |none=>simp only;omega
 |some i=>
  obtain ⟨hl,_⟩:=List.findIdx?_eq_some_iff_getElem.1 h;simp only;omega
def ofB (th:Int) (e:Ent):Bool:=e.thread==th
def waitB (e:Ent):Bool:=e.state==0
end Go
