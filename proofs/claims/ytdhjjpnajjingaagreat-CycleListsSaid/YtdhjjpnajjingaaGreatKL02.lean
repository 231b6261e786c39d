import Derived.Test.YtdhjjpnajjingaaGreatKL01
import Derived.Test.YtdhjjpnajjingaaGreatChecked
set_option linter.unusedVariables false
set_option linter.unnecessarySimpa false
set_option linter.unusedSimpArgs false
open Bool renaming true→zT,false→zU
open Go.Value renaming int→zI
open Go.IntKind renaming i64→z6
set_option maxHeartbeats 8000000
set_option maxRecDepth 100000
open Go.Proofs.Tryz
theorem Go.zE {p:Prop} (h:p:=by (repeat (first|(with_reducible (first|assumption|exact Go.Ext.refl _|exact Go.Ext.more _ _ _ _))|apply Go.Ext.alloc|refine Go.Ext.setCell ?_ (by first|exact Nat.le_refl _|exact Nat.le_add_right _ _|assumption) _|apply Go.Ext.patch|apply Go.Ext.drew|apply Go.Ext.drewN))):p:=h
theorem Go.zF {p:Prop} (h:p:=by (repeat (with_reducible (first|assumption|exact Go.Ext.refl _|exact Go.Ext.more _ _ _ _|apply Go.Ext.alloc|apply Go.Ext.patch|apply Go.Ext.drew|apply Go.Ext.drewN|refine Go.Ext.setCell ?_ (by first|assumption|exact Nat.le_refl _|exact Nat.le_add_right _ _) _)))):p:=h
open Go.Lib renaming hid→zH
open Go.Ext renaming alloc→zA,patch→zP,drew→zD,drewN→zN,more→zM,refl→zR,setCell→zS
open Nat renaming le_refl→zL,le_add_right→zK
namespace Go.Proofs.YtdhjjpnajjingaaGreat
open Go Go.RowKit
attribute [local go_sem] Lib.run_eql_slice_nil
def Cloned (t:Nat) (l:List Int) (g:GW) (e:Ending) (w':World):Prop:=
 ∃A' c',e=.returned (.slice A' l.length c')∧Mod (fun _=>False) g (g.to t w')∧Row (g.to t w') t 3 1 (.slice A' l.length c') l.length (l.map (Value.int .i64))∧Ext g.w w'∧(∀a,A'=some a→g.w.heap.size≤a.block)
theorem yka (A:Option Addr) (cap:Nat) (l:List Int) (t:Nat) (g:GW) (hc:CellsAt g.w A (l.map (Value.int .i64))) (hl:l.length≤1099511627776):
 Calls prog 239 #[.slice A l.length cap] g.w (Cloned t l g):=by
 obtain ⟨i0,hi,hz0,hz1,hz2⟩:=info_parts ya1;have hq:=fun w=>Lib.run_eql_slice_nil (P:=prog) w 97 3 A l.length cap 0 0 Tryz.underlying97;rcases A with _|ad
 · obtain rfl:l=[]:=by
    rcases l with _|⟨x,l⟩
    · rfl
    · obtain ⟨b,o,h,_⟩:=hc.at_ (i:=0) (by simp);cases h
   go_enter func239,ntmps239;go_wp2_with fail;go_ret;exact ⟨none,0,rfl,Mod.ext (Ext.refl _) _,Row.nil _ _ _ _,Ext.refl _,fun a h=>by cases h⟩
 · go_enter func239,ntmps239;go_wp2_with (at_builtin;refine wpList_append_own _ rfl (.tmp 5) (.tmp 6) 97 rfl g.w.heap.size 3 i0 (zI z6 0) 1 8 Tryz.underlying97 hi hz0 hz1 hz2 rfl zd _ _ _ rfl (World.ownsRow_made (cap:=0) _ #[] (Nat.le_refl _) zd rfl) ad l.length cap (l.map (Value.int .i64)) rfl (by simp) (ybN (hc.alloc _)) (by intro u hu;simp at hu;obtain ⟨_,_,rfl⟩:=hu;rfl) (by unfold maxLen;omega) zo (by simp) ?_;intro v' w1 hown hgrow hn);simp only [Nat.zero_add,List.nil_append] at hown;obtain ⟨A',c',hv⟩:=yak hown;rw [hv] at hown;have HV:=zH hv;clear hv;go_ret;have he:Ext g.w w1:=yaK (Ext.alloc (Ext.refl _) _) hgrow (fun k hk=>by cases hk;exact Nat.le_refl _);have hf:=ycH hown
   exact ⟨A',c',congrArg Ending.returned HV.out,Mod.ext he _,⟨ycI hown (Nat.zero_le _),fun k hk=>GW.to_new (by
    cases A' with
    |none=>cases hk
    |some a=>injection hk with hk;subst hk;exact hf a rfl)⟩,he,hf⟩
def ClonedN (t n:Nat) (l:List Int) (g:GW) (e:Ending) (w':World):Prop:=
 ∃A' c',e=.returned (.slice A' n c')∧Mod (fun _=>False) g (g.to t w')∧Row (g.to t w') t 3 1 (.slice A' n c') n (l.map (Value.int .i64))∧Ext g.w w'∧(∀a,A'=some a→g.w.heap.size≤a.block)
theorem ybl (A:Option Addr) (cap n:Nat) (l:List Int) (t:Nat) (g:GW) (hn:l.length=n) (hc:CellsAt g.w A (l.map (Value.int .i64))) (hl:n≤1099511627776):
 Calls prog 239 #[.slice A n cap] g.w (ClonedN t n l g):=by
 subst hn;exact yka A cap l t g hc hl
end Go.Proofs.YtdhjjpnajjingaaGreat
namespace Go
open Go.RowKit
def inB (i:Int) (n:Nat):Bool:=decide (0≤i∧i<n)
theorem yam {i:Int} {n:Nat} (h:inB i n=true): ∃k:Nat,i=k∧k<n:=by
 unfold inB at h;simp only [decide_eq_true_eq] at h;exact ⟨i.toNat,zo,zo⟩
theorem yb5 {k n:Nat} (h:k<n):inB (k:Int) n=true:=by unfold inB;simp;omega
theorem ybS {i:Int} {n:Nat} (h:inB i n=false):i<0∨(n:Int)≤i:=by
 unfold inB at h;simp only [decide_eq_false_iff_not] at h;omega
theorem ygB {i:Int} {n:Nat} (h:i<0):inB i n=false:=by unfold inB;simp;omega
theorem ygA {i:Int} {n:Nat} (h:(n:Int)≤i):inB i n=false:=by unfold inB;simp;omega
theorem ycA {α:Type} {f:α→List Value} {s:Nat} (l:List α) (hf: ∀x,(f x).length=s):(l.flatMap f).length=l.length*s:=by
 induction l with
 |nil=>simp
 |cons x l ih=>rw [List.flatMap_cons,List.length_append,hf,ih,List.length_cons,Nat.succ_mul];omega
theorem yaI {α:Type} {f:α→List Value} {s:Nat} (hf: ∀x,(f x).length=s) (l:List α) (k j:Nat) (x:α) (h:l[k]?=some x) (hj:j<s):(l.flatMap f)[k*s+j]?=(f x)[j]?:=by
 induction l generalizing k with
 |nil=>simp at h
 |cons y l ih=>
  rw [List.flatMap_cons];cases k with
  |zero=>
   simp at h;subst h;rw [Nat.zero_mul,Nat.zero_add,List.getElem?_append_left (by rw [hf];exact hj)]
  |succ k=>
   have:=ih k (by simpa using h);rw [List.getElem?_append_right (by rw [hf,Nat.succ_mul];omega),hf, ←this];congr 1
   rw [Nat.succ_mul];omega
structure One where
 state:Nat
 head:Bool
 sense:Bool
 deriving DecidableEq
def One.cells (o:One):List Value:=[.int .i64 o.state,.bool o.head,.bool o.sense]
theorem One.cells_len (o:One):o.cells.length=3:=rfl
structure TabS where
 l:List One
namespace TabS
def at_ (t:TabS) (i:Int):Option One:=if inB i t.l.length then t.l[i.toNat]? else none
def state (t:TabS) (i:Int):Nat:=((t.at_ i).map One.state).getD 0
def head (t:TabS) (i:Int):Bool:=((t.at_ i).map One.head).getD false
def sense (t:TabS) (i:Int):Bool:=((t.at_ i).map One.sense).getD false
def black (t:TabS) (i:Int) (s:Bool):Bool:=t.state i==2&&t.sense i==s
def cnt (t:TabS) (s:Nat):Nat:=t.l.countP (fun o=>o.state==s)
def may (t:TabS) (i s:Int):Bool:=inB i t.l.length&&decide (0≤s∧s≤2)
def set (t:TabS) (i s:Int) (head sense:Bool):TabS:=if t.may i s then ⟨t.l.set i.toNat ⟨s.toNat,head&&s.toNat==2,sense⟩⟩ else t
def mark (t:TabS) (i:Int) (s:Bool):TabS:=if t.state i==2&& !t.black i s then ⟨t.l.modify i.toNat fun o=>{ o with sense:=s }⟩ else t
def born (t:TabS) (i:Int):TabS:=if t.state i==2&& !t.head i then ⟨t.l.modify i.toNat fun o=>{ o with head:=true }⟩ else t
theorem at_in {t:TabS} {k:Nat} {o:One} (h:t.l[k]?=some o):t.at_ k=some o:=by
 unfold at_;rw [if_pos (yb5 (List.getElem?_eq_some_iff.1 h).1),Int.toNat_natCast,h]
theorem at_out {t:TabS} {i:Int} (h:inB i t.l.length=false):t.at_ i=none:=by unfold at_;rw [h];rfl
end TabS
structure MemS where
 l:List (Nat × Nat)
 count:Int
namespace MemS
def peek (m:MemS) (a:Int):Nat × Nat:=if inB a m.l.length then m.l.getD a.toNat (0,0) else (0,0)
def tick (m:MemS):MemS:={ m with count:=m.count+1 }
def lay (m:MemS) (a:Int) (x:Nat × Nat):MemS:=if inB a m.l.length then { m with l:=m.l.set a.toNat x } else m
end MemS
structure CoilS where
 size:Int
 cur:Nat
 u0:Int
 u1:Int
 kept:Int
namespace CoilS
def used (c:CoilS) (s:Nat):Int:=if s=0 then c.u0 else c.u1
def room (c:CoilS):Int:=c.size-c.used c.cur-c.kept
def lays (c:CoilS) (n:Int):CoilS:=if c.cur=0 then { c with u0:=c.u0+n } else { c with u1:=c.u1+n }
structure Ok (c:CoilS):Prop where
 cur:c.cur<2
 s0:0≤c.size∧c.size≤2048
 b0:0≤c.u0∧c.u0≤2048
 b1:0≤c.u1∧c.u1≤2048
 bk:0≤c.kept∧c.kept≤2048
 fit:c.used c.cur+c.kept≤c.size
def takeable (c:CoilS) (n:Int):Bool:=decide (1≤n∧n≤c.room)
def take (c:CoilS) (n:Int):CoilS:=if c.takeable n then c.lays n else c
def takenAt (c:CoilS) (n:Int):Int:=if c.takeable n then c.used c.cur else 0
def turnable (c:CoilS):Bool:=decide (c.used (1-c.cur)≤0)
def turn (c:CoilS):CoilS:=if c.turnable then { c with kept:=c.used c.cur,cur:=1-c.cur } else c
def skippable (c:CoilS) (n:Int):Bool:=decide (1≤n∧n≤c.kept)
def skip (c:CoilS) (n:Int):CoilS:=if c.skippable n then { c with kept:=c.kept-n } else c
def copy (c:CoilS) (n:Int):CoilS:=if c.skippable n then (c.skip n).lays n else c
def doneable (c:CoilS):Bool:=decide (c.kept≤0)
def done (c:CoilS):CoilS:=if c.doneable then (if c.cur=0 then { c with u1:=0 } else { c with u0:=0 }) else c
end CoilS
structure PoolS where
 l:List Bool
namespace PoolS
def free (p:PoolS):Nat:=p.l.countP id
def runGo (l:List Bool) (k:Nat):Nat→Nat→Option Nat
 |0,_=>none
 |i+1,n=>if l.getD i false then (if n+1=k then some i else runGo l k i (n+1)) else runGo l k i 0
def run (p:PoolS) (k:Int):Option Nat:=if k<1 then none else runGo p.l k.toNat p.l.length 0
def lowGo (l:List Bool) (k:Nat):Nat→Nat→List Int
 |0,_=>[]
 |f+1,i=>if k=0 then [] else if l.getD i false then (i:Int)::lowGo l (k-1) f (i+1) else lowGo l k f (i+1)
def lowOnes (p:PoolS) (k:Int):List Int:=lowGo p.l k.toNat p.l.length 0
def takes (p:PoolS) (got:List Int):PoolS:=⟨got.foldl (fun l i=>l.set i.toNat false) p.l⟩
def taken (p:PoolS) (k:Int):Option (List Int):=if k<1∨(p.free:Int)<k then none else match p.run k with
 |some a=>some ((List.range k.toNat).map fun j=>((a+j:Nat):Int))
 |none=>some (p.lowOnes k)
def give (p:PoolS) (i:Int):PoolS:=if inB i p.l.length then ⟨p.l.set i.toNat true⟩ else p
end PoolS
structure PileS where
 l:List Int
 most:Int
 lost:Bool
structure HandS where
 status:Int
 sense:Bool
 l:List Int
 count:Int
namespace HandS
def own (h:HandS) (t:Int):Int:=if inB t h.l.length then h.l.getD t.toNat 0 else-1
def tick (h:HandS):HandS:={ h with count:=h.count+1 }
end HandS
end Go
namespace Go.Proofs.YtdhjjpnajjingaaGreat
open Go Go.RowKit
structure PileAt (g:GW) (t b:Nat) (p:PileS):Prop where
 ex: ∃A c,Blk g t b 227 [.slice A p.l.length c,.int .i64 p.most,.bool p.lost]∧Row g t 3 1 (.slice A p.l.length c) p.l.length (p.l.map (Value.int .i64))
 most:1≤p.most∧p.most≤256
 len:(p.l.length:Int)≤p.most
theorem PileAt.keep {S:Nat→Prop} {g g':GW} {t b:Nat} {p:PileS} (h:PileAt g t b p) (d:Mod S g g') (hs: ¬S t):PileAt g' t b p:=by
 obtain ⟨A,c,h1,h2⟩:=h.ex;exact ⟨⟨A,c,h1.keep d hs,h2.keep d hs⟩,h.most,h.len⟩
def PileMade (n:Int) (t:Nat) (g:GW) (e:Ending) (w':World):Prop:=
 if 1≤n∧n≤256 then∃b,e=.returned (.tuple #[.pointer (some ⟨b,0,none⟩),.int .i64 0])∧Ext g.w w'∧PileAt (g.to t w') t b ⟨[],n,false⟩
 else e=.returned (.tuple #[.pointer none,.int .i64 1])∧Ext g.w w'
theorem ykL (n:Int) (t:Nat) (g:GW):Calls prog 119 #[.int .i64 n] g.w (PileMade n t g):=by
 by_cases h0:n<1
 · have HV:=zH (show¬(1≤n∧n≤256) by omega);go_enter func119,ntmps119;go_wp2_with fail;go_ret2;unfold PileMade;rw [if_neg HV.out];exact ⟨rfl,Ext.refl _⟩
 by_cases h1:256<n
 · have HV:=zH (show¬(1≤n∧n≤256) by omega);go_enter func119,ntmps119;go_wp2_with fail;go_ret2;unfold PileMade;rw [if_neg HV.out];exact ⟨rfl,Ext.refl _⟩
 have HV:=zH (show (1:Int)≤n∧n≤256 by omega);go_enter func119,ntmps119;go_wp2_with fail;go_ret2;unfold PileMade;rw [if_pos HV.out];exact ⟨_,rfl,zE,⟨none,0,Blk.made (World.row_alloc_new _) (Nat.le_refl _),Row.nil _ _ _ _⟩,HV.out,by have:=HV.out.1;show (0:Int)≤n;omega⟩
structure HandAt (g:GW) (t b:Nat) (h:HandS):Prop where
 ex: ∃A c,Blk g t b 137 [.int .i64 h.status,.bool h.sense,.slice A h.l.length c,.int .i64 h.count]∧Row g t 3 1 (.slice A h.l.length c) h.l.length (h.l.map (Value.int .i64))
 len:h.l.length≤16
theorem HandAt.keep {S:Nat→Prop} {g g':GW} {t b:Nat} {h:HandS} (H:HandAt g t b h) (d:Mod S g g') (hs: ¬S t):HandAt g' t b h:=by
 obtain ⟨A,c,h1,h2⟩:=H.ex;exact ⟨⟨A,c,h1.keep d hs,h2.keep d hs⟩,H.len⟩
theorem ybW (g:GW) (t b:Nat) (i:Int) (h:HandS) (H:HandAt g t b h):
 Calls prog 190 #[.pointer (some ⟨b,0,none⟩),.int .i64 i] g.w (fun e w'=>e=.returned (zI z6 (h.own i))∧g.w=w'):=by
 cases hin:inB i h.l.length
 · have HV:=zH (show h.own i= -1 by unfold HandS.own;rw [hin];rfl);obtain ⟨A,c,hb,hr⟩:=H.ex;have c0:=hb.cell (i:=2) rfl;have hc:=ybS hin;clear hb hr H hin;by_cases h0:i<0
   · clear hc;go_enter func190,ntmps190;go_wp2_with fail;go_ret;exact ⟨by rw [HV.out];try rfl,rfl⟩
   · have h1:(h.l.length:Int)≤i:=zo;clear hc;go_enter func190,ntmps190;go_wp2_with fail;go_ret;exact ⟨by rw [HV.out];try rfl,rfl⟩
 · obtain ⟨k,rfl,hk⟩:=yam hin;have HV:=zH (show h.own k=h.l.getD k 0 by unfold HandS.own;rw [hin,if_pos rfl,Int.toNat_natCast]);obtain ⟨A,c,hb,hr⟩:=H.ex;obtain ⟨r,rfl,hrl,ho,hcell,hfr⟩:=hr.block zo;have k0:=hcell k (zI z6 (h.l.getD k 0)) (by simp [List.getD_eq_getElem?_getD,hk]);have c0:=hb.cell (i:=2) rfl;have hlen:=H.len;generalize h.l.getD k 0=x at *;generalize h.l.length=n at *;clear hb hr H hcell hfr hin;go_enter func190,ntmps190;go_wp2_with fail;go_ret;exact ⟨by rw [HV.out];try rfl,rfl⟩
theorem yel (g:GW) (t b:Nat) (h:HandS) (H:HandAt g t b h) (hc:0≤h.count∧h.count≤1099511627776):
 Calls prog 55 #[.pointer (some ⟨b,0,none⟩)] g.w (Does (.tuple #[.int .i64 h.status,.bool h.sense]) g (fun x=>x=t) (fun g'=>HandAt g' t b h.tick)):=by
 obtain ⟨A,c,hb,hr⟩:=H.ex;obtain ⟨hc0,hc1⟩:=hc;have c0:=hb.cell (i:=0) rfl;have c1:=hb.cell (i:=1) rfl;have c3:=hb.cell (i:=3) rfl;have f3:=hb.live 3;have hbl:=hb.lt;have HB:=zH hb;have HR:=zH hr;have HL:=zH H.len;clear hb hr H;go_enter func55,ntmps55;go_wp2_with fail;refine yab [zT,zT,zT,zT,zT,zT,zT,zT,zT,zT] 0 10 ?_;intro X00;simp only [pickOps];repeat (go_big_quiet_step (fail))
 refine wpQuiet_nil (fun X0=>?_);clear X00;refine yaa zQ (fun X0'=>?_) _;go_wp2_with fail;go_ret2;exact Does.ext ⟨g.own,g.w.setCell ⟨b,3,none⟩ (zI z6 (h.count+1))⟩ zE rfl (Mod.st Mod.self HB.out.own) (fun g2 m=>HandAt.keep ⟨⟨A,c,HB.out.set 3 _,HR.out.setOther 3 _ (fun x hx=>HR.out.ne_type HB.out zd hx)⟩,HL.out⟩ m id)
def HandMade (n:Int) (t:Nat) (g:GW) (e:Ending) (w':World):Prop:=
 if 1≤n∧n≤16 then∃own' b,e=.returned (.tuple #[.pointer (some ⟨b,0,none⟩),.int .i64 0])∧Mod (fun _=>False) g ⟨own',w'⟩∧HandAt ⟨own',w'⟩ t b ⟨0,false,List.replicate n.toNat (-1),0⟩
 else e=.returned (.tuple #[.pointer none,.int .i64 1])∧Ext g.w w'
theorem ykk {n k:Nat} (h:k<n):(List.replicate k (-1:Int)++List.replicate (n-k) 0).set k (-1)=List.replicate (k+1) (-1)++List.replicate (n-(k+1)) 0:=by
 rw [show n-k=(n-(k+1))+1 by omega,List.replicate_succ,List.set_append_right _ _ (by simp),List.length_replicate,Nat.sub_self,List.set_cons_zero,List.replicate_succ',List.append_assoc];rfl
theorem yko (n:Int) (t:Nat) (g:GW):Calls prog 65 #[.int .i64 n] g.w (HandMade n t g):=by
 obtain ⟨i0,hi,hz0,hz1,hz2⟩:=info_parts ya1;by_cases h0:n<1
 · have HV:=zH (show¬(1≤n∧n≤16) by omega);go_enter func65,ntmps65;go_wp2_with fail;go_ret2;unfold HandMade;rw [if_neg HV.out];exact ⟨rfl,Ext.refl _⟩
 by_cases h1:16<n
 · have HV:=zH (show¬(1≤n∧n≤16) by omega);go_enter func65,ntmps65;go_wp2_with fail;go_ret2;unfold HandMade;rw [if_neg HV.out];exact ⟨rfl,Ext.refl _⟩
 obtain ⟨k,rfl⟩:=Int.eq_ofNat_of_zero_le (show 0≤n by omega);have HV:=zH (show (1:Int)≤k∧(k:Int)≤16 by omega);have hmk:=ybg (P:=prog) 97 3 i0 _ 1 8 Tryz.underlying97 hi hz0 hz1 hz2 k zo zo;simp only [Value.cells,yb8] at hmk;have hk:k≤16:=zo;go_enter func65,ntmps65;go_wp2_with fail;obtain ⟨q1,q2⟩:=yaA g.w (.cells (List.replicate k (Value.int .i64 0)).toArray 3) (.cells #[.int .i64 0,.bool false,.slice (some ⟨g.w.heap.size,0,none⟩) k k,.int .i64 0] 137);have HB:=zH (Blk.made (g:=g) (t:=t) q2 zo);have HR:=zH (Row.made (g:=g) (t:=t) (n:=k) (size:=1) q1 (Nat.le_refl _) (by simp) zo);have HE:=zH (Mod.ext (T:=fun _=>False) (show Ext g.w ((g.w.alloc (.cells (List.replicate k (Value.int .i64 0)).toArray 3)).alloc (.cells #[.int .i64 0,.bool false,.slice (some ⟨g.w.heap.size,0,none⟩) k k,.int .i64 0] 137)) from zE) t);clear q1 q2;have c0:=HB.out.cell (i:=2) rfl;simp only [GW.to] at c0
 go_loopw [21] (fun i wr=> ∃(j:Nat) (own:Nat→Nat),j≤k∧i=.int .i64 j∧Hid (Mod (fun _=>False) g ⟨own,wr⟩)∧Hid (Blk ⟨own,wr⟩ t (g.w.heap.size+1) 137 [.int .i64 0,.bool false,.slice (some ⟨g.w.heap.size,0,none⟩) k k,.int .i64 0])∧Hid (Row ⟨own,wr⟩ t 3 1 (.slice (some ⟨g.w.heap.size,0,none⟩) k k) k ((List.replicate j (-1)++List.replicate (k-j) 0).map (Value.int .i64)))) (fun i _=>k-(intOf i).toNat)
 case atStart=>exact ⟨0,_,Nat.zero_le _,rfl,HE,HB,zH (HR.out.weak rfl (by simp))⟩
 case round=>
  obtain ⟨j,own,hj,rfl,M,B,R⟩:=hrel;clear c0 HE HB HR;by_cases hlt:j<k
  · obtain ⟨r,hr,hrl,ho,hcell,hfr⟩:=R.out.block zo;simp only [Option.some.injEq,Addr.mk.injEq,and_true] at hr;obtain rfl:=hr;have k0:=hcell j (zI z6 0) (by rw [List.getElem?_map,List.getElem?_append_right (by simp),List.length_replicate,Nat.sub_self,List.getElem?_replicate,if_pos zo];rfl);have kf:=hfr j;simp only at k0 kf hrl;have c0:=B.out.cell (i:=2) rfl;simp only at c0;clear hcell hfr ho;go_wp2_with fail;go_roundw
    case rel=>exact ⟨j+1,own,zo,by go_num,zH (Mod.stn M.out (Nat.le_refl _)),zH (B.out.setOther j _ zo),zH ((R.out.store j (zI z6 (-1))).weak rfl (by rw [←ykk hlt,List.map_set]))⟩
    case measure=>simp [intOf];omega
  · obtain rfl:j=k:=zo;go_wp2_with fail;go_ret2;unfold HandMade;rw [if_pos HV.out];refine ⟨own,_,rfl,M.out,⟨⟨some ⟨g.w.heap.size,0,none⟩,j,?_,?_⟩,by simpa using hk⟩⟩
    · have:=B.out;simpa using this
    · have:=R.out;simpa using this
structure TabAt (g:GW) (t b:Nat) (T:TabS):Prop where
 ex: ∃A c,Blk g t b 109 [.slice A T.l.length c,.int .i64 (T.cnt 0),.int .i64 (T.cnt 1),.int .i64 (T.cnt 2)]∧Row g t 265 3 (.slice A T.l.length c) T.l.length (T.l.flatMap One.cells)
 len:T.l.length≤1024
 st: ∀o∈T.l,o.state≤2
theorem TabAt.keep {S:Nat→Prop} {g g':GW} {t b:Nat} {T:TabS} (h:TabAt g t b T) (m:Mod S g g') (hs: ¬S t):TabAt g' t b T:=by
 obtain ⟨A,c,h1,h2⟩:=h.ex;exact ⟨⟨A,c,h1.keep m hs,h2.keep m hs⟩,h.len,h.st⟩
theorem yaP (b:Nat) (i:Int) (A:Option Addr) (n c:Nat) (w:World) (h0:w.cell? ⟨b,0,none⟩=some (.slice A n c)):
 Calls prog 230 #[.pointer (some ⟨b,0,none⟩),.int .i64 i] w (fun e w'=>e=.returned (.bool (inB i n))∧w=w'):=by
 by_cases hi:0≤i
 · by_cases hl:i<n
   · have HV:=zH (show inB i n=true by unfold inB;simp;omega);go_enter func230,ntmps230;go_wp2_with fail;go_ret;exact ⟨by rw [HV.out];try rfl,rfl⟩
   · have HV:=zH (show inB i n=false from ygA zo);go_enter func230,ntmps230;go_wp2_with fail;go_ret;exact ⟨by rw [HV.out];try rfl,rfl⟩
 · have HV:=zH (show inB i n=false from ygB zo);go_enter func230,ntmps230;go_wp2_with fail;go_ret;exact ⟨by rw [HV.out];try rfl,rfl⟩
theorem yls (g:GW) (t b:Nat) (T:TabS) (h:TabAt g t b T):
 Calls prog 120 #[.pointer (some ⟨b,0,none⟩)] g.w (fun e w'=>e=.returned (zI z6 T.l.length)∧g.w=w'):=by
 obtain ⟨A,c,hb,hr⟩:=h.ex;have c0:=hb.cell (i:=0) rfl;clear hb hr h;go_enter func120,ntmps120;go_wp2_with fail;go_ret;exact ⟨rfl,rfl⟩
theorem TabAt.one {g:GW} {t b:Nat} {T:TabS} (h:TabAt g t b T) {k:Nat} (hk:k<T.l.length): ∃r c o,T.l[k]?=some o∧o.state≤2∧
 Blk g t b 109 [.slice (some ⟨r,0,none⟩) T.l.length c,.int .i64 (T.cnt 0),.int .i64 (T.cnt 1),.int .i64 (T.cnt 2)]∧Row g t 265 3 (.slice (some ⟨r,0,none⟩) T.l.length c) T.l.length (T.l.flatMap One.cells)∧r<g.w.heap.size∧
 g.w.cell? ⟨r,k*3,none⟩=some (zI z6 o.state)∧g.w.cell? ⟨r,k*3+1,none⟩=some (.bool o.head)∧g.w.cell? ⟨r,k*3+2,none⟩=some (.bool o.sense)∧(∀j,g.w.frozen? ⟨r,j,none⟩=false)∧b≠r:=by
 obtain ⟨A,c,hb,hr⟩:=h.ex;obtain ⟨r,rfl,hl,ho,hc,hf⟩:=hr.block zo;have hx:=List.getElem?_eq_getElem hk;have hm:=h.st _ (List.getElem_mem hk);generalize T.l[k]=o at *;refine ⟨r,c,o,hx,hm,hb,hr,hl,?_,?_,?_,hf,?_⟩
 · exact hc _ _ (yaI One.cells_len T.l k 0 o hx zo)
 · exact hc _ _ (yaI One.cells_len T.l k 1 o hx zo)
 · exact hc _ _ (yaI One.cells_len T.l k 2 o hx zo)
 · exact hr.ne_type hb zd rfl
theorem ybp (g:GW) (t b:Nat) (i:Int) (T:TabS) (h:TabAt g t b T):
 Calls prog 176 #[.pointer (some ⟨b,0,none⟩),.int .i64 i] g.w (fun e w'=>e=.returned (zI z6 (T.state i))∧g.w=w'):=by
 cases hin:inB i T.l.length
 · have HV:=zH (show T.state i=0 by unfold TabS.state;rw [TabS.at_out hin];rfl);obtain ⟨A,c,hb,hr⟩:=h.ex;have c0:=hb.cell (i:=0) rfl;clear hb hr h;go_enter func176,ntmps176;go_wp2_with fail;refine (yaP _ _ _ _ _ _ c0).mono ?_;rintro e w1 ⟨rfl,rfl⟩;go_wp2_with fail;go_ret;exact ⟨by rw [HV.out];try rfl,rfl⟩
 · obtain ⟨k,rfl,hk⟩:=yam hin;obtain ⟨r,c,o,ho,h2,hb, -,hrl,k0, -, -, -, -⟩:=h.one hk;have HV:=zH (show T.state k=o.state by unfold TabS.state;rw [TabS.at_in ho];rfl);have c0:=hb.cell (i:=0) rfl;have hlen:=h.len;generalize T.l.length=n at *;clear hb h ho;go_enter func176,ntmps176;go_wp2_with fail;refine (yaP _ _ _ _ _ _ c0).mono ?_;rintro e w1 ⟨rfl,rfl⟩;go_wp2_with fail;go_ret;exact ⟨by rw [HV.out];try rfl,rfl⟩
theorem yfG (g:GW) (t b:Nat) (i:Int) (T:TabS) (h:TabAt g t b T):
 Calls prog 171 #[.pointer (some ⟨b,0,none⟩),.int .i64 i] g.w (fun e w'=>e=.returned (.bool (T.head i))∧g.w=w'):=by
 cases hin:inB i T.l.length
 · have HV:=zH (show T.head i=false by unfold TabS.head;rw [TabS.at_out hin];rfl);obtain ⟨A,c,hb,hr⟩:=h.ex;have c0:=hb.cell (i:=0) rfl;clear hb hr h;go_enter func171,ntmps171;go_wp2_with fail;refine (yaP _ _ _ _ _ _ c0).mono ?_;rintro e w1 ⟨rfl,rfl⟩;go_wp2_with fail;go_ret;exact ⟨by rw [HV.out];try rfl,rfl⟩
 · obtain ⟨k,rfl,hk⟩:=yam hin;obtain ⟨r,c,o,ho,h2,hb, -,hrl, -,k1, -, -, -⟩:=h.one hk;have HV:=zH (show T.head k=o.head by unfold TabS.head;rw [TabS.at_in ho];rfl);have c0:=hb.cell (i:=0) rfl;have hlen:=h.len;generalize T.l.length=n at *;clear hb h ho;go_enter func171,ntmps171;go_wp2_with fail;refine (yaP _ _ _ _ _ _ c0).mono ?_;rintro e w1 ⟨rfl,rfl⟩;go_wp2_with fail;go_ret;exact ⟨by rw [HV.out];try rfl,rfl⟩
theorem ybT (g:GW) (t b:Nat) (i:Int) (s:Bool) (T:TabS) (h:TabAt g t b T):
 Calls prog 172 #[.pointer (some ⟨b,0,none⟩),.int .i64 i,.bool s] g.w (fun e w'=>e=.returned (.bool (T.black i s))∧g.w=w'):=by
 cases hst:T.state i==2
 · have HV:=zH (show T.black i s=false by unfold TabS.black;rw [hst];rfl);have hz:((T.state i:Int)==2)=false:=by rw [show (2:Int)=((2:Nat):Int) from rfl,ybB];simpa using hst
   have HS:=zH (ybp g t b i T h);generalize T.state i=x at *;clear hst;go_enter func172,ntmps172;go_wp2_with fail;refine (HS.out).mono ?_;rintro e w1 ⟨rfl,rfl⟩;go_wp2_with fail;go_ret;exact ⟨by rw [HV.out];try rfl,rfl⟩
 · cases hin:inB i T.l.length
   · rw [show T.state i=0 by unfold TabS.state;rw [TabS.at_out hin];rfl] at hst;cases hst
   obtain ⟨k,rfl,hk⟩:=yam hin;obtain ⟨r,c,o,ho,h2,hb, -,hrl, -, -,k2, -, -⟩:=h.one hk;have HV:=zH (show T.black k s=(o.sense==s) by unfold TabS.black TabS.sense;rw [hst,TabS.at_in ho];rfl);have HS:=zH (ybp g t b k T h);have e2:T.state k=2:=by simpa using hst
   rw [e2] at HS;have c0:=hb.cell (i:=0) rfl;have hlen:=h.len;generalize T.l.length=n at *;clear hb h ho hst e2;go_enter func172,ntmps172;go_wp2_with fail;refine (HS.out).mono ?_;rintro e w1 ⟨rfl,rfl⟩;go_wp2_with fail;go_ret;exact ⟨by rw [HV.out];try rfl,rfl⟩
theorem yci (g:GW) (t b:Nat) (T:TabS) (h:TabAt g t b T):
 Calls prog 13 #[.pointer (some ⟨b,0,none⟩)] g.w (Gives (.tuple #[.int .i64 (T.cnt 0),.int .i64 (T.cnt 1),.int .i64 (T.cnt 2)]) g.w):=by
 obtain ⟨A,c,hb,hr⟩:=h.ex;have c1:=hb.cell (i:=1) rfl;have c2:=hb.cell (i:=2) rfl;have c3:=hb.cell (i:=3) rfl;have hbl:=hb.lt;clear hb hr h;go_enter func13,ntmps13;go_wp2_with fail;refine yab [zT,zT,zT,zT,zT,zT,zT,zT,zT,zT,zT,zT,zT,zT,zT,zT,zT,zT] 0 18 ?_;intro X00;simp only [pickOps];repeat (go_big_quiet_step (fail))
 refine wpQuiet_nil (fun X0=>?_);clear X00;refine yaa zQ (fun X0'=>?_) _;go_wp2_with fail;go_ret3
 exact Gives.mk rfl zE
theorem TabS.cnt_set {l:List One} {k:Nat} {o o':One} (h:l[k]?=some o) (q:Nat):((TabS.cnt ⟨l.set k o'⟩ q:Nat):Int)=(TabS.cnt ⟨l⟩ q:Int)-(if o.state==q then 1 else 0)+(if o'.state==q then 1 else 0):=by
 obtain ⟨hk,hx⟩:=List.getElem?_eq_some_iff.1 h;unfold TabS.cnt;simp only;rw [List.countP_set hk,hx];have hp:(o.state==q)=true→0<l.countP (fun o=>o.state==q):=fun ho=>List.countP_pos_iff.2 ⟨o,List.mem_of_getElem? h,ho⟩;by_cases h1:(o.state==q)=true
 · have:=hp h1;rw [if_pos h1,if_pos h1];split<;>omega
 · rw [if_neg h1,if_neg h1];split<;>omega
theorem ymC {t:TabS} {k:Nat} {s:Nat} {head sense:Bool} (hk:k<t.l.length) (hs:s≤2):t.set k s head sense=⟨t.l.set k ⟨s,head&&s==2,sense⟩⟩:=by
 unfold TabS.set TabS.may;rw [yb5 hk,if_pos (by simp;omega)];simp
theorem ycz (l:List One) (k:Nat) (hk:k<l.length) (y:One):(l.set k y).flatMap One.cells=(((l.flatMap One.cells).set (k*3) (zI z6 y.state)).set (k*3+1) (.bool y.head)).set (k*3+2) (.bool y.sense):=by
 induction l generalizing k with
 |nil=>simp at hk
 |cons x l ih=>
  cases k with
  |zero=>rfl
  |succ k=>
   have:=ih k (by simpa using hk);rw [List.set_cons_succ,List.flatMap_cons,this,List.flatMap_cons];rw [show (k+1)*3=(One.cells x).length+k*3 from by rw [One.cells_len];omega];rw [List.set_append_right _ _ zo,List.set_append_right _ _ zo,List.set_append_right _ _ zo];congr 4<;>omega
theorem TabAt.stored {g:GW} {t b r c k st q:Nat} {T:TabS} {o1 o2 hd sense:Bool} {y1 y2:Int} {W:World} (h:TabAt g t b T) (hk:k<T.l.length) (ho:T.l[k]?=some ⟨st,o1,o2⟩) (h1:st≤2) (h2:q≤2)
 (hb:Blk ⟨g.own,W⟩ t b 109 (([.slice (some ⟨r,0,none⟩) T.l.length c,.int .i64 (T.cnt 0),.int .i64 (T.cnt 1),.int .i64 (T.cnt 2)].set (1+st) (zI z6 y1)).set (1+q) (zI z6 y2)))
 (hr:Row ⟨g.own,W⟩ t 265 3 (.slice (some ⟨r,0,none⟩) T.l.length c) T.l.length ((((T.l.flatMap One.cells).set (k*3) (zI z6 q)).set (k*3+1) (.bool hd)).set (k*3+2) (.bool sense)))
 (e1:y1=T.cnt st-1) (e2:y2=if st=q then (T.cnt st:Int) else T.cnt q+1):
 TabAt ⟨g.own,W⟩ t b ⟨T.l.set k ⟨q,hd,sense⟩⟩:=by
 refine ⟨⟨some ⟨r,0,none⟩,c,?_,?_⟩,by simpa using h.len,fun u hu=>?_⟩
 · simp only [List.length_set];rw [TabS.cnt_set ho,TabS.cnt_set ho,TabS.cnt_set ho];subst e1 e2;rcases (show st=0∨st=1∨st=2 by omega) with rfl|rfl|rfl<;>rcases (show q=0∨q=1∨q=2 by omega) with rfl|rfl|rfl<;>simpa using hb
 · simp only [List.length_set];rw [ycz _ _ hk];exact hr
 · rcases List.mem_or_eq_of_mem_set hu with hu|rfl
   · exact h.st u hu
   · exact h2
theorem TabAt.cell {g:GW} {t b r c:Nat} {T:TabS} (hb:Blk g t b 109 [.slice (some ⟨r,0,none⟩) T.l.length c,.int .i64 (T.cnt 0),.int .i64 (T.cnt 1),.int .i64 (T.cnt 2)]) {q:Nat} (hq:q≤2):
 g.w.cell? ⟨b,1+q,none⟩=some (zI z6 (T.cnt q)):=by
 rcases (show q=0∨q=1∨q=2 by omega) with rfl|rfl|rfl
 · exact hb.cell (i:=1) rfl
 · exact hb.cell (i:=2) rfl
 · exact hb.cell (i:=3) rfl
theorem TabAt.pt {g:GW} {t b:Nat} {T:TabS} (h:TabAt g t b T) (X:Extra):TabAt (g.pt X) t b T:=h.keep (S:=fun _=>False) (Mod.pt (Mod.refl _ _) X) id
theorem ygK (g:GW) (t b:Nat) (i s:Int) (hd sense:Bool) (T:TabS) (h:TabAt g t b T):
 Calls prog 191 #[.pointer (some ⟨b,0,none⟩),.int .i64 i,.int .i64 s,.bool hd,.bool sense] g.w (Does (.bool (T.may i s)) g (fun x=>x=t) (fun g'=>TabAt g' t b (T.set i s hd sense))):=by
 cases hin:inB i T.l.length
 · have hm:T.may i s=false:=by unfold TabS.may;rw [hin];rfl
   have HV:=zH hm;have HT:=zH (show T.set i s hd sense=T by unfold TabS.set;rw [hm];rfl);obtain ⟨A,c,hb,hr⟩:=h.ex;have c0:=hb.cell (i:=0) rfl;have H:=zH h;clear hb hr h hm;go_enter func191,ntmps191;go_wp2_with fail;refine (yaP _ _ _ _ _ _ c0).mono ?_;rintro e w1 ⟨rfl,rfl⟩;go_wp2_with fail;go_ret;exact Does.of g rfl (by rw [HV.out];try rfl) (Mod.refl _ _) (by rw [HT.out];exact H.out)
 · obtain ⟨k,rfl,hk⟩:=yam hin;by_cases hs:0≤s∧s≤2
   · obtain ⟨q,rfl⟩:=Int.eq_ofNat_of_zero_le hs.1;have hq:q≤2:=zo;have HM:=zH (show T.may k q=true by unfold TabS.may;rw [hin];simp;omega);obtain ⟨r,c,o,ho,h2,hb,hr,hrl,k0,k1,k2,kf,hne⟩:=h.one hk;have HT:=zH (ymC (head:=hd) (sense:=sense) hk hq);have HO:=zH ho;have HB:=zH hb;have HR:=zH hr;have H:=zH h;have HOB:=zH hb.own;have HOR:=zH (hr.own r rfl);have HK:=zH hk;have hlen:=h.len;have hbl:=hb.lt;have c0:=hb.cell (i:=0) rfl;obtain ⟨st,ho1,ho2⟩:=o;simp only at h2 k0 k1 k2;have cs:=TabAt.cell hb h2;have cq:=TabAt.cell hb hq;have fs:=hb.live (1+st);have fq:=hb.live (1+q);have ns:T.cnt st≤1024:=Nat.le_trans List.countP_le_length hlen;have nq:T.cnt q≤1024:=Nat.le_trans List.countP_le_length hlen;have g0:=kf (k*3);have g1:=kf (k*3+1);have g2:=kf (k*3+2);have hne':r≠b:=fun e=>hne e.symm;have HN:=zH hne';clear hb hr h ho hs kf
     obtain ⟨hd',hhd,hcase⟩: ∃hd',(hd&&q==2)=hd'∧((hd=false∧hd'=false)∨(hd=true∧((q:Int)==2)=true∧hd'=true)∨(hd=true∧((q:Int)==2)=false∧hd'=false)):=by
      refine ⟨_,rfl,?_⟩;rw [show (2:Int)=((2:Nat):Int) from rfl,ybB];cases hd
      · simp
      · by_cases h:q=2<;>simp [h]
     rw [hhd] at HT;clear hhd;by_cases hsq:st=q
     · subst hsq;clear cq fq nq;rcases hcase with ⟨rfl,rfl⟩|⟨rfl,hq2,rfl⟩|⟨rfl,hq2,rfl⟩
       all_goals
        go_enter func191,ntmps191;go_wp2_with fail;refine (yaP _ _ _ _ _ _ c0).mono ?_;rintro e w1 ⟨rfl,rfl⟩;go_wp2_with fail;refine yab [zT,zT,zT,zT,zT,zT,zT,zT,zT,zT,zT,zT,zT,zT,zT,zT,zT,zU] 1 17 ?_;intro X00;simp only [pickOps];repeat (go_big_quiet_step (fail))
        refine wpQuiet_nil (fun X0=>?_);clear X00;refine yai 17 _ zQ zQ rfl rfl (fun X1 K Q' hK=>?_);go_simp;refine hK _ _ (fun X2=>?_);clear hK K Q';go_wp2_with fail;refine yab [zT,zT,zT,zT,zT,zT,zT,zT,zT,zT,zU] 1 10 ?_;intro X00;simp only [pickOps];repeat (go_big_quiet_step (fail))
        refine wpQuiet_nil (fun X0=>?_);clear X00;refine yai 10 _ zQ zQ rfl rfl (fun X1 K Q' hK=>?_);go_simp;refine hK _ _ (fun X2=>?_);clear hK K Q';go_wp2_with fail;go_ret;refine Does.of (GW.pt ⟨g.own,_⟩ _) rfl (by rw [HM.out];rfl) (Mod.pt (Mod.st (Mod.st (Mod.st (Mod.st (Mod.st Mod.self HOB.out) HOB.out) HOR.out) HOR.out) HOR.out) _) ?_;rw [HT.out];refine TabAt.pt (TabAt.stored (r:=r) (c:=c) H.out HK.out HO.out h2 hq ?hb ?hr rfl (if_pos rfl).symm) _
        case hb=>exact ((((HB.out.set _ _).set _ _).setOther _ _ HN.out).setOther _ _ HN.out).setOther _ _ HN.out
        case hr=>exact ((((HR.out.setOther _ _ (fun x hx e=>HN.out (by injection hx with hx;exact hx.trans e.symm))).setOther _ _ (fun x hx e=>HN.out (by injection hx with hx;exact hx.trans e.symm))).store _ _).store _ _).store _ _
     · have hsq': ¬q=st:=fun e=>hsq e.symm;rcases hcase with ⟨rfl,rfl⟩|⟨rfl,hq2,rfl⟩|⟨rfl,hq2,rfl⟩
       all_goals
        go_enter func191,ntmps191;go_wp2_with fail;refine (yaP _ _ _ _ _ _ c0).mono ?_;rintro e w1 ⟨rfl,rfl⟩;go_wp2_with fail;refine yab [zT,zT,zT,zT,zT,zT,zT,zT,zT,zT,zT,zT,zT,zT,zT,zT,zT,zU] 1 17 ?_;intro X00;simp only [pickOps];repeat (go_big_quiet_step (fail))
        refine wpQuiet_nil (fun X0=>?_);clear X00;refine yai 17 _ zQ zQ rfl rfl (fun X1 K Q' hK=>?_);go_simp;refine hK _ _ (fun X2=>?_);clear hK K Q';go_wp2_with fail;refine yab [zT,zT,zT,zT,zT,zT,zT,zT,zT,zT,zU] 1 10 ?_;intro X00;simp only [pickOps];repeat (go_big_quiet_step (fail))
        refine wpQuiet_nil (fun X0=>?_);clear X00;refine yai 10 _ zQ zQ rfl rfl (fun X1 K Q' hK=>?_);go_simp;refine hK _ _ (fun X2=>?_);clear hK K Q';go_wp2_with fail;go_ret;refine Does.of (GW.pt ⟨g.own,_⟩ _) rfl (by rw [HM.out];rfl) (Mod.pt (Mod.st (Mod.st (Mod.st (Mod.st (Mod.st Mod.self HOB.out) HOB.out) HOR.out) HOR.out) HOR.out) _) ?_;rw [HT.out];refine TabAt.pt (TabAt.stored (r:=r) (c:=c) H.out HK.out HO.out h2 hq ?hb ?hr rfl (if_neg hsq).symm) _
        case hb=>exact ((((HB.out.set _ _).set _ _).setOther _ _ HN.out).setOther _ _ HN.out).setOther _ _ HN.out
        case hr=>exact ((((HR.out.setOther _ _ (fun x hx e=>HN.out (by injection hx with hx;exact hx.trans e.symm))).setOther _ _ (fun x hx e=>HN.out (by injection hx with hx;exact hx.trans e.symm))).store _ _).store _ _).store _ _
   · have hm:T.may k s=false:=by unfold TabS.may;rw [hin];simp;omega
     have HV:=zH hm;have HT:=zH (show T.set k s hd sense=T by unfold TabS.set;rw [hm];rfl);obtain ⟨A,c,hb,hr⟩:=h.ex;have c0:=hb.cell (i:=0) rfl;have H:=zH h;have hlen:=h.len;clear hb hr h hm;by_cases h0:s<0
     · clear hs;go_enter func191,ntmps191;go_wp2_with fail;refine (yaP _ _ _ _ _ _ c0).mono ?_;rintro e w1 ⟨rfl,rfl⟩;go_wp2_with fail;go_ret;exact Does.of g rfl (by rw [HV.out];try rfl) (Mod.refl _ _) (by rw [HT.out];exact H.out)
     · have h2:2<s:=zo;clear hs;go_enter func191,ntmps191;go_wp2_with fail;refine (yaP _ _ _ _ _ _ c0).mono ?_;rintro e w1 ⟨rfl,rfl⟩;go_wp2_with fail;go_ret;exact Does.of g rfl (by rw [HV.out];try rfl) (Mod.refl _ _) (by rw [HT.out];exact H.out)
theorem yck (a b c:Int) (w:World):
 Calls prog 113 #[.int .i64 a,.int .i64 b,.int .i64 c] w (Gives (.bool (within a b c)) w):=by
 by_cases h:b≤a
 · go_enter func113,ntmps113;go_wp2
   go_ret;exact Gives.bool (by simp [within,h]) (.refl _)
 · go_enter func113,ntmps113;go_wp2
   go_ret;exact Gives.bool (by simp [within];omega) (.refl _)
theorem ycW (s:Shp) (w:World) (hs:s.Ok w):Calls prog 116 #[s.val] w (Gives (.bool s.may) w):=by
 obtain ⟨arr,A,cap,refs⟩:=s;have hl:=hs.max;simp only [Shp.val,Shp.may] at hl ⊢;generalize refs.length=n at *;clear hs;by_cases h:n≤40
 · cases arr
   · go_enter func116,ntmps116;go_wp2
     go_ret;exact Gives.bool (by simp [h]) zE
   · go_enter func116,ntmps116;go_wp2
     go_ret;exact Gives.bool (by rw [show (1:Int)=((1:Nat):Int) from rfl,ybB];simp [h]) zE
 · go_enter func116,ntmps116;go_wp2
   go_ret;exact Gives.bool (by simp) zE
theorem yg2 (s:Shp) (w:World) (hs:s.Ok w):Calls prog 115 #[s.val] w (Gives (.bool (!s.may)) w):=by
 unfold Shp.val;go_enter func115,ntmps115;go_wp2_with fail;refine (ycW s _ (hs.ext zE)).mono ?_;rintro e w1 ⟨rfl,X,rfl⟩;go_wp2_with fail;go_ret;exact Gives.bool rfl zE
theorem yiV (A:Option Addr) (cap:Nat) (l:List Shp) (w:World) (hc:CellsAt w A (l.flatMap Shp.cells)) (hs: ∀s∈l,s.Ok w) (hl:l.length≤140737488355328):
 Calls prog 188 #[.slice A l.length cap,.func (.func 115) #[] #[]] w
  (fun e w'=> ∃n:Int,e=.returned (zI z6 n)∧decide (0≤n)=badIn l∧ ∃X,w'=w.patch X):=by
 go_enter func188,ntmps188;go_wp2_with fail;go_loopw [8] (fun i wr=> ∃k:Nat,k≤l.length∧i=.int .i64 k∧(∀s∈l.take k,s.may=true)∧Ext w wr) (fun i _=>l.length-(intOf i).toNat)
 case atStart=>exact ⟨0,Nat.zero_le _,rfl,by simp,Ext.refl _⟩
 case round=>
  obtain ⟨k,hk,rfl,hm,X,rfl⟩:=hrel;have HM:=zH hm;clear hm;by_cases hlt:k<l.length
  · obtain ⟨b,o,rfl,hb,g0,g1⟩:=ycN hc hlt;have hsk:=hs l[k] (List.getElem_mem hlt);generalize hS:l[k]=s at *;have HS:=zH hS;clear hS hc hs;go_wp2_with fail;refine (yg2 s _ (hsk.ext zE)).mono ?_;rintro e w1 ⟨rfl,X1,rfl⟩;have hk':l[k]?=some s:=by rw [List.getElem?_eq_getElem hlt,HS.out]
    cases hb:s.may
    · have HB:=zH (yd8 hk' hb);have HK:=zH hk';clear hk';go_wp2_with fail;go_ret;exact ⟨_,rfl,by rw [HB.out];simp,zE⟩
    · have HT:=zH (ybK hk' HM.out hb);clear hk';go_wp2_with fail;go_roundw
      case rel=>exact ⟨k+1,zo,by go_num,HT.out,zE⟩
      case measure=>simp [intOf];omega
  · have HB:=zH (yj7 (l:=l) (by intro s hs;exact HM.out s (by rw [List.take_of_length_le zo];exact hs)));go_wp2_with fail;go_ret;exact ⟨_,rfl,by rw [HB.out];simp,zE⟩
theorem yfd (A:Option Addr) (cap:Nat) (l:List Shp) (w:World) (hc:CellsAt w A (l.flatMap Shp.cells)) (hs: ∀s∈l,s.Ok w) (hl:l.length≤140737488355328):
 Calls prog 114 #[.slice A l.length cap,.func (.func 115) #[] #[]] w (Gives (.bool (badIn l)) w):=by
 go_enter func114,ntmps114;go_wp2_with fail;refine (yiV A cap l _ hc hs hl).mono ?_;rintro e w1 ⟨n,rfl,hn,X,rfl⟩;have HN:=zH hn;clear hn;go_wp2_with fail;go_ret;exact Gives.bool HN.out zE
theorem yar (c:Cnf) (w:World) (hc:c.Ok w):Calls prog 60 #[c.val] w (Gives (zI z6 c.check) w):=by
 unfold Cnf.val;go_enter func60,ntmps60;go_wp2_with fail;refine yab [zT,zT,zT,zT,zT,zT,zT,zT,zT,zT,zT,zT,zT,zT,zT,zT,zT,zT,zT,zT,zT,zT,zT,zT,zT,zT,zU,zU,zT] 2 29 ?_;intro X00;simp only [pickOps];repeat (go_big_quiet_step ((go_at_call 113;exact Calls.added (yck _ _ _ _))))
 refine wpQuiet_nil (fun X0=>?_);clear X00;refine yaj 26 _ zQ rfl rfl zd (fun X1 K Q' hK=>?_);go_simp;refine hK _ _ ?_ ?_
 · exact zE
 clear hK K Q';refine yaj 27 _ zQ rfl rfl zd (fun X1 K Q' hK=>?_);go_simp;refine hK _ _ ?_ ?_
 · exact zE
 clear hK K Q';refine yaa zQ (fun X2=>?_) _;go_wp2_with fail;go_loop [33] (fun i=> ∃k:Nat,k≤8∧i=.int .i64 k∧c.rangedTo k=true) (fun i=>8-(intOf i).toNat)
 case atStart=>exact ⟨0,zo,rfl,rfl⟩
 case round=>
  obtain ⟨k,hk,rfl,hb⟩:=hrel;have HB:=zH hb;clear hb;by_cases hlt:k<8
  · rcases (show k=0∨k=1∨k=2∨k=3∨k=4∨k=5∨k=6∨k=7 by omega) with rfl|rfl|rfl|rfl|rfl|rfl|rfl|rfl
    · clear hk hlt;go_wp2_with fail
      · have h:(!within c.frags 4 1024)=true:=by assumption
        go_ret;exact Gives.int (Eq.symm (Cnf.check_out (k:=0) (by simp only [Bool.not_eq_true'] at h;simp [Cnf.ranges,h]))) zE
      · have h:(!within c.frags 4 1024)=false:=by assumption
        have HN:=Cnf.rangedTo_succ HB.out (k:=0) (b:=true) (by simp only [Bool.not_eq_false'] at h;simp [Cnf.ranges,h]) rfl;exact ⟨⟨_,_,_,⟨1,zo,rfl,HN⟩,rfl,rfl,rfl⟩,by simp [intOf]⟩
    · clear hk hlt;go_wp2_with fail
      · have h:(!within c.spine 0 2048)=true:=by assumption
        go_ret;exact Gives.int (Eq.symm (Cnf.check_out (k:=1) (by simp only [Bool.not_eq_true'] at h;simp [Cnf.ranges,h]))) zE
      · have h:(!within c.spine 0 2048)=false:=by assumption
        have HN:=Cnf.rangedTo_succ HB.out (k:=1) (b:=true) (by simp only [Bool.not_eq_false'] at h;simp [Cnf.ranges,h]) rfl;exact ⟨⟨_,_,_,⟨2,zo,rfl,HN⟩,rfl,rfl,rfl⟩,by simp [intOf]⟩
    · clear hk hlt;go_wp2_with fail
      · have h:(!within c.globals 0 8)=true:=by assumption
        go_ret;exact Gives.int (Eq.symm (Cnf.check_out (k:=2) (by simp only [Bool.not_eq_true'] at h;simp [Cnf.ranges,h]))) zE
      · have h:(!within c.globals 0 8)=false:=by assumption
        have HN:=Cnf.rangedTo_succ HB.out (k:=2) (b:=true) (by simp only [Bool.not_eq_false'] at h;simp [Cnf.ranges,h]) rfl;exact ⟨⟨_,_,_,⟨3,zo,rfl,HN⟩,rfl,rfl,rfl⟩,by simp [intOf]⟩
    · clear hk hlt;go_wp2_with fail
      · have h:(!within c.threads 1 16)=true:=by assumption
        go_ret;exact Gives.int (Eq.symm (Cnf.check_out (k:=3) (by simp only [Bool.not_eq_true'] at h;simp [Cnf.ranges,h]))) zE
      · have h:(!within c.threads 1 16)=false:=by assumption
        have HN:=Cnf.rangedTo_succ HB.out (k:=3) (b:=true) (by simp only [Bool.not_eq_false'] at h;simp [Cnf.ranges,h]) rfl;exact ⟨⟨_,_,_,⟨4,zo,rfl,HN⟩,rfl,rfl,rfl⟩,by simp [intOf]⟩
    · clear hk hlt;go_wp2_with fail
      · have h:(!within c.locals 1 8)=true:=by assumption
        go_ret;exact Gives.int (Eq.symm (Cnf.check_out (k:=4) (by simp only [Bool.not_eq_true'] at h;simp [Cnf.ranges,h]))) zE
      · have h:(!within c.locals 1 8)=false:=by assumption
        have HN:=Cnf.rangedTo_succ HB.out (k:=4) (b:=true) (by simp only [Bool.not_eq_false'] at h;simp [Cnf.ranges,h]) rfl;exact ⟨⟨_,_,_,⟨5,zo,rfl,HN⟩,rfl,rfl,rfl⟩,by simp [intOf]⟩
    · clear hk hlt;go_wp2_with fail
      · have h:(!within c.cache 0 8)=true:=by assumption
        go_ret;exact Gives.int (Eq.symm (Cnf.check_out (k:=5) (by simp only [Bool.not_eq_true'] at h;simp [Cnf.ranges,h]))) zE
      · have h:(!within c.cache 0 8)=false:=by assumption
        have HN:=Cnf.rangedTo_succ HB.out (k:=5) (b:=true) (by simp only [Bool.not_eq_false'] at h;simp [Cnf.ranges,h]) rfl;exact ⟨⟨_,_,_,⟨6,zo,rfl,HN⟩,rfl,rfl,rfl⟩,by simp [intOf]⟩
    · clear hk hlt;go_wp2_with fail
      · have h:(!within c.stack 1 256)=true:=by assumption
        go_ret;exact Gives.int (Eq.symm (Cnf.check_out (k:=6) (by simp only [Bool.not_eq_true'] at h;simp [Cnf.ranges,h]))) zE
      · have h:(!within c.stack 1 256)=false:=by assumption
        have HN:=Cnf.rangedTo_succ HB.out (k:=6) (b:=true) (by simp only [Bool.not_eq_false'] at h;simp [Cnf.ranges,h]) rfl;exact ⟨⟨_,_,_,⟨7,zo,rfl,HN⟩,rfl,rfl,rfl⟩,by simp [intOf]⟩
    · clear hk hlt;go_wp2_with fail
      · have h:(!within c.low 0 c.frags)=true:=by assumption
        go_ret;exact Gives.int (Eq.symm (Cnf.check_out (k:=7) (by simp only [Bool.not_eq_true'] at h;simp [Cnf.ranges,h]))) zE
      · have h:(!within c.low 0 c.frags)=false:=by assumption
        have HN:=Cnf.rangedTo_succ HB.out (k:=7) (b:=true) (by simp only [Bool.not_eq_false'] at h;simp [Cnf.ranges,h]) rfl;exact ⟨⟨_,_,_,⟨8,zo,rfl,HN⟩,rfl,rfl,rfl⟩,by simp [intOf]⟩
  · obtain rfl:k=8:=zo;clear hk hlt;obtain ⟨⟨_,_⟩,_,_,⟨_,_⟩,_,⟨_,_⟩,_,_⟩:=Cnf.ranged HB.out;have hm1:0≤c.threads*c.cache:=Int.mul_nonneg zo zo;have hm2:c.threads*c.cache≤16*8:=Int.mul_le_mul zo zo zo zo;by_cases hp:c.threads*c.cache≤c.frags
    · cases hw:within c.shapes.length 1 8
      · have HC:=zH (show c.check=4 by simp [Cnf.check,HB.out,hp,hw]);go_wp2_with fail;refine (yck _ _ _ _).mono ?_;rw [hw];rintro e w1 ⟨rfl,X3,rfl⟩;go_wp2_with fail;go_ret;exact Gives.int HC.out.symm zE
      · have HC:=zH (show c.check=if badIn c.shapes then 4 else 0 by simp only [Cnf.check,HB.out,hp,hw];cases badIn c.shapes<;>simp);go_wp2_with fail;refine (yck _ _ _ _).mono ?_;rw [hw];rintro e w1 ⟨rfl,X3,rfl⟩;go_wp2_with fail;refine (yfd _ _ _ _ (hc.cells.ext zE) (fun s hs=>(hc.shapes s hs).ext zE) hc.max).mono ?_;rintro e w1 ⟨rfl,X4,rfl⟩;cases hb:badIn c.shapes
        · rw [hb] at HC;go_wp2_with fail;go_ret;exact Gives.int HC.out.symm zE
        · rw [hb] at HC;go_wp2_with fail;go_ret;exact Gives.int HC.out.symm zE
    · have HC:=zH (show c.check=1 by simp [Cnf.check,hp]);go_wp2_with fail;go_ret;exact Gives.int HC.out.symm zE
end Go.Proofs.YtdhjjpnajjingaaGreat
namespace Go
open Go.RowKit
def One.zero:One:=⟨0,false,false⟩
theorem yhC (n:Nat):madeCells #[.int .i64 0,.bool false,.bool false] (n*3)=((List.replicate n One.zero).flatMap One.cells).toArray:=by
 apply Array.ext_getElem?;intro j;conv=>rhs;rw [List.getElem?_toArray]
 by_cases hj:j<n*3
 · have e:=yaI One.cells_len (List.replicate n One.zero) (j/3) (j%3) One.zero (by rw [List.getElem?_replicate,if_pos zo]) zo;rw [show j/3*3+j%3=j by omega] at e;rw [e];simp only [madeCells,Array.getElem?_map,Array.getElem?_range,if_pos hj,Option.map_some];have:j%3=0∨j%3=1∨j%3=2:=zo;rcases this with h|h|h<;>simp [h,One.cells,One.zero]
 · rw [Array.getElem?_eq_none (by rw [size_madeCells];omega),List.getElem?_eq_none (by rw [ycA _ One.cells_len];simp;omega)]
def TabS.fresh (n:Nat):TabS:=⟨List.replicate n One.zero⟩
end Go
namespace Go.Proofs.YtdhjjpnajjingaaGreat
open Go Go.RowKit
theorem yk8:(prog.info? 265).map (fun i=>(i.zero,i.size,i.bytes))=some (some (.agg #[.int .i64 0,.bool false,.bool false]),3,16):=zQ
theorem ylt (n:Nat) (t:Nat) (g:GW) (hn:n≤1024):Calls prog 118 #[.int .i64 n] g.w (fun e w'=> ∃own' b,e=.returned (.tuple #[.pointer (some ⟨b,0,none⟩),.int .i64 0])∧Mod (fun _=>False) g ⟨own',w'⟩∧TabAt ⟨own',w'⟩ t b (TabS.fresh n)):=by
 obtain ⟨i0,hi,hz0,hz1,hz2⟩:=info_parts yk8;have hmk:=ybg (P:=prog) 106 265 i0 _ 3 16 Tryz.underlying106 hi hz0 hz1 hz2 n zo zo;simp only [Value.cells,yhC] at hmk;obtain ⟨arr,harr⟩: ∃arr:Array Value,((List.replicate n One.zero).flatMap One.cells).toArray=arr:=⟨_,rfl⟩;rw [harr] at hmk;have HA:=zH harr;have HN:=zH hn;clear harr;go_enter func118,ntmps118;go_wp2_with fail;go_ret2;obtain ⟨q1,q2⟩:=yaA g.w (.cells arr 265) (.cells #[.slice (some ⟨g.w.heap.size,0,none⟩) n n,.int .i64 n,.int .i64 0,.int .i64 0] 109);refine ⟨_,_,rfl,Mod.ext (show Ext g.w _ from zE) t,⟨⟨some ⟨g.w.heap.size,0,none⟩,n,?_,?_⟩,by simpa [TabS.fresh] using HN.out,fun o ho=>?_⟩⟩
 · have:=Blk.made (g:=g) (t:=t) (vs:=[.slice (some ⟨g.w.heap.size,0,none⟩) n n,.int .i64 n,.int .i64 0,.int .i64 0]) q2 zo;have e0:TabS.cnt (TabS.fresh n) 0=n:=by simp [TabS.cnt,TabS.fresh,List.countP_replicate,One.zero]
   have e1:TabS.cnt (TabS.fresh n) 1=0:=by simp [TabS.cnt,TabS.fresh,List.countP_replicate,One.zero]
   have e2:TabS.cnt (TabS.fresh n) 2=0:=by simp [TabS.cnt,TabS.fresh,List.countP_replicate,One.zero]
   rw [e0,e1,e2,show (TabS.fresh n).l.length=n by simp [TabS.fresh]];exact this
 · rw [show (TabS.fresh n).l.length=n by simp [TabS.fresh]];exact Row.made (HA.out▸q1) (Nat.le_refl _) (by rw [ycA _ One.cells_len];simp [TabS.fresh]) (by have:=HN.out;omega)
 · rw [(List.mem_replicate.1 ho).2];decide
theorem yjG (n:Nat) (most:Int) (t tt tp:Nat) (g:GW) (hn:n≤1024) (hm:1≤most∧most≤256):Calls prog 63 #[.int .i64 n,.int .i64 most] g.w (fun e w'=> ∃own' b bt bp,e=.returned (.tuple #[.pointer (some ⟨b,0,none⟩),.int .i64 0])∧Mod (fun _=>False) g ⟨own',w'⟩∧Blk ⟨own',w'⟩ t b 57 [.pointer (some ⟨bt,0,none⟩),.pointer (some ⟨bp,0,none⟩),.int .i64 0]∧TabAt ⟨own',w'⟩ tt bt (TabS.fresh n)∧PileAt ⟨own',w'⟩ tp bp ⟨[],most,false⟩):=by
 have HT:=zH (ylt n tt g hn)
 have HP:=zH (fun g'=>(ykL most tp g').mono fun e w' hh=>by
  unfold PileMade at hh;rw [if_pos hm] at hh;exact hh)
 clear hn;go_enter func63,ntmps63;go_wp2_with fail;refine HT.out.mono ?_;rintro e w1 ⟨own1,bt,rfl,m1,t1⟩;have M1:=zH m1;have T1:=zH t1;clear m1 t1 HT;go_wp2_with fail;refine (HP.out ⟨own1,w1⟩).mono ?_;rintro e w2 ⟨bp,rfl,he,p2⟩;have m2:=Mod.ext (T:=fun _=>False) (g:=⟨own1,w1⟩) he tp;have M2:=zH (M1.out.trans m2);have T2:=zH (T1.out.keep m2 id);have P2:=zH p2;clear m2 p2 he HP;go_wp2_with fail;go_ret2;have m3:=Mod.ext (T:=fun _=>False) (g:=(⟨own1,w1⟩:GW).to tp w2) (show Ext w2 (w2.alloc (.cells #[.pointer (some ⟨bt,0,none⟩),.pointer (some ⟨bp,0,none⟩),.int .i64 0] 57)) from zE) t;exact ⟨_,_,_,_,rfl,M2.out.trans m3,Blk.made (World.row_alloc_new _) (Nat.le_refl _),T2.out.keep m3 id,P2.out.keep m3 id⟩
theorem yaT (bt:Nat) (w:World):Calls prog 12 #[.agg #[.pointer (some ⟨bt,0,none⟩)]] w (Gives (.pointer (some ⟨bt,0,none⟩)) w):=by
 go_enter func12,ntmps12;go_wp2_with fail;go_ret;exact Gives.of_ext zE
structure CoilAt (g:GW) (t b:Nat) (c:CoilS):Prop where
 blk:Blk g t b 212 [.int .i64 c.size,.int .i64 c.cur,.int .i64 c.u0,.int .i64 c.u1,.int .i64 c.kept]
 ok:c.Ok
theorem CoilAt.keep {S:Nat→Prop} {g g':GW} {t b:Nat} {c:CoilS} (h:CoilAt g t b c) (d:Mod S g g') (hs: ¬S t):CoilAt g' t b c:=⟨h.blk.keep d hs,h.ok⟩
theorem CoilAt.pt {g:GW} {t b:Nat} {c:CoilS} (h:CoilAt g t b c) (X:Extra):CoilAt (g.pt X) t b c:=h.keep (S:=fun _=>False) (Mod.pt (Mod.refl _ _) X) id
theorem ycu (g:GW) (t b:Nat) (c:CoilS) (h:CoilAt g t b c):
 Calls prog 100 #[.pointer (some ⟨b,0,none⟩)] g.w (fun e w'=>e=.returned (zI z6 c.cur)∧g.w=w'):=by
 have c1:=h.blk.cell (i:=1) rfl;clear h;go_enter func100,ntmps100;go_wp2_with fail;go_ret;exact ⟨rfl,rfl⟩
theorem yec (g:GW) (t b s:Nat) (c:CoilS) (h:CoilAt g t b c) (hs:s<2):
 Calls prog 102 #[.pointer (some ⟨b,0,none⟩),.int .i64 s] g.w (fun e w'=>e=.returned (zI z6 (c.used s))∧g.w=w'):=by
 have c2:=h.blk.cell (i:=2) rfl;have c3:=h.blk.cell (i:=3) rfl;clear h;rcases (show s=0∨s=1 by omega) with rfl|rfl
 · have HV:=zH (show c.used 0=c.u0 from rfl);go_enter func102,ntmps102;go_wp2_with fail;go_ret;exact ⟨by rw [HV.out];try rfl,rfl⟩
 · have HV:=zH (show c.used 1=c.u1 from rfl);go_enter func102,ntmps102;go_wp2_with fail;go_ret;exact ⟨by rw [HV.out];try rfl,rfl⟩
theorem yeb (g:GW) (t b:Nat) (c:CoilS) (h:CoilAt g t b c):
 Calls prog 235 #[.pointer (some ⟨b,0,none⟩)] g.w (Gives (zI z6 c.room) g.w):=by
 have c0:=h.blk.cell (i:=0) rfl;have c1:=h.blk.cell (i:=1) rfl;have c2:=h.blk.cell (i:=2) rfl;have c3:=h.blk.cell (i:=3) rfl;have c4:=h.blk.cell (i:=4) rfl;have hbl:=h.blk.lt;obtain ⟨o1,⟨_,_⟩,⟨_,_⟩,⟨_,_⟩,⟨_,_⟩,_⟩:=h.ok;clear h;obtain ⟨size,cur,u0,u1,kept⟩:=c;simp only at *;rcases (show cur=0∨cur=1 by omega) with rfl|rfl
 · replace c1:g.w.cell? ⟨b,1,none⟩=some (zI z6 0):=c1;have HV:=zH (show CoilS.room ⟨size,0,u0,u1,kept⟩=size-u0-kept from rfl);go_enter func235,ntmps235;go_wp2_with fail;refine yab [zT,zT,zT,zT,zT,zT,zT,zT,zT,zT,zT,zT,zT,zT,zT,zT,zT,zT,zT,zT] 0 20 ?_;intro X00;simp only [pickOps];repeat (go_big_quiet_step (fail))
   refine wpQuiet_nil (fun X0=>?_);clear X00;refine yaa zQ (fun X0'=>?_) _;go_wp2_with fail;go_ret;exact Gives.int (by rw [HV.out];try rfl) zE
 · replace c1:g.w.cell? ⟨b,1,none⟩=some (zI z6 1):=c1;have HV:=zH (show CoilS.room ⟨size,1,u0,u1,kept⟩=size-u1-kept from rfl);go_enter func235,ntmps235;go_wp2_with fail;refine yab [zT,zT,zT,zT,zT,zT,zT,zT,zT,zT,zT,zT,zT,zT,zT,zT,zT,zT,zT,zT] 0 20 ?_;intro X00;simp only [pickOps];repeat (go_big_quiet_step (fail))
   refine wpQuiet_nil (fun X0=>?_);clear X00;refine yaa zQ (fun X0'=>?_) _;go_wp2_with fail;go_ret;exact Gives.int (by rw [HV.out];try rfl) zE
theorem yit (g:GW) (t b:Nat) (n:Int) (c:CoilS) (h:CoilAt g t b c) (hn:0≤n∧n≤4096) (hok:(c.lays n).Ok):
 Calls prog 273 #[.pointer (some ⟨b,0,none⟩),.int .i64 n] g.w (Does (zI z6 (c.used c.cur)) g (fun x=>x=t) (fun g'=>CoilAt g' t b (c.lays n))):=by
 have c0:=h.blk.cell (i:=0) rfl;have c1:=h.blk.cell (i:=1) rfl;have c2:=h.blk.cell (i:=2) rfl;have c3:=h.blk.cell (i:=3) rfl;have c4:=h.blk.cell (i:=4) rfl;have f2:=h.blk.live 2;have f3:=h.blk.live 3;have hbl:=h.blk.lt;obtain ⟨o1,⟨_,_⟩,⟨_,_⟩,⟨_,_⟩,⟨_,_⟩,_⟩:=h.ok;have HO:=zH h.blk.own;have HB:=zH h.blk;have HK:=zH hok;obtain ⟨hn0,hn1⟩:=hn;clear h hok;obtain ⟨size,cur,u0,u1,kept⟩:=c;simp only at *;rcases (show cur=0∨cur=1 by omega) with rfl|rfl
 · replace c1:g.w.cell? ⟨b,1,none⟩=some (zI z6 0):=c1;have HT:=zH (show CoilS.lays ⟨size,0,u0,u1,kept⟩ n=⟨size,0,u0+n,u1,kept⟩ from rfl);rw [HT.out] at HK;go_enter func273,ntmps273;go_wp2_with fail;refine yab [zT,zT,zT,zT,zT,zT,zT,zT,zT,zT] 0 10 ?_;intro X00;simp only [pickOps];repeat (go_big_quiet_step (fail))
   refine wpQuiet_nil (fun X0=>?_);clear X00;refine yaa zQ (fun X0'=>?_) _;go_wp2_with fail;refine yab [zT,zT,zT,zT,zT,zT,zT,zT,zT,zT,zT,zT,zT,zT,zU] 1 14 ?_;intro X00;simp only [pickOps];repeat (go_big_quiet_step (fail))
   refine wpQuiet_nil (fun X0=>?_);clear X00;refine yai 14 _ zQ zQ rfl rfl (fun X1 K Q' hK=>?_);go_simp;refine hK _ _ (fun X2=>?_);clear hK K Q';go_wp2_with fail;go_ret;(try rw [World.patch_patch]);refine Does.of (GW.pt ⟨g.own,_⟩ _) rfl rfl (Mod.pt (Mod.st Mod.self HO.out) _) ?_;rw [HT.out];exact CoilAt.pt ⟨HB.out.set 2 _,HK.out⟩ _
 · replace c1:g.w.cell? ⟨b,1,none⟩=some (zI z6 1):=c1;have HT:=zH (show CoilS.lays ⟨size,1,u0,u1,kept⟩ n=⟨size,1,u0,u1+n,kept⟩ from rfl);rw [HT.out] at HK;go_enter func273,ntmps273;go_wp2_with fail;refine yab [zT,zT,zT,zT,zT,zT,zT,zT,zT,zT] 0 10 ?_;intro X00;simp only [pickOps];repeat (go_big_quiet_step (fail))
   refine wpQuiet_nil (fun X0=>?_);clear X00;refine yaa zQ (fun X0'=>?_) _;go_wp2_with fail;refine yab [zT,zT,zT,zT,zT,zT,zT,zT,zT,zT,zT,zT,zT,zT,zU] 1 14 ?_;intro X00;simp only [pickOps];repeat (go_big_quiet_step (fail))
   refine wpQuiet_nil (fun X0=>?_);clear X00;refine yai 14 _ zQ zQ rfl rfl (fun X1 K Q' hK=>?_);go_simp;refine hK _ _ (fun X2=>?_);clear hK K Q';go_wp2_with fail;go_ret;(try rw [World.patch_patch]);refine Does.of (GW.pt ⟨g.own,_⟩ _) rfl rfl (Mod.pt (Mod.st Mod.self HO.out) _) ?_;rw [HT.out];exact CoilAt.pt ⟨HB.out.set 3 _,HK.out⟩ _
theorem CoilS.Ok.take {c:CoilS} (h:c.Ok) {n:Int} (hn:c.takeable n=true):(c.lays n).Ok:=by
 obtain ⟨size,cur,u0,u1,kept⟩:=c;obtain ⟨o1,o2,o3,o4,o5,o6⟩:=h;have hn':1≤n∧n≤CoilS.room ⟨size,cur,u0,u1,kept⟩:=by simpa [CoilS.takeable] using hn
 obtain ⟨hn1,hn2⟩:=hn';unfold CoilS.room at hn2;simp only at o1 o2 o3 o4 o5 o6 hn2;rcases (show cur=0∨cur=1 by omega) with rfl|rfl
 · have e:CoilS.used ⟨size,0,u0,u1,kept⟩ 0=u0:=rfl;rw [e] at o6 hn2;exact ⟨by show 0<2;decide,o2,⟨by show 0≤u0+n;omega,by show u0+n≤2048;omega⟩,o4,o5,by show u0+n+kept≤size;omega⟩
 · have e:CoilS.used ⟨size,1,u0,u1,kept⟩ 1=u1:=rfl;rw [e] at o6 hn2;exact ⟨by show 1<2;decide,o2,o3,⟨by show 0≤u1+n;omega,by show u1+n≤2048;omega⟩,o5,by show u1+n+kept≤size;omega⟩
theorem CoilS.takenAt_no {c:CoilS} {n:Int} (h:c.takeable n=false):c.takenAt n=0:=by unfold CoilS.takenAt;rw [h];rfl
theorem CoilS.takenAt_yes {c:CoilS} {n:Int} (h:c.takeable n=true):c.takenAt n=c.used c.cur:=by unfold CoilS.takenAt;rw [h];rfl
theorem yiu (g:GW) (t b:Nat) (n:Int) (c:CoilS) (h:CoilAt g t b c) (hn:n≤1099511627776):
 Calls prog 237 #[.pointer (some ⟨b,0,none⟩),.int .i64 n] g.w (Does (.tuple #[.int .i64 (c.takenAt n),.bool (c.takeable n)]) g (fun x=>x=t) (fun g'=>CoilAt g' t b (c.take n))):=by
 have H:=zH h;by_cases h1:n<1
 · have HV:=zH (show c.takeable n=false by unfold CoilS.takeable;simp;omega);have HT:=zH (show c.take n=c by unfold CoilS.take;rw [HV.out];try rfl);clear h;go_enter func237,ntmps237;go_wp2_with fail;go_ret2;exact Does.of g rfl (by rw [CoilS.takenAt_no HV.out,HV.out];try rfl) (Mod.refl _ _) (by rw [HT.out];exact H.out)
 · have HR:=zH (yeb g t b c h);by_cases h2:c.room<n
   · have HV:=zH (show c.takeable n=false by unfold CoilS.takeable;simp;omega);have HT:=zH (show c.take n=c by unfold CoilS.take;rw [HV.out];try rfl);generalize c.room=rm at *;clear h;go_enter func237,ntmps237;go_wp2_with fail;refine (HR.out).mono ?_;rintro e w1 ⟨rfl,X1,rfl⟩;go_wp2_with fail;go_ret2;exact Does.ext g zE (by rw [CoilS.takenAt_no HV.out,HV.out];try rfl) (Mod.refl _ _) (fun g2 m=>by rw [HT.out];exact H.out.keep m id)
   · have hv:c.takeable n=true:=by unfold CoilS.takeable;simp;omega
     have hok:=CoilS.Ok.take h.ok hv
     have hrm:c.room≤4096:=by
      obtain ⟨o1,⟨_,_⟩,⟨_,_⟩,⟨_,_⟩,⟨_,_⟩,o6⟩:=h.ok;unfold CoilS.room CoilS.used;split<;>omega
     have HL:=zH (fun X=>yit (g.pt X) t b n c (h.pt X) zo hok);have HV:=zH hv;have HT:=zH (show c.take n=c.lays n by unfold CoilS.take;rw [HV.out];try rfl);have h2':n≤c.room:=zo;generalize c.room=rm at *;clear h hok hv h2;go_enter func237,ntmps237;go_wp2_with fail;refine (HR.out).mono ?_;rintro e w1 ⟨rfl,X1,rfl⟩;go_wp2_with fail;refine (HL.out X1).mono ?_;rintro e w1 ⟨rfl,own1,m1,a1⟩;have M:=zH m1;have Q:=zH a1;clear m1 a1;go_wp2_with fail;go_ret2;exact Does.of ⟨own1,_⟩ rfl (by rw [CoilS.takenAt_yes HV.out,HV.out];try rfl) (Mod.trans (Mod.pt (Mod.refl _ _) _) M.out) (by rw [HT.out];exact Q.out)
theorem yiv (g:GW) (t b:Nat) (c:CoilS) (h:CoilAt g t b c):
 Calls prog 173 #[.pointer (some ⟨b,0,none⟩)] g.w (Does (.bool c.turnable) g (fun x=>x=t) (fun g'=>CoilAt g' t b c.turn)):=by
 have c0:=h.blk.cell (i:=0) rfl;have c1:=h.blk.cell (i:=1) rfl;have c2:=h.blk.cell (i:=2) rfl;have c3:=h.blk.cell (i:=3) rfl;have c4:=h.blk.cell (i:=4) rfl;have f1:=h.blk.live 1;have f4:=h.blk.live 4;have hbl:=h.blk.lt;obtain ⟨o1,⟨_,_⟩,⟨_,_⟩,⟨_,_⟩,⟨_,_⟩,o6⟩:=h.ok;have HO:=zH h.blk.own;have HB:=zH h.blk;have H:=zH h;clear h;obtain ⟨size,cur,u0,u1,kept⟩:=c;simp only at *;rcases (show cur=0∨cur=1 by omega) with rfl|rfl
 · replace c1:g.w.cell? ⟨b,1,none⟩=some (zI z6 0):=c1;by_cases hz:0<u1
   · have HV:=zH (show CoilS.turnable ⟨size,0,u0,u1,kept⟩=false by unfold CoilS.turnable CoilS.used;simp;omega);have HT:=zH (show CoilS.turn ⟨size,0,u0,u1,kept⟩=⟨size,0,u0,u1,kept⟩ by unfold CoilS.turn;rw [HV.out];try rfl);have hd:decide (0<u1)=true:=decide_eq_true hz;clear o6;go_enter func173,ntmps173;go_wp2_with fail;refine yab [zT,zT,zT,zT,zT,zT,zT,zT,zT,zT,zT] 0 11 ?_;intro X00;simp only [pickOps];repeat (go_big_quiet_step (fail))
     refine wpQuiet_nil (fun X0=>?_);clear X00;refine yaa zQ (fun X0'=>?_) _;go_wp2_with fail;go_ret;exact Does.ext g zE (by rw [HV.out];try rfl) (Mod.refl _ _) (fun g2 m=>by rw [HT.out];exact H.out.keep m id)
   · have HV:=zH (show CoilS.turnable ⟨size,0,u0,u1,kept⟩=true by unfold CoilS.turnable CoilS.used;simp;omega);have HT:=zH (show CoilS.turn ⟨size,0,u0,u1,kept⟩=⟨size,1,u0,u1,u0⟩ by unfold CoilS.turn;rw [HV.out];try rfl);have HK:=zH (show CoilS.Ok ⟨size,1,u0,u1,u0⟩ from ⟨by simp,by simp only;omega,by simp only;omega,by simp only;omega,by simp only;omega,by simp only [CoilS.used,if_true,if_false,Nat.one_ne_zero] at *;omega⟩);have hd:decide (0<u1)=false:=decide_eq_false hz;clear o6;go_enter func173,ntmps173;go_wp2_with fail;refine yab [zT,zT,zT,zT,zT,zT,zT,zT,zT,zT,zT] 0 11 ?_;intro X00;simp only [pickOps];repeat (go_big_quiet_step (fail))
     refine wpQuiet_nil (fun X0=>?_);clear X00;refine yaa zQ (fun X0'=>?_) _;go_wp2_with fail;refine yab [zT,zT,zT,zT,zT,zT,zT,zT,zT,zT,zT,zT,zU] 1 12 ?_;intro X00;simp only [pickOps];repeat (go_big_quiet_step (fail))
     refine wpQuiet_nil (fun X0=>?_);clear X00;refine yai 12 _ zQ zQ rfl rfl (fun X1 K Q' hK=>?_);go_simp;refine hK _ _ (fun X2=>?_);clear hK K Q';go_wp2_with fail;go_ret;(try rw [World.patch_patch]);refine Does.of (GW.pt ⟨g.own,_⟩ _) rfl (by rw [HV.out];try rfl) (Mod.pt (Mod.st (Mod.st Mod.self HO.out) HO.out) _) ?_;rw [HT.out];exact CoilAt.pt ⟨(HB.out.set 4 _).set 1 _,HK.out⟩ _
 · replace c1:g.w.cell? ⟨b,1,none⟩=some (zI z6 1):=c1;by_cases hz:0<u0
   · have HV:=zH (show CoilS.turnable ⟨size,1,u0,u1,kept⟩=false by unfold CoilS.turnable CoilS.used;simp;omega);have HT:=zH (show CoilS.turn ⟨size,1,u0,u1,kept⟩=⟨size,1,u0,u1,kept⟩ by unfold CoilS.turn;rw [HV.out];try rfl);have hd:decide (0<u0)=true:=decide_eq_true hz;clear o6;go_enter func173,ntmps173;go_wp2_with fail;refine yab [zT,zT,zT,zT,zT,zT,zT,zT,zT,zT,zT] 0 11 ?_;intro X00;simp only [pickOps];repeat (go_big_quiet_step (fail))
     refine wpQuiet_nil (fun X0=>?_);clear X00;refine yaa zQ (fun X0'=>?_) _;go_wp2_with fail;go_ret;exact Does.ext g zE (by rw [HV.out];try rfl) (Mod.refl _ _) (fun g2 m=>by rw [HT.out];exact H.out.keep m id)
   · have HV:=zH (show CoilS.turnable ⟨size,1,u0,u1,kept⟩=true by unfold CoilS.turnable CoilS.used;simp;omega);have HT:=zH (show CoilS.turn ⟨size,1,u0,u1,kept⟩=⟨size,0,u0,u1,u1⟩ by unfold CoilS.turn;rw [HV.out];try rfl);have HK:=zH (show CoilS.Ok ⟨size,0,u0,u1,u1⟩ from ⟨by simp,by simp only;omega,by simp only;omega,by simp only;omega,by simp only;omega,by simp only [CoilS.used,if_true,if_false,Nat.one_ne_zero] at *;omega⟩);have hd:decide (0<u0)=false:=decide_eq_false hz;clear o6;go_enter func173,ntmps173;go_wp2_with fail;refine yab [zT,zT,zT,zT,zT,zT,zT,zT,zT,zT,zT] 0 11 ?_;intro X00;simp only [pickOps];repeat (go_big_quiet_step (fail))
     refine wpQuiet_nil (fun X0=>?_);clear X00;refine yaa zQ (fun X0'=>?_) _;go_wp2_with fail;refine yab [zT,zT,zT,zT,zT,zT,zT,zT,zT,zT,zT,zT,zU] 1 12 ?_;intro X00;simp only [pickOps];repeat (go_big_quiet_step (fail))
     refine wpQuiet_nil (fun X0=>?_);clear X00;refine yai 12 _ zQ zQ rfl rfl (fun X1 K Q' hK=>?_);go_simp;refine hK _ _ (fun X2=>?_);clear hK K Q';go_wp2_with fail;go_ret;(try rw [World.patch_patch]);refine Does.of (GW.pt ⟨g.own,_⟩ _) rfl (by rw [HV.out];try rfl) (Mod.pt (Mod.st (Mod.st Mod.self HO.out) HO.out) _) ?_;rw [HT.out];exact CoilAt.pt ⟨(HB.out.set 4 _).set 1 _,HK.out⟩ _
def CoilMade (n:Int) (t:Nat) (g:GW) (e:Ending) (w':World):Prop:=
 if 0≤n∧n≤2048 then∃own' b,e=.returned (.tuple #[.pointer (some ⟨b,0,none⟩),.int .i64 0])∧Mod (fun _=>False) g ⟨own',w'⟩∧CoilAt ⟨own',w'⟩ t b ⟨n,0,0,0,0⟩
 else e=.returned (.tuple #[.pointer none,.int .i64 1])∧Ext g.w w'
theorem ykb (n:Int) (t:Nat) (g:GW):Calls prog 122 #[.int .i64 n] g.w (CoilMade n t g):=by
 by_cases h0:n<0
 · have HV:=zH (show¬(0≤n∧n≤2048) by omega);go_enter func122,ntmps122;go_wp2_with fail;go_ret2;unfold CoilMade;rw [if_neg HV.out];exact ⟨rfl,Ext.refl _⟩
 by_cases h1:2048<n
 · have HV:=zH (show¬(0≤n∧n≤2048) by omega);go_enter func122,ntmps122;go_wp2_with fail;go_ret2;unfold CoilMade;rw [if_neg HV.out];exact ⟨rfl,Ext.refl _⟩
 have HV:=zH (show (0:Int)≤n∧n≤2048 by omega);go_enter func122,ntmps122;go_wp2_with fail;go_ret2;unfold CoilMade;rw [if_pos HV.out];obtain ⟨_,_⟩:=HV.out;exact ⟨_,_,rfl,Mod.ext (show Ext g.w _ from zE) t,Blk.made (World.row_alloc_new _) (Nat.le_refl _),⟨by simp,by simp only;omega,by simp,by simp,by simp,by simp [CoilS.used];omega⟩⟩
end Go.Proofs.YtdhjjpnajjingaaGreat
