import Derived.Test.YtdhjjpnajjingaaGreatKF07
import Derived.Deep.DeepCutAuto
import Derived.Laws.AppendOwnNone
import Derived.Laws.CopyRow
set_option linter.unusedVariables false
set_option linter.unnecessarySimpa false
set_option linter.unusedSimpArgs false
open Bool renaming true→zT,false→zU
open Go.Value renaming int→zI,complex→zc,pointer→zp,bool→zb
open Go.IntKind renaming i64→z6
open Go.FloatKind renaming f64→z4
set_option maxHeartbeats 8000000
set_option maxRecDepth 100000
open Go.Proofs.Tryz
open Go.Lib renaming hid→zH
open Go.Ext renaming alloc→zA,patch→zP,drew→zD,drewN→zN,more→zM,refl→zR,setCell→zS
open Nat renaming le_refl→zL,le_add_right→zK
namespace Go.Proofs.YtdhjjpnajjingaaGreat
open Go Go.RowKit
def arrMode (n:Int) (got:List Int):Int:=modeOf (sData n) got
theorem yht (n:Int) (got:List Int):arrMode n got=0∨arrMode n got=1∨arrMode n got=2:=by
 unfold arrMode modeOf;split
 · exact Or.inl rfl
 · split
   · exact Or.inr (Or.inr rfl)
   · exact Or.inr (Or.inl rfl)
def arrE (c:Cnf) (is:Bool) (s:Shp) (n:Int) (got:List Int) (at_:Int):Int:=
 if wrongE c is s n true got=0 then (if (decide (arrMode n got=1)&& !beginsAt c at_ (s.spine n))=true then 2 else 0) else wrongE c is s n true got
def dataF (s:Shp):Nat→Nat × Nat:=fun _=>cxOf (wBlank (s.refs.getD 0 false))
def fragWrites (f0 f:Nat→Nat × Nat) (got:List Int):Nat→List Value
 |0=>[]
 |j+1=>fragWrites f0 f got j++writes (got.getD j 0) (if j=0 then f0 else f) 8
def spineW (got:List Int) (at_:Int):Nat→List Value
 |0=>[zI z6 at_,wRef (got.getD 0 0),zI z6 (at_+1),wWhole ((got.length:Int)-1)]
 |k+1=>spineW got at_ k++[zI z6 (at_+2+k),wRef (got.getD (k+1) 0)]
def sentF (kind n at_:Int) (got:List Int):Nat→Nat × Nat:=rowF (sentWords kind n (arrMode n got) got at_)
def arrFrags (s:Shp) (kind n at_:Int) (got:List Int) (j:Nat):List Value:=fragWrites (sentF kind n at_ got) (dataF s) got j
def arrWrites (s:Shp) (kind n at_:Int) (got:List Int):List Value:=arrFrags s kind n at_ got got.length++if arrMode n got=1 then spineW got at_ (got.length-1) else []
def ArrGot (c:Cnf) (kind n:Int) (got:List Int) (at_:Int) (w:World) (e:Ending) (w':World):Prop:=
 ∃(s':Shp) (l:Value) (m:Nat),e=.returned (.tuple #[l,zI z6 (arrE c (c.shapeAt kind).isSome s' n got at_)])∧(s'.arr,s'.refs)=(c.shapeAt kind).getD (false,[])∧
  w'.ownsRow w.heap.size 194 2 l m (if arrE c (c.shapeAt kind).isSome s' n got at_=0 then arrWrites s' kind n at_ got else [])∧Ext w w'
theorem ydq (kind n m:Int) (got:List Int) (at_:Int):(sentWords kind n m got at_).length=8:=by
 unfold sentWords;split
 · rfl
 · split<;>rfl
theorem ygc (kind n m:Int) (got:List Int) (at_:Int): ∀v∈sentWords kind n m got at_,IsCx v:=by
 have hs: ∀j,IsCx (sentIn got j):=fun j=>ybt got j;intro v hv;unfold sentWords at hv;rcases List.mem_append.1 hv with hv|hv
 · simp only [List.mem_cons,List.not_mem_nil,or_false] at hv;rcases hv with rfl|rfl|rfl|rfl
   · exact yeI
   · exact ybY _ _
   · exact yby _
   · exact yby _
 · split at hv
   · simp only [List.mem_cons,List.not_mem_nil,or_false] at hv;rcases hv with rfl|rfl|rfl|rfl<;>exact hs _
   · split at hv
     · simp only [List.mem_cons,List.not_mem_nil,or_false] at hv;rcases hv with rfl|rfl|rfl|rfl
       · exact yby _
       all_goals exact ya8
     · simp only [List.mem_cons,List.not_mem_nil,or_false] at hv;rcases hv with rfl|rfl|rfl|rfl
       · exact ybN _
       all_goals exact ya8
structure ArrSt (c:Cnf) (kind n at_:Int) (got:List Int) (w:World) (j:Nat) (l:Value) (s:Shp) (bd bs:Nat) (vs:List Value) (wr:World):Prop where
 box:wr.heap[w.heap.size]?=some (.cells #[zI z6 c.frags,zI z6 c.spine,zI z6 c.globals,zI z6 c.threads,zI z6 c.locals,zI z6 c.cache,zI z6 c.stack,zI z6 c.low,.slice c.A c.shapes.length c.cap] 34)
 dblk:wr.heap[bd]?=some (.cells vs.toArray 254)
 sblk:wr.heap[bs]?=some (.cells #[zb s.arr,.slice s.A s.refs.length s.cap] 94)
 vlen:vs.length=8
 vcx: ∀v∈vs,IsCx v
 sok:s.Ok wr
 slt: ∀a,s.A=some a→0<s.refs.length→a.block<bs
 ext:Ext w wr
 own:wr.ownsRow (bs+1) 194 2 l (8*j) (arrFrags s kind n at_ got j)
 lt1:w.heap.size<bd
 lt2:bd<bs
 what:(s.arr,s.refs)=(c.shapeAt kind).getD (false,[])
 fine0:wrongE c (c.shapeAt kind).isSome s n true got=0
theorem ArrSt.ne {c:Cnf} {kind n at_:Int} {got:List Int} {w:World} {j:Nat} {l:Value} {s:Shp} {bd bs:Nat} {vs:List Value} {wr:World} (h:ArrSt c kind n at_ got w j l s bd bs vs wr): ∀a,s.A=some a→0<s.refs.length→bd≠a.block:=by
 intro a ha hr e;obtain ⟨b,o,hA,hb,hc⟩:=h.sok.refs.cases (by simpa using hr);rw [ha] at hA;injection hA with hA;subst hA;simp only at e;subst e;have h1:=hc 0 (zb (s.refs.getD 0 false)) (by rw [List.getElem?_map,List.getElem?_eq_getElem hr,List.getD_eq_getElem?_getD,List.getElem?_eq_getElem hr];rfl);simp only [World.cell?,h.dblk,List.size_toArray,List.getElem?_toArray] at h1;have h2:=h.vcx _ (List.mem_of_getElem? (i:=o+0) (by simpa using h1));obtain ⟨p,q,h3⟩:=h2;cases h3
theorem ArrSt.put {c:Cnf} {kind n at_:Int} {got:List Int} {w:World} {j:Nat} {l:Value} {s:Shp} {bd bs:Nat} {vs:List Value} {wr:World} (h:ArrSt c kind n at_ got w j l s bd bs vs wr) (L:List Value) (hL:L.length=8) (hx: ∀v∈L,IsCx v):
 ArrSt c kind n at_ got w j l s bd bs L (wr.putBlk bd (.cells L.toArray 254)):=by
 have hb:=(Array.getElem?_eq_some_iff.1 h.dblk).1;have h1:=h.lt1;have h2:=h.lt2;refine { box:=?_,dblk:=World.row_put _ hb,sblk:=?_,vlen:=hL,vcx:=hx,sok:=h.sok.putBlk h.ne,slt:=h.slt,ext:=?_,own:=?_,lt1:=h1,lt2:=h2,what:=h.what,fine0:=h.fine0 }
 · rw [World.row_put_other _ zo];exact h.box
 · rw [World.row_put_other _ zo];exact h.sblk
 · obtain ⟨b1,b2,b3,_,_⟩:=h.ext.below;exact yaE ⟨b1,b2,b3,by rw [World.size_putBlk];exact h.ext.size,fun k hk=>by rw [World.row_put_other _ zo];exact h.ext.heap k hk⟩
 · obtain ⟨o1,o2⟩:=h.own;refine ⟨o1,?_⟩;rcases o2 with ⟨hv,hn⟩|⟨g,cap,cur,hv,hbg,hh,r⟩
   · exact Or.inl ⟨hv,hn⟩
   · exact Or.inr ⟨g,cap,cur,hv,hbg,by rw [World.row_put_other _ zo];exact hh,r⟩
theorem ArrSt.patch {c:Cnf} {kind n at_:Int} {got:List Int} {w:World} {j:Nat} {l:Value} {s:Shp} {bd bs:Nat} {vs:List Value} {wr w':World} (h:ArrSt c kind n at_ got w j l s bd bs vs wr) (he:Ext wr w'):ArrSt c kind n at_ got w j l s bd bs vs w':=by
 have hb:=(Array.getElem?_eq_some_iff.1 h.dblk).1;have hb1:=(Array.getElem?_eq_some_iff.1 h.box).1;have hb2:=(Array.getElem?_eq_some_iff.1 h.sblk).1;exact { box:=by rw [he.heap _ hb1];exact h.box,dblk:=by rw [he.heap _ hb];exact h.dblk,sblk:=by rw [he.heap _ hb2];exact h.sblk,vlen:=h.vlen,vcx:=h.vcx,sok:=h.sok.ext he,slt:=h.slt,ext:=h.ext.trans he,own:=yaQ h.own he,lt1:=h.lt1,lt2:=h.lt2,what:=h.what,fine0:=h.fine0 }
theorem ArrSt.lay {c:Cnf} {kind n at_:Int} {got:List Int} {w:World} {j j':Nat} {l:Value} {s:Shp} {bd bs:Nat} {vs:List Value} {wr:World} (h:ArrSt c kind n at_ got w j l s bd bs vs wr) {l':Value} {w':World} (he:Ext (wr.upTo (bs+1)) w') (ho:w'.ownsRow (bs+1) 194 2 l' (8*j') (arrFrags s kind n at_ got j')):
 ArrSt c kind n at_ got w j' l' s bd bs vs w':=by
 have hb:=(Array.getElem?_eq_some_iff.1 h.sblk).1;have h1:=h.lt1;have h2:=h.lt2;have hz:=World.size_upTo wr (n:=bs+1) zo
 exact { box:=by rw [he.heap _ zo,World.heap_upTo _ zo];exact h.box,dblk:=by rw [he.heap _ zo,World.heap_upTo _ zo];exact h.dblk,sblk:=by rw [he.heap _ zo,World.heap_upTo _ zo];exact h.sblk,
         vlen:=h.vlen,vcx:=h.vcx,sok:=(h.sok.upTo zo (fun a ha hr=>Nat.lt_succ_of_lt (h.slt a ha hr))).ext he,slt:=h.slt,ext:=(h.ext.upTo zo zo).trans he,own:=ho,lt1:=h1,lt2:=h2,what:=h.what,fine0:=h.fine0 }
theorem yiR {c:Cnf} {is:Bool} {s:Shp} {n:Int} {got:List Int} {at_:Int} (h:arrE c is s n got at_=0):wrongE c is s n true got=0∧(arrMode n got=1→beginsAt c at_ (s.spine n)=true):=by
 unfold arrE at h;split at h
 · rename_i h0
   refine ⟨h0,fun h1=>?_⟩;rw [h1] at h;cases hb:beginsAt c at_ (s.spine n)
   · rw [hb] at h;exact absurd h zd
   · rfl
 · rename_i h0
   exact absurd h h0
theorem yfz {c:Cnf} {is:Bool} {s:Shp} {n:Int} {got:List Int} (h:wrongE c is s n true got=0):s.refs.length=1∧(got.length:Int)=1+sData n∧s.may=true∧s.arr=true:=by
 obtain ⟨-, -, -,ha,hl,h1, -⟩:=yaK h
 have hm:s.may=true:=by
  cases hm:s.may
  · unfold Shp.size at h1;rw [if_pos (Or.inl hm)] at h1;omega
  · rfl
 have hs:s.size n=1+sData n:=by
  unfold Shp.size at h1 ⊢;split
  · rw [if_pos (by assumption)] at h1;omega
  · first|rfl|rw [if_pos ha]
 refine ⟨?_,by rw [hl,hs],hm,ha⟩;have:=hm;unfold Shp.may at this;rw [ha] at this;simp at this;omega
def ArrAt (c:Cnf) (kind n at_:Int) (A:Option Addr) (cap:Nat) (got:List Int) (w:World) (a:Act) (wr:World):Prop:=
 ∃(j:Nat) (l:Value) (s:Shp) (bd bs:Nat) (u:Nat→Value),a={ tmps:=#[(.agg #[zI z6 c.frags,zI z6 c.spine,zI z6 c.globals,zI z6 c.threads,zI z6 c.locals,zI z6 c.cache,zI z6 c.stack,zI z6 c.low,.slice c.A c.shapes.length c.cap]),zI z6 kind,zI z6 n,.slice A got.length cap,zI z6 at_,zp (some ⟨w.heap.size,0,none⟩),u 6,u 7,u 8,u 9,u 10,u 11,l,zp (some ⟨bd,0,none⟩),zI z6 (arrMode n got),zI z6 j,zp (some ⟨bs,0,none⟩),zI z6 0,u 18,u 19,u 20,u 21,u 22,u 23,u 24,u 25,u 26,u 27,u 28,u 29,u 30,u 31,u 32,u 33,u 34,u 35,u 36,u 37,u 38,u 39,u 40,u 41,u 42,u 43,u 44,u 45,u 46,u 47,u 48,u 49,u 50,u 51,u 52,u 53,u 54,u 55,u 56,u 57,u 58,u 59,u 60,u 61,u 62,u 63,u 64,u 65,u 66,u 67,u 68,u 69,u 70,u 71,u 72,u 73,u 74,u 75,u 76,u 77,u 78,u 79,u 80,u 81,u 82,u 83,u 84,u 85,u 86,u 87,u 88,u 89,u 90,u 91,u 92,u 93,u 94,u 95,u 96,u 97,u 98,u 99,u 100,u 101,u 102,u 103,u 104,u 105,u 106,u 107,u 108,u 109,u 110,u 111,u 112,u 113,u 114,u 115,u 116,u 117,u 118,u 119,u 120,u 121],defers:=[] }∧1≤j∧j≤got.length∧arrE c (c.shapeAt kind).isSome s n got at_=0∧ArrSt c kind n at_ got w j l s bd bs (cxs (dataF s)) wr
theorem ArrAt.of {c:Cnf} {kind n at_:Int} {A:Option Addr} {cap:Nat} {got:List Int} {w wr:World} {a:Act} (j:Nat) (l:Value) (s:Shp) (bd bs:Nat) (ha:a={ tmps:=#[(.agg #[zI z6 c.frags,zI z6 c.spine,zI z6 c.globals,zI z6 c.threads,zI z6 c.locals,zI z6 c.cache,zI z6 c.stack,zI z6 c.low,.slice c.A c.shapes.length c.cap]),zI z6 kind,zI z6 n,.slice A got.length cap,zI z6 at_,zp (some ⟨w.heap.size,0,none⟩),(a.tmps.toList.getD 6 undef),(a.tmps.toList.getD 7 undef),(a.tmps.toList.getD 8 undef),(a.tmps.toList.getD 9 undef),(a.tmps.toList.getD 10 undef),(a.tmps.toList.getD 11 undef),l,zp (some ⟨bd,0,none⟩),zI z6 (arrMode n got),zI z6 j,zp (some ⟨bs,0,none⟩),zI z6 0,(a.tmps.toList.getD 18 undef),(a.tmps.toList.getD 19 undef),(a.tmps.toList.getD 20 undef),(a.tmps.toList.getD 21 undef),(a.tmps.toList.getD 22 undef),(a.tmps.toList.getD 23 undef),(a.tmps.toList.getD 24 undef),(a.tmps.toList.getD 25 undef),(a.tmps.toList.getD 26 undef),(a.tmps.toList.getD 27 undef),(a.tmps.toList.getD 28 undef),(a.tmps.toList.getD 29 undef),(a.tmps.toList.getD 30 undef),(a.tmps.toList.getD 31 undef),(a.tmps.toList.getD 32 undef),(a.tmps.toList.getD 33 undef),(a.tmps.toList.getD 34 undef),(a.tmps.toList.getD 35 undef),(a.tmps.toList.getD 36 undef),(a.tmps.toList.getD 37 undef),(a.tmps.toList.getD 38 undef),(a.tmps.toList.getD 39 undef),(a.tmps.toList.getD 40 undef),(a.tmps.toList.getD 41 undef),(a.tmps.toList.getD 42 undef),(a.tmps.toList.getD 43 undef),(a.tmps.toList.getD 44 undef),(a.tmps.toList.getD 45 undef),(a.tmps.toList.getD 46 undef),(a.tmps.toList.getD 47 undef),(a.tmps.toList.getD 48 undef),(a.tmps.toList.getD 49 undef),(a.tmps.toList.getD 50 undef),(a.tmps.toList.getD 51 undef),(a.tmps.toList.getD 52 undef),(a.tmps.toList.getD 53 undef),(a.tmps.toList.getD 54 undef),(a.tmps.toList.getD 55 undef),(a.tmps.toList.getD 56 undef),(a.tmps.toList.getD 57 undef),(a.tmps.toList.getD 58 undef),(a.tmps.toList.getD 59 undef),(a.tmps.toList.getD 60 undef),(a.tmps.toList.getD 61 undef),(a.tmps.toList.getD 62 undef),(a.tmps.toList.getD 63 undef),(a.tmps.toList.getD 64 undef),(a.tmps.toList.getD 65 undef),(a.tmps.toList.getD 66 undef),(a.tmps.toList.getD 67 undef),(a.tmps.toList.getD 68 undef),(a.tmps.toList.getD 69 undef),(a.tmps.toList.getD 70 undef),(a.tmps.toList.getD 71 undef),(a.tmps.toList.getD 72 undef),(a.tmps.toList.getD 73 undef),(a.tmps.toList.getD 74 undef),(a.tmps.toList.getD 75 undef),(a.tmps.toList.getD 76 undef),(a.tmps.toList.getD 77 undef),(a.tmps.toList.getD 78 undef),(a.tmps.toList.getD 79 undef),(a.tmps.toList.getD 80 undef),(a.tmps.toList.getD 81 undef),(a.tmps.toList.getD 82 undef),(a.tmps.toList.getD 83 undef),(a.tmps.toList.getD 84 undef),(a.tmps.toList.getD 85 undef),(a.tmps.toList.getD 86 undef),(a.tmps.toList.getD 87 undef),(a.tmps.toList.getD 88 undef),(a.tmps.toList.getD 89 undef),(a.tmps.toList.getD 90 undef),(a.tmps.toList.getD 91 undef),(a.tmps.toList.getD 92 undef),(a.tmps.toList.getD 93 undef),(a.tmps.toList.getD 94 undef),(a.tmps.toList.getD 95 undef),(a.tmps.toList.getD 96 undef),(a.tmps.toList.getD 97 undef),(a.tmps.toList.getD 98 undef),(a.tmps.toList.getD 99 undef),(a.tmps.toList.getD 100 undef),(a.tmps.toList.getD 101 undef),(a.tmps.toList.getD 102 undef),(a.tmps.toList.getD 103 undef),(a.tmps.toList.getD 104 undef),(a.tmps.toList.getD 105 undef),(a.tmps.toList.getD 106 undef),(a.tmps.toList.getD 107 undef),(a.tmps.toList.getD 108 undef),(a.tmps.toList.getD 109 undef),(a.tmps.toList.getD 110 undef),(a.tmps.toList.getD 111 undef),(a.tmps.toList.getD 112 undef),(a.tmps.toList.getD 113 undef),(a.tmps.toList.getD 114 undef),(a.tmps.toList.getD 115 undef),(a.tmps.toList.getD 116 undef),(a.tmps.toList.getD 117 undef),(a.tmps.toList.getD 118 undef),(a.tmps.toList.getD 119 undef),(a.tmps.toList.getD 120 undef),(a.tmps.toList.getD 121 undef)],defers:=[] }) (h1:1≤j) (h2:j≤got.length) (h3:arrE c (c.shapeAt kind).isSome s n got at_=0) (h4:ArrSt c kind n at_ got w j l s bd bs (cxs (dataF s)) wr):ArrAt c kind n at_ A cap got w a wr:=
 ⟨j,l,s,bd,bs,fun i=>a.tmps.toList.getD i undef,ha,h1,h2,h3,h4⟩
theorem yc2 {n:Int} {got:List Int} (h:arrMode n got=1):4<sData n:=by
 unfold arrMode modeOf at h;split at h
 · omega
 · omega
theorem ylg (s:Shp) (n:Int):0≤s.spine n∧s.spine n≤1000:=by
 have:=yaW n;unfold Shp.spine;split<;>omega
theorem yiY {c:Cnf} {a n:Int} (h:beginsAt c a n=true):0≤a∧a≤100000:=by
 unfold beginsAt cOf at h;split at h
 · simp at h
 · rename_i h0
   obtain ⟨⟨_,_⟩,⟨_,_⟩,⟨_,_⟩,_⟩:=Cnf.ranged (Cnf.check_zero (show c.check=0 by omega)).1;split at h
   · simp at h
   · split at h
     · omega
     · split at h
       · omega
       · split at h<;>simp at h
def dataTo (b:Value) (k:Nat):List Value:=List.replicate k b++List.replicate (8-k) wZero
theorem yfb (b:Value) {k:Nat} (hk:k≤8):(dataTo b k).length=8:=by unfold dataTo;simp;omega
theorem yjb {b:Value} (hb:IsCx b) (k:Nat): ∀v∈dataTo b k,IsCx v:=by
 intro v hv;unfold dataTo at hv;rcases List.mem_append.1 hv with h|h
 · rw [(List.mem_replicate.1 h).2];exact hb
 · rw [(List.mem_replicate.1 h).2];exact ya8
theorem ygw (b:Value) {k:Nat} (hk:k<8):(dataTo b k).set k b=dataTo b (k+1):=by
 unfold dataTo;rw [List.set_append_right _ _ (by simp),List.length_replicate,Nat.sub_self,show 8-k=(8-(k+1))+1 by omega,List.replicate_succ,List.set_cons_zero,List.replicate_succ',List.append_assoc];rfl
theorem yhF (s:Shp):dataTo (wBlank (s.refs.getD 0 false)) 8=cxs (dataF s):=by
 have:=(yca (s.refs.getD 0 false)).cx;unfold dataF cxs;simp only [this];rfl
theorem yfy (s:Shp) (kind n at_:Int) (got:List Int):arrFrags s kind n at_ got 1=[]++writes (got.getD 0 0) (sentF kind n at_ got) 8:=rfl
theorem ye1 (s:Shp) (kind n at_:Int) (got:List Int) {j:Nat} (hj:1≤j):arrFrags s kind n at_ got (j+1)=arrFrags s kind n at_ got j++writes (got.getD j 0) (dataF s) 8:=by
 show fragWrites _ _ _ _++writes _ (if j=0 then _ else _) 8=_;rw [if_neg zo];rfl
theorem yeF {c:Cnf} {is:Bool} {s:Shp} {n:Int} {got:List Int} (h:wrongE c is s n true got=0) {j:Nat} (hj:j<got.length):fragOk c (got.getD j 0)=true:=
 List.all_eq_true.1 (yaK h).2.1 _ (by rw [List.getD_eq_getElem?_getD,List.getElem?_eq_getElem hj];exact List.getElem_mem hj)
theorem yiT (c:Cnf) (kind n at_:Int) (A:Option Addr) (cap:Nat) (got:List Int) (w:World) (hc:c.Ok w) (hg:CellsAt w A (got.map (zI z6))) (hl:got.length≤1000) (hcap:got.length≤cap) (hcm:cap≤9223372036854775807) (hw: ∀x∈got, -9223372036854775808≤x∧x≤9223372036854775807)
 (ha0: -9223372036854775808≤at_) (ha1:at_≤9223372036854775807):
 Calls prog 158 #[c.val,zI z6 kind,zI z6 n,.slice A got.length cap,zI z6 at_] w (ArrGot c kind n got at_ w):=by
 have HW:=zH (fun w' (he:Ext w w')=>yeY c kind n true A cap got w' (hc.ext he) (hg.ext he) zo hw);have HMD:=zH (fun w' (he:Ext w w')=>show Calls prog 223 #[zI z6 (sData n),.slice A got.length cap] w' (Gives (zI z6 (arrMode n got)) w') from yk5 (sData n) A cap got w' (hg.ext he) zo hw);have HG:=zH hg;have HCO:=zH hc;have HAT:=zH (And.intro ha0 ha1);have HGL:=zH hl;obtain ⟨i0,hi0,hz0,hz1,hz2⟩:=info_parts yeH;clear hg hw hc ha0 ha1;unfold Cnf.val at HW ⊢;go_enter func158,ntmps158;go_wp2_with fail;refine ygn 0 1 (ArrAt c kind n at_ A cap got w) (fun a _=>got.length-(intOf (a.tmps.getD 15 undef)).toNat) rfl rfl ?_ ?_
 · rintro a wr ⟨j,l,s,bd,bs,u,rfl,hj1,hj2,hfine,hst⟩;obtain ⟨arr,A',cap',refs⟩:=s;have HST:=zH hst;have HFN:=zH hfine;clear hst hfine;by_cases hj:j<got.length
   · obtain ⟨q,o,rfl,hq,hcell⟩:=yaD (HG.o.ext HST.o.ext) hj;have k0:=hcell j hj;have hfj:fragOk c (got.getD j 0)=true:=yeF HST.o.fine0 hj;have HSU:=zH (ye1 ⟨arr,A',cap',refs⟩ kind n at_ got hj1);generalize got.getD j 0=y at *;have g0:wr.cell? ⟨w.heap.size,0,none⟩=some (zI z6 c.frags):=(by simp only [World.cell?,HST.o.box];rfl);have g1:wr.cell? ⟨w.heap.size,1,none⟩=some (zI z6 c.spine):=(by simp only [World.cell?,HST.o.box];rfl);have g2:wr.cell? ⟨w.heap.size,2,none⟩=some (zI z6 c.globals):=(by simp only [World.cell?,HST.o.box];rfl);have g3:wr.cell? ⟨w.heap.size,3,none⟩=some (zI z6 c.threads):=(by simp only [World.cell?,HST.o.box];rfl);have g4:wr.cell? ⟨w.heap.size,4,none⟩=some (zI z6 c.locals):=(by simp only [World.cell?,HST.o.box];rfl);have g5:wr.cell? ⟨w.heap.size,5,none⟩=some (zI z6 c.cache):=(by simp only [World.cell?,HST.o.box];rfl);have g6:wr.cell? ⟨w.heap.size,6,none⟩=some (zI z6 c.stack):=(by simp only [World.cell?,HST.o.box];rfl);have g7:wr.cell? ⟨w.heap.size,7,none⟩=some (zI z6 c.low):=(by simp only [World.cell?,HST.o.box];rfl)
     have g8:wr.cell? ⟨w.heap.size,8,none⟩=some (.slice c.A c.shapes.length c.cap):=(by simp only [World.cell?,HST.o.box];rfl);have gl:w.heap.size<wr.heap.size:=(Array.getElem?_eq_some_iff.1 HST.o.box).1;have hD:=HST.o.dblk;generalize hF:dataF ⟨arr,A',cap',refs⟩=f at *;have HF:=zH hF;clear hF;have v0:wr.cell? ⟨bd,0,none⟩=some (zc z4 (f 0).1 (f 0).2):=(by simp only [World.cell?,hD];rfl);have v1:wr.cell? ⟨bd,1,none⟩=some (zc z4 (f 1).1 (f 1).2):=(by simp only [World.cell?,hD];rfl);have v2:wr.cell? ⟨bd,2,none⟩=some (zc z4 (f 2).1 (f 2).2):=(by simp only [World.cell?,hD];rfl);have v3:wr.cell? ⟨bd,3,none⟩=some (zc z4 (f 3).1 (f 3).2):=(by simp only [World.cell?,hD];rfl);have v4:wr.cell? ⟨bd,4,none⟩=some (zc z4 (f 4).1 (f 4).2):=(by simp only [World.cell?,hD];rfl);have v5:wr.cell? ⟨bd,5,none⟩=some (zc z4 (f 5).1 (f 5).2):=(by simp only [World.cell?,hD];rfl);have v6:wr.cell? ⟨bd,6,none⟩=some (zc z4 (f 6).1 (f 6).2):=(by simp only [World.cell?,hD];rfl);have v7:wr.cell? ⟨bd,7,none⟩=some (zc z4 (f 7).1 (f 7).2):=(by simp only [World.cell?,hD];rfl);have hbd:bd<wr.heap.size:=(Array.getElem?_eq_some_iff.1 hD).1
     have hbs:bs<wr.heap.size:=(Array.getElem?_eq_some_iff.1 HST.o.sblk).1;have hb1:=HST.o.lt1;have hb2:=HST.o.lt2;have hsz:=World.size_upTo wr (n:=bs+1) zo;have hfr:c.frags≤1099511627776:=by have:=(Cnf.ranged (Cnf.check_zero (yaK HST.o.fine0).1).1).1.2;omega
     have HLY:=zH (fun X=>yee c l (8*j) (arrFrags ⟨arr,A',cap',refs⟩ kind n at_ got j) y f (wr.patch X) (wr.upTo (bs+1)) (bs+1) (HCO.o.ext (HST.o.ext.upTo zo zo)) hfj ((ydf wr zo).patch X) zo (by rw [World.size_patch];omega) (yaQ HST.o.own ⟨X,rfl⟩) zo hfr);unfold Cnf.val at HLY;clear hb1 hb2 hsz hfr hfj hcell hD;go_wp2_with fail;refine yab [zT,zT,zT,zT,zT,zT,zT,zU,zU] 2 7 ?_;intro X00;simp only [pickOps];repeat (go_big_quiet_step (fail))
     refine wpQuiet_nil (fun X0=>?_);clear X00;refine yaf rfl zQ (fun X2=>?_);simp only [List.drop_succ_cons,List.drop_zero];go_wp2_with fail;refine (HLY.o _).mono ?_;rintro e w6 ⟨v',rfl,hown,hE6,hz6⟩;rw [←HSU.o] at hown;have HOW:=zH (show w6.ownsRow (bs+1) 194 2 v' (8*(j+1)) (arrFrags ⟨arr,A',cap',refs⟩ kind n at_ got (j+1)) from hown);have HX6:=zH (show Ext (wr.upTo (bs+1)) w6 from hE6);clear hown hE6 hz6 g0 g1 g2 g3 g4 g5 g6 g7 g8 v0 v1 v2 v3 v4 v5 v6 v7;go_wp2_with fail;go_step3
     refine Or.inr ⟨rfl,ArrAt.of (j+1) v' ⟨arr,A',cap',refs⟩ bd bs rfl zo hj HFN.o ?_,?_⟩
     · have:=HST.o.lay HX6.o HOW.o;rw [←HF.o] at this;exact this
     · simp [intOf];omega
   · obtain rfl:j=got.length:=zo;have hsz:=yfz HST.o.fine0;have HFS:=zH (yiR HFN.o).2;have HEN:=zH (show arrWrites ⟨arr,A',cap',refs⟩ kind n at_ got=arrFrags ⟨arr,A',cap',refs⟩ kind n at_ got got.length++if arrMode n got=1 then spineW got at_ (got.length-1) else [] from rfl);have HM4:=zH (@yc2 n got);generalize arrMode n got=m at *;clear HMD HW HCO hj;by_cases h1:m=1
     · subst h1;obtain ⟨hb0,hb1⟩:=yiY (HFS.o rfl);obtain ⟨q,o,rfl,hq,hcell⟩:=yaD (HG.o.ext HST.o.ext) (k:=0) zo;have k0:=hcell 0 zo;rw [Nat.add_zero] at k0;generalize hy:got.getD 0 0=y0 at *;have HY:=zH hy;have HW0:=zH (fun k=>show spineW got at_ (k+1)=spineW got at_ k++[zI z6 (at_+2+k),wRef (got.getD (k+1) 0)] from rfl);obtain ⟨p1,q1,r1⟩:=ybN y0;obtain ⟨p2,q2,r2⟩:=yby ((got.length:Int)-1);have HW1:=zH (show spineW got at_ 0=[zI z6 at_,zc z4 p1 q1,zI z6 (at_+1),zc z4 p2 q2] by unfold spineW;rw [hy,r1,r2]);have HR1:=zH (fun w'=>r1▸yaR y0 w');have HR2:=zH (fun w'=>r2▸yaB ((got.length:Int)-1) w');have HL:=zH hsz.2.1
       have hln:2≤got.length:=by
        have:=HM4.o rfl;omega
       clear hy r1 r2 hsz hcell;go_wp2_with fail;refine (HR1.o _).mono ?_;rintro e w1 ⟨rfl,X1,rfl⟩;go_wp2_with fail;refine (HR2.o _).mono ?_;rintro e w1 ⟨rfl,X2,rfl⟩;go_wp2_with (at_builtin;refine wpList_append_own_at _ rfl (.tmp 85) (.tmp 99) 99 rfl (bs+1) 194 i0 (.agg #[zI z6 0,zc z4 0 0]) 2 24 Tryz.underlying99 hi0 hz0 hz1 hz2 rfl zd _ (8*got.length) _ rfl (yaQ HST.o.own (show Ext wr _ from zE)) _ 2 2 [zI z6 at_,zc z4 p1 q1,zI z6 (at_+1),zc z4 p2 q2] rfl rfl (ybk _ _ _) (by intro u hu;simp at hu;rcases hu with rfl|rfl|rfl|rfl<;>rfl) (by unfold maxLen;omega) zo (Nat.le_trans (Nat.succ_le_of_lt (Array.getElem?_eq_some_iff.1 HST.o.sblk).1) (Ext.size (show Ext wr _ from zE))) ?_;intro v1 w3 hown3 hgrow3 _ hblk3);have HX3:=zH (show Ext w w3 from yaC (HST.o.ext.trans (show Ext wr _ by exact zE)) hgrow3 (fun k hk=>by have h5:=(HST.o.own.lt k hk).1;have h6:=HST.o.lt1;have h7:=HST.o.lt2;omega));have HO3:=zH (show w3.ownsRow (bs+1) 194 2 v1 (8*got.length+2) (arrFrags ⟨arr,A',cap',refs⟩ kind n at_ got got.length++spineW got at_ 0) by rw [HW1.o];exact hown3)
       have HZ3:=zH (show bs+1≤w3.heap.size from Nat.le_trans (Nat.le_trans (Nat.succ_le_of_lt (Array.getElem?_eq_some_iff.1 HST.o.sblk).1) (Ext.size (show Ext wr _ by exact zE))) hgrow3.size);clear hown3 hgrow3 hblk3 HR1 HR2;go_wp2_with fail;go_loopw [12,104] (fun v i wx=> ∃k:Nat,k≤got.length-1∧i=zI z6 k∧Hid (wx.ownsRow (bs+1) 194 2 v (8*got.length+2+k) (arrFrags ⟨arr,A',cap',refs⟩ kind n at_ got got.length++spineW got at_ k))∧Hid (Ext w wx)∧Hid (bs+1≤wx.heap.size)) (fun _ i _=>got.length-(intOf i).toNat)
       case atStart=>exact ⟨0,Nat.zero_le _,rfl,HO3,HX3,HZ3⟩
       case round=>
        obtain ⟨k,hk,rfl,HOX,HXX,HZX⟩:=hrel;obtain ⟨wx,rfl⟩: ∃wx:World,wx=wr:=⟨_,rfl⟩;by_cases hlt:k<got.length-1
        · obtain ⟨q',o',hA,hq',hcell⟩:=yaD (HG.o.ext HXX.o) (k:=k+1) zo;have k1:=hcell (k+1) zo;simp only [Option.some.injEq,Addr.mk.injEq] at hA;obtain ⟨rfl,rfl, -⟩:=hA;rw [show o+(k+1)=o+1+k by omega] at k1;generalize hy1:got.getD (k+1) 0=y1 at *;obtain ⟨p1,q1,r1⟩:=ybN y1;have HWK:=zH (show spineW got at_ (k+1)=spineW got at_ k++[zI z6 (at_+2+k),zc z4 p1 q1] by rw [HW0.o,hy1,r1]);have HR1:=zH (fun w'=>r1▸yaR y1 w');have hi1:(k:Int)<(got.length:Int)-1:=zo;clear hy1 r1 hcell;go_wp2_with fail;refine (HR1.o _).mono ?_;rintro e w4 ⟨rfl,X4,rfl⟩;go_wp2_with (at_builtin;refine wpList_append_own_at _ rfl (.tmp 109) (.tmp 117) 99 rfl (bs+1) 194 i0 (.agg #[zI z6 0,zc z4 0 0]) 2 24 Tryz.underlying99 hi0 hz0 hz1 hz2 rfl zd _ (8*got.length+2+k) _ rfl (yaQ HOX.o (show Ext wx _ from zE)) _ 1 1 [zI z6 (at_+2+k),zc z4 p1 q1] rfl rfl (ybk _ _ _) (by intro u hu;simp at hu;rcases hu with rfl|rfl<;>rfl) (by unfold maxLen;omega) zo (Nat.le_trans HZX.o (Ext.size (show Ext wx _ from zE))) ?_;intro v2 w5 hown5 hgrow5 _ hblk5)
          have HX5:=zH (show Ext w w5 from yaC (HXX.o.trans (show Ext wx _ by exact zE)) hgrow5 (fun k hk=>by have h5:=(HOX.o.lt k hk).1;have h6:=HST.o.lt1;have h7:=HST.o.lt2;omega));have HO5:=zH (show w5.ownsRow (bs+1) 194 2 v2 (8*got.length+2+(k+1)) (arrFrags ⟨arr,A',cap',refs⟩ kind n at_ got got.length++spineW got at_ (k+1)) by rw [HWK.o, ←List.append_assoc];exact hown5);have HZ5:=zH (show bs+1≤w5.heap.size from Nat.le_trans (Nat.le_trans HZX.o (Ext.size (show Ext wx _ by exact zE))) hgrow5.size);clear hown5 hgrow5 hblk5;go_wp2_with fail;go_roundw
          case rel=>exact ⟨k+1,zo,by go_num,HO5,HX5,HZ5⟩
          case measure=>simp [intOf];omega
        · obtain rfl:k=got.length-1:=zo;have hi1: ¬(((got.length-1:Nat):Int)<(got.length:Int)-1):=zo;go_wp2_with fail;go_step3
          go_wp2_with fail;rw [Exit.jump2_ret];go_ret2;exact ⟨⟨arr,A',cap',refs⟩,_,8*got.length+2+(got.length-1),by rw [HFN.o];rfl,HST.o.what,by rw [if_pos HFN.o,HEN.o,if_pos trivial];exact ya9 HOX.o (by have:=HST.o.lt1;have:=HST.o.lt2;omega),HXX.o⟩
     · have h1b:(m==1)=false:=by simp [h1]
       go_wp2_with fail;go_step3
       go_wp2_with fail;rw [Exit.jump2_ret];go_ret2;exact ⟨⟨arr,A',cap',refs⟩,l,8*got.length,by rw [HFN.o];rfl,HST.o.what,by rw [if_pos HFN.o,HEN.o,if_neg h1,List.append_nil];exact ya9 HST.o.own (by have:=HST.o.lt1;have:=HST.o.lt2;omega),HST.o.ext⟩
 · intro H;have HH:=zH H;clear H;go_wp2_with fail;refine (HW.o _ zE).mono ?_;rintro e w1 ⟨s,rfl,hs,hok,X1,rfl⟩;obtain ⟨arr,A',cap',refs⟩:=s;have HS:=zH hs;have HO:=zH hok;clear hs hok HW;unfold Shp.val;simp only;by_cases hE:wrongE c (c.shapeAt kind).isSome ⟨arr,A',cap',refs⟩ n true got=0
   · rw [hE];have HE:=zH hE;clear hE;go_wp2_with fail;have hsz:=yfz HE.o;simp only at hsz;have HQ:=zH (show ArrSt c kind n at_ got w 0 (.slice none 0 0) ⟨arr,A',cap',refs⟩ (w.heap.size+1) (((w.alloc (.cells #[zI z6 c.frags,zI z6 c.spine,zI z6 c.globals,zI z6 c.threads,zI z6 c.locals,zI z6 c.cache,zI z6 c.stack,zI z6 c.low,.slice c.A c.shapes.length c.cap] 34)).alloc (.cells #[zc z4 0 0,zc z4 0 0,zc z4 0 0,zc z4 0 0,zc z4 0 0,zc z4 0 0,zc z4 0 0,zc z4 0 0] 254)).patch X1).heap.size [wZero,wZero,wZero,wZero,wZero,wZero,wZero,wZero] ((((w.alloc (.cells #[zI z6 c.frags,zI z6 c.spine,zI z6 c.globals,zI z6 c.threads,zI z6 c.locals,zI z6 c.cache,zI z6 c.stack,zI z6 c.low,.slice c.A c.shapes.length c.cap] 34)).alloc (.cells #[zc z4 0 0,zc z4 0 0,zc z4 0 0,zc z4 0 0,zc z4 0 0,zc z4 0 0,zc z4 0 0,zc z4 0 0] 254)).patch X1).alloc (.cells #[zb arr,.slice A' refs.length cap'] 94)) from ?hq0)
     case hq0=>
      have hz:(w.alloc (.cells #[zI z6 c.frags,zI z6 c.spine,zI z6 c.globals,zI z6 c.threads,zI z6 c.locals,zI z6 c.cache,zI z6 c.stack,zI z6 c.low,.slice c.A c.shapes.length c.cap] 34)).heap.size=w.heap.size+1:=World.size_alloc _ _;have hp0:=World.size_alloc (w.alloc (.cells #[zI z6 c.frags,zI z6 c.spine,zI z6 c.globals,zI z6 c.threads,zI z6 c.locals,zI z6 c.cache,zI z6 c.stack,zI z6 c.low,.slice c.A c.shapes.length c.cap] 34)) (.cells #[zc z4 0 0,zc z4 0 0,zc z4 0 0,zc z4 0 0,zc z4 0 0,zc z4 0 0,zc z4 0 0,zc z4 0 0] 254);have hp:=World.size_patch ((w.alloc (.cells #[zI z6 c.frags,zI z6 c.spine,zI z6 c.globals,zI z6 c.threads,zI z6 c.locals,zI z6 c.cache,zI z6 c.stack,zI z6 c.low,.slice c.A c.shapes.length c.cap] 34)).alloc (.cells #[zc z4 0 0,zc z4 0 0,zc z4 0 0,zc z4 0 0,zc z4 0 0,zc z4 0 0,zc z4 0 0,zc z4 0 0] 254)) X1
      refine { box:=?_,dblk:=?_,sblk:=World.row_alloc_new _,vlen:=rfl,vcx:=?_,sok:=HO.o.ext zE,slt:=fun a ha hr=>?_,ext:=by exact zE,own:=⟨rfl,Or.inl ⟨rfl,rfl⟩⟩,lt1:=Nat.lt_succ_self _,lt2:=by omega,what:=HS.o,fine0:=HE.o }
      · rw [World.row_alloc_past _ zo,World.heap_patch _ _ _ zo,World.row_alloc_past _ zo,World.row_alloc_new]
      · rw [World.row_alloc_past _ zo,World.heap_patch _ _ _ zo, ←hz,World.row_alloc_new];rfl
      · intro v hv;simp only [List.mem_cons,List.not_mem_nil,or_false] at hv;rcases hv with rfl|rfl|rfl|rfl|rfl|rfl|rfl|rfl<;>exact ya8
      · obtain ⟨b,o,hA,hb,_⟩:=HO.o.refs.cases (by simpa using hr);rw [ha] at hA;cases hA
        exact hb
     generalize hwq:((w.alloc (.cells #[zI z6 c.frags,zI z6 c.spine,zI z6 c.globals,zI z6 c.threads,zI z6 c.locals,zI z6 c.cache,zI z6 c.stack,zI z6 c.low,.slice c.A c.shapes.length c.cap] 34)).alloc (.cells #[zc z4 0 0,zc z4 0 0,zc z4 0 0,zc z4 0 0,zc z4 0 0,zc z4 0 0,zc z4 0 0,zc z4 0 0] 254)).patch X1=wq at *;clear hwq HO X1;generalize wq.heap.size=bs at *;generalize wq.alloc (.cells #[zb arr,.slice A' refs.length cap'] 94)=wp at *;refine (ybI n _).mono ?_;rintro e w2 ⟨rfl,hX2⟩;have HQ2:=zH (HQ.o.patch (show Ext wp w2 from hX2));clear hX2 HQ;go_wp2_with fail;refine (HMD.o _ HQ2.o.ext).mono ?_;rintro e w3 ⟨rfl,hX3⟩;have HQ3:=zH (HQ2.o.patch (show Ext w2 w3 from hX3));clear hX3 HQ2 HMD;have HM4:=zH (@yc2 n got);have HM2:=zH (show arrMode n got=0∨arrMode n got=1∨(arrMode n got=2∧1<got.length) from ?hm2)
     case hm2=>
      rcases yht n got with h|h|h
      · exact Or.inl h
      · exact Or.inr (Or.inl h)
      · refine Or.inr (Or.inr ⟨h,?_⟩);unfold arrMode modeOf at h;split at h
        · omega
        · have:=hsz.2.1;omega
     have hlen:1≤got.length:=by have:=hsz.2.1;have:=yaW n;omega
     have hrl:0<refs.length:=zo;have hrl2:refs.length≤1:=zo;clear hsz;generalize hM:arrMode n got=m at *;have HM:=zH hM;clear hM;have HBG:=zH (fun X=>yhu c at_ (Shp.spine ⟨arr,A',cap',refs⟩ n) (w3.patch X) (HCO.o.ext (HQ3.o.ext.patch X)) HAT.o.1 HAT.o.2 (ylg _ _));have HSP:=zH (fun X=>ybe ⟨arr,A',cap',refs⟩ n (w3.patch X) (HQ3.o.sok.ext ⟨X,rfl⟩));unfold Cnf.val at HBG;unfold Shp.val at HSP;simp only at HSP;generalize hsp:Shp.spine ⟨arr,A',cap',refs⟩ n=sp at *;have HSN:=zH hsp;generalize hbb:beginsAt c at_ sp=bb at *;have HBB:=zH hbb;clear hsp hbb;have g0:w3.cell? ⟨w.heap.size,0,none⟩=some (zI z6 c.frags):=(by simp only [World.cell?,HQ3.o.box];rfl);have g1:w3.cell? ⟨w.heap.size,1,none⟩=some (zI z6 c.spine):=(by simp only [World.cell?,HQ3.o.box];rfl);have g2:w3.cell? ⟨w.heap.size,2,none⟩=some (zI z6 c.globals):=(by simp only [World.cell?,HQ3.o.box];rfl);have g3:w3.cell? ⟨w.heap.size,3,none⟩=some (zI z6 c.threads):=(by simp only [World.cell?,HQ3.o.box];rfl);have g4:w3.cell? ⟨w.heap.size,4,none⟩=some (zI z6 c.locals):=(by simp only [World.cell?,HQ3.o.box];rfl)
     have g5:w3.cell? ⟨w.heap.size,5,none⟩=some (zI z6 c.cache):=(by simp only [World.cell?,HQ3.o.box];rfl);have g6:w3.cell? ⟨w.heap.size,6,none⟩=some (zI z6 c.stack):=(by simp only [World.cell?,HQ3.o.box];rfl);have g7:w3.cell? ⟨w.heap.size,7,none⟩=some (zI z6 c.low):=(by simp only [World.cell?,HQ3.o.box];rfl);have g8:w3.cell? ⟨w.heap.size,8,none⟩=some (.slice c.A c.shapes.length c.cap):=(by simp only [World.cell?,HQ3.o.box];rfl);have gl:w.heap.size<w3.heap.size:=(Array.getElem?_eq_some_iff.1 HQ3.o.box).1;have s0:w3.cell? ⟨bs,0,none⟩=some (zb arr):=(by simp only [World.cell?,HQ3.o.sblk];rfl);have s1:w3.cell? ⟨bs,1,none⟩=some (.slice A' refs.length cap'):=(by simp only [World.cell?,HQ3.o.sblk];rfl);have hbs:bs<w3.heap.size:=(Array.getElem?_eq_some_iff.1 HQ3.o.sblk).1;go_upto_region 7 with fail
     go_cut [45] (fun v wx=>v=zb (decide (m=1)&& !bb)∧Ext w3 wx)
     case first=>
      clear HH;by_cases hm:m=1
      · subst hm;refine yab [zT,zT,zT,zT,zT,zT,zT,zT,zT,zT,zT] 0 11 ?_;intro X00;simp only [pickOps];repeat (go_big_quiet_step (first|(go_at_call 197;exact Calls.added (HSP.o _))|(go_at_call 225;exact Calls.added (HBG.o _))))
        refine wpQuiet_nil (fun X0=>?_);clear X00;refine yaa zQ (fun X0'=>?_) _;go_wp2_with fail;go_meet
        exact ⟨by simp,zE⟩
      · have hmb:(m==1)=false:=by simp [hm]
        refine yab [zT,zT,zT,zT,zT,zT,zT,zT,zT,zT,zT] 0 11 ?_;intro X00;simp only [pickOps];repeat (go_big_quiet_step (fail))
        refine wpQuiet_nil (fun X0=>?_);clear X00;refine yaa zQ (fun X0'=>?_) _;go_wp2_with fail;go_meet
        exact ⟨by simp [hm],zE⟩
     case rest=>
      obtain ⟨rfl,hX4⟩:=hcut;have HQ4:=zH (HQ3.o.patch hX4);clear hX4 HQ3 HBG HSP g0 g1 g2 g3 g4 g5 g6 g7 g8 gl s0 s1 hbs;have HAE:=zH (show arrE c (c.shapeAt kind).isSome ⟨arr,A',cap',refs⟩ n got at_=if (decide (m=1)&& !bb)=true then 2 else 0 by unfold arrE;rw [if_pos HE.o,HM.o,HSN.o,HBB.o]);generalize (decide (m=1)&& !bb)=bad at *;cases bad
      · have HFN:=zH (show arrE c (c.shapeAt kind).isSome ⟨arr,A',cap',refs⟩ n got at_=0 from HAE.o);clear HAE;obtain ⟨q,o,rfl,hq,hcell⟩:=yaD (HG.o.ext HQ4.o.ext) (k:=0) hlen;have k0:=hcell 0 hlen;rw [Nat.add_zero] at k0;have hfj:fragOk c (got.getD 0 0)=true:=yeF HE.o hlen;have HFR:=zH (yfy ⟨arr,A',cap',refs⟩ kind n at_ got)
        have HSE:=zH (fun X=>show Calls prog 226 #[zI z6 kind,zI z6 n,zI z6 m,.slice (some ⟨q,o,none⟩) got.length cap,zI z6 at_] (wc.patch X) (Gives (.agg (cxs (rowF (sentWords kind n m got at_))).toArray) (wc.patch X)) from by
         rw [yfE (ydq _ _ _ _ _) (ygc _ _ _ _ _)];exact ygd kind n m at_ _ cap got.length got _ (HG.o.ext (HQ4.o.ext.patch X)) rfl zo HM2.o)
        have HSF:=zH (show sentF kind n at_ got=rowF (sentWords kind n m got at_) by unfold sentF;rw [HM.o]);generalize rowF (sentWords kind n m got at_)=f0 at *;generalize got.getD 0 0=y at *;have g0:wc.cell? ⟨w.heap.size,0,none⟩=some (zI z6 c.frags):=(by simp only [World.cell?,HQ4.o.box];rfl);have g1:wc.cell? ⟨w.heap.size,1,none⟩=some (zI z6 c.spine):=(by simp only [World.cell?,HQ4.o.box];rfl);have g2:wc.cell? ⟨w.heap.size,2,none⟩=some (zI z6 c.globals):=(by simp only [World.cell?,HQ4.o.box];rfl);have g3:wc.cell? ⟨w.heap.size,3,none⟩=some (zI z6 c.threads):=(by simp only [World.cell?,HQ4.o.box];rfl);have g4:wc.cell? ⟨w.heap.size,4,none⟩=some (zI z6 c.locals):=(by simp only [World.cell?,HQ4.o.box];rfl);have g5:wc.cell? ⟨w.heap.size,5,none⟩=some (zI z6 c.cache):=(by simp only [World.cell?,HQ4.o.box];rfl);have g6:wc.cell? ⟨w.heap.size,6,none⟩=some (zI z6 c.stack):=(by simp only [World.cell?,HQ4.o.box];rfl);have g7:wc.cell? ⟨w.heap.size,7,none⟩=some (zI z6 c.low):=(by simp only [World.cell?,HQ4.o.box];rfl);have g8:wc.cell? ⟨w.heap.size,8,none⟩=some (.slice c.A c.shapes.length c.cap):=(by simp only [World.cell?,HQ4.o.box];rfl)
        have gl:w.heap.size<wc.heap.size:=(Array.getElem?_eq_some_iff.1 HQ4.o.box).1;have hbd:(w.heap.size+1)<wc.heap.size:=(Array.getElem?_eq_some_iff.1 HQ4.o.dblk).1;have hbs:bs<wc.heap.size:=(Array.getElem?_eq_some_iff.1 HQ4.o.sblk).1;have hb2:=HQ4.o.lt2;have hz2:=World.size_upTo wc (n:=bs+1) zo;have hfr:c.frags≤1099511627776:=by have:=(Cnf.ranged (Cnf.check_zero (yaK HE.o).1).1).1.2;omega
        have HLY:=zH (fun X=>yee c (.slice none 0 0) 0 [] y f0 (wc.patch X) (wc.upTo (bs+1)) (bs+1) (HCO.o.ext (HQ4.o.ext.upTo zo zo)) hfj ((ydf wc zo).patch X) zo (by rw [World.size_patch];omega) ⟨rfl,Or.inl ⟨rfl,rfl⟩⟩ zo hfr);unfold Cnf.val at HLY;have HHH:=HH;clear hz2 hfr hfj hcell hb2 HH;go_wp2_with fail;refine yab [zT,zT,zT,zT,zT,zT,zT,zT,zT,zT,zT,zU,zU] 2 11 ?_;intro X00;simp only [pickOps];repeat (go_big_quiet_step (exact Calls.added (HSE.o _)))
        refine wpQuiet_nil (fun X0=>?_);clear X00;refine yaf rfl zQ (fun X2=>?_);simp only [List.drop_succ_cons,List.drop_zero];go_wp2_with fail;refine (HLY.o _).mono ?_;rintro e w6 ⟨v',rfl,hown,hE6,hz6⟩;have HOW:=zH (show w6.ownsRow (bs+1) 194 2 v' (8*1) (arrFrags ⟨arr,A',cap',refs⟩ kind n at_ got 1) from by rw [HFR.o,HSF.o];exact hown);have HQ6:=zH (HQ4.o.lay (show Ext (wc.upTo (bs+1)) w6 from hE6) HOW.o);clear hown hE6 hz6 g0 g1 g2 g3 g4 g5 g6 g7 g8 gl HLY HSE HOW;go_wp2_with fail;trace "LOOP1"
        go_loopw [58] (fun i wx=> ∃k:Nat,k≤8∧i=zI z6 k∧Hid (ArrSt c kind n at_ got w 1 v' ⟨arr,A',cap',refs⟩ (w.heap.size+1) bs (dataTo (wBlank (refs.getD 0 false)) k) wx)) (fun i _=>8-(intOf i).toNat)
        case atStart=>exact ⟨0,Nat.zero_le _,rfl,HQ6⟩
        case round=>
         obtain ⟨k,hk,rfl,HD⟩:=hrel;obtain ⟨wx,rfl⟩: ∃wx:World,wx=wr:=⟨_,rfl⟩;clear HQ6;by_cases hlt:k<8
         · obtain ⟨qb,ob,hA,hqb,hcb⟩:=HD.o.sok.refs.cases (by simpa using hrl);have c0:=hcb 0 (zb (refs.getD 0 false)) (by rw [List.getElem?_map,List.getElem?_eq_getElem hrl,List.getD_eq_getElem?_getD,List.getElem?_eq_getElem hrl];rfl);rw [Nat.add_zero] at c0;have s0:wx.cell? ⟨bs,0,none⟩=some (zb arr):=(by simp only [World.cell?,HD.o.sblk];rfl);have s1:wx.cell? ⟨bs,1,none⟩=some (.slice A' refs.length cap'):=(by simp only [World.cell?,HD.o.sblk];rfl);have hbs:bs<wx.heap.size:=(Array.getElem?_eq_some_iff.1 HD.o.sblk).1;have HDS:=zH (fun b=>ygw b hlt);have HDL:=zH (fun b=>yfb b hk);simp only at hA;subst hA;generalize refs.getD 0 false=x0 at *;obtain ⟨p,qx,hp⟩:=yca x0;have HBL:=zH (fun w'=>hp▸yex x0 w');have HP:=zH hp;clear hcb hp;go_wp2_with fail;refine (HBL.o _).mono ?_;rintro e w7 ⟨rfl,X7,rfl⟩;go_wp2_with (refine yaO rfl 24 (.tmp 67) (.tmp 66) rfl (w.heap.size+1) k (zc z4 p qx) rfl rfl _ _ HD.o.dblk zQ (by rw [HDL.o];exact hlt) ⟨_,_,rfl⟩ ?_);go_roundw
           case rel=>exact ⟨k+1,zo,by go_num,zH (by rw [←HDS.o,HP.o];rw [HP.o] at HD;exact (HD.o.put _ (by rw [List.length_set];exact HDL.o _) (by rw [HDS.o];exact yjb ⟨_,_,rfl⟩ _)).patch ⟨X7,rfl⟩)⟩
           case measure=>simp [intOf];omega
         · obtain rfl:k=8:=zo;have HD8:=zH (yhF ⟨arr,A',cap',refs⟩▸HD.o);obtain rfl:=HM.o;go_wp2_with fail;go_step3
           refine (show∀(a:Act) (w:World),Code.wp _ _ _ a w→_ from by assumption) _ _ (HHH.o _ _ (ArrAt.of 1 v' ⟨arr,A',cap',refs⟩ (w.heap.size+1) bs rfl (Nat.le_refl _) hlen HFN.o HD8.o))
      · clear HH;go_wp2_with fail;go_step3
        refine Or.inl ⟨rfl,?_⟩;go_wp2_with fail;(try rw [Exit.noGoto_ret]);go_ret2;exact ⟨⟨arr,A',cap',refs⟩,.slice none 0 0,0,by rw [HAE.o];rfl,HS.o,by rw [HAE.o];exact ⟨rfl,Or.inl ⟨rfl,rfl⟩⟩,HQ4.o.ext⟩
   · have HE:=zH (show arrE c (c.shapeAt kind).isSome ⟨arr,A',cap',refs⟩ n got at_=wrongE c (c.shapeAt kind).isSome ⟨arr,A',cap',refs⟩ n true got by unfold arrE;rw [if_neg hE]);generalize wrongE c (c.shapeAt kind).isSome ⟨arr,A',cap',refs⟩ n true got=ev at *;have hev:(ev !=0)=true:=by simp [hE]
     clear HH;go_wp2_with fail;go_step3
     refine Or.inl ⟨rfl,?_⟩;go_wp2_with fail;(try rw [Exit.noGoto_ret]);go_ret2;exact ⟨⟨arr,A',cap',refs⟩,.slice none 0 0,0,by rw [HE.o];rfl,HS.o,by rw [HE.o,if_neg hE];exact ⟨rfl,Or.inl ⟨rfl,rfl⟩⟩,zE⟩
end Go.Proofs.YtdhjjpnajjingaaGreat
namespace Go
open Go.RowKit
structure LVal where
 ref:Bool
 z:Nat × Nat
namespace LVal
def cells (v:LVal):List Value:=[zb v.ref,zc z4 v.z.1 v.z.2]
def val (v:LVal):Value:=.agg #[zb v.ref,zc z4 v.z.1 v.z.2]
def zero:LVal:=⟨false,(0,0)⟩
def none:LVal:=⟨true,(0,4607182418800017408)⟩
theorem cells_len (v:LVal):v.cells.length=2:=rfl
end LVal
structure ResS where
 op:Int
 own:Int
 e:Int
 v:LVal
namespace ResS
def zero:ResS:=⟨0,0,0,LVal.zero⟩
def val (r:ResS):Value:=.agg #[zI z6 r.op,zI z6 r.own,zI z6 r.e,zb r.v.ref,zc z4 r.v.z.1 r.v.z.2]
end ResS
def resV (x:ResS × Bool):Value:=.tuple #[x.1.val,zb x.2]
def zWhole (n:Int):Nat × Nat:=(floatOfInt .f64 n,0)
def zNone:Nat × Nat:=(0,4607182418800017408)
def zRef (i:Int):Nat × Nat:=(floatOfInt .f64 (i+1),4607182418800017408)
def truthV (b:Bool):LVal:=⟨false,zWhole (if b then 1 else 0)⟩
end Go
namespace Go.Proofs.YtdhjjpnajjingaaGreat
open Go Go.RowKit
structure AcS where
 t:Int
 ops:List Opr
 locals:List LVal
 phase:Int
 status:Int
 sense:Bool
 next:Int
 pc:Int
 seen:Int
 grey:List Int
 own:Int
 at_:Int
 f:Option FindS
 addr:Int
 ref:Bool
 old:Nat × Nat
 w:Nat × Nat
 got:List Int
 writes:List Value
structure AcP where
 opsA:Option Addr
 opsC:Nat
 locA:Option Addr
 locC:Nat
 greyA:Option Addr
 greyC:Nat
 fp:Option Addr
 gotA:Option Addr
 gotC:Nat
 wrA:Option Addr
 wrC:Nat
namespace AcS
def cells (A:AcS) (p:AcP):List Value:=[zI z6 A.t,.slice p.opsA A.ops.length p.opsC,.slice p.locA A.locals.length p.locC,zI z6 A.phase,zI z6 A.status,zb A.sense,zI z6 A.next,zI z6 A.pc,zI z6 A.seen,.slice p.greyA A.grey.length p.greyC,
 zI z6 A.own,zI z6 A.at_,.pointer p.fp,zI z6 A.addr,zb A.ref,zc z4 A.old.1 A.old.2,zc z4 A.w.1 A.w.2,.slice p.gotA A.got.length p.gotC,.slice p.wrA (A.writes.length/2) p.wrC]
def fresh (t:Int) (locals:Nat) (ops:List Opr):AcS:=⟨t,ops,List.replicate locals LVal.zero,0,0,false,0,0,0,[],0,0,none,0,false,(0,0),(0,0),[],[]⟩
def idle (A:AcS):AcS:={ A with own:=0,at_:=0,f:=none,addr:=0,ref:=false,old:=(0,0),w:=(0,0),got:=[],writes:=[] }
def began (A:AcS):AcS:={ A with phase:=2,own:=0,at_:=0,f:=none,addr:=0,ref:=false,old:=(0,0),w:=(0,0),got:=[],writes:=[] }
def loc (A:AcS) (i:Int):LVal:=A.locals.getD i.toNat LVal.zero
def op (A:AcS):Opr:=A.ops.getD A.next.toNat ⟨0,0,0,0,0,0,0⟩
def head (A:AcS) (i:Int):Int:=(wIndex (A.loc i).z).getD 0
def shades (A:AcS):Bool:=A.status==1 || (A.status==2 || A.status==3)
def both (A:AcS):Bool:=A.status==1 || A.status==2
def behind (A:AcS):Int:=if (wIndex A.w).isSome&&A.both then 5 else 6
def res (A:AcS) (v:LVal) (e:Int):ResS:=⟨A.next,A.own,e,if e=0 then v else LVal.zero⟩
def done (A:AcS):AcS:=if A.phase=4 then { A with next:=A.next+1 } else { A with next:=A.next+1,phase:=1,pc:=0 }
def chooses (A:AcS) (o:Opr):AcS:={ A with w:=(A.loc o.b).z,at_:=if A.ref&&A.shades then 3 else 6 }
def greys (l:List LVal):List Int:=l.filterMap fun v=>if v.ref then wIndex v.z else none
def mustL (A:AcS) (o:Opr):List LVal:=
 if o.kind=9∨o.kind=15∨o.kind=16 then [A.loc o.b,A.loc o.c] else if o.kind=3∨o.kind=5∨o.kind=10∨o.kind=11∨o.kind=8 then [A.loc o.b] else if o.kind=4∨o.kind=6 then [A.loc o.a] else []
def refB (o:Opr):Bool:= !(o.kind==15 || o.kind==16)
def someB (o:Opr):Bool:= !(o.kind==9 || o.kind==15 || o.kind==16 || o.kind==8)
def operandsE (A:AcS) (o:Opr):Int:=
 if (A.mustL o).any (fun v=>v.ref !=refB o) then 4 else if someB o&&(A.mustL o).any (fun v=>sameF v.z zNone) then 3 else 0
def plainV (A:AcS) (o:Opr):Option LVal:=
 if o.kind=9 then some (truthV (sameF (A.loc o.b).z (A.loc o.c).z)) else if o.kind=12 then some ⟨false,(o.re,o.im)⟩ else if o.kind=13 then some LVal.none else if o.kind=14 then some (A.loc o.b) else none
end AcS
def inL (c:Cnf) (i:Int):Bool:=decide (0≤i∧i<c.locals)
def inG (c:Cnf) (i:Int):Bool:=decide (0≤i∧i<c.globals)
def needF (c:Cnf) (o:Opr):Int:=Shp.size ⟨o.kind==2,none,0,((c.shapeAt o.b).getD (false,[])).2⟩ (if o.kind=2 then o.n else 0)
def needS (c:Cnf) (o:Opr):Int:=Shp.spine ⟨o.kind==2,none,0,((c.shapeAt o.b).getD (false,[])).2⟩ o.n
def opOk (c:Cnf) (o:Opr):Bool:=
 if o.kind=1∨o.kind=2 then inL c o.a&&(c.shapeAt o.b).isSome&&(((c.shapeAt o.b).getD (false,[])).1==(o.kind==2))&&decide (0≤needF c o)&&decide (needF c o≤c.frags)&&decide (needS c o≤c.spine)
 else if o.kind=3∨o.kind=4∨o.kind=5∨o.kind=6∨o.kind=10∨o.kind=11∨o.kind=14 then inL c o.a&&inL c o.b
 else if o.kind=7 then inL c o.a&&inG c o.n
 else if o.kind=8 then inL c o.b&&inG c o.n
 else if o.kind=9 then false
 else if o.kind=12∨o.kind=13 then inL c o.a
 else o.kind==17 || o.kind==18
def shpOf (c:Cnf) (b:Int):Shp:=⟨((c.shapeAt b).getD (false,[])).1,none,0,((c.shapeAt b).getD (false,[])).2⟩
structure AcW where
 a:AcS
 K:CoreS
abbrev AcR:=(ResS × Bool) × AcW
namespace AcW
def no (W:AcW):AcR:=((ResS.zero,false),W)
def withA (W:AcW) (A:AcS):AcW:={ W with a:=A }
def tickH (W:AcW):AcW:={ W with K:={ W.K with hand:=W.K.hand.tick } }
def spc (W:AcW) (S:SpaceS):AcW:={ W with K:={ W.K with sp:=S } }
def memW (W:AcW) (m:MemS):AcW:={ W with K:={ W.K with mem:=m } }
def greyK (W:AcW) (i:Int):AcW:={ W with K:={ W.K with sp:={ W.K.sp with tab:=W.K.sp.tab.grey i W.a.sense },pile:=W.K.pile.grey W.K.sp.tab i W.a.sense,n:=W.K.n+1 } }
def doneR (W:AcW) (v:LVal) (e:Int):AcR:=((W.a.res v e,true),{ W with a:=W.a.done })
def fails (W:AcW) (e:Int):AcR:=W.doneR LVal.zero e
def laysR (W:AcW) (i:Int) (v:LVal):AcR:=AcW.doneR { W with a:={ W.a with locals:=W.a.locals.set i.toNat v } } v 0
def looksB (W:AcW):Bool:=W.K.hand.status==W.a.status
def looksA (W:AcW):AcS:={ W.a with seen:=W.K.hand.status,grey:=if W.K.hand.status=3 then AcS.greys W.a.locals else [],pc:=if W.K.hand.status=3∧AcS.greys W.a.locals≠[] then 1 else 2,sense:=if W.K.hand.status=1 then W.K.hand.sense else W.a.sense }
def looks (W:AcW):AcW:=if W.looksB then W.tickH else W.tickH.withA W.looksA
def answersB (W:AcW):Bool:=W.a.pc !=1
def answers (W:AcW):AcW:=
 if W.a.pc=1 then (W.greyK (W.a.grey.headD 0)).withA { W.a with grey:=W.a.grey.tail,pc:=if W.a.grey.tail=[] then 2 else 1 }
 else { a:={ W.a with status:=W.a.seen },K:={ W.K with hand:=W.K.hand.answer W.a.t W.a.seen } }
def goes (W:AcW):AcW:={ a:={ W.a with phase:=4,locals:=List.replicate W.a.locals.length LVal.zero },K:={ W.K with hand:=W.K.hand.leave W.a.t } }
def border (W:AcW):AcW:=
 if W.a.pc=0 then (if !W.looksB then W.looks else if (W.a.ops.length:Int)≤W.a.next then W.looks.withA { W.a with pc:=3 } else W.looks.withA W.a.began)
 else if W.a.pc=1∨W.a.pc=2 then (if W.answersB then W.answers.withA { W.answers.a with pc:=0 } else W.answers)
 else if W.a.pc=3 then (W.spc (drainS W.K.sp W.a.t)).withA { W.a with pc:=4 }
 else if W.a.pc=4 then W.goes
 else W
def rdB (W:AcW) (frag k:Int):Bool:=decide (W.K.c.check=0∧0≤frag∧frag<W.K.c.frags∧0≤k∧k<8)&&inB (frag*8+k) W.K.mem.l.length
def takenW (W:AcW) (o:Opr) (got:List Int) (at_:Int):List Value:=
 if o.kind=1 then objWrites (shpOf W.K.c o.b) o.b got (isSide got) got.length else arrWrites (shpOf W.K.c o.b) o.b o.n at_ got
def takes (W:AcW) (o:Opr) (got:List Int) (at_:Int):AcW:=W.withA { W.a with writes:=W.takenW o got at_,got:=got,phase:=2,at_:=7 }
def takesOk (W:AcW) (o:Opr) (got:List Int) (at_:Int):Bool:=
 decide (got.length≤1000)&&(got.all (fun x=>decide (0≤x∧x≤1000000))&&(decide (-1≤at_∧at_≤1000000)&&(
 if o.kind=1 then wrongE W.K.c (W.K.c.shapeAt o.b).isSome (shpOf W.K.c o.b) 0 false got==0
 else arrE W.K.c (W.K.c.shapeAt o.b).isSome (shpOf W.K.c o.b) o.n got at_==0)))
def asks (W:AcW) (o:Opr):AcR:=
 let r:=ask W.K.sp W.a.t (needF W.K.c o) (needS W.K.c o) (W.a.sense !=W.a.both)
 if r.1.1=0 then ((W.spc r.2).withA { W.a with phase:=3,pc:=5 }).no else ((W.spc r.2).takes o r.1.2.1 r.1.2.2).no
def makes (W:AcW):AcR:=match W.a.writes with
 |.int _ a::.complex _ p q::l=>((W.memW (W.K.mem.tick.lay a (p,q))).withA { W.a with writes:=l,at_:=if l=[] then 8 else W.a.at_ }).no
 |_=>W.no
def bears (W:AcW) (o:Opr):AcR:=(W.spc { W.K.sp.tick with tab:=W.K.sp.tab.born (W.a.got.headD 0) }).laysR o.a ⟨true,zRef (W.a.got.headD 0)⟩
def found (W:AcW) (o:Opr) (x:Bool × FindS × MemS):AcR:=
 let V:=(W.memW x.2.2).withA { W.a with at_:=1,f:=some x.2.1 }
 if x.1=false then V.no
 else if x.2.1.e≠0 then V.fails x.2.1.e
 else
  let A:={ V.a with addr:=x.2.1.at_,ref:=decide (0≤x.2.1.at_)&&x.2.1.ref,at_:=2 }
  if o.kind=3∨o.kind=5 then (V.withA A).no
  else if (A.loc o.b).ref≠A.ref then (V.withA A).fails 4
  else (V.withA (A.chooses o)).no
def finds (W:AcW) (o:Opr):Option AcR:=match W.a.f with
 |none=>none
 |some F=>if 0≤F.steps∧F.steps≤1099511627776∧ -9223372036854775808≤F.k∧F.k≤9223372036854775807 then (F.stepO W.K.mem).map (W.found o) else none
def reads (W:AcW) (o:Opr):Option AcR:=
 if inB W.a.addr W.K.mem.l.length&&(!W.a.ref || wIs (W.K.mem.peek W.a.addr)) then some ((W.memW W.K.mem.tick).laysR o.a ⟨W.a.ref,W.K.mem.peek W.a.addr⟩) else none
def storesWrite (W:AcW):AcR:=(W.memW (W.K.mem.tick.lay W.a.addr W.a.w)).doneR LVal.zero 0
def stores (W:AcW):Option AcR:=
 if W.a.at_=6 then (if inB W.a.addr W.K.mem.l.length then some W.storesWrite else none) else none
def tells (W:AcW) (o:Opr):Option AcR:=
 if W.rdB (W.a.head o.b) 1 then (match wTell (W.K.mem.peek (W.a.head o.b*8+1)) with
  |none=>none
  |some (kd,md)=>match W.K.c.shapeAt kd with
   |none=>none
   |some (arr,refs)=>
    if md≤1∧(arr=false∨md=0) then
     (if o.kind=11 then some ((W.memW W.K.mem.tick).laysR o.a ⟨false,zWhole kd⟩)
     else if arr=false then some ((W.memW W.K.mem.tick).fails 4)
     else some ((W.memW W.K.mem.tick).withA { W.a with at_:=9 }).no)
    else none) else none
def counts (W:AcW) (o:Opr):Option AcR:=
 if W.rdB (W.a.head o.b) 2 then (match wInt (W.K.mem.peek (W.a.head o.b*8+2)) with
  |none=>none
  |some n=>if 0≤n∧n≤512 then some ((W.memW W.K.mem.tick).laysR o.a ⟨false,zWhole n⟩) else none) else none
def prog (W:AcW) (o:Opr):FindS:=
 if o.kind=3 then FindS.fresh W.K.c (W.a.head o.b) o.n false (W.a.head o.b) else if o.kind=4 then FindS.fresh W.K.c (W.a.head o.a) o.n false (W.a.head o.a)
 else if o.kind=5 then FindS.fresh W.K.c (W.a.head o.b) o.n true 0 else FindS.fresh W.K.c (W.a.head o.a) o.n true 0
def asksR (W:AcW) (o:Opr):AskR:=ask W.K.sp W.a.t (needF W.K.c o) (needS W.K.c o) (W.a.sense !=W.a.both)
def asksO (W:AcW) (o:Opr):Option AcR:=
 if (W.asksR o).1.1=0∨((W.asksR o).1.1=1∧(W.spc (W.asksR o).2).takesOk o (W.asksR o).1.2.1 (W.asksR o).1.2.2=true) then some (W.asks o) else none
def atGlobal (W:AcW) (o:Opr):AcW:=W.withA { W.a with addr:=cAtV W.K.c 3 o.n,ref:=true }
def starts (W:AcW) (o:Opr):Option AcR:=
 if opOk W.K.c o=false then none
 else if W.a.operandsE o≠0 then some (W.fails (W.a.operandsE o))
 else match W.a.plainV o with
  |some v=>some (W.laysR o.a v)
  |none=>
   if o.kind=1∨o.kind=2 then W.asksO o
   else if o.kind=3∨o.kind=4∨o.kind=5∨o.kind=6 then (W.withA { W.a with f:=some (W.prog o) }).finds o
   else if o.kind=7 then (W.atGlobal o).reads o
   else if o.kind=8 then ((W.atGlobal o).withA ((W.atGlobal o).a.chooses o)).stores
   else if o.kind=10∨o.kind=11 then W.tells o
   else if o.kind=17 then some ((W.spc (forceS W.K.sp)).doneR LVal.zero 0)
   else if o.kind=18 then some ((W.spc (drainS W.K.sp W.a.t)).withA { W.a with at_:=10 }).no
   else none
def within (W:AcW):Option AcR:=
 if W.a.at_=0 then W.starts W.a.op
 else if W.a.at_=1 then W.finds W.a.op
 else if W.a.at_=2 then W.reads W.a.op
 else if W.a.at_=7 then (match W.a.writes with
  |.int _ a::.complex _ p q::l=>if inB a W.K.mem.l.length then some W.makes else none
  |_=>none)
 else if W.a.at_=8 then (if W.a.got≠[]∧(W.K.sp.tab.state (W.a.got.headD 0)==2&& !W.K.sp.tab.head (W.a.got.headD 0))=true∧0≤W.a.got.headD 0∧W.a.got.headD 0≤1099511627776 then some (W.bears W.a.op) else none)
 else if W.a.at_=9 then W.counts W.a.op
 else if W.a.at_=10 then some (W.goes.doneR LVal.zero 0)
 else W.stores
def lookR (W:AcW):AskR:=look W.K.sp W.a.t
def waiting (W:AcW):Option AcR:=
 if W.a.pc=5 then
  (if W.lookR.1.1=0 then some ((W.spc W.lookR.2).withA { W.a with pc:=0 }).no
  else if W.lookR.1.1=1 then (if (W.spc W.lookR.2).takesOk W.a.op W.lookR.1.2.1 W.lookR.1.2.2 then some ((W.spc W.lookR.2).takes W.a.op W.lookR.1.2.1 W.lookR.1.2.2).no else none)
  else if W.lookR.1.1=2 then some ((W.spc W.lookR.2).fails 6) else none)
 else if W.a.pc=0 then some (if W.looksB then W.looks.withA { W.a with pc:=5 } else W.looks).no
 else if W.a.pc=1∨W.a.pc=2 then some (if W.answersB then W.answers.withA { W.answers.a with pc:=5 } else W.answers).no
 else none
def joins (W:AcW):AcW:=
 { a:=if W.K.hand.mayJoin W.a.t then { W.a with status:=W.K.hand.status,sense:=W.K.hand.sense,phase:=1,pc:=0 } else { W.a with phase:=4 },K:={ W.K with hand:=W.K.hand.join W.a.t } }
def cntOk (n:Int):Bool:=decide (0≤n∧n≤1099511627776)
def bdB (W:AcW):Bool:=cntOk W.a.own&&cntOk W.a.next&&cntOk W.K.hand.count&&cntOk W.K.sp.count&&cntOk W.K.mem.count&&cntOk W.K.n&&decide (W.K.sp.line.length<1000000)
def greyOk (W:AcW):Bool:=W.a.pc !=1 || !W.a.grey.isEmpty
def opIn (W:AcW):Bool:=decide (W.a.next<W.a.ops.length)
def locOk (W:AcW):Bool:=decide ((W.a.locals.length:Int)=W.K.c.locals)
def up (W:AcW):AcW:=W.withA { W.a with own:=W.a.own+1 }
def step (W:AcW):Option AcR:=
 if W.bdB=false then none
 else if W.a.phase=0 then some W.joins.no
 else if W.a.phase=1 then (if W.greyOk then some W.border.no else none)
 else if W.a.phase=2 then (if W.opIn&&W.locOk then W.up.within else none)
 else if W.a.phase=3 then (if W.opIn&&W.greyOk then W.up.waiting else none)
 else if W.a.phase=4 then some W.no
 else none
end AcW
namespace AcW
def kindR (o:Opr):Bool:=o.kind==1 || (o.kind==4 || (o.kind==13 || (o.kind==7 || o.kind==8)))
def wrOk (W:AcW):Bool:=match W.a.writes with
 |zI z6 _::zc z4 _ _::_=>true
 |_=>false
def okW (W:AcW):Bool:=kindR W.a.op&&(W.a.at_ !=9&&((W.a.at_ !=1 || inL W.K.c W.a.op.b)&&((W.a.at_ !=2 || inL W.K.c W.a.op.a)&&((W.a.at_ !=8 || inL W.K.c W.a.op.a)&&(W.a.at_ !=7 || W.wrOk)))))
def okL (W:AcW):Bool:=W.a.phase !=3&&((W.a.phase !=2 || W.okW)&&(decide (W.a.locals.length≤1000)&&W.K.c.check==0))
def stepL (W:AcW):Option AcR:=if W.okL then W.step else none
def post (W:AcW) (s:Int) (flip:Bool):AcW:={ W with K:={ W.K with hand:=W.K.hand.post s flip } }
end AcW
def c23 (A:Option Addr):Cnf:=⟨4,0,0,1,1,0,1,0,A,1,[⟨false,none,0,[]⟩]⟩
theorem yi0 (A:Option Addr):(c23 A).check=0:=by rfl
structure DuW where
 y:CyS
 tr:Option TraceS
 h:Option HaulS
 a:AcS
 K:CoreS
namespace DuW
def cy (D:DuW):CyW:=⟨D.y,D.tr,D.h,D.K⟩
def ac (D:DuW):AcW:=⟨D.a,D.K⟩
def putC (D:DuW) (V:CyW):DuW:=⟨V.y,V.tr,V.h,D.a,V.K⟩
def putA (D:DuW) (V:AcW):DuW:=⟨D.y,D.tr,D.h,V.a,V.K⟩
def stepC (D:DuW):Option DuW:=match D.cy.stepO with
 |none=>none
 |some V=>some (D.putC V)
def tick (D:DuW):DuW:={ D with K:={ D.K with hand:=D.K.hand.tick } }
def force (D:DuW):DuW:={ D with K:={ D.K with sp:=forceS D.K.sp } }
def same (D:DuW):Bool:=D.a.status==D.K.hand.status
end DuW
namespace DuW
end DuW
def aloneD (c:Cnf) (ops:List Opr):DuW:=⟨CyS.fresh,none,none,AcS.fresh 0 c.locals.toNat ops,CoreS.fresh c⟩
structure AcRows (g:GW) (t:Nat) (A:AcS) (p:AcP):Prop where
 ops:Seg g 0 p.opsA (A.ops.flatMap Opr.cells)
 opsC:A.ops.length≤p.opsC∧p.opsC≤9223372036854775807
 loc:Row g (t+1) 38 2 (.slice p.locA A.locals.length p.locC) A.locals.length (A.locals.flatMap LVal.cells)
 grey:Seg g (t+4) p.greyA (A.grey.map (zI z6))
 greyC:A.grey.length≤p.greyC∧p.greyC≤9223372036854775807
 fn:A.f=none→p.fp=none
 fs: ∀S,A.f=some S→ ∃bf cm,p.fp=some ⟨bf,0,none⟩∧cm.Same S.c∧FindAt g (t+2) bf (S.withC cm)
 got:Seg g 0 p.gotA (A.got.map (zI z6))
 gotC:A.got.length≤p.gotC∧p.gotC≤9223372036854775807
 wr:Seg g 0 p.wrA A.writes
 wrE:A.writes.length%2=0
 wrC:A.writes.length/2≤p.wrC∧p.wrC≤9223372036854775807
structure AcAt (g:GW) (t b:Nat) (A:AcS) (p:AcP):Prop where
 blk:Blk g t b 103 (A.cells p)
 r:AcRows g t A p
structure AcApart (t B:Nat):Prop where
 hb:100≤B
 ht:100≤t
 apart:t+5≤B∨B+70≤t
def acT (t B:Nat) (x:Nat):Prop:=(t≤x∧x<t+5)∨(B≤x∧x<B+70)
section
variable {g g':GW} {t b:Nat} {A:AcS} {p:AcP}
theorem AcRows.keep {T:Nat→Prop} (H:AcRows g t A p) (m:Mod T g g') (h0: ¬T 0) (h1: ¬T (t+1)) (h2: ¬T (t+2)) (h3: ¬T (t+3)) (h4: ¬T (t+4)):AcRows g' t A p:=
 ⟨H.ops.keep m h0,H.opsC,H.loc.keep m h1,H.grey.keep m h4,H.greyC,H.fn,fun S hS=>by
  obtain ⟨bf,cm,e1,e2,e3⟩:=H.fs S hS;exact ⟨bf,cm,e1,e2,e3.keep m h2 h3⟩,H.got.keep m h0,H.gotC,H.wr.keep m h0,H.wrE,H.wrC⟩
theorem AcAt.keep {T:Nat→Prop} (H:AcAt g t b A p) (m:Mod T g g') (h0: ¬T 0) (hT: ∀x,T x→x<t∨t+5≤x):AcAt g' t b A p:=by
 have q: ∀k,k<5→ ¬T (t+k):=fun k hk ht=>by have:=hT _ ht;omega
 exact ⟨H.blk.keep m (q 0 zo),H.r.keep m h0 (q 1 zo) (q 2 zo) (q 3 zo) (q 4 zo)⟩
theorem AcAt.turn {A':AcS} {p':AcP} (H:AcAt g t b A p) (ht:100≤t) (m:Mod (fun x=>x=t) g g') (hb:Blk g' t b 103 (A'.cells p')) (hr:AcRows g t A' p'):AcAt g' t b A' p':=
 ⟨hb,hr.keep m zo zo zo zo zo⟩
structure AcS.SameRows (A A':AcS):Prop where
 ops:A'.ops=A.ops
 loc:A'.locals=A.locals
 grey:A'.grey=A.grey
 f:A'.f=A.f
 got:A'.got=A.got
 wr:A'.writes=A.writes
theorem AcRows.same {A':AcS} (H:AcRows g t A p) (h:A.SameRows A'):AcRows g t A' p:=by
 obtain ⟨h1,h2,h3,h4,h5,h6⟩:=h;obtain ⟨r1,r2,r3,r4,r5,r6,r7,r8,r9,r10,r11,r12⟩:=H;exact ⟨by rw [h1];exact r1,by rw [h1];exact r2,by rw [h2];exact r3,by rw [h3];exact r4,by rw [h3];exact r5,by rw [h4];exact r6,by rw [h4];exact r7,by rw [h5];exact r8,by rw [h5];exact r9,by rw [h6];exact r10,by rw [h6];exact r11,by rw [h6];exact r12⟩
theorem AcAt.set (H:AcAt g t b A p) (ht:100≤t) (i:Nat) (v:Value) (A':AcS) (hv:A'.cells p=(A.cells p).set i v) (h:A.SameRows A'):AcAt ⟨g.own,g.w.setCell ⟨b,i,none⟩ v⟩ t b A' p:=
 H.turn ht (Mod.set H.blk.own) (by rw [hv];exact H.blk.set i v) (H.r.same h)
end
structure TbI where
 tb:Nat
abbrev TbId:=Inhabited TbI
def TbId.tb [TbId]:Nat:=(default:TbI).tb
structure AcIn [TbId] (g:GW) (t B b k:Nat) (W:AcW) (p:AcP) (bm bs bt bp bsp bh:Nat) (cm:Cnf):Prop where
 a:AcAt g t b W.a p
 c:CoreIn g B k W.K bm bs bt bp bsp bh cm
 tbl:bt=TbId.tb
def AcWAt [TbId] (g:GW) (t B b k:Nat) (W:AcW):Prop:= ∃p bm bs bt bp bsp bh cm,AcIn g t B b k W p bm bs bt bp bsp bh cm
section
variable [TbId] {g:GW} {t B b k:Nat} {W:AcW} {p:AcP} {bm bs bt bp bsp bh:Nat} {cm:Cnf}
theorem AcIn.at_ (H:AcIn g t B b k W p bm bs bt bp bsp bh cm):AcWAt g t B b k W:=⟨p,bm,bs,bt,bp,bsp,bh,cm,H⟩
theorem AcIn.set (H:AcIn g t B b k W p bm bs bt bp bsp bh cm) (P:AcApart t B) (i:Nat) (v:Value) (A':AcS) (hv:A'.cells p=(W.a.cells p).set i v) (h:W.a.SameRows A'):AcIn ⟨g.own,g.w.setCell ⟨b,i,none⟩ v⟩ t B b k (W.withA A') p bm bs bt bp bsp bh cm:=
 ⟨H.a.set P.ht i v A' hv h,H.c.keep (Mod.set (T:=fun x=>x=t) H.a.blk.own) (fun x (hx:x=_)=>by have:=P.apart;omega),H.tbl⟩
theorem AcIn.turn {g':GW} {A':AcS} {p':AcP} (H:AcIn g t B b k W p bm bs bt bp bsp bh cm) (P:AcApart t B) (m:Mod (fun x=>x=t) g g') (hb:Blk g' t b 103 (A'.cells p')) (hr:AcRows g t A' p'):AcIn g' t B b k (W.withA A') p' bm bs bt bp bsp bh cm:=
 ⟨H.a.turn P.ht m hb hr,H.c.keep m (fun x (hx:x=_)=>by have:=P.apart;omega),H.tbl⟩
theorem AcIn.keep {T:Nat→Prop} {g':GW} (H:AcIn g t B b k W p bm bs bt bp bsp bh cm) (m:Mod T g g') (h0: ¬T 0) (h1: ∀x,T x→x<t∨t+5≤x) (h2: ∀x,T x→x<B∨B+70≤x):AcIn g' t B b k W p bm bs bt bp bsp bh cm:=
 ⟨H.a.keep m h0 h1,H.c.keep m h2,H.tbl⟩
theorem AcIn.keep0 {g':GW} (H:AcIn g t B b k W p bm bs bt bp bsp bh cm) (m:Mod (fun _=>False) g g'):AcIn g' t B b k W p bm bs bt bp bsp bh cm:=H.keep m id zG zG
theorem AcIn.pt (H:AcIn g t B b k W p bm bs bt bp bsp bh cm) (X:Extra):AcIn (g.pt X) t B b k W p bm bs bt bp bsp bh cm:=H.keep0 (Mod.pt (Mod.refl _ _) X)
theorem AcIn.hand {g':GW} (H:AcIn g t B b k W p bm bs bt bp bsp bh cm) (P:AcApart t B) {h:HandS} (m:Mod (fun x=>x=B+63) g g') (hh:HandAt g' (B+63) bh h):AcIn g' t B b k { W with K:={ W.K with hand:=h } } p bm bs bt bp bsp bh cm:=
 ⟨H.a.keep m zo (fun x (hx:x=_)=>by have:=P.apart;omega),H.c.putHand m hh,H.tbl⟩
theorem AcIn.mem {g':GW} (H:AcIn g t B b k W p bm bs bt bp bsp bh cm) (P:AcApart t B) {h:MemS} (m:Mod (fun x=>x=B+62) g g') (hh:MemAt g' (B+62) bm h):AcIn g' t B b k (W.memW h) p bm bs bt bp bsp bh cm:=
 ⟨H.a.keep m zo (fun x (hx:x=_)=>by have:=P.apart;omega),H.c.putMem m hh,H.tbl⟩
theorem AcIn.spc {g':GW} (H:AcIn g t B b k W p bm bs bt bp bsp bh cm) (P:AcApart t B) {S:SpaceS} (m:Mod (inst B) g g') (hs:SpaceAt g' B bsp bt S):AcIn g' t B b k (W.spc S) p bm bs bt bp bsp bh cm:=
 ⟨H.a.keep m (fun h=>by have:=h.1;have:=P.hb;omega) (fun x hx=>by have:=P.apart;have h1:=hx.1;have h2:=hx.2;omega),H.c.putSp m hs,H.tbl⟩
theorem AcIn.greyK {g':GW} (H:AcIn g t B b k W p bm bs bt bp bsp bh cm) (P:AcApart t B) {i:Int} (m:Mod (fun x=>x=B+60∨x=B+50∨x=B+61) g g')
 (hs:ShdAt g' (B+60) bs bt (B+50) bp (B+61) (W.K.sp.tab.grey i W.a.sense) (W.K.pile.grey W.K.sp.tab i W.a.sense) (W.K.n+1)):AcIn g' t B b k (W.greyK i) p bm bs bt bp bsp bh cm:=
 ⟨H.a.keep m zo (fun x (hx:x=_∨x=_∨x=_)=>by have:=P.apart;omega),H.c.putShd m hs,H.tbl⟩
theorem AcIn.modA (H:AcIn g t B b k W p bm bs bt bp bsp bh cm):acT t B (g.own b):=by rw [H.a.blk.own];exact Or.inl ⟨Nat.le_refl _,zo⟩
end
theorem ybE {t B x:Nat} (h:x=B+63):acT t B x:=Or.inr zo
theorem yd2 {t B x:Nat} (h:x=B+62):acT t B x:=Or.inr zo
theorem yls {t B x:Nat} (h:x=B+60∨x=B+50∨x=B+61):acT t B x:=Or.inr zo
theorem ybF {t B x:Nat} (h:inst B x):acT t B x:=Or.inr (by have h1:=h.1;have h2:=h.2;omega)
theorem yaG {t B x:Nat} (h:x=t):acT t B x:=Or.inl zo
end Go.Proofs.YtdhjjpnajjingaaGreat
namespace Go
open Go.RowKit
theorem yeK (l:List LVal) (k:Nat) (v:LVal) (h:l[k]?=some v):(l.flatMap LVal.cells)[k*2]?=some (zb v.ref)∧(l.flatMap LVal.cells)[k*2+1]?=some (zc z4 v.z.1 v.z.2):=by
 induction l generalizing k with
 |nil=>simp at h
 |cons x l ih=>
  cases k with
  |zero=>simp at h;subst h;exact ⟨rfl,rfl⟩
  |succ k=>
   have:=ih k (by simpa using h);rw [show (k+1)*2=k*2+1+1 from zo];simpa [List.flatMap_cons,LVal.cells] using this
theorem yjH (l:List LVal) (k:Nat) (v:LVal):(l.set k v).flatMap LVal.cells=((l.flatMap LVal.cells).set (k*2) (zb v.ref)).set (k*2+1) (zc z4 v.z.1 v.z.2):=by
 induction l generalizing k with
 |nil=>simp
 |cons x l ih=>
  cases k with
  |zero=>simp [List.flatMap_cons,LVal.cells]
  |succ k=>
   rw [show (k+1)*2=k*2+1+1 from zo];simp only [List.set_cons_succ,List.flatMap_cons,ih];simp [LVal.cells]
theorem yeL (l:List LVal):(l.flatMap LVal.cells).length=l.length*2:=by
 induction l with
 |nil=>rfl
 |cons x l ih=>simp [List.flatMap_cons,LVal.cells,ih];omega
theorem ybD {l:List LVal} {k:Nat} (hk:k<l.length):l[k]?=some (l.getD k LVal.zero):=by
 rw [List.getD_eq_getElem?_getD,List.getElem?_eq_getElem hk];rfl
end Go
namespace Go.Proofs.YtdhjjpnajjingaaGreat
open Go Go.RowKit
theorem AcRows.local_ {g:GW} {t:Nat} {A:AcS} {p:AcP} (H:AcRows g t A p) {k:Nat} (hk:k<A.locals.length): ∃q,p.locA=some ⟨q,0,none⟩∧q<g.w.heap.size∧g.own q=t+1∧g.w.cell? ⟨q,k*2,none⟩=some (zb (A.loc k).ref)∧g.w.cell? ⟨q,k*2+1,none⟩=some (zc z4 (A.loc k).z.1 (A.loc k).z.2)∧(∀j,g.w.frozen? ⟨q,j,none⟩=false):=by
 obtain ⟨q,hA,hq,ho,hc,hf⟩:=H.loc.block zo;have h:=yeK A.locals k (A.loc k) (by unfold AcS.loc;rw [Int.toNat_natCast];exact ybD hk);exact ⟨q,hA,hq,ho,hc _ _ h.1,hc _ _ h.2,hf⟩
section
variable (g:GW) (t b:Nat) (A:AcS) (p:AcP)
theorem yiO (H:AcAt g t b A p):Calls prog 15 #[zp (some ⟨b,0,none⟩)] g.w (fun e w'=>e=.returned (zI z6 A.phase)∧g.w=w'):=by
 obtain ⟨a0,a1,a2,a3,a4,a5,a6,a7,a8,a9,a10,a11,a12,a13,a14,a15,a16,a17,a18,al⟩:=H.blk.k19;clear H;go_enter func15,ntmps15;go_wp2_with fail;go_ret;exact ⟨rfl,rfl⟩
theorem yhp (H:AcAt g t b A p):Calls prog 20 #[zp (some ⟨b,0,none⟩)] g.w (fun e w'=>e=.returned (zI z6 A.status)∧g.w=w'):=by
 obtain ⟨a0,a1,a2,a3,a4,a5,a6,a7,a8,a9,a10,a11,a12,a13,a14,a15,a16,a17,a18,al⟩:=H.blk.k19;clear H;go_enter func20,ntmps20;go_wp2_with fail;go_ret;exact ⟨rfl,rfl⟩
theorem yfp (H:AcAt g t b A p):Calls prog 206 #[zp (some ⟨b,0,none⟩)] g.w (fun e w'=>e=.returned (zb A.both)∧g.w=w'):=by
 have HV:=zH (show A.both=(A.status==1 || A.status==2) from rfl);obtain ⟨a0,a1,a2,a3,a4,a5,a6,a7,a8,a9,a10,a11,a12,a13,a14,a15,a16,a17,a18,al⟩:=H.blk.k19;clear H;generalize A.status=s at *;cases h1:(s==1)
 · cases h2:(s==2)
   · go_enter func206,ntmps206;go_wp2_with fail;go_ret;exact ⟨by rw [HV.o,h1,h2];rfl,rfl⟩
   · go_enter func206,ntmps206;go_wp2_with fail;go_ret;exact ⟨by rw [HV.o,h1,h2];rfl,rfl⟩
 · go_enter func206,ntmps206;go_wp2_with fail;go_ret;exact ⟨by rw [HV.o,h1];rfl,rfl⟩
theorem yhn (H:AcAt g t b A p):Calls prog 209 #[zp (some ⟨b,0,none⟩)] g.w (fun e w'=>e=.returned (zb A.shades)∧g.w=w'):=by
 have HV:=zH (show A.shades=(A.status==1 || (A.status==2 || A.status==3)) from rfl);obtain ⟨a0,a1,a2,a3,a4,a5,a6,a7,a8,a9,a10,a11,a12,a13,a14,a15,a16,a17,a18,al⟩:=H.blk.k19;clear H;generalize A.status=s at *;cases h1:(s==1)
 · cases h2:(s==2)
   · cases h3:(s==3)
     · go_enter func209,ntmps209;go_wp2_with fail;go_ret;exact ⟨by rw [HV.o,h1,h2,h3];rfl,rfl⟩
     · go_enter func209,ntmps209;go_wp2_with fail;go_ret;exact ⟨by rw [HV.o,h1,h2,h3];rfl,rfl⟩
   · go_enter func209,ntmps209;go_wp2_with fail;go_ret;exact ⟨by rw [HV.o,h1,h2];rfl,rfl⟩
 · go_enter func209,ntmps209;go_wp2_with fail;go_ret;exact ⟨by rw [HV.o,h1];rfl,rfl⟩
end
theorem ykE (g:GW) (t b:Nat) (A:AcS) (p:AcP) (i:Int) (H:AcAt g t b A p) (hi:0≤i∧i<A.locals.length):Calls prog 139 #[zp (some ⟨b,0,none⟩),zI z6 i] g.w (Gives (zI z6 (A.head i)) g.w):=by
 obtain ⟨k,rfl⟩: ∃k:Nat,i=k:=⟨i.toNat,zo⟩;have hk:k<A.locals.length:=zo;obtain ⟨q,hA,hq, -,c0,c1, -⟩:=H.r.local_ hk;have HI:=zH (fun w'=>yaJ (A.loc k).z w');have HV:=zH (show A.head k=(wIndex (A.loc k).z).getD 0 from rfl);obtain ⟨a0,a1,a2,a3,a4,a5,a6,a7,a8,a9,a10,a11,a12,a13,a14,a15,a16,a17,a18,al⟩:=H.blk.k19;rw [hA] at a2;clear H hi hA;generalize A.loc k=v at *;generalize A.locals.length=n at *;unfold optV at HI;go_enter func139,ntmps139;go_wp2_with fail;refine (HI.o _).mono ?_;rintro e w1 ⟨rfl,hE1⟩;obtain ⟨X1,rfl⟩:=(show Ext g.w w1 from hE1);go_wp2_with fail;go_ret;exact Gives.mk (by rw [HV.o];rfl) zE
def acO (t x:Nat):Prop:=x=t∨x=t+1
theorem AcIn.own [TbId] {g g':GW} {t B b k:Nat} {W:AcW} {p p':AcP} {bm bs bt bp bsp bh:Nat} {cm:Cnf} {A':AcS} (H:AcIn g t B b k W p bm bs bt bp bsp bh cm) (P:AcApart t B) (m:Mod (acO t) g g') (h:AcAt g' t b A' p'):AcIn g' t B b k (W.withA A') p' bm bs bt bp bsp bh cm:=
 ⟨h,H.c.keep m (fun x (hx:x=_∨x=_)=>by have:=P.apart;omega),H.tbl⟩
theorem yay {t B x:Nat} (h:acO t x):acT t B x:=Or.inl (by unfold acO at h;omega)
theorem yam (g:GW) (T1:TypeId) (v1:List Value): ∃own0,Mod (fun _=>False) g ⟨own0,g.w.alloc (.cells v1.toArray T1)⟩∧Blk ⟨own0,g.w.alloc (.cells v1.toArray T1)⟩ 9 g.w.heap.size T1 v1:=
 ⟨_,Mod.ext zE 9,Blk.new g 9 T1 v1⟩
theorem yaq (g:GW) (T1 T2:TypeId) (v1 v2:List Value): ∃own0,Mod (fun _=>False) g ⟨own0,(g.w.alloc (.cells v1.toArray T1)).alloc (.cells v2.toArray T2)⟩∧Blk ⟨own0,(g.w.alloc (.cells v1.toArray T1)).alloc (.cells v2.toArray T2)⟩ 9 g.w.heap.size T1 v1∧Blk ⟨own0,(g.w.alloc (.cells v1.toArray T1)).alloc (.cells v2.toArray T2)⟩ 9 (g.w.heap.size+1) T2 v2:=
 ⟨_,Mod.ext (g:=g) (show Ext g.w _ from zE) 9,⟨(yaI _ _ _).1,GW.to_new (Nat.le_refl _)⟩,⟨(yaI _ _ _).2,GW.to_new (Nat.le_succ _)⟩⟩
theorem yeh (own0:Nat→Nat) (w0:World) (X X2:Extra) (T:TypeId) (vs:List Value): ∃own1,Mod (fun _=>False) ⟨own0,w0⟩ ⟨own1,((w0.patch X).alloc (.cells vs.toArray T)).patch X2⟩∧Blk ⟨own1,((w0.patch X).alloc (.cells vs.toArray T)).patch X2⟩ 9 (w0.patch X).heap.size T vs∧w0.heap.size≤(w0.patch X).heap.size:=by
 have hs:w0.heap.size≤(w0.patch X).heap.size:=by rw [World.size_patch];omega
 refine ⟨_,Mod.ext (g:=⟨own0,w0⟩) (show Ext w0 _ from zE) 9,⟨?_,GW.to_new hs⟩,hs⟩;show (((w0.patch X).alloc _).patch X2).heap[(w0.patch X).heap.size]?=_;rw [World.heap_patch _ _ _ (by rw [World.size_alloc];omega)];exact World.row_alloc_new _
def resZ:List Value:=[zI z6 0,zI z6 0,zI z6 0,zb false,zc z4 0 0]
theorem yae {T:Nat→Prop} {g:GW} {own:Nat→Nat} {V:World} {q:Nat} (M:Mod T g ⟨own,V⟩) (R:Blk ⟨own,V⟩ 9 q 40 resZ) (hq:g.w.heap.size≤q) (op ow e:Int) (rf:Bool) (x y:Nat):
 Mod T g ⟨own,((((V.setCell ⟨q,0,none⟩ (zI z6 op)).setCell ⟨q,1,none⟩ (zI z6 ow)).setCell ⟨q,2,none⟩ (zI z6 e)).setCell ⟨q,3,none⟩ (zb rf)).setCell ⟨q,4,none⟩ (zc z4 x y)⟩∧
 Mod (fun x=>x=9) ⟨own,V⟩ ⟨own,((((V.setCell ⟨q,0,none⟩ (zI z6 op)).setCell ⟨q,1,none⟩ (zI z6 ow)).setCell ⟨q,2,none⟩ (zI z6 e)).setCell ⟨q,3,none⟩ (zb rf)).setCell ⟨q,4,none⟩ (zc z4 x y)⟩∧
 Blk ⟨own,((((V.setCell ⟨q,0,none⟩ (zI z6 op)).setCell ⟨q,1,none⟩ (zI z6 ow)).setCell ⟨q,2,none⟩ (zI z6 e)).setCell ⟨q,3,none⟩ (zb rf)).setCell ⟨q,4,none⟩ (zc z4 x y)⟩ 9 q 40 [zI z6 op,zI z6 ow,zI z6 e,zb rf,zc z4 x y]:=
 ⟨Mod.stn (Mod.stn (Mod.stn (Mod.stn (Mod.stn M hq) hq) hq) hq) hq,Mod.st (Mod.st (Mod.st (Mod.st (Mod.st (Mod.refl _ _) R.own) R.own) R.own) R.own) R.own,((((R.set 0 (zI z6 op)).set 1 (zI z6 ow)).set 2 (zI z6 e)).set 3 (zb rf)).set 4 (zc z4 x y)⟩
theorem ykD (g:GW) (t b:Nat) (A:AcS) (p:AcP) (v:LVal) (e:Int) (ht:100≤t) (H:AcAt g t b A p) (hn:0≤A.next∧A.next≤1099511627776):Calls prog 81 #[zp (some ⟨b,0,none⟩),v.val,zI z6 e] g.w (Does (resV (A.res v e,true)) g (acO t) (fun g'=>AcAt g' t b A.done p)):=by
 have HH:=zH H;obtain ⟨hn0,hn1⟩:=hn;unfold LVal.val;clear H;go_enter func81,ntmps81;go_upto_region 1 with fail
 obtain ⟨own0,M0,X0,R0⟩:=yaq g 38 40 v.cells resZ;unfold LVal.cells resZ at M0 X0 R0;generalize ((g.w.alloc (.cells #[zb v.ref,zc z4 v.z.1 v.z.2] 38)).alloc (.cells #[zI z6 0,zI z6 0,zI z6 0,zb false,zc z4 0 0] 40))=w0 at *;have H0:=zH (HH.o.keep M0 id zG);obtain ⟨a0,a1,a2,a3,a4,a5,a6,a7,a8,a9,a10,a11,a12,a13,a14,a15,a16,a17,a18,al⟩:=H0.o.blk.k19;have af6:=H0.o.blk.liv 6;have af3:=H0.o.blk.liv 3;have af7:=H0.o.blk.liv 7;obtain ⟨x0,x1,xl⟩:=X0.k2;obtain ⟨r0,r1,r2,r3,r4,rl⟩:=R0.k5;have rf0:=R0.liv 0;have X0':=zH X0;have R0':=zH R0;have M0':=zH M0;clear X0 R0 M0;refine yab [zT,zT,zT,zT,zT,zT,zT,zT,zT,zT,zT,zU,zU] 2 12 ?_;intro X00;simp only [pickOps];repeat (go_big_quiet_step (fail))
 refine wpQuiet_nil (fun X0=>?_);clear X00;refine yah 11 _ zQ rfl rfl zd (fun X1 K Q' hK=>?_);go_simp;refine hK _ _ ?_ ?_
 · exact zE
 clear hK K Q';refine yaf rfl zQ (fun X2=>?_);simp only [List.drop_succ_cons,List.drop_zero];go_upto_region 2 with fail
 obtain ⟨own1,m1,N1,hN⟩:=yeh own0 w0 ⟨X0.blocks++X1.blocks,X1.drawn⟩ X2 40 [zI z6 A.next,zI z6 A.own,zI z6 e,zb false,zc z4 0 0];have M1:=zH (M0'.o.trans m1);have H1:=zH (H0.o.keep m1 id zG);have Q1:=zH (X0'.o.keep m1 id);have R1:=zH (R0'.o.keep m1 id);have hb0:=HH.o.blk.lt;have hrl:=rl;have hNg:g.w.heap.size≤(w0.patch ⟨X0.blocks++X1.blocks,X1.drawn⟩).heap.size:=Nat.le_trans M0'.o.size hN;clear a0 a1 a2 a3 a4 a5 a6 a7 a8 a9 a10 a11 a12 a13 a14 a15 a16 a17 a18 af6 af3 af7 al x0 x1 xl r0 r1 r2 r3 r4 rf0 rl H0 X0' R0' m1 M0';generalize ((w0.patch ⟨X0.blocks++X1.blocks,X1.drawn⟩).alloc (.cells #[zI z6 A.next,zI z6 A.own,zI z6 e,zb false,zc z4 0 0] 40)).patch X2=w1 at *;generalize (w0.patch ⟨X0.blocks++X1.blocks,X1.drawn⟩).heap.size=qn at *;clear X0 X1 X2;have HN:=zH N1;clear N1;have d1:b≠qn:=zo;have d2:qn≠b:=zo;have d3:b≠g.w.heap.size+1:=zo;have d4:g.w.heap.size+1≠b:=zo;have d5:qn≠g.w.heap.size+1:=zo;have d6:g.w.heap.size+1≠qn:=zo;clear hN hrl hb0;obtain ⟨a0,a1,a2,a3,a4,a5,a6,a7,a8,a9,a10,a11,a12,a13,a14,a15,a16,a17,a18,al⟩:=H1.o.blk.k19;have af6:=H1.o.blk.liv 6;have af3:=H1.o.blk.liv 3
 have af7:=H1.o.blk.liv 7;obtain ⟨x0,x1,xl⟩:=Q1.o.k2;obtain ⟨r0,r1,r2,r3,r4,rl⟩:=R1.o.k5;have rf0:=R1.o.liv 0;have rf1:=R1.o.liv 1;have rf2:=R1.o.liv 2;have rf3:=R1.o.liv 3;have rf4:=R1.o.liv 4;obtain ⟨n0,n1,n2,n3,n4,nl⟩:=HN.o.k5;have nf0:=HN.o.liv 0;have nf1:=HN.o.liv 1;have nf2:=HN.o.liv 2;have nf3:=HN.o.liv 3;have nf4:=HN.o.liv 4;by_cases h0:e=0
 · subst h0;have HV:=zH (show A.res v 0=⟨A.next,A.own,0,v⟩ by unfold AcS.res;rw [if_pos rfl]);have NA:=zH ((HN.o.set 3 (zb v.ref)).set 4 (zc z4 v.z.1 v.z.2));have RA:=zH ((R1.o.setOther 3 (zb v.ref) d5).setOther 4 (zc z4 v.z.1 v.z.2) d5);have mA:=zH (show Mod (fun x=>x=9) ⟨own1,w1⟩ ⟨own1,(w1.setCell ⟨qn,3,none⟩ (zb v.ref)).setCell ⟨qn,4,none⟩ (zc z4 v.z.1 v.z.2)⟩ from Mod.st (Mod.st (Mod.refl _ _) HN.o.own) HN.o.own);have MA:=zH (show Mod (acO t) g ⟨own1,(w1.setCell ⟨qn,3,none⟩ (zb v.ref)).setCell ⟨qn,4,none⟩ (zc z4 v.z.1 v.z.2)⟩ from Mod.stn (Mod.stn (M1.o.mono zG) hNg) hNg);have HA:=zH (H1.o.keep mA.o zo z9);go_upto_region 4 with fail
   generalize (w1.setCell ⟨qn,3,none⟩ (zb v.ref)).setCell ⟨qn,4,none⟩ (zc z4 v.z.1 v.z.2)=wA at *;clear mA HN R1 M1 H1 Q1;clear a0 a1 a2 a3 a4 a5 a6 a7 a8 a9 a10 a11 a12 a13 a14 a15 a16 a17 a18 af6 af3 af7 al x0 x1 xl r0 r1 r2 r3 r4 rf0 rf1 rf2 rf3 rf4 rl n0 n1 n2 n3 n4 nf0 nf1 nf2 nf3 nf4 nl;obtain ⟨a0,a1,a2,a3,a4,a5,a6,a7,a8,a9,a10,a11,a12,a13,a14,a15,a16,a17,a18,al⟩:=HA.o.blk.k19;have af6:=HA.o.blk.liv 6;have af3:=HA.o.blk.liv 3;have af7:=HA.o.blk.liv 7;obtain ⟨r0,r1,r2,r3,r4,rl⟩:=RA.o.k5;have rf0:=RA.o.liv 0;have rf1:=RA.o.liv 1;have rf2:=RA.o.liv 2;have rf3:=RA.o.liv 3;have rf4:=RA.o.liv 4;obtain ⟨n0,n1,n2,n3,n4,nl⟩:=NA.o.k5;cases hp:(A.phase==4)
   · have HD:=zH (show A.done={ A with next:=A.next+1,phase:=1,pc:=0 } by unfold AcS.done;rw [if_neg (beq_eq_false_iff_ne.1 hp)]);have hpp:(A.phase !=4)=true:=by unfold bne;rw [hp];rfl
     have H2:=zH (((HA.o.set ht 6 (zI z6 (A.next+1)) { A with next:=A.next+1 } rfl ⟨rfl,rfl,rfl,rfl,rfl,rfl⟩).set ht 3 (zI z6 1) { A with next:=A.next+1,phase:=1 } rfl ⟨rfl,rfl,rfl,rfl,rfl,rfl⟩).set ht 7 (zI z6 0) { A with next:=A.next+1,phase:=1,pc:=0 } rfl ⟨rfl,rfl,rfl,rfl,rfl,rfl⟩);have R2:=zH (((RA.o.setOther 6 (zI z6 (A.next+1)) d3).setOther 3 (zI z6 1) d3).setOther 7 (zI z6 0) d3);have N2:=zH (((NA.o.setOther 6 (zI z6 (A.next+1)) d1).setOther 3 (zI z6 1) d1).setOther 7 (zI z6 0) d1);have M2:=zH (show Mod (acO t) g ⟨own1,((wA.setCell ⟨b,6,none⟩ (zI z6 (A.next+1))).setCell ⟨b,3,none⟩ (zI z6 1)).setCell ⟨b,7,none⟩ (zI z6 0)⟩ from Mod.st (Mod.st (Mod.st MA.o (Or.inl HA.o.blk.own)) (Or.inl HA.o.blk.own)) (Or.inl HA.o.blk.own));clear hp;go_upto_region 7 with fail
     generalize ((wA.setCell ⟨b,6,none⟩ (zI z6 (A.next+1))).setCell ⟨b,3,none⟩ (zI z6 1)).setCell ⟨b,7,none⟩ (zI z6 0)=w2 at *;clear a0 a1 a2 a3 a4 a5 a6 a7 a8 a9 a10 a11 a12 a13 a14 a15 a16 a17 a18 af6 af3 af7 al r0 r1 r2 r3 r4 rf0 rf1 rf2 rf3 rf4 rl n0 n1 n2 n3 n4 nl hpp HA RA NA MA;obtain ⟨r0,r1,r2,r3,r4,rl⟩:=R2.o.k5;have rf0:=R2.o.liv 0;have rf1:=R2.o.liv 1;have rf2:=R2.o.liv 2;have rf3:=R2.o.liv 3;have rf4:=R2.o.liv 4;obtain ⟨n0,n1,n2,n3,n4,nl⟩:=N2.o.k5;go_wp2_with fail;obtain ⟨Mf,mf,Rf⟩:=yae M2.o R2.o (Nat.le_succ _) (A.next) (A.own) (0) (v.ref) (v.z.1) (v.z.2);generalize (((((w2).setCell ⟨g.w.heap.size+1,0,none⟩ (zI z6 (A.next))).setCell ⟨g.w.heap.size+1,1,none⟩ (zI z6 (A.own))).setCell ⟨g.w.heap.size+1,2,none⟩ (zI z6 (0))).setCell ⟨g.w.heap.size+1,3,none⟩ (zb (v.ref))).setCell ⟨g.w.heap.size+1,4,none⟩ (zc z4 (v.z.1) (v.z.2))=wf at *;obtain ⟨f0,f1,f2,f3,f4,fl⟩:=Rf.k5;refine bodyPost_ret (v:=.tuple #[.agg #[zI z6 (A.next),zI z6 (A.own),zI z6 (0),zb (v.ref),zc z4 (v.z.1) (v.z.2)],zb true]) (by simp [results,Tryz.results81,go_sem,f0,f1,f2,f3,f4]) rfl ?_
     exact Does.of ⟨own1,wf⟩ rfl (by rw [HV.o];rfl) Mf (by rw [HD.o];exact H2.o.keep mf zo z9)
   · have HD:=zH (show A.done={ A with next:=A.next+1 } by unfold AcS.done;rw [if_pos (beq_iff_eq.1 hp)]);have hpp:(A.phase !=4)=false:=by unfold bne;rw [hp];rfl
     have H2:=zH (HA.o.set ht 6 (zI z6 (A.next+1)) { A with next:=A.next+1 } rfl ⟨rfl,rfl,rfl,rfl,rfl,rfl⟩);have R2:=zH (RA.o.setOther 6 (zI z6 (A.next+1)) d3);have N2:=zH (NA.o.setOther 6 (zI z6 (A.next+1)) d1);have M2:=zH (show Mod (acO t) g ⟨own1,wA.setCell ⟨b,6,none⟩ (zI z6 (A.next+1))⟩ from Mod.st MA.o (Or.inl HA.o.blk.own));clear hp;go_upto_region 7 with fail
     generalize wA.setCell ⟨b,6,none⟩ (zI z6 (A.next+1))=w2 at *;clear a0 a1 a2 a3 a4 a5 a6 a7 a8 a9 a10 a11 a12 a13 a14 a15 a16 a17 a18 af6 af3 af7 al r0 r1 r2 r3 r4 rf0 rf1 rf2 rf3 rf4 rl n0 n1 n2 n3 n4 nl hpp HA RA NA MA;obtain ⟨r0,r1,r2,r3,r4,rl⟩:=R2.o.k5;have rf0:=R2.o.liv 0;have rf1:=R2.o.liv 1;have rf2:=R2.o.liv 2;have rf3:=R2.o.liv 3;have rf4:=R2.o.liv 4;obtain ⟨n0,n1,n2,n3,n4,nl⟩:=N2.o.k5;go_wp2_with fail;obtain ⟨Mf,mf,Rf⟩:=yae M2.o R2.o (Nat.le_succ _) (A.next) (A.own) (0) (v.ref) (v.z.1) (v.z.2);generalize (((((w2).setCell ⟨g.w.heap.size+1,0,none⟩ (zI z6 (A.next))).setCell ⟨g.w.heap.size+1,1,none⟩ (zI z6 (A.own))).setCell ⟨g.w.heap.size+1,2,none⟩ (zI z6 (0))).setCell ⟨g.w.heap.size+1,3,none⟩ (zb (v.ref))).setCell ⟨g.w.heap.size+1,4,none⟩ (zc z4 (v.z.1) (v.z.2))=wf at *;obtain ⟨f0,f1,f2,f3,f4,fl⟩:=Rf.k5;refine bodyPost_ret (v:=.tuple #[.agg #[zI z6 (A.next),zI z6 (A.own),zI z6 (0),zb (v.ref),zc z4 (v.z.1) (v.z.2)],zb true]) (by simp [results,Tryz.results81,go_sem,f0,f1,f2,f3,f4]) rfl ?_;exact Does.of ⟨own1,wf⟩ rfl (by rw [HV.o];rfl) Mf (by rw [HD.o];exact H2.o.keep mf zo z9)
 · have HV:=zH (show A.res v e=⟨A.next,A.own,e,LVal.zero⟩ by unfold AcS.res;rw [if_neg h0]);have hz:(e==0)=false:=beq_eq_false_iff_ne.2 h0;have NA:=HN;have RA:=R1;have MA:=zH (M1.o.mono (S:=acO t) zG);have HA:=H1;clear h0;go_upto_region 4 with fail
   generalize w1=wA at *;clear HN R1 M1 H1 Q1;clear a0 a1 a2 a3 a4 a5 a6 a7 a8 a9 a10 a11 a12 a13 a14 a15 a16 a17 a18 af6 af3 af7 al x0 x1 xl r0 r1 r2 r3 r4 rf0 rf1 rf2 rf3 rf4 rl n0 n1 n2 n3 n4 nf0 nf1 nf2 nf3 nf4 nl;obtain ⟨a0,a1,a2,a3,a4,a5,a6,a7,a8,a9,a10,a11,a12,a13,a14,a15,a16,a17,a18,al⟩:=HA.o.blk.k19;have af6:=HA.o.blk.liv 6;have af3:=HA.o.blk.liv 3;have af7:=HA.o.blk.liv 7;obtain ⟨r0,r1,r2,r3,r4,rl⟩:=RA.o.k5;have rf0:=RA.o.liv 0;have rf1:=RA.o.liv 1;have rf2:=RA.o.liv 2;have rf3:=RA.o.liv 3;have rf4:=RA.o.liv 4;obtain ⟨n0,n1,n2,n3,n4,nl⟩:=NA.o.k5;cases hp:(A.phase==4)
   · have HD:=zH (show A.done={ A with next:=A.next+1,phase:=1,pc:=0 } by unfold AcS.done;rw [if_neg (beq_eq_false_iff_ne.1 hp)]);have hpp:(A.phase !=4)=true:=by unfold bne;rw [hp];rfl
     have H2:=zH (((HA.o.set ht 6 (zI z6 (A.next+1)) { A with next:=A.next+1 } rfl ⟨rfl,rfl,rfl,rfl,rfl,rfl⟩).set ht 3 (zI z6 1) { A with next:=A.next+1,phase:=1 } rfl ⟨rfl,rfl,rfl,rfl,rfl,rfl⟩).set ht 7 (zI z6 0) { A with next:=A.next+1,phase:=1,pc:=0 } rfl ⟨rfl,rfl,rfl,rfl,rfl,rfl⟩);have R2:=zH (((RA.o.setOther 6 (zI z6 (A.next+1)) d3).setOther 3 (zI z6 1) d3).setOther 7 (zI z6 0) d3);have N2:=zH (((NA.o.setOther 6 (zI z6 (A.next+1)) d1).setOther 3 (zI z6 1) d1).setOther 7 (zI z6 0) d1);have M2:=zH (show Mod (acO t) g ⟨own1,((wA.setCell ⟨b,6,none⟩ (zI z6 (A.next+1))).setCell ⟨b,3,none⟩ (zI z6 1)).setCell ⟨b,7,none⟩ (zI z6 0)⟩ from Mod.st (Mod.st (Mod.st MA.o (Or.inl HA.o.blk.own)) (Or.inl HA.o.blk.own)) (Or.inl HA.o.blk.own));clear hp;go_upto_region 7 with fail
     generalize ((wA.setCell ⟨b,6,none⟩ (zI z6 (A.next+1))).setCell ⟨b,3,none⟩ (zI z6 1)).setCell ⟨b,7,none⟩ (zI z6 0)=w2 at *;clear a0 a1 a2 a3 a4 a5 a6 a7 a8 a9 a10 a11 a12 a13 a14 a15 a16 a17 a18 af6 af3 af7 al r0 r1 r2 r3 r4 rf0 rf1 rf2 rf3 rf4 rl n0 n1 n2 n3 n4 nl hpp HA RA NA MA;obtain ⟨r0,r1,r2,r3,r4,rl⟩:=R2.o.k5;have rf0:=R2.o.liv 0;have rf1:=R2.o.liv 1;have rf2:=R2.o.liv 2;have rf3:=R2.o.liv 3;have rf4:=R2.o.liv 4;obtain ⟨n0,n1,n2,n3,n4,nl⟩:=N2.o.k5;go_wp2_with fail;obtain ⟨Mf,mf,Rf⟩:=yae M2.o R2.o (Nat.le_succ _) (A.next) (A.own) (e) (false) (0) (0);generalize (((((w2).setCell ⟨g.w.heap.size+1,0,none⟩ (zI z6 (A.next))).setCell ⟨g.w.heap.size+1,1,none⟩ (zI z6 (A.own))).setCell ⟨g.w.heap.size+1,2,none⟩ (zI z6 (e))).setCell ⟨g.w.heap.size+1,3,none⟩ (zb (false))).setCell ⟨g.w.heap.size+1,4,none⟩ (zc z4 (0) (0))=wf at *;obtain ⟨f0,f1,f2,f3,f4,fl⟩:=Rf.k5;refine bodyPost_ret (v:=.tuple #[.agg #[zI z6 (A.next),zI z6 (A.own),zI z6 (e),zb (false),zc z4 (0) (0)],zb true]) (by simp [results,Tryz.results81,go_sem,f0,f1,f2,f3,f4]) rfl ?_
     exact Does.of ⟨own1,wf⟩ rfl (by rw [HV.o];rfl) Mf (by rw [HD.o];exact H2.o.keep mf zo z9)
   · have HD:=zH (show A.done={ A with next:=A.next+1 } by unfold AcS.done;rw [if_pos (beq_iff_eq.1 hp)]);have hpp:(A.phase !=4)=false:=by unfold bne;rw [hp];rfl
     have H2:=zH (HA.o.set ht 6 (zI z6 (A.next+1)) { A with next:=A.next+1 } rfl ⟨rfl,rfl,rfl,rfl,rfl,rfl⟩);have R2:=zH (RA.o.setOther 6 (zI z6 (A.next+1)) d3);have N2:=zH (NA.o.setOther 6 (zI z6 (A.next+1)) d1);have M2:=zH (show Mod (acO t) g ⟨own1,wA.setCell ⟨b,6,none⟩ (zI z6 (A.next+1))⟩ from Mod.st MA.o (Or.inl HA.o.blk.own));clear hp;go_upto_region 7 with fail
     generalize wA.setCell ⟨b,6,none⟩ (zI z6 (A.next+1))=w2 at *;clear a0 a1 a2 a3 a4 a5 a6 a7 a8 a9 a10 a11 a12 a13 a14 a15 a16 a17 a18 af6 af3 af7 al r0 r1 r2 r3 r4 rf0 rf1 rf2 rf3 rf4 rl n0 n1 n2 n3 n4 nl hpp HA RA NA MA;obtain ⟨r0,r1,r2,r3,r4,rl⟩:=R2.o.k5;have rf0:=R2.o.liv 0;have rf1:=R2.o.liv 1;have rf2:=R2.o.liv 2;have rf3:=R2.o.liv 3;have rf4:=R2.o.liv 4;obtain ⟨n0,n1,n2,n3,n4,nl⟩:=N2.o.k5;go_wp2_with fail;obtain ⟨Mf,mf,Rf⟩:=yae M2.o R2.o (Nat.le_succ _) (A.next) (A.own) (e) (false) (0) (0);generalize (((((w2).setCell ⟨g.w.heap.size+1,0,none⟩ (zI z6 (A.next))).setCell ⟨g.w.heap.size+1,1,none⟩ (zI z6 (A.own))).setCell ⟨g.w.heap.size+1,2,none⟩ (zI z6 (e))).setCell ⟨g.w.heap.size+1,3,none⟩ (zb (false))).setCell ⟨g.w.heap.size+1,4,none⟩ (zc z4 (0) (0))=wf at *;obtain ⟨f0,f1,f2,f3,f4,fl⟩:=Rf.k5;refine bodyPost_ret (v:=.tuple #[.agg #[zI z6 (A.next),zI z6 (A.own),zI z6 (e),zb (false),zc z4 (0) (0)],zb true]) (by simp [results,Tryz.results81,go_sem,f0,f1,f2,f3,f4]) rfl ?_;exact Does.of ⟨own1,wf⟩ rfl (by rw [HV.o];rfl) Mf (by rw [HD.o];exact H2.o.keep mf zo z9)
end Go.Proofs.YtdhjjpnajjingaaGreat
namespace Go.Proofs.YtdhjjpnajjingaaGreat
open Go Go.RowKit
theorem ybT (g:GW) (t b:Nat) (A:AcS) (p:AcP) (v:LVal) (e:Int) (r:ResS) (ht:100≤t) (H:AcAt g t b A p) (hn:0≤A.next∧A.next≤1099511627776) (hr:A.res v e=r):Calls prog 81 #[zp (some ⟨b,0,none⟩),.agg #[zb v.ref,zc z4 v.z.1 v.z.2],zI z6 e] g.w (Does (.tuple #[.agg #[zI z6 r.op,zI z6 r.own,zI z6 r.e,zb r.v.ref,zc z4 r.v.z.1 r.v.z.2],zb true]) g (acO t) (fun g'=>AcAt g' t b A.done p)):=by
 subst hr;exact ykD g t b A p v e ht H hn
theorem ya6 (g:GW) (t b:Nat) (A:AcS) (p:AcP) (e:Int) (r:ResS) (ht:100≤t) (H:AcAt g t b A p) (hn:0≤A.next∧A.next≤1099511627776) (hr:A.res LVal.zero e=r):Calls prog 85 #[zp (some ⟨b,0,none⟩),zI z6 e] g.w (Does (.tuple #[.agg #[zI z6 r.op,zI z6 r.own,zI z6 r.e,zb r.v.ref,zc z4 r.v.z.1 r.v.z.2],zb true]) g (acO t) (fun g'=>AcAt g' t b A.done p)):=by
 have HH:=zH H;have HR:=zH hr;clear H hr;go_enter func85,ntmps85;go_upto_region 1 with fail
 obtain ⟨own0,M0,R0⟩:=yam g 40 resZ;unfold resZ at M0 R0;generalize (g.w.alloc (.cells #[zI z6 0,zI z6 0,zI z6 0,zb false,zc z4 0 0] 40))=w0 at *;have M0':=zH M0;have R0':=zH R0;clear M0 R0;have H0:=zH (HH.o.keep M0'.o id zG);go_wp2_with fail;refine (ybT ⟨own0,w0⟩ t b A p LVal.zero e r ht H0.o hn HR.o).mono ?_;rintro e2 w1 ⟨rfl,own1,m1,h1⟩;have M1:=zH ((M0'.o.mono (S:=acO t) zG).trans m1);have H1:=zH h1;have R1:=zH (R0'.o.keep m1 (by unfold acO;omega));clear m1 h1 R0' H0;obtain ⟨r0,r1,r2,r3,r4,rl⟩:=R1.o.k5;have rf0:=R1.o.liv 0;have rf1:=R1.o.liv 1;have rf2:=R1.o.liv 2;have rf3:=R1.o.liv 3;have rf4:=R1.o.liv 4;go_wp2_with fail;obtain ⟨Mf,mf,Rf⟩:=yae M1.o R1.o (Nat.le_refl _) (r.op) (r.own) (r.e) (r.v.ref) (r.v.z.1) (r.v.z.2);generalize ((((((w1).setCell ⟨g.w.heap.size,0,none⟩ (zI z6 (r.op))).setCell ⟨g.w.heap.size,1,none⟩ (zI z6 (r.own))).setCell ⟨g.w.heap.size,2,none⟩ (zI z6 (r.e))).setCell ⟨g.w.heap.size,3,none⟩ (zb (r.v.ref))).setCell ⟨g.w.heap.size,4,none⟩ (zc z4 (r.v.z.1) (r.v.z.2)))=wf at *;obtain ⟨f0,f1,f2,f3,f4,fl⟩:=Rf.k5
 refine bodyPost_ret (v:=.tuple #[.agg #[zI z6 (r.op),zI z6 (r.own),zI z6 (r.e),zb (r.v.ref),zc z4 (r.v.z.1) (r.v.z.2)],zb true]) (by simp [results,Tryz.results85,go_sem,f0,f1,f2,f3,f4]) rfl ?_;exact Does.of ⟨own1,wf⟩ rfl rfl Mf (H1.o.keep mf zo z9)
theorem AcAt.setLoc {g:GW} {t b:Nat} {A:AcS} {p:AcP} (H:AcAt g t b A p) (ht:100≤t) {q k:Nat} (hA:p.locA=some ⟨q,0,none⟩) (ho:g.own q=t+1) (v:LVal):
 AcAt ⟨g.own,(g.w.setCell ⟨q,k*2,none⟩ (zb v.ref)).setCell ⟨q,k*2+1,none⟩ (zc z4 v.z.1 v.z.2)⟩ t b { A with locals:=A.locals.set k v } p∧
 Mod (fun x=>x=t+1) g ⟨g.own,(g.w.setCell ⟨q,k*2,none⟩ (zb v.ref)).setCell ⟨q,k*2+1,none⟩ (zc z4 v.z.1 v.z.2)⟩:=by
 have m:Mod (fun x=>x=t+1) g ⟨g.own,(g.w.setCell ⟨q,k*2,none⟩ (zb v.ref)).setCell ⟨q,k*2+1,none⟩ (zc z4 v.z.1 v.z.2)⟩:=Mod.st (Mod.st (Mod.refl _ _) ho) ho;refine ⟨⟨?_,⟨H.r.ops.keep m zo,H.r.opsC,?_,H.r.grey.keep m zo,H.r.greyC,H.r.fn,fun S hS=>?_,H.r.got.keep m zo,H.r.gotC,H.r.wr.keep m zo,H.r.wrE,H.r.wrC⟩⟩,m⟩
 · have h:=H.blk.keep m zo;unfold AcS.cells at h ⊢;simp only [List.length_set];exact h
 · have h:=H.r.loc;rw [hA] at h ⊢;have h2:=(h.store (k*2) (zb v.ref)).store (k*2+1) (zc z4 v.z.1 v.z.2);simp only [List.length_set];rw [yjH];exact h2
 · obtain ⟨bf,cm,e1,e2,e3⟩:=H.r.fs S hS;exact ⟨bf,cm,e1,e2,e3.keep m zo zo⟩
theorem yb5 (g:GW) (t b:Nat) (A:AcS) (p:AcP) (i:Int) (v:LVal) (r:ResS) (ht:100≤t) (H:AcAt g t b A p) (hn:0≤A.next∧A.next≤1099511627776) (hi:0≤i∧i<A.locals.length) (hr:A.res v 0=r):Calls prog 136 #[zp (some ⟨b,0,none⟩),zI z6 i,.agg #[zb v.ref,zc z4 v.z.1 v.z.2]] g.w (Does (.tuple #[.agg #[zI z6 r.op,zI z6 r.own,zI z6 r.e,zb r.v.ref,zc z4 r.v.z.1 r.v.z.2],zb true]) g (acO t) (fun g'=>AcAt g' t b { A with locals:=A.locals.set i.toNat v }.done p)):=by
 obtain ⟨k,rfl⟩: ∃k:Nat,i=k:=⟨i.toNat,zo⟩;have hk:k<A.locals.length:=zo;rw [Int.toNat_natCast];have HH:=zH H;have HR:=zH hr;clear H hr hi;go_enter func136,ntmps136;go_upto_region 1 with fail
 obtain ⟨own0,M0,Q0,R0⟩:=yaq g 38 40 v.cells resZ;unfold LVal.cells resZ at M0 Q0 R0;generalize ((g.w.alloc (.cells #[zb v.ref,zc z4 v.z.1 v.z.2] 38)).alloc (.cells #[zI z6 0,zI z6 0,zI z6 0,zb false,zc z4 0 0] 40))=w0 at *;have H0:=zH (HH.o.keep M0 id zG);have M0':=zH M0;have R0':=zH R0;have Q0':=zH Q0;obtain ⟨q,hA,hq,ho,c0,c1,hfr⟩:=H0.o.r.local_ hk;have cf0:=hfr (k*2);have cf1:=hfr (k*2+1);simp only at hq c0 c1 cf0 cf1 ho;obtain ⟨a0,a1,a2,a3,a4,a5,a6,a7,a8,a9,a10,a11,a12,a13,a14,a15,a16,a17,a18,al⟩:=H0.o.blk.k19;obtain ⟨x0,x1,xl⟩:=Q0.k2;rw [hA] at a2;clear M0 Q0 R0 hfr;refine yab [zT,zT,zT,zT,zT,zT,zT,zU] 1 7 ?_;intro X00;simp only [pickOps];repeat (go_big_quiet_step (fail))
 refine wpQuiet_nil (fun X0=>?_);clear X00;refine yaj 7 _ zQ zQ rfl rfl (fun X1 K Q' hK=>?_);go_simp;refine hK _ _ (fun X2=>?_);clear hK K Q';obtain ⟨H1',m1⟩:=H0.o.setLoc ht (k:=k) hA ho v;simp only at m1 H1';have Q1':=Q0'.o.keep m1 zo;have R1':=R0'.o.keep m1 zo;have M1':=(M0'.o.mono (S:=acO t) zG).trans (m1.mono (fun x hx=>Or.inr hx));have m2:Mod (fun _=>False) ⟨own0,(w0.setCell ⟨q,k*2,none⟩ (zb v.ref)).setCell ⟨q,k*2+1,none⟩ (zc z4 v.z.1 v.z.2)⟩ (GW.to ⟨own0,(w0.setCell ⟨q,k*2,none⟩ (zb v.ref)).setCell ⟨q,k*2+1,none⟩ (zc z4 v.z.1 v.z.2)⟩ 9 ((((w0.setCell ⟨q,k*2,none⟩ (zb v.ref)).setCell ⟨q,k*2+1,none⟩ (zc z4 v.z.1 v.z.2)).patch ⟨X0.blocks++X1.blocks,X1.drawn⟩).patch X2)):=Mod.ext zE 9;unfold GW.to at m2;have H2:=zH (H1'.keep m2 id zG);have Q2:=zH (Q1'.keep m2 id);have R2:=zH (R1'.keep m2 id);have M2:=zH (M1'.trans (m2.mono zG));generalize (fun x=>if x<((w0.setCell ⟨q,k*2,none⟩ (zb v.ref)).setCell ⟨q,k*2+1,none⟩ (zc z4 v.z.1 v.z.2)).heap.size then own0 x else 9)=own2 at *
 generalize (((w0.setCell ⟨q,k*2,none⟩ (zb v.ref)).setCell ⟨q,k*2+1,none⟩ (zc z4 v.z.1 v.z.2)).patch ⟨X0.blocks++X1.blocks,X1.drawn⟩).patch X2=w2 at *;clear H1' m1 Q1' R1' M1' m2 a0 a1 a2 a3 a4 a5 a6 a7 a8 a9 a10 a11 a12 a13 a14 a15 a16 a17 a18 al x0 x1 xl c0 c1 cf0 cf1 H0 Q0' R0' M0';obtain ⟨x0,x1,xl⟩:=Q2.o.k2;go_wp2_with fail;refine (ybT ⟨own2,w2⟩ t b _ p v 0 r ht H2.o hn HR.o).mono ?_;rintro e2 w3 ⟨rfl,own3,m3,h3⟩;have M3:=zH (M2.o.trans m3);have H3:=zH h3;have R3:=zH (R2.o.keep m3 (by unfold acO;omega));clear m3 h3 R2 H2;obtain ⟨r0,r1,r2,r3,r4,rl⟩:=R3.o.k5;have rf0:=R3.o.liv 0;have rf1:=R3.o.liv 1;have rf2:=R3.o.liv 2;have rf3:=R3.o.liv 3;have rf4:=R3.o.liv 4;go_wp2_with fail;obtain ⟨Mf,mf,Rf⟩:=yae M3.o R3.o (Nat.le_succ _) (r.op) (r.own) (r.e) (r.v.ref) (r.v.z.1) (r.v.z.2);generalize ((((((w3).setCell ⟨g.w.heap.size+1,0,none⟩ (zI z6 (r.op))).setCell ⟨g.w.heap.size+1,1,none⟩ (zI z6 (r.own))).setCell ⟨g.w.heap.size+1,2,none⟩ (zI z6 (r.e))).setCell ⟨g.w.heap.size+1,3,none⟩ (zb (r.v.ref))).setCell ⟨g.w.heap.size+1,4,none⟩ (zc z4 (r.v.z.1) (r.v.z.2)))=wf at *;obtain ⟨f0,f1,f2,f3,f4,fl⟩:=Rf.k5
 refine bodyPost_ret (v:=.tuple #[.agg #[zI z6 (r.op),zI z6 (r.own),zI z6 (r.e),zb (r.v.ref),zc z4 (r.v.z.1) (r.v.z.2)],zb true]) (by simp [results,Tryz.results136,go_sem,f0,f1,f2,f3,f4]) rfl ?_;exact Does.of ⟨own3,wf⟩ rfl rfl Mf (H3.o.keep mf zo z9)
theorem yhU {l:List LVal} {k:Nat} (hk:k<l.length):AcS.greys (l.take (k+1))=AcS.greys (l.take k)++(if (l.getD k LVal.zero).ref then (wIndex (l.getD k LVal.zero).z).toList else []):=by
 unfold AcS.greys;rw [List.take_add_one,ybD hk,List.filterMap_append];congr 1
 simp only [Option.toList,List.filterMap_cons,List.filterMap_nil];split
 · rename_i h
   split at h
   · rename_i h1;rw [if_pos h1,h]
   · rename_i h1;rw [if_neg h1]
 · rename_i v h
   split at h
   · rename_i h1;rw [if_pos h1,h]
   · cases h
theorem yjo (l:List LVal):(AcS.greys l).length≤l.length:=List.length_filterMap_le _ _
namespace AcW
def greyA (W:AcW) (l:List Int):AcS:={ W.a with seen:=3,grey:=l,pc:=if l≠[] then 1 else 2 }
end AcW
theorem yhT {own4:Nat→Nat} {w4 w5:World} {t n n':Nat} {v v':Value} {xs xs':List Value} {o:Obj} (R:Row ⟨own4,w4⟩ (t+4) 3 1 v n xs) (he:Ext (⟨own4,w4⟩:GW).w (w4.alloc o)) (hown:w5.ownsRow 0 3 1 v' n' xs') (hgrow:(w4.alloc o).grownBy w5 v.ownBlock) (hat:v'.ownBlock=v.ownBlock∨v'.ownBlock=some (w4.alloc o).heap.size):
 ∃own5,Mod (fun x=>x=t+4) ⟨own4,w4⟩ ⟨own5,w5⟩∧Row ⟨own5,w5⟩ (t+4) 3 1 v' n' xs':=
 ⟨_,(Mod.ext he 0).trans (Mod.grown (g:=(⟨own4,w4⟩:GW).to 0 (w4.alloc o)) hgrow (t+4) (fun k hk hl=>(R.ext he 0).own k hk)),(R.ext he 0).grown hown hat⟩
theorem yjm (W:AcW) (l:List Int) (y:Int):W.greyA (l++[y])={ W.a with seen:=3,grey:=l++[y],pc:=1 }:=by
 unfold AcW.greyA;simp
theorem ykT [TbId] {own4 own5:Nat→Nat} {w4 w5:World} {t B b k:Nat} {W:AcW} {gl:List Int} {y:Int} {opsA locA fp gotA wrA gA A2:Option Addr} {opsC locC gotC wrC gC cp2 bm bs bt bp bsp bh:Nat} {cm:Cnf} (P:AcApart t B)
 (H:AcIn ⟨own4,w4⟩ t B b k (W.tickH.withA (W.greyA gl)) ⟨opsA,opsC,locA,locC,gA,gC,fp,gotA,gotC,wrA,wrC⟩ bm bs bt bp bsp bh cm) (m:Mod (fun x=>x=t+4) ⟨own4,w4⟩ ⟨own5,w5⟩)
 (R:Row ⟨own5,w5⟩ (t+4) 3 1 (.slice A2 (gl.length+1) cp2) (gl.length+1) (gl.map (zI z6)++[zI z6 y])) (hl:gl.length≤1000):
 AcIn ⟨own5,(w5.setCell ⟨b,9,none⟩ (.slice A2 (gl.length+1) cp2)).setCell ⟨b,7,none⟩ (zI z6 1)⟩ t B b k (W.tickH.withA (W.greyA (gl++[y]))) ⟨opsA,opsC,locA,locC,A2,cp2,fp,gotA,gotC,wrA,wrC⟩ bm bs bt bp bsp bh cm:=by
 have hP:=P.apart;have ht:=P.ht;have B5:=H.a.blk.keep m zo;have b6:Mod (fun x=>x=t) ⟨own5,w5⟩ ⟨own5,(w5.setCell ⟨b,9,none⟩ (.slice A2 (gl.length+1) cp2)).setCell ⟨b,7,none⟩ (zI z6 1)⟩:=Mod.st (Mod.st (Mod.refl _ _) B5.own) B5.own;obtain ⟨A',c',e1,e2,e3, -⟩:=R.form;injection e1 with _ _ e4;subst e4;rw [yjm];obtain ⟨r1,r2,r3,r4,r5,r6,r7,r8,r9,r10,r11,r12⟩:=H.a.r;refine ⟨⟨?_,⟨(r1.keep m zo).keep b6 zo,r2,(r3.keep m zo).keep b6 zo,?_,⟨(by show (gl++[y]).length≤_;simpa using e2),e3⟩,r6,fun S hS=>?_,(r8.keep m zo).keep b6 zo,r9,(r10.keep m zo).keep b6 zo,r11,r12⟩⟩,(H.c.keep m (fun x hx=>by omega)).keep b6 (fun x hx=>by omega),H.tbl⟩
 · have h:=(B5.set 9 (.slice A2 (gl.length+1) cp2)).set 7 (zI z6 1)
   have hc:(AcS.cells { W.a with seen:=3,grey:=gl++[y],pc:=1 } ⟨opsA,opsC,locA,locC,A2,cp2,fp,gotA,gotC,wrA,wrC⟩)=(((AcS.cells (W.greyA gl) ⟨opsA,opsC,locA,locC,gA,gC,fp,gotA,gotC,wrA,wrC⟩).set 9 (.slice A2 (gl.length+1) cp2)).set 7 (zI z6 1)):=by
    unfold AcS.cells AcW.greyA;simp
   show Blk _ t b _ (AcS.cells { W.a with seen:=3,grey:=gl++[y],pc:=1 } _);rw [hc];exact h
 · have h:=(R.seg).keep b6 zo;show Seg _ _ _ ((gl++[y]).map _);rw [List.map_append];exact h
 · obtain ⟨bf,cm,e1,e2,e3⟩:=r7 S hS;exact ⟨bf,cm,e1,e2,(e3.keep m zo zo).keep b6 zo zo⟩
section
variable {g:GW} {t B b k:Nat} {W:AcW}
theorem yet [TbId] (P:AcApart t B) (hc:0≤W.K.hand.count∧W.K.hand.count≤1099511627776) (hlen:W.a.locals.length≤1000) (H:AcWAt g t B b k W):Calls prog 71 #[zp (some ⟨b,0,none⟩),zp (some ⟨k,0,none⟩)] g.w (Does (zb W.looksB) g (acT t B) (fun g'=>AcWAt g' t B b k W.looks)):=by
 obtain ⟨⟨opsA,opsC,locA,locC,greyA0,greyC0,fp,gotA,gotC,wrA,wrC⟩,bm,bs,bt,bp,bsp,bh,cm,H⟩:=H;have HH:=zH H;have HK:=zH (yjq g (B+63) bh W.K.hand H.c.hand hc);have HP:=zH P;obtain ⟨c0,c1,c2,c3,c4,c5,c6,c7,c8,c9,c10,c11,c12,cl⟩:=H.c.blk.k13;clear H hc;go_enter func71,ntmps71;go_wp2_with fail;refine HK.o.mono ?_;rintro e w1 ⟨rfl,own1,m1,h1⟩;have M1:=zH (m1.mono (S:=acT t B) (fun x hx=>ybE hx));have H1:=zH (show AcIn ⟨own1,w1⟩ t B b k W.tickH ⟨opsA,opsC,locA,locC,greyA0,greyC0,fp,gotA,gotC,wrA,wrC⟩ bm bs bt bp bsp bh cm from HH.o.hand HP.o m1 h1);clear m1 h1 c0 c1 c2 c3 c4 c5 c6 c7 c8 c9 c10 c11 c12 cl HK;obtain ⟨a0,a1,a2,a3,a4,a5,a6,a7,a8,a9,a10,a11,a12,a13,a14,a15,a16,a17,a18,al⟩:=H1.o.a.blk.k19;have af8:=H1.o.a.blk.liv 8;have af9:=H1.o.a.blk.liv 9;have af7:=H1.o.a.blk.liv 7;have af5:=H1.o.a.blk.liv 5;rw [show W.tickH.a=W.a from rfl] at a0 a1 a2 a3 a4 a5 a6 a7 a8 a9 a10 a11 a13 a14 a15 a16 a17 a18;have HS:=zH (show W.looksB=(W.K.hand.status==W.a.status) from rfl)
 have HSA:=zH (show W.looksA={ W.a with seen:=W.K.hand.status,grey:=if W.K.hand.status=3 then AcS.greys W.a.locals else [],pc:=if W.K.hand.status=3∧AcS.greys W.a.locals≠[] then 1 else 2,sense:=if W.K.hand.status=1 then W.K.hand.sense else W.a.sense } from rfl);have HSL:=zH (show W.looks=if W.looksB then W.tickH else W.tickH.withA W.looksA from rfl);cases hs:(W.K.hand.status==W.a.status)
 case true=>
  rw [HS.o,hs] at HSL;simp only [if_true] at HSL;go_wp2_with fail;go_ret;exact Does.of ⟨own1,w1⟩ rfl (by rw [HS.o,hs];rfl) M1.o (by rw [HSL.o];exact H1.o.at_)
 rw [HS.o,hs] at HSL;simp only [Bool.false_eq_true,if_false] at HSL
 have R0:AcRows ⟨own1,w1⟩ t { W.a with seen:=W.K.hand.status,grey:=[],pc:=2 } ⟨opsA,opsC,locA,locC,none,0,fp,gotA,gotC,wrA,wrC⟩:=by
  obtain ⟨r1,r2,r3,r4,r5,r6,r7,r8,r9,r10,r11,r12⟩:=H1.o.a.r;exact ⟨r1,r2,r3,Seg.nil _ _ _,⟨Nat.le_refl _,Nat.zero_le _⟩,r6,r7,r8,r9,r10,r11,r12⟩
 have H2:=zH (H1.o.turn (A':={ W.a with seen:=W.K.hand.status,grey:=[],pc:=2 }) (p':=⟨opsA,opsC,locA,locC,none,0,fp,gotA,gotC,wrA,wrC⟩) HP.o (g':=⟨own1,((w1.setCell ⟨b,8,none⟩ (zI z6 W.K.hand.status)).setCell ⟨b,9,none⟩ (.slice none 0 0)).setCell ⟨b,7,none⟩ (zI z6 2)⟩) (Mod.st (Mod.st (Mod.st (Mod.refl _ _) H1.o.a.blk.own) H1.o.a.blk.own) H1.o.a.blk.own) (((H1.o.a.blk.set 8 (zI z6 W.K.hand.status)).set 9 (.slice none 0 0)).set 7 (zI z6 2)) R0);have M2:=zH (show Mod (acT t B) g ⟨own1,((w1.setCell ⟨b,8,none⟩ (zI z6 W.K.hand.status)).setCell ⟨b,9,none⟩ (.slice none 0 0)).setCell ⟨b,7,none⟩ (zI z6 2)⟩ from Mod.st (Mod.st (Mod.st M1.o H1.o.modA) H1.o.modA) H1.o.modA);clear R0;go_upto_region 5 with fail
 generalize ((w1.setCell ⟨b,8,none⟩ (zI z6 W.K.hand.status)).setCell ⟨b,9,none⟩ (.slice none 0 0)).setCell ⟨b,7,none⟩ (zI z6 2)=w2 at *;clear a0 a1 a2 a3 a4 a5 a6 a7 a8 a9 a10 a11 a12 a13 a14 a15 a16 a17 a18 af8 af9 af7 af5 al M1 H1;obtain ⟨a0,a1,a2,a3,a4,a5,a6,a7,a8,a9,a10,a11,a12,a13,a14,a15,a16,a17,a18,al⟩:=H2.o.a.blk.k19;have af5:=H2.o.a.blk.liv 5;by_cases h1:W.K.hand.status=1
 · have HSA2:=zH (show W.looksA={ W.a with seen:=W.K.hand.status,grey:=[],pc:=2,sense:=W.K.hand.sense } by rw [HSA.o,h1];rfl);have H3:=zH (H2.o.set HP.o 5 (zb W.K.hand.sense) { W.a with seen:=W.K.hand.status,grey:=[],pc:=2,sense:=W.K.hand.sense } rfl ⟨rfl,rfl,rfl,rfl,rfl,rfl⟩);have M3:=zH (show Mod (acT t B) g ⟨own1,w2.setCell ⟨b,5,none⟩ (zb W.K.hand.sense)⟩ from Mod.st M2.o H2.o.modA);have hz:(W.K.hand.status==1)=true:=beq_iff_eq.2 h1;have HSB:=zH (show W.looksB=false by rw [HS.o,hs]);clear h1 hs;generalize W.K.hand.status=s at *;go_wp2_with fail;go_ret;exact Does.of ⟨own1,_⟩ rfl (by rw [HSB.o];rfl) M3.o (by rw [HSL.o,HSA2.o];exact H3.o.at_)
 by_cases h3:W.K.hand.status=3
 case neg=>
  have HSA2:=zH (show W.looksA={ W.a with seen:=W.K.hand.status,grey:=[],pc:=2 } by rw [HSA.o];simp only [if_neg h1,if_neg h3,if_neg (show¬(W.K.hand.status=3∧AcS.greys W.a.locals≠[]) from fun h=>h3 h.1)]);have hz:(W.K.hand.status==1)=false:=beq_eq_false_iff_ne.2 h1;have hz3:(W.K.hand.status==3)=false:=beq_eq_false_iff_ne.2 h3;have HSB:=zH (show W.looksB=false by rw [HS.o,hs]);clear h1 hs h3;generalize W.K.hand.status=s at *;go_wp2_with fail;go_ret;exact Does.of ⟨own1,_⟩ rfl (by rw [HSB.o];rfl) M2.o (by rw [HSL.o,HSA2.o];exact H2.o.at_)
 have hz:(W.K.hand.status==1)=false:=beq_eq_false_iff_ne.2 h1;have hz3:(W.K.hand.status==3)=true:=beq_iff_eq.2 h3;have HSB:=zH (show W.looksB=false by rw [HS.o,hs])
 have HSA2:=zH (show W.looksA=W.greyA (AcS.greys W.a.locals) by
  rw [HSA.o,h3];unfold AcW.greyA;by_cases hg:AcS.greys W.a.locals≠[]
  · simp [hg]
  · simp [hg])
 have H2':=zH (show AcIn ⟨own1,w2⟩ t B b k (W.tickH.withA (W.greyA [])) ⟨opsA,opsC,locA,locC,none,0,fp,gotA,gotC,wrA,wrC⟩ bm bs bt bp bsp bh cm from by have h:=H2.o;rw [h3] at h;exact h);have Q2:=zH (Row.nil ⟨own1,w2⟩ (t+4) 3 1);clear h1 hs h3 H2 af5;generalize W.K.hand.status=s at *;go_wp2_with fail;obtain ⟨i0,hi,hz0,hz1,hz2⟩:=info_parts ya7;have HI:=zH (fun v w'=>yaJ v w');go_loopw [49] (fun i wr=> ∃(j:Nat) (own:Nat→Nat) (gA:Option Addr) (gC:Nat),j≤W.a.locals.length∧i=zI z6 j∧Hid (Mod (acT t B) g ⟨own,wr⟩)∧Hid (AcIn ⟨own,wr⟩ t B b k (W.tickH.withA (W.greyA (AcS.greys (W.a.locals.take j)))) ⟨opsA,opsC,locA,locC,gA,gC,fp,gotA,gotC,wrA,wrC⟩ bm bs bt bp bsp bh cm)∧Hid (Row ⟨own,wr⟩ (t+4) 3 1 (.slice gA (AcS.greys (W.a.locals.take j)).length gC) (AcS.greys (W.a.locals.take j)).length ((AcS.greys (W.a.locals.take j)).map (zI z6)))) (fun i _=>W.a.locals.length-(intOf i).toNat)
 case atStart=>exact ⟨0,own1,none,0,Nat.zero_le _,rfl,M2,H2',Q2⟩
 case round=>
  obtain ⟨j,own3,gA,gC,hj,rfl,M3,H3,R3⟩:=hrel;clear M2 H2' Q2 a0 a1 a2 a3 a4 a5 a6 a7 a8 a9 a10 a11 a12 a13 a14 a15 a16 a17 a18 al;by_cases hlt:j<W.a.locals.length
  · obtain ⟨q,hA,hq, -,l0,l1, -⟩:=H3.o.a.r.local_ (k:=j) hlt;simp only at hA hq;rw [show (W.tickH.withA (W.greyA (AcS.greys (W.a.locals.take j)))).a.loc j=W.a.loc j from rfl] at l0 l1;have HG:=zH (show AcS.greys (W.a.locals.take (j+1))=AcS.greys (W.a.locals.take j)++(if (W.a.loc j).ref then (wIndex (W.a.loc j).z).toList else []) from yhU hlt);have HLN:=zH (show (AcS.greys (W.a.locals.take j)).length≤1000 from Nat.le_trans (yjo _) (by rw [List.length_take];omega));have HB3:=zH H3.o.a.blk.lt;subst hA;generalize W.a.loc j=v at *;have HIV:=zH (fun w'=>HI.o v.z w');unfold optV at HIV;cases hx:wIndex v.z with
    |none=>
     rw [hx] at HG HIV;have HG2:=zH (show AcS.greys (W.a.locals.take (j+1))=AcS.greys (W.a.locals.take j) by rw [HG.o];cases v.ref<;>simp);clear hx;generalize v.ref=rf at *;cases rf
     · go_wp2_with fail;refine (HIV.o _).mono ?_;rintro e wx ⟨rfl,hE⟩;obtain ⟨X1,rfl⟩:=(show Ext _ wx from hE);clear hE;go_wp2_with fail;go_roundw
       case rel=>
        obtain ⟨own4,m4⟩:=Mod.ofExt (w:=wr) (w':=(wr.alloc _).patch X1) zE own3;refine ⟨j+1,own4,gA,gC,zo,by go_num,M3.o.trans (m4.mono zG),?_,?_⟩
        · rw [HG2.o];exact H3.o.keep0 m4
        · rw [HG2.o];exact R3.o.keep m4 id
       case measure=>simp [intOf];omega
     · go_wp2_with fail;refine (HIV.o _).mono ?_;rintro e wx ⟨rfl,hE⟩;obtain ⟨X1,rfl⟩:=(show Ext _ wx from hE);clear hE;go_wp2_with fail;go_roundw
       case rel=>
        obtain ⟨own4,m4⟩:=Mod.ofExt (w:=wr) (w':=(wr.alloc _).patch X1) zE own3;refine ⟨j+1,own4,gA,gC,zo,by go_num,M3.o.trans (m4.mono zG),?_,?_⟩
        · rw [HG2.o];exact H3.o.keep0 m4
        · rw [HG2.o];exact R3.o.keep m4 id
       case measure=>simp [intOf];omega
    |some y=>
     rw [hx] at HG HIV;clear hx;generalize v.ref=rf at *;cases rf
     · have HG2:=zH (show AcS.greys (W.a.locals.take (j+1))=AcS.greys (W.a.locals.take j) by rw [HG.o];simp);go_wp2_with fail;refine (HIV.o _).mono ?_;rintro e wx ⟨rfl,hE⟩;obtain ⟨X1,rfl⟩:=(show Ext _ wx from hE);clear hE;go_wp2_with fail;go_roundw
       case rel=>
        obtain ⟨own4,m4⟩:=Mod.ofExt (w:=wr) (w':=(wr.alloc _).patch X1) zE own3;refine ⟨j+1,own4,gA,gC,zo,by go_num,M3.o.trans (m4.mono zG),?_,?_⟩
        · rw [HG2.o];exact H3.o.keep0 m4
        · rw [HG2.o];exact R3.o.keep m4 id
       case measure=>simp [intOf];omega
     · have HG2:=zH (show AcS.greys (W.a.locals.take (j+1))=AcS.greys (W.a.locals.take j)++[y] by rw [HG.o];simp);go_wp2_with fail;refine (HIV.o _).mono ?_;rintro e wx ⟨rfl,hE⟩;obtain ⟨X1,rfl⟩:=(show Ext _ wx from hE);clear hE;go_upto_region 14 with fail
       obtain ⟨own4,m4⟩:=Mod.ofExt (w:=wr) (w':=(wr.alloc (.cells #[zb true,zc z4 v.z.1 v.z.2] 38)).patch X1) zE own3;have M4:=zH (M3.o.trans (m4.mono zG));have H4:=zH (H3.o.keep0 m4);have R4:=zH (R3.o.keep m4 id);clear m4 M3 H3 R3 l0 l1 hq HIV HI HB3;generalize (wr.alloc (.cells #[zb true,zc z4 v.z.1 v.z.2] 38)).patch X1=w4 at *;obtain ⟨a0,a1,a2,a3,a4,a5,a6,a7,a8,a9,a10,a11,a12,a13,a14,a15,a16,a17,a18,al⟩:=H4.o.a.blk.k19;have af9:=H4.o.a.blk.liv 9;have af7:=H4.o.a.blk.liv 7;have hln:=HLN.o;simp only [AcW.withA,AcW.greyA] at a9;have HEX:=zH (show Ext (⟨own4,w4⟩:GW).w (w4.alloc (.cells #[zI z6 y] 3)) from Ext.alloc (Ext.refl _) _);generalize AcS.greys (W.a.locals.take j)=gl at *
       go_wp2_with (at_builtin;refine wpList_append_own_at _ rfl (.tmp 68) (.tmp 70) 97 rfl 0 3 i0 (zI z6 0) 1 8 Tryz.underlying97 hi hz0 hz1 hz2 rfl zd _ _ _ rfl (R4.o.row.alloc _) ⟨w4.heap.size,0,none⟩ 1 1 [zI z6 y] rfl rfl (cell_one_new _ _ _) (by intro u hu;simp at hu;subst hu;rfl) (by unfold maxLen;omega) zo (Nat.zero_le _) ?_;intro v2 w5 hown hgrow hnil hat;obtain ⟨A2,cp2,rfl⟩:=yak hown;obtain ⟨own5,m5,r5⟩:=yhT R4.o HEX.o hown hgrow hat;clear hown hgrow hnil hat;have B5:=zH (H4.o.a.blk.keep m5 zo);have R5:=zH r5;have N5:=zH m5;have d7:=B5.o.cell (i:=7) rfl;have d9:=B5.o.cell (i:=9) rfl;have e9:=B5.o.live 9;have e7:=B5.o.live 7;have dl:=B5.o.lt;simp only at d7 d9 e9 e7 dl;clear m5 r5 a0 a1 a2 a3 a4 a5 a6 a7 a8 a9 a10 a11 a12 a13 a14 a15 a16 a17 a18 af9 af7 al);go_roundw
       case rel=>
        have b6:Mod (fun x=>x=t) ⟨own5,w5⟩ ⟨own5,(w5.setCell ⟨b,9,none⟩ (.slice A2 (gl.length+1) cp2)).setCell ⟨b,7,none⟩ (zI z6 1)⟩:=Mod.st (Mod.st (Mod.refl _ _) B5.o.own) B5.o.own;refine ⟨j+1,own5,A2,cp2,zo,by go_num,?_,?_,?_⟩
        · exact zH ((M4.o.trans (N5.o.mono (fun x hx=>Or.inl zo))).trans (b6.mono (fun x hx=>yaG hx)))
        · rw [HG2.o];exact zH (ykT HP.o H4.o N5.o R5.o zo)
        · rw [HG2.o];have:=R5.o.keep b6 zo;simpa using zH this
       case measure=>simp [intOf];omega
  · obtain rfl:j=W.a.locals.length:=zo;rw [List.take_of_length_le (Nat.le_refl _)] at H3;go_wp2_with fail;go_ret;exact Does.of ⟨own3,_⟩ rfl (by rw [HSB.o];rfl) M3.o (by rw [HSL.o,HSA2.o];exact H3.o.at_)
end
end Go.Proofs.YtdhjjpnajjingaaGreat
namespace Go
open Go.RowKit
def lzeroC:Array Value:=#[zb false,zc z4 0 0]
theorem yc7 (n:Nat):(madeCells lzeroC (n*2)).toList=(List.replicate n LVal.zero).flatMap LVal.cells:=by
 induction n with
 |zero=>simp [madeCells]
 |succ n ih=>
  have e:(madeCells lzeroC ((n+1)*2)).toList=(madeCells lzeroC (n*2)).toList++LVal.zero.cells:=by
   unfold madeCells at *;rw [show (n+1)*2=n*2+1+1 by omega];simp only [Array.toList_map,Array.toList_range,List.range_succ,List.map_append,List.map_cons,List.map_nil,List.append_assoc];congr 1
   have h0:n*2%lzeroC.size=0:=by show n*2%2=0;omega
   have h1:(n*2+1)%lzeroC.size=1:=by show (n*2+1)%2=1;omega
   rw [h0,h1];rfl
  rw [e,ih,List.replicate_succ',List.flatMap_append];simp
end Go
namespace Go.Proofs.YtdhjjpnajjingaaGreat
open Go Go.RowKit
theorem yed:(prog.info? 38).map (fun i=>(i.zero,i.size,i.bytes))=some (some (.agg #[zb false,zc z4 0 0]),2,24):=zQ
theorem yka {g:GW} {t n c:Nat} {A:Option Addr} {xs:List Value} (h:Row g t 38 2 (.slice A n c) n xs): ∃w3,(Builtin.clear_ #[87] 0 #[.slice A n c]).run prog g.w=.ok (.tuple #[]) w3∧Mod (fun x=>x=t) g ⟨g.own,w3⟩∧Row ⟨g.own,w3⟩ t 38 2 (.slice A n c) n ((List.replicate n LVal.zero).flatMap LVal.cells):=by
 obtain ⟨i0,hi,hz0,hz1,hz2⟩:=info_parts yed;have hund:=run_underlying (P:=prog) (t:=87) Tryz.underlying87 g.w;by_cases hn:n=0
 · subst hn;have hx:xs=[]:=by have:=h.len;simpa using this
   subst hx;refine ⟨g.w,?_,Mod.refl _ _,h⟩;cases A with
   |none=>simp [Builtin.clear_,hund]
   |some a=>simp [Builtin.clear_,hund]
 · rcases h.row.2 with ⟨hv,hn0⟩|⟨b,cap,cur,hv,hb,hr,h1,h2,h3,h4⟩
   · exact absurd hn0 hn
   · simp only [Value.slice.injEq] at hv;obtain ⟨rfl, -,rfl⟩:=hv;have hlen:(List.replicate n LVal.zero).flatMap LVal.cells=(madeCells lzeroC (n*2)).toList:=(yc7 n).symm;have hl2:(madeCells lzeroC (n*2)).toList.length=n*2:=by simp [madeCells]
     have hst:=run_storeCells_at (P:=prog) b 0 38 (madeCells lzeroC (n*2)).toList 0 cur g.w hr (by rw [hl2,h3];omega) (by
      rw [←hlen];intro v hv;obtain ⟨x,hx,hxv⟩:=List.mem_flatMap.1 hv;rw [List.eq_of_mem_replicate hx] at hxv;simp [LVal.cells,LVal.zero] at hxv;rcases hxv with rfl|rfl<;>rfl)
     have ho:g.own b=t:=h.own b rfl
     have hz:(zeroValue 38).run prog g.w=.ok (.agg lzeroC) g.w:=by
      simp [zeroValue,typeInfo,hi,hz0];rfl
     obtain ⟨m,rfl⟩: ∃m,n=m+1:=⟨n-1,zo⟩;have hzc:(Builtin.zeroCells lzeroC (m+1)).toList=(madeCells lzeroC ((m+1)*2)).toList:=rfl;refine ⟨g.w.setRow b (cur.toList.take (0+0)++(madeCells lzeroC ((m+1)*2)).toList++cur.toList.drop (0+0+(madeCells lzeroC ((m+1)*2)).toList.length)).toArray,?_,?_,?_⟩
     · simp only [Builtin.clear_,hund,hz,Value.cells];simp [hund,hz,Value.cells,hzc,hst,Result.andThen]
     · rw [ybw hr];exact Mod.put ho
     · rw [ybw hr,hlen];refine ⟨⟨hl2,Or.inr ⟨b,c,_,rfl,hb,World.row_put _ (Array.getElem?_eq_some_iff.1 hr).1,h1,h2,?_,?_⟩⟩,fun k hk=>?_⟩
       · simp [madeCells];omega
       · show List.take ((m+1)*2) (List.take (0+0) cur.toList++(madeCells lzeroC ((m+1)*2)).toList++List.drop _ cur.toList)=_;simp only [Nat.add_zero,List.take_zero,List.nil_append];rw [List.take_append_of_le_length zo,List.take_of_length_le zo]
       · have hk2:b=k:=by simpa only [Value.ownBlock,Option.some.injEq] using hk
         subst hk2;exact ho
end Go.Proofs.YtdhjjpnajjingaaGreat
